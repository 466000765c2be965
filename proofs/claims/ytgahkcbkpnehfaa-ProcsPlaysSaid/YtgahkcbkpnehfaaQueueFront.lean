/- Chapter 16: the contract of Front. -/
import Derived.Test.YtgahkcbkpnehfaaGlobOrderWalk
import Derived.Test.YtgahkcbkpnehfaaInRound
import Derived.Deep.DrawnRows
namespace Go.Proofs.Ytgahkcbkpnehfaa.Glob
open Go.RowKit Go.Shelf Go.Esc
attribute [local go_sem] Oper.semAt_some
set_option linter.unusedVariables false

/-- Within the loop over the list backward: how the queue is. -/
def Fr (w : World) (b : Nat) (v1 v2 u : Value) (f k : List Int) (pre : List (Int × Int)) (W : World) : Prop :=
  ∃ v1', Q W b v1' v2 (f ++ right (pre.map Prod.snd)) k ∧ Only (Qf b v1 v2) w W ∧ Gr (Qf b v1 v2) (Qf b v1' v2) w ∧ Blk W w.heap.size #[.pointer (some ⟨b, 0, none⟩)] 26 ∧ Blk W (w.heap.size + 1) #[u] 25

theorem Blk.cellsRow {W W' : World} {b : Nat} {cs : Array Value} {t : TypeId} {row : Option Nat} (h : Blk W b cs t) (hg : W.grownBy W' row) (hr : ∀ r, row = some r → ∃ o : Obj, W.heap[r]? = some o ∧ o.isCells = false) : Blk W' b cs t :=
  h.kept hg (fun e => by
    obtain ⟨o, ho, hc⟩ := hr b e.symm
    rw [show W.heap[b]? = _ from h] at ho
    cases ho; cases hc)
theorem OwnI.cellsRow {W W' : World} {base : Nat} {v : Value} {l : List Int} {row : Option Nat} (h : OwnI W base v l) (hg : W.grownBy W' row) (hr : ∀ r, row = some r → ∃ o : Obj, W.heap[r]? = some o ∧ o.isCells = false) : OwnI W' base v l := by
  obtain ⟨h1, h2 | ⟨g, cap, cur, hv, hb, hh, r⟩⟩ := h
  · exact ⟨h1, .inl h2⟩
  · exact ⟨h1, .inr ⟨g, cap, cur, hv, hb, Blk.cellsRow (show Blk W g cur 3 from hh) hg hr, r⟩⟩
theorem Fr.own (w : World) (b : Nat) (v1 v2 u : Value) (f k : List Int) (B : Nat) (hB : w.heap.size ≤ B) : OwnFrom B (Fr w b v1 v2 u f k) := by
  rintro pre W W' row ⟨v1', hQ, hO, hG, hK, hS⟩ hg hr
  have hr' : ∀ r, row = some r → ∃ o : Obj, W.heap[r]? = some o ∧ o.isCells = false := fun r e => (hr r e).2
  exact ⟨v1', ⟨Blk.cellsRow hQ.1 hg hr', OwnI.cellsRow hQ.2.1 hg hr', OwnI.cellsRow hQ.2.2.1 hg hr', hQ.2.2.2⟩, hO.grown hg (fun j e => .inl (Nat.le_trans hB (hr j e).1)), hG, Blk.cellsRow hK hg hr', Blk.cellsRow hS hg hr'⟩
theorem own_type {W : World} {base g : Nat} {v : Value} {l : List Int} {cs : Array Value} {t : TypeId} (h : OwnI W base v l) (hb : Blk W g cs t) (ht : t ≠ 3) : v.ownBlock ≠ some g := fun e => by
  obtain ⟨h1, ⟨h2, _⟩ | ⟨g', cap, cur, hv, _, hh, r⟩⟩ := h
  · rw [h2] at e; cases e
  · rw [hv] at e
    simp only [Value.ownBlock, Option.some.injEq] at e
    subst e
    rw [show W.heap[g']? = _ from hb] at hh
    cases hh
    exact ht rfl
theorem box_app {W w3 : World} {g : Nat} {cs : Array Value} {t : TypeId} {v v' : Value} {l m : List Int} {tmp : Obj} (hb : Blk W g cs t) (hn : v.ownBlock ≠ some g) (hA : Appd (W.drew.alloc tmp) 0 v l m v' w3) : Blk w3 g cs t :=
  (hb.drew.alloc tmp).kept hA.2.1 (fun e => hn e.symm)
theorem right_snd (pre : List (Int × Int)) (x : Int × Int) : right ((pre ++ [x]).map Prod.snd) = right (pre.map Prod.snd) ++ right [x.2] := by
  unfold right; rw [List.map_append, List.filter_append]; rfl

/-- What a round is told, and owes. -/
structure Rd (w : World) (b : Nat) (v1 v2 u v1' : Value) (f k l FF : List Int) (pre : List (Int × Int)) (W : World) : Prop where
  eq : f ++ right (pre.map Prod.snd) = FF
  only : Only (Qf b v1 v2) w W
  gr : Gr (Qf b v1 v2) (Qf b v1' v2) w
  box : Blk W w.heap.size #[.pointer (some ⟨b, 0, none⟩)] 26
  box2 : Blk W (w.heap.size + 1) #[u] 25
  own : OwnI W 0 v1' FF
  lt : b < w.heap.size
  slw : Slw w u l
  off : l ≠ [] → Off (Qf b v1 v2) u

theorem slw_nilonly {W : World} {u : Value} {l l' : List Int} {w : World} (h : Slw w u l) (hl : l = []) (h' : Slw W u l') : l' = [] := by
  obtain ⟨a, c, he, _⟩ := h
  obtain ⟨a', c', he', _⟩ := h'
  subst hl
  rw [he] at he'
  simp only [Value.slice.injEq, List.length_nil] at he'
  exact List.length_eq_zero_iff.1 he'.2.1.symm

theorem front_end {w W w3 : World} {b B : Nat} {v1 v2 u v1' : Value} {f k l FF : List Int} {pre : List (Int × Int)} {x : Int × Int} {g' n' cap' : Nat} (h : Rd w b v1 v2 u v1' f k l FF pre W)
    (hQ1 : Q (w3.setCell ⟨b, 0, none⟩ (.slice (some ⟨g', 0, none⟩) n' cap')) b (.slice (some ⟨g', 0, none⟩) n' cap') v2 (FF ++ [x.2]) k) (hO1 : Only (Qf b v1' v2) W.drew (w3.setCell ⟨b, 0, none⟩ (.slice (some ⟨g', 0, none⟩) n' cap'))) (hG1 : Gr (Qf b v1' v2) (Qf b (.slice (some ⟨g', 0, none⟩) n' cap') v2) W.drew)
    (hBx : Blk w3 w.heap.size #[.pointer (some ⟨b, 0, none⟩)] 26) (hA : Appd (W.drew.alloc (.cells #[.int .i64 x.2] 3)) 0 v1' FF [x.2] (.slice (some ⟨g', 0, none⟩) n' cap') w3) (hx : 1 ≤ x.2) :
    KeepsFrom B W (w3.setCell ⟨b, 0, none⟩ (.slice (some ⟨g', 0, none⟩) n' cap')) ∧ KeepsU (w.heap.size + 1) u W (w3.setCell ⟨b, 0, none⟩ (.slice (some ⟨g', 0, none⟩) n' cap')) ∧ Fr w b v1 v2 u f k (pre ++ [x]) (w3.setCell ⟨b, 0, none⟩ (.slice (some ⟨g', 0, none⟩) n' cap')) := by
  have hlt := h.lt
  have hn2 : v1'.ownBlock ≠ some (w.heap.size + 1) := own_type h.own h.box2 (by decide)
  have hbx2 := box_app h.box2 hn2 hA
  have hOn : Only (fun j => j = b ∨ v1'.ownBlock = some j) W (w3.setCell ⟨b, 0, none⟩ (.slice (some ⟨g', 0, none⟩) n' cap')) :=
    ((((Only.refl (fun j => j = b ∨ v1'.ownBlock = some j) W).drew.alloc _).grown hA.2.1 (fun j e => .inr (.inr e))).set (.inr (.inl rfl)) _ _)
  refine ⟨?_, ⟨fun v hv => ?_, fun l' hl' => ?_⟩, .slice (some ⟨g', 0, none⟩) n' cap', ?_, ?_, ?_, hBx.setOther (by omega) _, hbx2.setOther (by omega) _⟩
  · refine ((((KeepsOthers.drew W).trans (KeepsOthers.alloc _ _)).trans (KeepsOthers.of_grownBy hA.2.1 (fun j o e ho => ?_))).trans (KeepsOthers.setCell _ _ _)).from _
    obtain ⟨h1, ⟨h2, _⟩ | ⟨g2, cap2, cur, hv, _, hh, r⟩⟩ := h.own
    · rw [h2] at e; cases e
    · rw [hv] at e
      simp only [Value.ownBlock, Option.some.injEq] at e
      subst e
      have h3 : (W.drew.alloc (.cells #[.int .i64 x.2] 3)).heap[g2]? = some (.cells cur 3 (0, 0)) := (Below.heap_alloc W.drew _ g2 (Array.getElem?_eq_some_iff.1 hh).1).trans hh
      rw [h3] at ho
      cases ho; rfl
  · refine (World.cell?_of_block (hOn.block _ h.box2.lt (fun e => ?_))).trans hv
    rcases e with e | e
    · have e' : w.heap.size + 1 = b := e
      omega
    · exact hn2 e
  · by_cases hl : l = []
    · have := slw_nilonly h.slw hl hl'
      subst this
      obtain ⟨a', c', he', hn', hm', _⟩ := hl'
      exact ⟨a', c', he', hn', hm', .inl rfl⟩
    · refine hl'.only hOn (fun j hj e => ?_)
      have hju := h.slw.lt hl j hj
      rcases e with e | e
      · exact h.off hl j hj (.inl e)
      · rcases h.gr j (.inr (.inl e)) with h' | h'
        · exact h.off hl j hj h'
        · omega
  · rw [right_snd, right_yes hx, ← List.append_assoc, h.eq]; exact hQ1
  · exact h.only.andThen (Only.undrew hO1) (fun j hj hs => (h.gr j hs).elim id (fun x => by omega))
  · exact h.gr.trans (w' := W) hG1 h.only.size

def FrontPost (b : Nat) (v1 v2 : Value) (f k : List Int) (w : World) (e : Ending) (w' : World) : Prop :=
  e = .returned (.int .i64 ((f.length : Int) + k.length)) ∧ ∃ v1', Q w' b v1' v2 f k ∧ Only (Qf b v1 v2) w w' ∧ Gr (Qf b v1 v2) (Qf b v1' v2) w

set_option maxRecDepth 100000 in
set_option maxHeartbeats 8000000 in
theorem front_q (b : Nat) (v1 v2 : Value) (f k : List Int) (u : Value) (l : List Int) (w : World) (h : Q w b v1 v2 f k) (hu : Slw w u l) (ho : l ≠ [] → Off (Qf b v1 v2) u) (hl : f.length + k.length + l.length < 10000000) :
    Calls Try.prog 34 #[.pointer (some ⟨b, 0, none⟩), u] w (FrontPost b v1 v2 (f ++ right l.reverse) k w) := by
  have HQ0 := Lib.hid h
  have HU0 := Lib.hid hu
  have HO0 := Lib.hid ho
  have hbl := h.1.lt
  obtain ⟨a1, p1, rfl⟩ := hu.len
  clear h hu ho
  refine (callsIn_wide (n := 4)).1 ?_
  refine callsIn_of_wp_marks Try.func34 rfl trivial ?_ rfl
  simp only [Try.ntmps34, List.size_toArray, List.length_cons, List.length_nil, Nat.reduceAdd, Nat.reduceSub, Array.replicate_succ, Array.replicate_zero, List.push_toArray, List.append_toArray, List.nil_append, List.cons_append]
  gi_wp2_with fail
  refine ⟨trivial, (backward_in Fence.wide 3 trivial rfl _ _ _ _).mono ?_⟩
  rintro e w' ⟨rfl, rfl⟩
  gi_wp2_with fail
  have hq2 : Q ((w.alloc (.cells #[.pointer (some ⟨b, 0, none⟩)] 26)).alloc (.cells #[.slice a1 l.length p1] 25)) b v1 v2 f k := (HQ0.out.below (below_alloc (Below.refl _ _) _)).below (below_alloc (Below.refl _ _) _)
  have b1 : Blk ((w.alloc (.cells #[.pointer (some ⟨b, 0, none⟩)] 26)).alloc (.cells #[.slice a1 l.length p1] 25)) (w.heap.size + 1) #[.slice a1 l.length p1] 25 := Blk.new' _ _ (by simp)
  have b0 : Blk ((w.alloc (.cells #[.pointer (some ⟨b, 0, none⟩)] 26)).alloc (.cells #[.slice a1 l.length p1] 25)) w.heap.size #[.pointer (some ⟨b, 0, none⟩)] 26 := (Blk.new w _ 26).alloc _
  have hsu : Slw ((w.alloc (.cells #[.pointer (some ⟨b, 0, none⟩)] 26)).alloc (.cells #[.slice a1 l.length p1] 25)) (.slice a1 l.length p1) l := (HU0.out.alloc _).alloc _
  refine wpIn_rangeFunc_ownG rfl (by decide) (gf := 81) (lb := #[.pointer (some ⟨w.heap.size + 1, 0, none⟩)]) rfl trivial (enters_of Try.func81 (by kernel_rfl) rfl)
    (back_stops Fence.wide (4 - 1) trivial rfl (by decide) (w.heap.size + 1) (.slice a1 l.length p1) l _ (by simp <;> omega) (b1.cell 0) hsu (by omega)) keepsU_t keepsU_b (Below.refl _ _) (fun _ => rfl)
    (Fr w b v1 v2 (.slice a1 l.length p1) f k)
    (fun _ _ _ => False)
    (Fr.own w b v1 v2 _ f k _ (by simp <;> omega))
    (fun _ _ _ _ _ hs _ _ => hs)
    ⟨v1, by simpa [right] using hq2, ((Only.refl _ w).alloc _).alloc _, Gr.refl _ _, b0, b1⟩
    (fun x => { tmps := #[.pointer (some ⟨b, 0, none⟩), .slice a1 l.length p1, .pointer (some ⟨w.heap.size, 0, none⟩), undef, .int .i64 0, undef, .int .i64 x.2, .pointer (some ⟨b, 0, none⟩), .bool false, .slice a1 l.length p1, .func (.func 81) #[] #[.pointer (some ⟨w.heap.size + 1, 0, none⟩)], .int .i64 x.1, .int .i64 x.2, undef, undef, undef, undef, undef, undef, undef, undef, undef, undef, undef, undef, undef, undef], defers := [] }) ?assign ?body ?done ?stop
  case assign =>
    intro l x W K hK
    gi_wp2
    exact hK
  case body =>
    rintro ll pre x W ⟨v1', hQ, hO, hG, hK0, hK1⟩ hpl
    have c0 := hQ.1.cell 0
    have f0 := hQ.1.free 0
    have cb := hK0.cell 0
    have hlt := hQ.1.lt
    have hltb := hK0.lt
    simp only [List.getElem?_toArray, List.getElem?_cons_zero] at c0 cb
    by_cases hx : 1 ≤ x.2
    · have hdx : decide (1 ≤ x.2) = true := by simpa using hx
      have HF := Lib.hid hx
      have hrr := right_len (pre.map Prod.snd)
      obtain ⟨FF, hFF⟩ : ∃ FF, f ++ right (pre.map Prod.snd) = FF := ⟨_, rfl⟩
      have hFl : FF.length ≤ f.length + pre.length := by rw [← hFF]; simp at hrr ⊢; omega
      rw [hFF] at hQ
      have HW : Hid (Rd w b v1 v2 (.slice a1 l.length p1) v1' f k l FF pre W) := ⟨hFF, hO, hG, hK0, hK1, hQ.2.1, hbl, HU0.out, HO0.out⟩
      have HNB : Hid (v1'.ownBlock ≠ some w.heap.size) := own_type hQ.2.1 hK0 (by decide)
      have HBox := Lib.hid hK0
      have HQ := Lib.hid hQ
      have HOwn : Hid (OwnI W.drew 0 v1' FF) := hQ.2.1
      have hln : FF.length + [x.2].length < 100000000 := by simp; omega
      have HLen := Lib.hid hln
      have hnb2 : ¬ b = w.heap.size := by omega
      have d0 : ∀ q, (W.alloc q).cell? ⟨b, 0, none⟩ = some v1' := fun q => (World.cell?_of_block (Below.heap_alloc W q b hlt)).trans c0
      have db : ∀ q, (W.alloc q).cell? ⟨w.heap.size, 0, none⟩ = some (.pointer (some ⟨b, 0, none⟩)) := fun q => (World.cell?_of_block (Below.heap_alloc W q _ hltb)).trans cb
      clear hQ hO hG hK0 hK1 hx hln hpl hrr hFF hFl
      gi_wp2_with fail
      refine region_round (by kernel_rfl) (by kernel_rfl) (fun h => by obtain ⟨_, _, h⟩ := h; exact h) ?_
      try (change wpAny _ _ _ _ _ _ _ (World.drew _))
      refine wpAny_take (i := 5) (v := ?_) rfl (by kernel_rfl) (by kernel_rfl) (by kernel_rfl) (fun _ _ _ h => h) (Or.inl ⟨by kernel_rfl, ?_⟩) ?_
      rotate_left
      · intro w'; go_simp; try (with_reducible rfl)
      refine wpAny_ready (rs := [0, 1, 6]) (by kernel_rfl) (by simp) ?_
      refine AllReady.cons rfl (fun K hK => ?_) (AllReady.cons rfl (fun K hK => ?_) (AllReady.cons rfl (fun K hK => ?_) (AllReady.nil)))
      · go_simp
        refine hK _ _ ?_
        clear hK K
        refine wpAny_ready (rs := [1, 6]) (by kernel_rfl) (by simp) ?_
        refine AllReady.cons rfl (fun K hK => ?_) (AllReady.cons rfl (fun K hK => ?_) (AllReady.nil))
        · go_simp
          refine hK _ _ ?_
          clear hK K
          refine wpAny_take (i := 2) (v := ?_) rfl (by kernel_rfl) (by kernel_rfl) (by kernel_rfl) (fun _ _ _ h => h) (Or.inl ⟨by kernel_rfl, ?_⟩) ?_
          rotate_left
          · intro w'; go_simp; try (with_reducible rfl)
          refine wpAny_take (i := 3) (v := ?_) rfl (by kernel_rfl) (by kernel_rfl) (by kernel_rfl) (fun _ _ _ h => h) (Or.inl ⟨by kernel_rfl, ?_⟩) ?_
          rotate_left
          · intro w'; go_simp; try (with_reducible rfl)
          refine wpAny_ready (rs := [4, 6]) (by kernel_rfl) (by simp) ?_
          refine AllReady.cons rfl (fun K hK => ?_) (AllReady.cons rfl (fun K hK => ?_) (AllReady.nil))
          · go_simp
            refine hK _ _ ?_
            clear hK K
            refine wpAny_ready (rs := [6]) (by kernel_rfl) (by simp) ?_
            refine AllReady.cons rfl (fun K hK => ?_) (AllReady.nil)
            go_simp
            refine hK _ _ ?_
            clear hK K
            refine wpAny_ready (rs := [7]) (by kernel_rfl) (by simp) ?_
            refine AllReady.cons rfl (fun K hK => ?_) (AllReady.nil)
            refine stepX Try.underlying25 info3 0 _ rfl (.tmp 19) (.tmp 21) rfl v1' FF (.slice (some ⟨W.heap.size, 0, none⟩) 1 1) [x.2] (by kernel_rfl) (by kernel_rfl) (HOwn.out.alloc _) (Slw.new1 _ x.2) (Nat.zero_le _) HLen.out ?_
            intro v' w3 hA
            obtain ⟨g', cap', rfl⟩ := hA.some
            obtain ⟨hb1, hQ1, hO1, hG1⟩ := HQ.out.drew.putFront (tmp := .cells #[.int .i64 x.2] 3) hA
            have HA := Lib.hid hA
            have q0 := hb1.cell 0
            have qf0 := hb1.free 0
            have hl3 := hb1.lt
            simp only [List.getElem?_toArray, List.getElem?_cons_zero] at q0
            have hbx := box_app HBox.out HNB.out hA
            have qx := hbx.cell 0
            simp only [List.getElem?_toArray, List.getElem?_cons_zero] at qx
            have HQ1 := Lib.hid hQ1
            have HO1 := Lib.hid hO1
            have HG1 := Lib.hid hG1
            have HBx := Lib.hid hbx
            clear hQ1 hb1 hO1 hG1 hA hbx
            refine hK _ _ ?_
            clear hK K
            refine wpAny_take (i := 8) (v := ?_) rfl (by kernel_rfl) (by kernel_rfl) (by kernel_rfl) (fun _ _ _ h => h) (Or.inl ⟨by kernel_rfl, ?_⟩) ?_
            rotate_left
            · intro w'; go_simp; try (with_reducible rfl)
            refine wpAny_take (i := 9) (v := ?_) rfl (by kernel_rfl) (by kernel_rfl) (by kernel_rfl) (fun _ _ _ h => h) (Or.inl ⟨by kernel_rfl, ?_⟩) ?_
            rotate_left
            · intro w'; go_simp; try (with_reducible rfl)
            refine wpAny_ready (rs := [10]) (by kernel_rfl) (by simp) ?_
            refine AllReady.cons rfl (fun K hK => ?_) (AllReady.nil)
            go_simp
            refine hK _ _ ?_
            clear hK K
            refine wpAny_done (by kernel_rfl) ?_ _
            exact front_end HW.out HQ1.out HO1.out HG1.out HBx.out HA.out HF.out
          · go_simp
            refine hK _ _ ?_
            clear hK K
            refine wpAny_ready (rs := [4]) (by kernel_rfl) (by simp) ?_
            refine AllReady.cons rfl (fun K hK => ?_) (AllReady.nil)
            go_simp
            refine hK _ _ ?_
            clear hK K
            refine wpAny_ready (rs := [7]) (by kernel_rfl) (by simp) ?_
            refine AllReady.cons rfl (fun K hK => ?_) (AllReady.nil)
            refine stepX Try.underlying25 info3 0 _ rfl (.tmp 19) (.tmp 21) rfl v1' FF (.slice (some ⟨W.heap.size, 0, none⟩) 1 1) [x.2] (by kernel_rfl) (by kernel_rfl) (HOwn.out.alloc _) (Slw.new1 _ x.2) (Nat.zero_le _) HLen.out ?_
            intro v' w3 hA
            obtain ⟨g', cap', rfl⟩ := hA.some
            obtain ⟨hb1, hQ1, hO1, hG1⟩ := HQ.out.drew.putFront (tmp := .cells #[.int .i64 x.2] 3) hA
            have HA := Lib.hid hA
            have q0 := hb1.cell 0
            have qf0 := hb1.free 0
            have hl3 := hb1.lt
            simp only [List.getElem?_toArray, List.getElem?_cons_zero] at q0
            have hbx := box_app HBox.out HNB.out hA
            have qx := hbx.cell 0
            simp only [List.getElem?_toArray, List.getElem?_cons_zero] at qx
            have HQ1 := Lib.hid hQ1
            have HO1 := Lib.hid hO1
            have HG1 := Lib.hid hG1
            have HBx := Lib.hid hbx
            clear hQ1 hb1 hO1 hG1 hA hbx
            refine hK _ _ ?_
            clear hK K
            refine wpAny_take (i := 8) (v := ?_) rfl (by kernel_rfl) (by kernel_rfl) (by kernel_rfl) (fun _ _ _ h => h) (Or.inl ⟨by kernel_rfl, ?_⟩) ?_
            rotate_left
            · intro w'; go_simp; try (with_reducible rfl)
            refine wpAny_take (i := 9) (v := ?_) rfl (by kernel_rfl) (by kernel_rfl) (by kernel_rfl) (fun _ _ _ h => h) (Or.inl ⟨by kernel_rfl, ?_⟩) ?_
            rotate_left
            · intro w'; go_simp; try (with_reducible rfl)
            refine wpAny_ready (rs := [10]) (by kernel_rfl) (by simp) ?_
            refine AllReady.cons rfl (fun K hK => ?_) (AllReady.nil)
            go_simp
            refine hK _ _ ?_
            clear hK K
            refine wpAny_done (by kernel_rfl) ?_ _
            exact front_end HW.out HQ1.out HO1.out HG1.out HBx.out HA.out HF.out
        · go_simp
          refine hK _ _ ?_
          clear hK K
          refine wpAny_ready (rs := [1]) (by kernel_rfl) (by simp) ?_
          refine AllReady.cons rfl (fun K hK => ?_) (AllReady.nil)
          go_simp
          refine hK _ _ ?_
          clear hK K
          refine wpAny_take (i := 2) (v := ?_) rfl (by kernel_rfl) (by kernel_rfl) (by kernel_rfl) (fun _ _ _ h => h) (Or.inl ⟨by kernel_rfl, ?_⟩) ?_
          rotate_left
          · intro w'; go_simp; try (with_reducible rfl)
          refine wpAny_take (i := 3) (v := ?_) rfl (by kernel_rfl) (by kernel_rfl) (by kernel_rfl) (fun _ _ _ h => h) (Or.inl ⟨by kernel_rfl, ?_⟩) ?_
          rotate_left
          · intro w'; go_simp; try (with_reducible rfl)
          refine wpAny_ready (rs := [4]) (by kernel_rfl) (by simp) ?_
          refine AllReady.cons rfl (fun K hK => ?_) (AllReady.nil)
          go_simp
          refine hK _ _ ?_
          clear hK K
          refine wpAny_ready (rs := [7]) (by kernel_rfl) (by simp) ?_
          refine AllReady.cons rfl (fun K hK => ?_) (AllReady.nil)
          refine stepX Try.underlying25 info3 0 _ rfl (.tmp 19) (.tmp 21) rfl v1' FF (.slice (some ⟨W.heap.size, 0, none⟩) 1 1) [x.2] (by kernel_rfl) (by kernel_rfl) (HOwn.out.alloc _) (Slw.new1 _ x.2) (Nat.zero_le _) HLen.out ?_
          intro v' w3 hA
          obtain ⟨g', cap', rfl⟩ := hA.some
          obtain ⟨hb1, hQ1, hO1, hG1⟩ := HQ.out.drew.putFront (tmp := .cells #[.int .i64 x.2] 3) hA
          have HA := Lib.hid hA
          have q0 := hb1.cell 0
          have qf0 := hb1.free 0
          have hl3 := hb1.lt
          simp only [List.getElem?_toArray, List.getElem?_cons_zero] at q0
          have hbx := box_app HBox.out HNB.out hA
          have qx := hbx.cell 0
          simp only [List.getElem?_toArray, List.getElem?_cons_zero] at qx
          have HQ1 := Lib.hid hQ1
          have HO1 := Lib.hid hO1
          have HG1 := Lib.hid hG1
          have HBx := Lib.hid hbx
          clear hQ1 hb1 hO1 hG1 hA hbx
          refine hK _ _ ?_
          clear hK K
          refine wpAny_take (i := 8) (v := ?_) rfl (by kernel_rfl) (by kernel_rfl) (by kernel_rfl) (fun _ _ _ h => h) (Or.inl ⟨by kernel_rfl, ?_⟩) ?_
          rotate_left
          · intro w'; go_simp; try (with_reducible rfl)
          refine wpAny_take (i := 9) (v := ?_) rfl (by kernel_rfl) (by kernel_rfl) (by kernel_rfl) (fun _ _ _ h => h) (Or.inl ⟨by kernel_rfl, ?_⟩) ?_
          rotate_left
          · intro w'; go_simp; try (with_reducible rfl)
          refine wpAny_ready (rs := [10]) (by kernel_rfl) (by simp) ?_
          refine AllReady.cons rfl (fun K hK => ?_) (AllReady.nil)
          go_simp
          refine hK _ _ ?_
          clear hK K
          refine wpAny_done (by kernel_rfl) ?_ _
          exact front_end HW.out HQ1.out HO1.out HG1.out HBx.out HA.out HF.out
      · go_simp
        refine hK _ _ ?_
        clear hK K
        refine wpAny_take (i := 2) (v := ?_) rfl (by kernel_rfl) (by kernel_rfl) (by kernel_rfl) (fun _ _ _ h => h) (Or.inl ⟨by kernel_rfl, ?_⟩) ?_
        rotate_left
        · intro w'; go_simp; try (with_reducible rfl)
        refine wpAny_take (i := 3) (v := ?_) rfl (by kernel_rfl) (by kernel_rfl) (by kernel_rfl) (fun _ _ _ h => h) (Or.inl ⟨by kernel_rfl, ?_⟩) ?_
        rotate_left
        · intro w'; go_simp; try (with_reducible rfl)
        refine wpAny_ready (rs := [0, 4, 6]) (by kernel_rfl) (by simp) ?_
        refine AllReady.cons rfl (fun K hK => ?_) (AllReady.cons rfl (fun K hK => ?_) (AllReady.cons rfl (fun K hK => ?_) (AllReady.nil)))
        · go_simp
          refine hK _ _ ?_
          clear hK K
          refine wpAny_ready (rs := [4, 6]) (by kernel_rfl) (by simp) ?_
          refine AllReady.cons rfl (fun K hK => ?_) (AllReady.cons rfl (fun K hK => ?_) (AllReady.nil))
          · go_simp
            refine hK _ _ ?_
            clear hK K
            refine wpAny_ready (rs := [6]) (by kernel_rfl) (by simp) ?_
            refine AllReady.cons rfl (fun K hK => ?_) (AllReady.nil)
            go_simp
            refine hK _ _ ?_
            clear hK K
            refine wpAny_ready (rs := [7]) (by kernel_rfl) (by simp) ?_
            refine AllReady.cons rfl (fun K hK => ?_) (AllReady.nil)
            refine stepX Try.underlying25 info3 0 _ rfl (.tmp 19) (.tmp 21) rfl v1' FF (.slice (some ⟨W.heap.size, 0, none⟩) 1 1) [x.2] (by kernel_rfl) (by kernel_rfl) (HOwn.out.alloc _) (Slw.new1 _ x.2) (Nat.zero_le _) HLen.out ?_
            intro v' w3 hA
            obtain ⟨g', cap', rfl⟩ := hA.some
            obtain ⟨hb1, hQ1, hO1, hG1⟩ := HQ.out.drew.putFront (tmp := .cells #[.int .i64 x.2] 3) hA
            have HA := Lib.hid hA
            have q0 := hb1.cell 0
            have qf0 := hb1.free 0
            have hl3 := hb1.lt
            simp only [List.getElem?_toArray, List.getElem?_cons_zero] at q0
            have hbx := box_app HBox.out HNB.out hA
            have qx := hbx.cell 0
            simp only [List.getElem?_toArray, List.getElem?_cons_zero] at qx
            have HQ1 := Lib.hid hQ1
            have HO1 := Lib.hid hO1
            have HG1 := Lib.hid hG1
            have HBx := Lib.hid hbx
            clear hQ1 hb1 hO1 hG1 hA hbx
            refine hK _ _ ?_
            clear hK K
            refine wpAny_take (i := 8) (v := ?_) rfl (by kernel_rfl) (by kernel_rfl) (by kernel_rfl) (fun _ _ _ h => h) (Or.inl ⟨by kernel_rfl, ?_⟩) ?_
            rotate_left
            · intro w'; go_simp; try (with_reducible rfl)
            refine wpAny_take (i := 9) (v := ?_) rfl (by kernel_rfl) (by kernel_rfl) (by kernel_rfl) (fun _ _ _ h => h) (Or.inl ⟨by kernel_rfl, ?_⟩) ?_
            rotate_left
            · intro w'; go_simp; try (with_reducible rfl)
            refine wpAny_ready (rs := [10]) (by kernel_rfl) (by simp) ?_
            refine AllReady.cons rfl (fun K hK => ?_) (AllReady.nil)
            go_simp
            refine hK _ _ ?_
            clear hK K
            refine wpAny_done (by kernel_rfl) ?_ _
            exact front_end HW.out HQ1.out HO1.out HG1.out HBx.out HA.out HF.out
          · go_simp
            refine hK _ _ ?_
            clear hK K
            refine wpAny_ready (rs := [4]) (by kernel_rfl) (by simp) ?_
            refine AllReady.cons rfl (fun K hK => ?_) (AllReady.nil)
            go_simp
            refine hK _ _ ?_
            clear hK K
            refine wpAny_ready (rs := [7]) (by kernel_rfl) (by simp) ?_
            refine AllReady.cons rfl (fun K hK => ?_) (AllReady.nil)
            refine stepX Try.underlying25 info3 0 _ rfl (.tmp 19) (.tmp 21) rfl v1' FF (.slice (some ⟨W.heap.size, 0, none⟩) 1 1) [x.2] (by kernel_rfl) (by kernel_rfl) (HOwn.out.alloc _) (Slw.new1 _ x.2) (Nat.zero_le _) HLen.out ?_
            intro v' w3 hA
            obtain ⟨g', cap', rfl⟩ := hA.some
            obtain ⟨hb1, hQ1, hO1, hG1⟩ := HQ.out.drew.putFront (tmp := .cells #[.int .i64 x.2] 3) hA
            have HA := Lib.hid hA
            have q0 := hb1.cell 0
            have qf0 := hb1.free 0
            have hl3 := hb1.lt
            simp only [List.getElem?_toArray, List.getElem?_cons_zero] at q0
            have hbx := box_app HBox.out HNB.out hA
            have qx := hbx.cell 0
            simp only [List.getElem?_toArray, List.getElem?_cons_zero] at qx
            have HQ1 := Lib.hid hQ1
            have HO1 := Lib.hid hO1
            have HG1 := Lib.hid hG1
            have HBx := Lib.hid hbx
            clear hQ1 hb1 hO1 hG1 hA hbx
            refine hK _ _ ?_
            clear hK K
            refine wpAny_take (i := 8) (v := ?_) rfl (by kernel_rfl) (by kernel_rfl) (by kernel_rfl) (fun _ _ _ h => h) (Or.inl ⟨by kernel_rfl, ?_⟩) ?_
            rotate_left
            · intro w'; go_simp; try (with_reducible rfl)
            refine wpAny_take (i := 9) (v := ?_) rfl (by kernel_rfl) (by kernel_rfl) (by kernel_rfl) (fun _ _ _ h => h) (Or.inl ⟨by kernel_rfl, ?_⟩) ?_
            rotate_left
            · intro w'; go_simp; try (with_reducible rfl)
            refine wpAny_ready (rs := [10]) (by kernel_rfl) (by simp) ?_
            refine AllReady.cons rfl (fun K hK => ?_) (AllReady.nil)
            go_simp
            refine hK _ _ ?_
            clear hK K
            refine wpAny_done (by kernel_rfl) ?_ _
            exact front_end HW.out HQ1.out HO1.out HG1.out HBx.out HA.out HF.out
        · go_simp
          refine hK _ _ ?_
          clear hK K
          refine wpAny_ready (rs := [0, 6]) (by kernel_rfl) (by simp) ?_
          refine AllReady.cons rfl (fun K hK => ?_) (AllReady.cons rfl (fun K hK => ?_) (AllReady.nil))
          · go_simp
            refine hK _ _ ?_
            clear hK K
            refine wpAny_ready (rs := [6]) (by kernel_rfl) (by simp) ?_
            refine AllReady.cons rfl (fun K hK => ?_) (AllReady.nil)
            go_simp
            refine hK _ _ ?_
            clear hK K
            refine wpAny_ready (rs := [7]) (by kernel_rfl) (by simp) ?_
            refine AllReady.cons rfl (fun K hK => ?_) (AllReady.nil)
            refine stepX Try.underlying25 info3 0 _ rfl (.tmp 19) (.tmp 21) rfl v1' FF (.slice (some ⟨W.heap.size, 0, none⟩) 1 1) [x.2] (by kernel_rfl) (by kernel_rfl) (HOwn.out.alloc _) (Slw.new1 _ x.2) (Nat.zero_le _) HLen.out ?_
            intro v' w3 hA
            obtain ⟨g', cap', rfl⟩ := hA.some
            obtain ⟨hb1, hQ1, hO1, hG1⟩ := HQ.out.drew.putFront (tmp := .cells #[.int .i64 x.2] 3) hA
            have HA := Lib.hid hA
            have q0 := hb1.cell 0
            have qf0 := hb1.free 0
            have hl3 := hb1.lt
            simp only [List.getElem?_toArray, List.getElem?_cons_zero] at q0
            have hbx := box_app HBox.out HNB.out hA
            have qx := hbx.cell 0
            simp only [List.getElem?_toArray, List.getElem?_cons_zero] at qx
            have HQ1 := Lib.hid hQ1
            have HO1 := Lib.hid hO1
            have HG1 := Lib.hid hG1
            have HBx := Lib.hid hbx
            clear hQ1 hb1 hO1 hG1 hA hbx
            refine hK _ _ ?_
            clear hK K
            refine wpAny_take (i := 8) (v := ?_) rfl (by kernel_rfl) (by kernel_rfl) (by kernel_rfl) (fun _ _ _ h => h) (Or.inl ⟨by kernel_rfl, ?_⟩) ?_
            rotate_left
            · intro w'; go_simp; try (with_reducible rfl)
            refine wpAny_take (i := 9) (v := ?_) rfl (by kernel_rfl) (by kernel_rfl) (by kernel_rfl) (fun _ _ _ h => h) (Or.inl ⟨by kernel_rfl, ?_⟩) ?_
            rotate_left
            · intro w'; go_simp; try (with_reducible rfl)
            refine wpAny_ready (rs := [10]) (by kernel_rfl) (by simp) ?_
            refine AllReady.cons rfl (fun K hK => ?_) (AllReady.nil)
            go_simp
            refine hK _ _ ?_
            clear hK K
            refine wpAny_done (by kernel_rfl) ?_ _
            exact front_end HW.out HQ1.out HO1.out HG1.out HBx.out HA.out HF.out
          · go_simp
            refine hK _ _ ?_
            clear hK K
            refine wpAny_ready (rs := [0, 7]) (by kernel_rfl) (by simp) ?_
            refine AllReady.cons rfl (fun K hK => ?_) (AllReady.cons rfl (fun K hK => ?_) (AllReady.nil))
            · go_simp
              refine hK _ _ ?_
              clear hK K
              refine wpAny_ready (rs := [7]) (by kernel_rfl) (by simp) ?_
              refine AllReady.cons rfl (fun K hK => ?_) (AllReady.nil)
              refine stepX Try.underlying25 info3 0 _ rfl (.tmp 19) (.tmp 21) rfl v1' FF (.slice (some ⟨W.heap.size, 0, none⟩) 1 1) [x.2] (by kernel_rfl) (by kernel_rfl) (HOwn.out.alloc _) (Slw.new1 _ x.2) (Nat.zero_le _) HLen.out ?_
              intro v' w3 hA
              obtain ⟨g', cap', rfl⟩ := hA.some
              obtain ⟨hb1, hQ1, hO1, hG1⟩ := HQ.out.drew.putFront (tmp := .cells #[.int .i64 x.2] 3) hA
              have HA := Lib.hid hA
              have q0 := hb1.cell 0
              have qf0 := hb1.free 0
              have hl3 := hb1.lt
              simp only [List.getElem?_toArray, List.getElem?_cons_zero] at q0
              have hbx := box_app HBox.out HNB.out hA
              have qx := hbx.cell 0
              simp only [List.getElem?_toArray, List.getElem?_cons_zero] at qx
              have HQ1 := Lib.hid hQ1
              have HO1 := Lib.hid hO1
              have HG1 := Lib.hid hG1
              have HBx := Lib.hid hbx
              clear hQ1 hb1 hO1 hG1 hA hbx
              refine hK _ _ ?_
              clear hK K
              refine wpAny_take (i := 8) (v := ?_) rfl (by kernel_rfl) (by kernel_rfl) (by kernel_rfl) (fun _ _ _ h => h) (Or.inl ⟨by kernel_rfl, ?_⟩) ?_
              rotate_left
              · intro w'; go_simp; try (with_reducible rfl)
              refine wpAny_take (i := 9) (v := ?_) rfl (by kernel_rfl) (by kernel_rfl) (by kernel_rfl) (fun _ _ _ h => h) (Or.inl ⟨by kernel_rfl, ?_⟩) ?_
              rotate_left
              · intro w'; go_simp; try (with_reducible rfl)
              refine wpAny_ready (rs := [10]) (by kernel_rfl) (by simp) ?_
              refine AllReady.cons rfl (fun K hK => ?_) (AllReady.nil)
              go_simp
              refine hK _ _ ?_
              clear hK K
              refine wpAny_done (by kernel_rfl) ?_ _
              exact front_end HW.out HQ1.out HO1.out HG1.out HBx.out HA.out HF.out
            · refine stepX Try.underlying25 info3 0 _ rfl (.tmp 19) (.tmp 21) rfl v1' FF (.slice (some ⟨W.heap.size, 0, none⟩) 1 1) [x.2] (by kernel_rfl) (by kernel_rfl) (HOwn.out.alloc _) (Slw.new1 _ x.2) (Nat.zero_le _) HLen.out ?_
              intro v' w3 hA
              obtain ⟨g', cap', rfl⟩ := hA.some
              obtain ⟨hb1, hQ1, hO1, hG1⟩ := HQ.out.drew.putFront (tmp := .cells #[.int .i64 x.2] 3) hA
              have HA := Lib.hid hA
              have q0 := hb1.cell 0
              have qf0 := hb1.free 0
              have hl3 := hb1.lt
              simp only [List.getElem?_toArray, List.getElem?_cons_zero] at q0
              have hbx := box_app HBox.out HNB.out hA
              have qx := hbx.cell 0
              simp only [List.getElem?_toArray, List.getElem?_cons_zero] at qx
              have HQ1 := Lib.hid hQ1
              have HO1 := Lib.hid hO1
              have HG1 := Lib.hid hG1
              have HBx := Lib.hid hbx
              clear hQ1 hb1 hO1 hG1 hA hbx
              refine hK _ _ ?_
              clear hK K
              refine wpAny_ready (rs := [0]) (by kernel_rfl) (by simp) ?_
              refine AllReady.cons rfl (fun K hK => ?_) (AllReady.nil)
              go_simp
              refine hK _ _ ?_
              clear hK K
              refine wpAny_take (i := 8) (v := ?_) rfl (by kernel_rfl) (by kernel_rfl) (by kernel_rfl) (fun _ _ _ h => h) (Or.inl ⟨by kernel_rfl, ?_⟩) ?_
              rotate_left
              · intro w'; go_simp; try (with_reducible rfl)
              refine wpAny_take (i := 9) (v := ?_) rfl (by kernel_rfl) (by kernel_rfl) (by kernel_rfl) (fun _ _ _ h => h) (Or.inl ⟨by kernel_rfl, ?_⟩) ?_
              rotate_left
              · intro w'; go_simp; try (with_reducible rfl)
              refine wpAny_ready (rs := [10]) (by kernel_rfl) (by simp) ?_
              refine AllReady.cons rfl (fun K hK => ?_) (AllReady.nil)
              go_simp
              refine hK _ _ ?_
              clear hK K
              refine wpAny_done (by kernel_rfl) ?_ _
              exact front_end HW.out HQ1.out HO1.out HG1.out HBx.out HA.out HF.out
        · go_simp
          refine hK _ _ ?_
          clear hK K
          refine wpAny_ready (rs := [0, 4]) (by kernel_rfl) (by simp) ?_
          refine AllReady.cons rfl (fun K hK => ?_) (AllReady.cons rfl (fun K hK => ?_) (AllReady.nil))
          · go_simp
            refine hK _ _ ?_
            clear hK K
            refine wpAny_ready (rs := [4]) (by kernel_rfl) (by simp) ?_
            refine AllReady.cons rfl (fun K hK => ?_) (AllReady.nil)
            go_simp
            refine hK _ _ ?_
            clear hK K
            refine wpAny_ready (rs := [7]) (by kernel_rfl) (by simp) ?_
            refine AllReady.cons rfl (fun K hK => ?_) (AllReady.nil)
            refine stepX Try.underlying25 info3 0 _ rfl (.tmp 19) (.tmp 21) rfl v1' FF (.slice (some ⟨W.heap.size, 0, none⟩) 1 1) [x.2] (by kernel_rfl) (by kernel_rfl) (HOwn.out.alloc _) (Slw.new1 _ x.2) (Nat.zero_le _) HLen.out ?_
            intro v' w3 hA
            obtain ⟨g', cap', rfl⟩ := hA.some
            obtain ⟨hb1, hQ1, hO1, hG1⟩ := HQ.out.drew.putFront (tmp := .cells #[.int .i64 x.2] 3) hA
            have HA := Lib.hid hA
            have q0 := hb1.cell 0
            have qf0 := hb1.free 0
            have hl3 := hb1.lt
            simp only [List.getElem?_toArray, List.getElem?_cons_zero] at q0
            have hbx := box_app HBox.out HNB.out hA
            have qx := hbx.cell 0
            simp only [List.getElem?_toArray, List.getElem?_cons_zero] at qx
            have HQ1 := Lib.hid hQ1
            have HO1 := Lib.hid hO1
            have HG1 := Lib.hid hG1
            have HBx := Lib.hid hbx
            clear hQ1 hb1 hO1 hG1 hA hbx
            refine hK _ _ ?_
            clear hK K
            refine wpAny_take (i := 8) (v := ?_) rfl (by kernel_rfl) (by kernel_rfl) (by kernel_rfl) (fun _ _ _ h => h) (Or.inl ⟨by kernel_rfl, ?_⟩) ?_
            rotate_left
            · intro w'; go_simp; try (with_reducible rfl)
            refine wpAny_take (i := 9) (v := ?_) rfl (by kernel_rfl) (by kernel_rfl) (by kernel_rfl) (fun _ _ _ h => h) (Or.inl ⟨by kernel_rfl, ?_⟩) ?_
            rotate_left
            · intro w'; go_simp; try (with_reducible rfl)
            refine wpAny_ready (rs := [10]) (by kernel_rfl) (by simp) ?_
            refine AllReady.cons rfl (fun K hK => ?_) (AllReady.nil)
            go_simp
            refine hK _ _ ?_
            clear hK K
            refine wpAny_done (by kernel_rfl) ?_ _
            exact front_end HW.out HQ1.out HO1.out HG1.out HBx.out HA.out HF.out
          · go_simp
            refine hK _ _ ?_
            clear hK K
            refine wpAny_ready (rs := [0, 7]) (by kernel_rfl) (by simp) ?_
            refine AllReady.cons rfl (fun K hK => ?_) (AllReady.cons rfl (fun K hK => ?_) (AllReady.nil))
            · go_simp
              refine hK _ _ ?_
              clear hK K
              refine wpAny_ready (rs := [7]) (by kernel_rfl) (by simp) ?_
              refine AllReady.cons rfl (fun K hK => ?_) (AllReady.nil)
              refine stepX Try.underlying25 info3 0 _ rfl (.tmp 19) (.tmp 21) rfl v1' FF (.slice (some ⟨W.heap.size, 0, none⟩) 1 1) [x.2] (by kernel_rfl) (by kernel_rfl) (HOwn.out.alloc _) (Slw.new1 _ x.2) (Nat.zero_le _) HLen.out ?_
              intro v' w3 hA
              obtain ⟨g', cap', rfl⟩ := hA.some
              obtain ⟨hb1, hQ1, hO1, hG1⟩ := HQ.out.drew.putFront (tmp := .cells #[.int .i64 x.2] 3) hA
              have HA := Lib.hid hA
              have q0 := hb1.cell 0
              have qf0 := hb1.free 0
              have hl3 := hb1.lt
              simp only [List.getElem?_toArray, List.getElem?_cons_zero] at q0
              have hbx := box_app HBox.out HNB.out hA
              have qx := hbx.cell 0
              simp only [List.getElem?_toArray, List.getElem?_cons_zero] at qx
              have HQ1 := Lib.hid hQ1
              have HO1 := Lib.hid hO1
              have HG1 := Lib.hid hG1
              have HBx := Lib.hid hbx
              clear hQ1 hb1 hO1 hG1 hA hbx
              refine hK _ _ ?_
              clear hK K
              refine wpAny_take (i := 8) (v := ?_) rfl (by kernel_rfl) (by kernel_rfl) (by kernel_rfl) (fun _ _ _ h => h) (Or.inl ⟨by kernel_rfl, ?_⟩) ?_
              rotate_left
              · intro w'; go_simp; try (with_reducible rfl)
              refine wpAny_take (i := 9) (v := ?_) rfl (by kernel_rfl) (by kernel_rfl) (by kernel_rfl) (fun _ _ _ h => h) (Or.inl ⟨by kernel_rfl, ?_⟩) ?_
              rotate_left
              · intro w'; go_simp; try (with_reducible rfl)
              refine wpAny_ready (rs := [10]) (by kernel_rfl) (by simp) ?_
              refine AllReady.cons rfl (fun K hK => ?_) (AllReady.nil)
              go_simp
              refine hK _ _ ?_
              clear hK K
              refine wpAny_done (by kernel_rfl) ?_ _
              exact front_end HW.out HQ1.out HO1.out HG1.out HBx.out HA.out HF.out
            · refine stepX Try.underlying25 info3 0 _ rfl (.tmp 19) (.tmp 21) rfl v1' FF (.slice (some ⟨W.heap.size, 0, none⟩) 1 1) [x.2] (by kernel_rfl) (by kernel_rfl) (HOwn.out.alloc _) (Slw.new1 _ x.2) (Nat.zero_le _) HLen.out ?_
              intro v' w3 hA
              obtain ⟨g', cap', rfl⟩ := hA.some
              obtain ⟨hb1, hQ1, hO1, hG1⟩ := HQ.out.drew.putFront (tmp := .cells #[.int .i64 x.2] 3) hA
              have HA := Lib.hid hA
              have q0 := hb1.cell 0
              have qf0 := hb1.free 0
              have hl3 := hb1.lt
              simp only [List.getElem?_toArray, List.getElem?_cons_zero] at q0
              have hbx := box_app HBox.out HNB.out hA
              have qx := hbx.cell 0
              simp only [List.getElem?_toArray, List.getElem?_cons_zero] at qx
              have HQ1 := Lib.hid hQ1
              have HO1 := Lib.hid hO1
              have HG1 := Lib.hid hG1
              have HBx := Lib.hid hbx
              clear hQ1 hb1 hO1 hG1 hA hbx
              refine hK _ _ ?_
              clear hK K
              refine wpAny_ready (rs := [0]) (by kernel_rfl) (by simp) ?_
              refine AllReady.cons rfl (fun K hK => ?_) (AllReady.nil)
              go_simp
              refine hK _ _ ?_
              clear hK K
              refine wpAny_take (i := 8) (v := ?_) rfl (by kernel_rfl) (by kernel_rfl) (by kernel_rfl) (fun _ _ _ h => h) (Or.inl ⟨by kernel_rfl, ?_⟩) ?_
              rotate_left
              · intro w'; go_simp; try (with_reducible rfl)
              refine wpAny_take (i := 9) (v := ?_) rfl (by kernel_rfl) (by kernel_rfl) (by kernel_rfl) (fun _ _ _ h => h) (Or.inl ⟨by kernel_rfl, ?_⟩) ?_
              rotate_left
              · intro w'; go_simp; try (with_reducible rfl)
              refine wpAny_ready (rs := [10]) (by kernel_rfl) (by simp) ?_
              refine AllReady.cons rfl (fun K hK => ?_) (AllReady.nil)
              go_simp
              refine hK _ _ ?_
              clear hK K
              refine wpAny_done (by kernel_rfl) ?_ _
              exact front_end HW.out HQ1.out HO1.out HG1.out HBx.out HA.out HF.out
      · go_simp
        refine hK _ _ ?_
        clear hK K
        refine wpAny_ready (rs := [0, 1]) (by kernel_rfl) (by simp) ?_
        refine AllReady.cons rfl (fun K hK => ?_) (AllReady.cons rfl (fun K hK => ?_) (AllReady.nil))
        · go_simp
          refine hK _ _ ?_
          clear hK K
          refine wpAny_ready (rs := [1]) (by kernel_rfl) (by simp) ?_
          refine AllReady.cons rfl (fun K hK => ?_) (AllReady.nil)
          go_simp
          refine hK _ _ ?_
          clear hK K
          refine wpAny_take (i := 2) (v := ?_) rfl (by kernel_rfl) (by kernel_rfl) (by kernel_rfl) (fun _ _ _ h => h) (Or.inl ⟨by kernel_rfl, ?_⟩) ?_
          rotate_left
          · intro w'; go_simp; try (with_reducible rfl)
          refine wpAny_take (i := 3) (v := ?_) rfl (by kernel_rfl) (by kernel_rfl) (by kernel_rfl) (fun _ _ _ h => h) (Or.inl ⟨by kernel_rfl, ?_⟩) ?_
          rotate_left
          · intro w'; go_simp; try (with_reducible rfl)
          refine wpAny_ready (rs := [4]) (by kernel_rfl) (by simp) ?_
          refine AllReady.cons rfl (fun K hK => ?_) (AllReady.nil)
          go_simp
          refine hK _ _ ?_
          clear hK K
          refine wpAny_ready (rs := [7]) (by kernel_rfl) (by simp) ?_
          refine AllReady.cons rfl (fun K hK => ?_) (AllReady.nil)
          refine stepX Try.underlying25 info3 0 _ rfl (.tmp 19) (.tmp 21) rfl v1' FF (.slice (some ⟨W.heap.size, 0, none⟩) 1 1) [x.2] (by kernel_rfl) (by kernel_rfl) (HOwn.out.alloc _) (Slw.new1 _ x.2) (Nat.zero_le _) HLen.out ?_
          intro v' w3 hA
          obtain ⟨g', cap', rfl⟩ := hA.some
          obtain ⟨hb1, hQ1, hO1, hG1⟩ := HQ.out.drew.putFront (tmp := .cells #[.int .i64 x.2] 3) hA
          have HA := Lib.hid hA
          have q0 := hb1.cell 0
          have qf0 := hb1.free 0
          have hl3 := hb1.lt
          simp only [List.getElem?_toArray, List.getElem?_cons_zero] at q0
          have hbx := box_app HBox.out HNB.out hA
          have qx := hbx.cell 0
          simp only [List.getElem?_toArray, List.getElem?_cons_zero] at qx
          have HQ1 := Lib.hid hQ1
          have HO1 := Lib.hid hO1
          have HG1 := Lib.hid hG1
          have HBx := Lib.hid hbx
          clear hQ1 hb1 hO1 hG1 hA hbx
          refine hK _ _ ?_
          clear hK K
          refine wpAny_take (i := 8) (v := ?_) rfl (by kernel_rfl) (by kernel_rfl) (by kernel_rfl) (fun _ _ _ h => h) (Or.inl ⟨by kernel_rfl, ?_⟩) ?_
          rotate_left
          · intro w'; go_simp; try (with_reducible rfl)
          refine wpAny_take (i := 9) (v := ?_) rfl (by kernel_rfl) (by kernel_rfl) (by kernel_rfl) (fun _ _ _ h => h) (Or.inl ⟨by kernel_rfl, ?_⟩) ?_
          rotate_left
          · intro w'; go_simp; try (with_reducible rfl)
          refine wpAny_ready (rs := [10]) (by kernel_rfl) (by simp) ?_
          refine AllReady.cons rfl (fun K hK => ?_) (AllReady.nil)
          go_simp
          refine hK _ _ ?_
          clear hK K
          refine wpAny_done (by kernel_rfl) ?_ _
          exact front_end HW.out HQ1.out HO1.out HG1.out HBx.out HA.out HF.out
        · go_simp
          refine hK _ _ ?_
          clear hK K
          refine wpAny_take (i := 2) (v := ?_) rfl (by kernel_rfl) (by kernel_rfl) (by kernel_rfl) (fun _ _ _ h => h) (Or.inl ⟨by kernel_rfl, ?_⟩) ?_
          rotate_left
          · intro w'; go_simp; try (with_reducible rfl)
          refine wpAny_take (i := 3) (v := ?_) rfl (by kernel_rfl) (by kernel_rfl) (by kernel_rfl) (fun _ _ _ h => h) (Or.inl ⟨by kernel_rfl, ?_⟩) ?_
          rotate_left
          · intro w'; go_simp; try (with_reducible rfl)
          refine wpAny_ready (rs := [0, 4]) (by kernel_rfl) (by simp) ?_
          refine AllReady.cons rfl (fun K hK => ?_) (AllReady.cons rfl (fun K hK => ?_) (AllReady.nil))
          · go_simp
            refine hK _ _ ?_
            clear hK K
            refine wpAny_ready (rs := [4]) (by kernel_rfl) (by simp) ?_
            refine AllReady.cons rfl (fun K hK => ?_) (AllReady.nil)
            go_simp
            refine hK _ _ ?_
            clear hK K
            refine wpAny_ready (rs := [7]) (by kernel_rfl) (by simp) ?_
            refine AllReady.cons rfl (fun K hK => ?_) (AllReady.nil)
            refine stepX Try.underlying25 info3 0 _ rfl (.tmp 19) (.tmp 21) rfl v1' FF (.slice (some ⟨W.heap.size, 0, none⟩) 1 1) [x.2] (by kernel_rfl) (by kernel_rfl) (HOwn.out.alloc _) (Slw.new1 _ x.2) (Nat.zero_le _) HLen.out ?_
            intro v' w3 hA
            obtain ⟨g', cap', rfl⟩ := hA.some
            obtain ⟨hb1, hQ1, hO1, hG1⟩ := HQ.out.drew.putFront (tmp := .cells #[.int .i64 x.2] 3) hA
            have HA := Lib.hid hA
            have q0 := hb1.cell 0
            have qf0 := hb1.free 0
            have hl3 := hb1.lt
            simp only [List.getElem?_toArray, List.getElem?_cons_zero] at q0
            have hbx := box_app HBox.out HNB.out hA
            have qx := hbx.cell 0
            simp only [List.getElem?_toArray, List.getElem?_cons_zero] at qx
            have HQ1 := Lib.hid hQ1
            have HO1 := Lib.hid hO1
            have HG1 := Lib.hid hG1
            have HBx := Lib.hid hbx
            clear hQ1 hb1 hO1 hG1 hA hbx
            refine hK _ _ ?_
            clear hK K
            refine wpAny_take (i := 8) (v := ?_) rfl (by kernel_rfl) (by kernel_rfl) (by kernel_rfl) (fun _ _ _ h => h) (Or.inl ⟨by kernel_rfl, ?_⟩) ?_
            rotate_left
            · intro w'; go_simp; try (with_reducible rfl)
            refine wpAny_take (i := 9) (v := ?_) rfl (by kernel_rfl) (by kernel_rfl) (by kernel_rfl) (fun _ _ _ h => h) (Or.inl ⟨by kernel_rfl, ?_⟩) ?_
            rotate_left
            · intro w'; go_simp; try (with_reducible rfl)
            refine wpAny_ready (rs := [10]) (by kernel_rfl) (by simp) ?_
            refine AllReady.cons rfl (fun K hK => ?_) (AllReady.nil)
            go_simp
            refine hK _ _ ?_
            clear hK K
            refine wpAny_done (by kernel_rfl) ?_ _
            exact front_end HW.out HQ1.out HO1.out HG1.out HBx.out HA.out HF.out
          · go_simp
            refine hK _ _ ?_
            clear hK K
            refine wpAny_ready (rs := [0, 7]) (by kernel_rfl) (by simp) ?_
            refine AllReady.cons rfl (fun K hK => ?_) (AllReady.cons rfl (fun K hK => ?_) (AllReady.nil))
            · go_simp
              refine hK _ _ ?_
              clear hK K
              refine wpAny_ready (rs := [7]) (by kernel_rfl) (by simp) ?_
              refine AllReady.cons rfl (fun K hK => ?_) (AllReady.nil)
              refine stepX Try.underlying25 info3 0 _ rfl (.tmp 19) (.tmp 21) rfl v1' FF (.slice (some ⟨W.heap.size, 0, none⟩) 1 1) [x.2] (by kernel_rfl) (by kernel_rfl) (HOwn.out.alloc _) (Slw.new1 _ x.2) (Nat.zero_le _) HLen.out ?_
              intro v' w3 hA
              obtain ⟨g', cap', rfl⟩ := hA.some
              obtain ⟨hb1, hQ1, hO1, hG1⟩ := HQ.out.drew.putFront (tmp := .cells #[.int .i64 x.2] 3) hA
              have HA := Lib.hid hA
              have q0 := hb1.cell 0
              have qf0 := hb1.free 0
              have hl3 := hb1.lt
              simp only [List.getElem?_toArray, List.getElem?_cons_zero] at q0
              have hbx := box_app HBox.out HNB.out hA
              have qx := hbx.cell 0
              simp only [List.getElem?_toArray, List.getElem?_cons_zero] at qx
              have HQ1 := Lib.hid hQ1
              have HO1 := Lib.hid hO1
              have HG1 := Lib.hid hG1
              have HBx := Lib.hid hbx
              clear hQ1 hb1 hO1 hG1 hA hbx
              refine hK _ _ ?_
              clear hK K
              refine wpAny_take (i := 8) (v := ?_) rfl (by kernel_rfl) (by kernel_rfl) (by kernel_rfl) (fun _ _ _ h => h) (Or.inl ⟨by kernel_rfl, ?_⟩) ?_
              rotate_left
              · intro w'; go_simp; try (with_reducible rfl)
              refine wpAny_take (i := 9) (v := ?_) rfl (by kernel_rfl) (by kernel_rfl) (by kernel_rfl) (fun _ _ _ h => h) (Or.inl ⟨by kernel_rfl, ?_⟩) ?_
              rotate_left
              · intro w'; go_simp; try (with_reducible rfl)
              refine wpAny_ready (rs := [10]) (by kernel_rfl) (by simp) ?_
              refine AllReady.cons rfl (fun K hK => ?_) (AllReady.nil)
              go_simp
              refine hK _ _ ?_
              clear hK K
              refine wpAny_done (by kernel_rfl) ?_ _
              exact front_end HW.out HQ1.out HO1.out HG1.out HBx.out HA.out HF.out
            · refine stepX Try.underlying25 info3 0 _ rfl (.tmp 19) (.tmp 21) rfl v1' FF (.slice (some ⟨W.heap.size, 0, none⟩) 1 1) [x.2] (by kernel_rfl) (by kernel_rfl) (HOwn.out.alloc _) (Slw.new1 _ x.2) (Nat.zero_le _) HLen.out ?_
              intro v' w3 hA
              obtain ⟨g', cap', rfl⟩ := hA.some
              obtain ⟨hb1, hQ1, hO1, hG1⟩ := HQ.out.drew.putFront (tmp := .cells #[.int .i64 x.2] 3) hA
              have HA := Lib.hid hA
              have q0 := hb1.cell 0
              have qf0 := hb1.free 0
              have hl3 := hb1.lt
              simp only [List.getElem?_toArray, List.getElem?_cons_zero] at q0
              have hbx := box_app HBox.out HNB.out hA
              have qx := hbx.cell 0
              simp only [List.getElem?_toArray, List.getElem?_cons_zero] at qx
              have HQ1 := Lib.hid hQ1
              have HO1 := Lib.hid hO1
              have HG1 := Lib.hid hG1
              have HBx := Lib.hid hbx
              clear hQ1 hb1 hO1 hG1 hA hbx
              refine hK _ _ ?_
              clear hK K
              refine wpAny_ready (rs := [0]) (by kernel_rfl) (by simp) ?_
              refine AllReady.cons rfl (fun K hK => ?_) (AllReady.nil)
              go_simp
              refine hK _ _ ?_
              clear hK K
              refine wpAny_take (i := 8) (v := ?_) rfl (by kernel_rfl) (by kernel_rfl) (by kernel_rfl) (fun _ _ _ h => h) (Or.inl ⟨by kernel_rfl, ?_⟩) ?_
              rotate_left
              · intro w'; go_simp; try (with_reducible rfl)
              refine wpAny_take (i := 9) (v := ?_) rfl (by kernel_rfl) (by kernel_rfl) (by kernel_rfl) (fun _ _ _ h => h) (Or.inl ⟨by kernel_rfl, ?_⟩) ?_
              rotate_left
              · intro w'; go_simp; try (with_reducible rfl)
              refine wpAny_ready (rs := [10]) (by kernel_rfl) (by simp) ?_
              refine AllReady.cons rfl (fun K hK => ?_) (AllReady.nil)
              go_simp
              refine hK _ _ ?_
              clear hK K
              refine wpAny_done (by kernel_rfl) ?_ _
              exact front_end HW.out HQ1.out HO1.out HG1.out HBx.out HA.out HF.out
    · have hdx : decide (1 ≤ x.2) = false := by simpa using hx
      have HX := Lib.hid (right_no hx)
      clear hx
      gi_wp2_with fail
      exact ⟨KeepsFrom.refl _ _, ⟨fun v hv => hv, fun l hl => hl⟩, v1', by rw [right_snd, HX.out, List.append_nil]; exact hQ, hO, hG, hK0, hK1⟩
  case done =>
    rintro E ys W hE rfl ⟨v1', hQ, hO, hG, hK0, hK1⟩ hK
    rw [backL_snd] at hQ
    have cb := hK0.cell 0
    simp only [List.getElem?_toArray, List.getElem?_cons_zero] at cb
    have HFr : Hid (Fr w b v1 v2 (.slice a1 l.length p1) f k (backL l l.length) W) := ⟨v1', by rw [backL_snd]; exact hQ, hO, hG, hK0, hK1⟩
    have HQ := Lib.hid hQ
    have hrl := right_len l.reverse
    simp at hrl
    clear hQ hO hG hK0 hK1
    gi_wp2_with fail
    refine ⟨trivial, (callsIn_wide.2 (len_q _ _ _ _ _ _ HQ.out (by simp; omega))).mono ?_⟩
    rintro e w2 ⟨rfl, n2, rfl⟩
    gi_wp2
    refine ⟨by simp, .inl ⟨_, _, rfl, run_takeDeferred (show (W.drewN n2).heap[E]? = _ from hK), ?_⟩⟩
    obtain ⟨v9, hQ9, hO9, hG9, _⟩ := OwnFrom.putObj (Fr.own w b v1 v2 (.slice a1 l.length p1) f k E (by simp at hE; omega)) (.deferred none) (show Fr w b v1 v2 (.slice a1 l.length p1) f k (backL l l.length) (W.drewN n2) from by
      obtain ⟨v9, hQ9, hO9, hG9, h9, h10⟩ := HFr.out
      exact ⟨v9, hQ9.drewN n2, hO9.drewN n2, hG9, h9, h10⟩) (Nat.le_refl _) (show (W.drewN n2).heap[E]? = _ from hK) rfl
    rw [backL_snd] at hQ9
    exact ⟨_, by simp [results, Try.results34, go_sem], rfl, v9, hQ9, hO9, hG9⟩
  case stop =>
    rintro E c pre W _ _ h _
    exact h.elim
end Go.Proofs.Ytgahkcbkpnehfaa.Glob
