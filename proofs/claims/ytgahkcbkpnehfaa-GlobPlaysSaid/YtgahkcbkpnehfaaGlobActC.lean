/- Chapter 16: an act on the queue and on the list beside it: Batch. -/
import Derived.Test.YtgahkcbkpnehfaaGlobActB
namespace Go.Proofs.Ytgahkcbkpnehfaa.Glob
open Go.RowKit Go.Esc
set_option linter.unusedVariables false

attribute [local go_sem ↓] Go.wp_at_zero Go.wp_at_succ

/-- What the walk of Batch leans on: the list's two parts, u1 what stays and u2 what goes. -/
structure Bt (w0 w : World) (b : Nat) (lv u1 u2 : Value) (L : List Int) (S : Nat → Prop) (N : Nat) : Prop where
  st : St w0 w b lv L S
  s1 : Slw w u1 (L.drop N)
  s2 : Slw w u2 (L.take N)
  o1 : L.drop N ≠ [] → Off S u1
  o2 : L.take N ≠ [] → Off S u2
theorem slw_move {S : Nat → Prop} {w w' : World} {v : Value} {l : List Int} (h : Slw w v l) (o : Only S w w') (hs : l ≠ [] → Off S v) : Slw w' v l := by
  by_cases hne : l = []
  · subst hne; exact slw_empty h
  · exact h.only o (hs hne)
theorem Bt.fin {w0 w w3 : World} {b : Nat} {lv u1 u2 v : Value} {L : List Int} {S : Nat → Prop} {N : Nat} (h : Bt w0 w b lv u1 u2 L S N) {S3 : Nat → Prop} (hQ : Queue w3 b S3 (L.drop N)) (hO : Only S w w3) (hG : Gr S S3 w) : St w0 w3 b u1 (L.drop N) S3 ∧ Slw w3 u2 (L.take N) :=
  ⟨h.st.cut h.s1 h.o1 hQ hO hG, slw_move h.s2 hO h.o2⟩
theorem batch_all (b : Nat) (S : Nat → Prop) (L : List Int) (A B : Int) (N : Nat) (hN : manyZ L.length A B = N) (hl : L.length < 10000000) (w : World) (h : Queue w b S L) : Calls Try.prog 18 #[.pointer (some ⟨b, 0, none⟩), .int .i64 A, .int .i64 B] w (BatchPost b S L N w) := by
  have := batch_any b S L A B w h hl
  rwa [hN, Int.toNat_natCast] at this

set_option maxRecDepth 100000 in
set_option maxHeartbeats 4000000 in
theorem batch_cut (w0 w : World) (b : Nat) (bu o cap n N : Nat) (L : List Int) (S : Nat → Prop) (A B : Int) (u : Value) (hN : manyZ (n : Nat) A B = (N : Nat)) (hn : L.length = n)
    (h : Bt w0 (w.alloc (.cells #[.int .i64 3, .int .i64 A, .int .i64 B, u] 48)) b (.slice (some ⟨bu, o, none⟩) n cap) (.slice (some ⟨bu, o + N, none⟩) (n - N) (cap - N)) (.slice (some ⟨bu, o, none⟩) N cap) L S (N)) (hl : L.length < 10000) (hS : ¬ S w.heap.size) (q0 : N ≤ n) (q1 : n ≤ cap) (q2 : ¬ cap = N) (q3 : ¬ cap = 0) :
    Calls Try.prog 31 #[.pointer (some ⟨b, 0, none⟩), .slice (some ⟨bu, o, none⟩) n cap, .agg #[.int .i64 3, .int .i64 A, .int .i64 B, u]] w (ActP w0 b (L.drop (N))) := by
  have HX : Hid (Blk (w.alloc (.cells #[.int .i64 3, .int .i64 A, .int .i64 B, u] 48)) w.heap.size #[.int .i64 3, .int .i64 A, .int .i64 B, u] 48) := Blk.new _ _ _
  have HS := Lib.hid hS
  have HBat := Lib.hid (batch_all b S L A B (N) (by rw [hn]; exact hN) (by omega))
  have HMany := Lib.hid (refmany_any (n : Nat) A B)
  rw [hN] at HMany
  have hn' : n < 10000 := by omega
  have HH := Lib.hid h
  clear h hN hl hn hS
  have q4 : (N : Int) ≤ (n : Int) := by omega
  have q5 : (N : Int) ≤ (cap : Int) := by omega
  have q6 : (0 : Int) ≤ (N : Int) := by omega
  go_enter Try.func31, Try.ntmps31
  go_wp2_with fail
  obtain ⟨wp, hwp⟩ : ∃ wp, wp = w.alloc (.cells #[.int .i64 3, .int .i64 A, .int .i64 B, u] 48) := ⟨_, rfl⟩
  rw [← hwp] at HX HH ⊢
  have c1 := HX.out.cell 1
  have c2 := HX.out.cell 2
  simp only [List.getElem?_toArray, List.getElem?_cons_zero, List.getElem?_cons_succ] at c1 c2
  clear hwp
  refine (HMany.out wp (by omega)).mono ?_
  rintro e w1 ⟨rfl, rfl⟩
  go_wp2_with fail
  go_region_held3 (fun w' => w'.cell? ⟨w.heap.size, 1, none⟩ = some (.int .i64 A) ∧ w'.cell? ⟨w.heap.size, 2, none⟩ = some (.int .i64 B)) (go_keep) (first | (go_at_call 18; refine (HBat.out _ (HH.out.st.queue.drewN 1)).mono ?_; rintro e w1 ⟨v1, S1, rfl, hown1, hQ1, hO1, hG1, hoff1⟩; have HO1 : Hid (Only S wp w1) := ⟨hO1.os, hO1.tape, hO1.output, hO1.size, hO1.block⟩; have HOwn1 := Lib.hid hown1; have HF := Lib.hid (HH.out.fin (v := v1) hQ1 HO1.out hG1); have hX1 := HX.out.only HO1.out HS.out; have k1 := hX1.cell 1; have k2 := hX1.cell 2; simp only [List.getElem?_toArray, List.getElem?_cons_zero, List.getElem?_cons_succ] at k1 k2; clear hO1 hown1 hQ1 hG1 hX1 hoff1) | (go_at_call 20; refine (Ref.same_yes _ _ _ _ (Sl.ofOwn HOwn1.out) HF.out.2.sl).mono ?_; rintro e w3 ⟨rfl, n3, rfl⟩))
  go_wp2
  go_ret2
  exact ⟨_, _, rfl, HF.out.1.drewN n3⟩

set_option maxRecDepth 100000 in
set_option maxHeartbeats 4000000 in
theorem batch_whole (w0 w : World) (b : Nat) (bu o N : Nat) (L : List Int) (S : Nat → Prop) (A B : Int) (u : Value) (hN : manyZ (N : Nat) A B = (N : Nat)) (hn : L.length = N)
    (h : Bt w0 (w.alloc (.cells #[.int .i64 3, .int .i64 A, .int .i64 B, u] 48)) b (.slice (some ⟨bu, o, none⟩) N N) (.slice (some ⟨bu, o, none⟩) 0 0) (.slice (some ⟨bu, o, none⟩) N N) L S (N)) (hl : L.length < 10000) (hS : ¬ S w.heap.size) (q3 : ¬ N = 0) :
    Calls Try.prog 31 #[.pointer (some ⟨b, 0, none⟩), .slice (some ⟨bu, o, none⟩) N N, .agg #[.int .i64 3, .int .i64 A, .int .i64 B, u]] w (ActP w0 b (L.drop (N))) := by
  have HX : Hid (Blk (w.alloc (.cells #[.int .i64 3, .int .i64 A, .int .i64 B, u] 48)) w.heap.size #[.int .i64 3, .int .i64 A, .int .i64 B, u] 48) := Blk.new _ _ _
  have HS := Lib.hid hS
  have HBat := Lib.hid (batch_all b S L A B (N) (by rw [hn]; exact hN) (by omega))
  have HMany := Lib.hid (refmany_any (N : Nat) A B)
  rw [hN] at HMany
  have hn' : N < 10000 := by omega
  have HH := Lib.hid h
  clear h hN hl hn hS
  have q6 : (0 : Int) ≤ (N : Int) := by omega
  go_enter Try.func31, Try.ntmps31
  go_wp2_with fail
  obtain ⟨wp, hwp⟩ : ∃ wp, wp = w.alloc (.cells #[.int .i64 3, .int .i64 A, .int .i64 B, u] 48) := ⟨_, rfl⟩
  rw [← hwp] at HX HH ⊢
  have c1 := HX.out.cell 1
  have c2 := HX.out.cell 2
  simp only [List.getElem?_toArray, List.getElem?_cons_zero, List.getElem?_cons_succ] at c1 c2
  clear hwp
  refine (HMany.out wp (by omega)).mono ?_
  rintro e w1 ⟨rfl, rfl⟩
  go_wp2_with fail
  go_region_held3 (fun w' => w'.cell? ⟨w.heap.size, 1, none⟩ = some (.int .i64 A) ∧ w'.cell? ⟨w.heap.size, 2, none⟩ = some (.int .i64 B)) (go_keep) (first | (go_at_call 18; refine (HBat.out _ (HH.out.st.queue.drewN 1)).mono ?_; rintro e w1 ⟨v1, S1, rfl, hown1, hQ1, hO1, hG1, hoff1⟩; have HO1 : Hid (Only S wp w1) := ⟨hO1.os, hO1.tape, hO1.output, hO1.size, hO1.block⟩; have HOwn1 := Lib.hid hown1; have HF := Lib.hid (HH.out.fin (v := v1) hQ1 HO1.out hG1); have hX1 := HX.out.only HO1.out HS.out; have k1 := hX1.cell 1; have k2 := hX1.cell 2; simp only [List.getElem?_toArray, List.getElem?_cons_zero, List.getElem?_cons_succ] at k1 k2; clear hO1 hown1 hQ1 hG1 hX1 hoff1) | (go_at_call 20; refine (Ref.same_yes _ _ _ _ (Sl.ofOwn HOwn1.out) HF.out.2.sl).mono ?_; rintro e w3 ⟨rfl, n3, rfl⟩))
  go_wp2
  go_ret2
  exact ⟨_, _, rfl, HF.out.1.drewN n3⟩

set_option maxRecDepth 100000 in
set_option maxHeartbeats 4000000 in
theorem batch_nil (w0 w : World) (b : Nat)  (L : List Int) (S : Nat → Prop) (A B : Int) (u : Value) (hN : manyZ (0 : Nat) A B = (0 : Nat)) (hn : L.length = 0)
    (h : Bt w0 (w.alloc (.cells #[.int .i64 3, .int .i64 A, .int .i64 B, u] 48)) b (.slice none 0 0) (.slice none 0 0) (.slice none 0 0) L S (0)) (hl : L.length < 10000) (hS : ¬ S w.heap.size)  :
    Calls Try.prog 31 #[.pointer (some ⟨b, 0, none⟩), .slice none 0 0, .agg #[.int .i64 3, .int .i64 A, .int .i64 B, u]] w (ActP w0 b (L.drop (0))) := by
  have HX : Hid (Blk (w.alloc (.cells #[.int .i64 3, .int .i64 A, .int .i64 B, u] 48)) w.heap.size #[.int .i64 3, .int .i64 A, .int .i64 B, u] 48) := Blk.new _ _ _
  have HS := Lib.hid hS
  have HBat := Lib.hid (batch_all b S L A B (0) (by rw [hn]; exact hN) (by omega))
  have HMany := Lib.hid (refmany_any (0 : Nat) A B)
  rw [hN] at HMany
  have hn' : 0 < 10000 := by omega
  have HH := Lib.hid h
  clear h hN hl hn hS
  go_enter Try.func31, Try.ntmps31
  go_wp2_with fail
  obtain ⟨wp, hwp⟩ : ∃ wp, wp = w.alloc (.cells #[.int .i64 3, .int .i64 A, .int .i64 B, u] 48) := ⟨_, rfl⟩
  rw [← hwp] at HX HH ⊢
  have c1 := HX.out.cell 1
  have c2 := HX.out.cell 2
  simp only [List.getElem?_toArray, List.getElem?_cons_zero, List.getElem?_cons_succ] at c1 c2
  clear hwp
  refine (HMany.out wp (by omega)).mono ?_
  rintro e w1 ⟨rfl, rfl⟩
  go_wp2_with fail
  go_region_held3 (fun w' => w'.cell? ⟨w.heap.size, 1, none⟩ = some (.int .i64 A) ∧ w'.cell? ⟨w.heap.size, 2, none⟩ = some (.int .i64 B)) (go_keep) (first | (go_at_call 18; refine (HBat.out _ (HH.out.st.queue.drewN 1)).mono ?_; rintro e w1 ⟨v1, S1, rfl, hown1, hQ1, hO1, hG1, hoff1⟩; have HO1 : Hid (Only S wp w1) := ⟨hO1.os, hO1.tape, hO1.output, hO1.size, hO1.block⟩; have HOwn1 := Lib.hid hown1; have HF := Lib.hid (HH.out.fin (v := v1) hQ1 HO1.out hG1); have hX1 := HX.out.only HO1.out HS.out; have k1 := hX1.cell 1; have k2 := hX1.cell 2; simp only [List.getElem?_toArray, List.getElem?_cons_zero, List.getElem?_cons_succ] at k1 k2; clear hO1 hown1 hQ1 hG1 hX1 hoff1) | (go_at_call 20; refine (Ref.same_yes _ _ _ _ (Sl.ofOwn HOwn1.out) HF.out.2.sl).mono ?_; rintro e w3 ⟨rfl, n3, rfl⟩))
  go_wp2
  go_ret2
  exact ⟨_, _, rfl, HF.out.1.drewN n3⟩

set_option maxRecDepth 100000 in
set_option maxHeartbeats 4000000 in
theorem batch_none (w0 w : World) (b : Nat) (ad : Addr) (L : List Int) (S : Nat → Prop) (A B : Int) (u : Value) (hN : manyZ (0 : Nat) A B = (0 : Nat)) (hn : L.length = 0)
    (h : Bt w0 (w.alloc (.cells #[.int .i64 3, .int .i64 A, .int .i64 B, u] 48)) b (.slice (some ad) 0 0) (.slice (some ad) 0 0) (.slice (some ad) 0 0) L S (0)) (hl : L.length < 10000) (hS : ¬ S w.heap.size)  :
    Calls Try.prog 31 #[.pointer (some ⟨b, 0, none⟩), .slice (some ad) 0 0, .agg #[.int .i64 3, .int .i64 A, .int .i64 B, u]] w (ActP w0 b (L.drop (0))) := by
  have HX : Hid (Blk (w.alloc (.cells #[.int .i64 3, .int .i64 A, .int .i64 B, u] 48)) w.heap.size #[.int .i64 3, .int .i64 A, .int .i64 B, u] 48) := Blk.new _ _ _
  have HS := Lib.hid hS
  have HBat := Lib.hid (batch_all b S L A B (0) (by rw [hn]; exact hN) (by omega))
  have HMany := Lib.hid (refmany_any (0 : Nat) A B)
  rw [hN] at HMany
  have hn' : 0 < 10000 := by omega
  have HH := Lib.hid h
  clear h hN hl hn hS
  go_enter Try.func31, Try.ntmps31
  go_wp2_with fail
  obtain ⟨wp, hwp⟩ : ∃ wp, wp = w.alloc (.cells #[.int .i64 3, .int .i64 A, .int .i64 B, u] 48) := ⟨_, rfl⟩
  rw [← hwp] at HX HH ⊢
  have c1 := HX.out.cell 1
  have c2 := HX.out.cell 2
  simp only [List.getElem?_toArray, List.getElem?_cons_zero, List.getElem?_cons_succ] at c1 c2
  clear hwp
  refine (HMany.out wp (by omega)).mono ?_
  rintro e w1 ⟨rfl, rfl⟩
  go_wp2_with fail
  go_region_held3 (fun w' => w'.cell? ⟨w.heap.size, 1, none⟩ = some (.int .i64 A) ∧ w'.cell? ⟨w.heap.size, 2, none⟩ = some (.int .i64 B)) (go_keep) (first | (go_at_call 18; refine (HBat.out _ (HH.out.st.queue.drewN 1)).mono ?_; rintro e w1 ⟨v1, S1, rfl, hown1, hQ1, hO1, hG1, hoff1⟩; have HO1 : Hid (Only S wp w1) := ⟨hO1.os, hO1.tape, hO1.output, hO1.size, hO1.block⟩; have HOwn1 := Lib.hid hown1; have HF := Lib.hid (HH.out.fin (v := v1) hQ1 HO1.out hG1); have hX1 := HX.out.only HO1.out HS.out; have k1 := hX1.cell 1; have k2 := hX1.cell 2; simp only [List.getElem?_toArray, List.getElem?_cons_zero, List.getElem?_cons_succ] at k1 k2; clear hO1 hown1 hQ1 hG1 hX1 hoff1) | (go_at_call 20; refine (Ref.same_yes _ _ _ _ (Sl.ofOwn HOwn1.out) HF.out.2.sl).mono ?_; rintro e w3 ⟨rfl, n3, rfl⟩))
  go_wp2
  go_ret2
  exact ⟨_, _, rfl, HF.out.1.drewN n3⟩

set_option maxRecDepth 100000 in
set_option maxHeartbeats 4000000 in
theorem batch_some (w0 w : World) (b : Nat) (ad : Addr) (cap : Nat) (L : List Int) (S : Nat → Prop) (A B : Int) (u : Value) (hN : manyZ (0 : Nat) A B = (0 : Nat)) (hn : L.length = 0)
    (h : Bt w0 (w.alloc (.cells #[.int .i64 3, .int .i64 A, .int .i64 B, u] 48)) b (.slice (some ad) 0 cap) (.slice (some ad) 0 cap) (.slice (some ad) 0 cap) L S (0)) (hl : L.length < 10000) (hS : ¬ S w.heap.size) (q3 : ¬ cap = 0) :
    Calls Try.prog 31 #[.pointer (some ⟨b, 0, none⟩), .slice (some ad) 0 cap, .agg #[.int .i64 3, .int .i64 A, .int .i64 B, u]] w (ActP w0 b (L.drop (0))) := by
  have HX : Hid (Blk (w.alloc (.cells #[.int .i64 3, .int .i64 A, .int .i64 B, u] 48)) w.heap.size #[.int .i64 3, .int .i64 A, .int .i64 B, u] 48) := Blk.new _ _ _
  have HS := Lib.hid hS
  have HBat := Lib.hid (batch_all b S L A B (0) (by rw [hn]; exact hN) (by omega))
  have HMany := Lib.hid (refmany_any (0 : Nat) A B)
  rw [hN] at HMany
  have hn' : 0 < 10000 := by omega
  have HH := Lib.hid h
  clear h hN hl hn hS
  have q6 : (0 : Int) ≤ (cap : Int) := by omega
  go_enter Try.func31, Try.ntmps31
  go_wp2_with fail
  obtain ⟨wp, hwp⟩ : ∃ wp, wp = w.alloc (.cells #[.int .i64 3, .int .i64 A, .int .i64 B, u] 48) := ⟨_, rfl⟩
  rw [← hwp] at HX HH ⊢
  have c1 := HX.out.cell 1
  have c2 := HX.out.cell 2
  simp only [List.getElem?_toArray, List.getElem?_cons_zero, List.getElem?_cons_succ] at c1 c2
  clear hwp
  refine (HMany.out wp (by omega)).mono ?_
  rintro e w1 ⟨rfl, rfl⟩
  go_wp2_with fail
  go_region_held3 (fun w' => w'.cell? ⟨w.heap.size, 1, none⟩ = some (.int .i64 A) ∧ w'.cell? ⟨w.heap.size, 2, none⟩ = some (.int .i64 B)) (go_keep) (first | (go_at_call 18; refine (HBat.out _ (HH.out.st.queue.drewN 1)).mono ?_; rintro e w1 ⟨v1, S1, rfl, hown1, hQ1, hO1, hG1, hoff1⟩; have HO1 : Hid (Only S wp w1) := ⟨hO1.os, hO1.tape, hO1.output, hO1.size, hO1.block⟩; have HOwn1 := Lib.hid hown1; have HF := Lib.hid (HH.out.fin (v := v1) hQ1 HO1.out hG1); have hX1 := HX.out.only HO1.out HS.out; have k1 := hX1.cell 1; have k2 := hX1.cell 2; simp only [List.getElem?_toArray, List.getElem?_cons_zero, List.getElem?_cons_succ] at k1 k2; clear hO1 hown1 hQ1 hG1 hX1 hoff1) | (go_at_call 20; refine (Ref.same_yes _ _ _ _ (Sl.ofOwn HOwn1.out) HF.out.2.sl).mono ?_; rintro e w3 ⟨rfl, n3, rfl⟩))
  go_wp2
  go_ret2
  exact ⟨_, _, rfl, HF.out.1.drewN n3⟩

end Go.Proofs.Ytgahkcbkpnehfaa.Glob
