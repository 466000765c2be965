/- Parts of the proof of TopReaches. -/
import Derived.Test.YtgadhchejmlfjaaGreatDoorC2
import Derived.Test.YtgadhchejmlfjaaGreatDoorB4
import Derived.Test.YtgadhchejmlfjaaGreatDoorK
set_option linter.unusedVariables false
set_option maxRecDepth 20000
section
namespace Go.Proofs.YtgadhchejmlfjaaGreatDoor.Evt
open Go.RowKit Go.Esc
open Go.Proofs.YtgadhchejmlfjaaGreatDoor.Txt (sc sc_snoc sc_len new1 info9 word_more joinC joinC_bound join_own Pow.below right_int)
structure EvS (w0:World) (wb:Nat) (ws:List (List UInt8)) (v:Value) (W:World):Prop where
 below:Below w0.heap.size w0 W
 cell:Blk W wb #[v] 170
 ge:w0.heap.size ≤ wb
 row:W.ownsRow w0.heap.size 9 1 v ws.length (sc ws)
theorem EvS.go {w0 W W':World} {wb:Nat} {ws:List (List UInt8)} {v:Value} (h:EvS w0 wb ws v W) (hB:Below W.heap.size W W'):EvS w0 wb ws v W':=
 ⟨h.below.trans (hB.mono h.below.size),h.cell.below hB h.cell.lt,h.ge,rowv_below h.row hB⟩
theorem EvS.ne {w0 W:World} {wb:Nat} {ws:List (List UInt8)} {v:Value} (h:EvS w0 wb ws v W):v.ownBlock ≠ some wb:=fun e=>by
 obtain ⟨cs,hc⟩:=row_type h.row e
 exact absurd (blk_type hc h.cell) (by decide)
theorem EvS.app {w0 W w3:World} {wb:Nat} {ws:List (List UInt8)} {v v':Value} {a:List UInt8} (h:EvS w0 wb ws v W) (hA:AppdV W w0.heap.size 9 1 v ws.length (sc ws) [.string ⟨a.toArray⟩] v' w3) :
  Blk w3 wb #[v] 170 ∧ EvS w0 wb (ws ++ [a]) v' (w3.setCell ⟨wb,0,none⟩ v'):=by
 have h3:Blk w3 wb #[v] 170:=h.cell.kept hA.2.1 (fun e=>h.ne e.symm)
 have hr:=word_more hA
 have hne:v'.ownBlock ≠ some wb:=fun e=>by
  obtain ⟨cs,hc⟩:=row_type hr e
  exact absurd (blk_type hc h3) (by decide)
 have o:Only (fun j=>j = wb) w3 (w3.setCell ⟨wb,0,none⟩ v'):=Only.set (S:=fun j=>j = wb) (Only.refl _ _) (.inr rfl) _ _
 refine ⟨h3,(below_grown h.below hA.2.1 (fun j hj=>(World.ownsRow.lt h.row j hj).1)).setCell h.ge _,h3.set 0 v',h.ge,rowv_off hr o (fun j hj e=>hne (by rw [hj,show j = wb from e]))⟩
theorem EvS.kept {w0 W w3:World} {wb lb:Nat} {ws:List (List UInt8)} {v v':Value} {ys:List Value} {cs:Array Value} {t:TypeId} (h:EvS w0 wb ws v W) (hl:Blk W lb cs t) (ht:t ≠ 9) (ht2:t ≠ 170) (hA:AppdV W w0.heap.size 9 1 v ws.length (sc ws) ys v' w3) (u:Value) :
  Blk (w3.setCell ⟨wb,0,none⟩ u) lb cs t:=by
 have h3:Blk w3 lb cs t:=hl.kept hA.2.1 (fun e=>by obtain ⟨c2,q⟩:=row_type h.row e.symm;exact ht (blk_type hl q))
 refine h3.setOther (fun e=>?_) _
 subst e
 exact ht2 (blk_type hl h.cell)
def numsW (l:List Int):List (List UInt8):=l.map Lib.itoa
theorem numsW_succ (l:List Int) (k:Nat) (x:Int) (h:l[k]? = some x):numsW (l.take (k + 1)) = numsW (l.take k) ++ [Lib.itoa x]:=by
 unfold numsW
 rw [List.take_add_one,h,List.map_append]
 rfl
set_option maxHeartbeats 4000000 in
theorem put_any (w0:World) (wb lb lc:Nat) (ws:List (List UInt8)) (v:Value) (l:List Int) (w:World) (hS:EvS w0 wb ws v w) (hL:Blk w lb (l.map fun (x:Int)=>Value.int .i64 x).toArray 3) (hl:l.length ≤ 100) (hx:∀ x ∈ l, -9223372036854775808 ≤ x ∧ x ≤ 9223372036854775807) (hws:ws.length ≤ 100) (hP:Shf.Pow w0) :
  Calls Tryz.prog 235 #[.slice (some ⟨lb,0,none⟩) l.length lc,.pointer (some ⟨wb,0,none⟩)] w fun e w'=>e = .returned (.tuple #[]) ∧ ∃ v',EvS w0 wb (ws ++ numsW l) v' w':=by
 have H0:=Lib.hid (And.intro hS (And.intro hL (And.intro hl (And.intro hx hws))))
 have HP:=Lib.hid hP
 clear hS hL hl hx hws hP
 go_enter Tryz.func235,Tryz.ntmps235
 go_wp2
 generalize hnl:l.length = nl at *
 have HNL:=Lib.hid hnl
 clear hnl
 go_loopw [7] (fun t wr=>∃ (k:Nat) (v1:Value),k ≤ nl ∧ t = .int .i64 k ∧ EvS w0 wb (ws ++ numsW (l.take k)) v1 wr ∧ Blk wr lb (l.map fun (x:Int)=>Value.int .i64 x).toArray 3) (fun t _=>nl - (intOf t).toNat)
 case atStart=>exact ⟨0,v,Nat.zero_le _,rfl,by simpa [numsW] using H0.out.1,H0.out.2.1⟩
 case round=>
  obtain ⟨k,v1,hk,rfl,hE,hB⟩:=hrel
  by_cases hlt:k < nl
  ·have hkn:(k:Int) < (nl:Int):=by omega
   have hkl:k < l.length:=by rw [HNL.out];exact hlt
   obtain ⟨x,hxk⟩:∃ x,l[k]? = some x:=⟨l[k],List.getElem?_eq_getElem hkl⟩
   have p0:=hB.cell k
   rw [List.getElem?_toArray,List.getElem?_map,hxk,Option.map_some] at p0
   obtain ⟨ws2,hws2⟩:∃ ws2,ws2 = ws ++ numsW (l.take k):=⟨_,rfl⟩
   rw [← hws2] at hE
   have HN:Hid (ws2.length ≤ 300):=by
    show ws2.length ≤ 300
    rw [hws2,List.length_append,numsW,List.length_map,List.length_take]
    have:=H0.out.2.2.1
    have:=H0.out.2.2.2.2
    omega
   obtain ⟨a,c,rfl⟩:=row_slice hE.row
   have c0:=hE.cell.cell 0
   simp only [List.getElem?_toArray,List.getElem?_cons_zero] at c0
   have HX:=Lib.hid (And.intro hxk (H0.out.2.2.2.1 x (List.mem_of_getElem? hxk)))
   have HW2:=Lib.hid hws2
   have hwl:=hE.cell.lt
   have hll:=hB.lt
   clear hxk hws2 hk
   generalize ws2 = ws2 at *
   have HS:=Lib.hid (And.intro hE hB)
   have hSW:Hid (∀ W',Below wr.heap.size wr W' → W'.cell? ⟨wb,0,none⟩ = some (.slice a ws2.length c)):=fun W' hW=>((hE.go hW).cell.cell 0)
   have hS0:Hid (wr.drew.cell? ⟨wb,0,none⟩ = some (.slice a ws2.length c)):=hSW.out _ (Below.refl _ _).drew
   clear hE hB
   go_wp2
   refine wp_region_m 5 (fun W'=>W'.cell? ⟨wb,0,none⟩ = some (.slice a ws2.length c)) (by kernel_rfl) ?_
   refine wpAnyM_take0 (i:=1) (v:=?_) rfl (by decide) (by kernel_rfl) (by kernel_rfl) (by kernel_rfl) (fun _ _ _ h=>h) (Or.inl ⟨by kernel_rfl,?_⟩) (fun _=>hS0.out) ?_
   rotate_left
   ·intro w';go_simp;try (with_reducible rfl)
   refine wpAnyM_take (i:=0) (v:=?_) rfl rfl (by kernel_rfl) (by kernel_rfl) (by kernel_rfl) (by kernel_rfl) (by kernel_rfl) (fun _ _ _ h=>h) (Or.inl ⟨by kernel_rfl,?_⟩) hS0.out ?_
   rotate_left
   ·intro w' hw';have s0:=hw';go_simp;try (with_reducible rfl)
   refine wpAnyM_ready (rs:=[2]) (by kernel_rfl) (by simp) ?_
   refine AllReadyM.cons rfl (fun K hK=>?_) AllReadyM.nil
   go_simp
   go_wp2_with (go_at_call 134;refine (Shf.itoa x HX.out.2.1 HX.out.2.2 _ (Pow.below HP.out (HS.out.1.below.trans ((Below.refl wr.heap.size wr).drew.mono HS.out.1.below.size)))).mono ?_;rintro e w3 ⟨rfl,hB⟩;have hB':=(Below.refl wr.heap.size wr).drew.trans hB;have HS3:=Lib.hid (And.intro (HS.out.1.go hB') (HS.out.2.below hB' HS.out.2.lt));have hS3:Hid (∀ W',Below w3.heap.size w3 W' → W'.cell? ⟨wb,0,none⟩ = some (.slice a ws2.length c)):=(fun W' hW=>((HS3.out.1.go hW).cell.cell 0));clear hB hB')
   refine ⟨fun _=>hS3.out _ (Below.refl _ _),?_⟩
   refine wpAnyM_ready (rs:=[3]) (by kernel_rfl) (by simp) ?_
   refine AllReadyM.cons rfl (fun K hK=>?_) AllReadyM.nil
   go_simp
   refine hK _ _ ⟨fun _=>hS3.out _ (by (repeat (first | exact Below.refl _ _ | refine Below.drew ?_ | refine below_alloc ?_ _))),?_⟩
   clear hK K
   refine wpAnyM_ready (rs:=[4]) (by kernel_rfl) (by simp) ?_
   refine AllReadyM.cons rfl (fun K hK=>?_) AllReadyM.nil
   (refine stepV Tryz.underlying170 info9 rfl (by decide) (by decide) w0.heap.size _ rfl (.tmp 11) (.tmp 14) rfl (.slice a ws2.length c) ws2.length (sc ws2) ⟨w3.heap.size,0,none⟩ 1 [.string ⟨(Lib.itoa x).toArray⟩] (by simp [Act.eval]) (by rfl) (.inl (rowv_below HS3.out.1.row (below_alloc (Below.refl _ _) _))) rfl (new1 w3 _ 9) (by simp [Value.oneCell']) (by have:=HS3.out.1.below.size;simp;omega) (by have:=HN.out;omega) ?_;intro v' w5 hA;obtain ⟨g5,c5,rfl⟩:=hA.some;have hq:=(HS3.out.1.go (below_alloc (Below.refl _ _) _)).app hA;have hl:=(HS3.out.1.go (below_alloc (Below.refl _ _) _)).kept (HS3.out.2.below (below_alloc (Below.refl _ _) _) HS3.out.2.lt) (by decide) (by decide) hA (.slice (some ⟨g5,0,none⟩) (ws2.length + 1) c5);have z0:=hq.1.cell 0;have u0:=hq.1.free 0;have hS5:Hid (∀ W',Below w5.heap.size w5 W' → W'.cell? ⟨wb,0,none⟩ = some (.slice a ws2.length c)):=(fun W' hW=>((hq.1.below hW hq.1.lt).cell 0));have HE:=Lib.hid (And.intro hq.2 hl);simp only [List.getElem?_toArray,List.getElem?_cons_zero] at z0;clear hA hq hl)
   refine hK _ _ ⟨fun _=>hS5.out _ (Below.refl _ _),?_⟩
   clear hK K
   refine wpAnyM_ready (rs:=[5]) (by kernel_rfl) (by simp) ?_
   refine AllReadyM.cons rfl (fun K hK=>?_) AllReadyM.nil
   go_simp
   refine hK _ _ ⟨(fun h=>absurd (h.symm.trans (show _ = true by kernel_rfl)) Bool.false_ne_true),?_⟩
   clear hK K
   refine wpAnyM_done (by kernel_rfl) ?_ _
   go_wp2
   have hq:=HE.out
   have hw:wrap64 ((k:Int) + 1) = ((k + 1:Nat):Int):=by have:=HNL.out;have:=H0.out.2.2.1;unfold wrap64;omega
   rw [hw]
   refine ⟨⟨k + 1,.slice (some ⟨g5,0,none⟩) (ws2.length + 1) c5,by omega,rfl,?_,hq.2⟩,by simp [intOf];omega⟩
   rw [numsW_succ l k x HX.out.1,← List.append_assoc,← HW2.out]
   exact hq.1
  ·obtain rfl:k = nl:=by omega
   rw [List.take_of_length_le (by rw [HNL.out];exact Nat.le_refl _)] at hE
   have HF:=Lib.hid hE
   clear hE hB hlt hk
   go_wp2
   go_end0
   exact ⟨rfl,_,HF.out⟩
end Go.Proofs.YtgadhchejmlfjaaGreatDoor.Evt
end
section
namespace Go.Proofs.YtgadhchejmlfjaaGreatDoor.Evt
open Go.RowKit Go.Esc
open Go.Proofs.YtgadhchejmlfjaaGreatDoor.Txt (sc sc_snoc sc_len new1 info9 word_more joinC joinC_bound join_own Pow.below right_int)
def kindW (k:Int):List UInt8:=if k = 1 then [98,101,103,105,110] else [99,111,109,109,105,116]
def evW (k g f p:Int) (n:Nat):List (List UInt8):=[kindW k] ++ numsW [g,f,p] ++ (if k = 2 then [Lib.decDigits n] else [])
def lineE (k g f p:Int) (n:Nat):List UInt8:=joinC 32 (evW k g f p n)
theorem evW_len (k g f p:Int) (n:Nat) (h:(1 ≤ g ∧ g < 65) ∧ (0 ≤ f ∧ f < 16) ∧ (0 ≤ p ∧ p < 64)) (hn:n < 100):evW k g f p n ≠ [] ∧ (evW k g f p n).length ≤ 5 ∧ (joinC 32 (evW k g f p n)).length ≤ 200:=by
 have hl:(evW k g f p n).length ≤ 5:=by
  unfold evW numsW
  by_cases e:k = 2 <;> simp [e]
 have r1:=(right_int g (by omega)).2.2.2.2
 have r2:=(right_int f (by omega)).2.2.2.2
 have r3:=(right_int p (by omega)).2.2.2.2
 have r4:(Lib.decDigits n).length ≤ 20:=by
  have:=(Txt.right_at n (by omega)).2.2.2.2
  unfold Lib.itoa at this
  rw [if_neg (by omega),Int.toNat_natCast] at this
  omega
 have hb:=joinC_bound 32 20 (evW k g f p n) (fun a ha=>by
  unfold evW numsW kindW at ha
  simp only [List.mem_append,List.map_cons,List.map_nil,List.mem_cons,List.not_mem_nil,or_false] at ha
  rcases ha with (ha | ha | ha | ha) | ha
  ·by_cases e:k = 1
   ·rw [if_pos e] at ha;rw [ha];decide
   ·rw [if_neg e] at ha;rw [ha];decide
  ·rw [ha];omega
  ·rw [ha];omega
  ·rw [ha];omega
  ·by_cases e:k = 2
   ·rw [if_pos e] at ha;simp at ha;rw [ha];exact r4
   ·rw [if_neg e] at ha;cases ha)
 refine ⟨by unfold evW;simp,hl,?_⟩
 have:(evW k g f p n).length * 21 ≤ 5 * 21:=Nat.mul_le_mul_right _ hl
 omega
theorem EvS.start {w0 w1:World} (hB:Below w0.heap.size w0 w1) (wd:List UInt8):EvS w0 (w1.heap.size + 1) [wd] (.slice (some ⟨w1.heap.size,0,none⟩) 1 1) ((w1.alloc (.cells #[.string ⟨wd.toArray⟩] 9)).alloc (.cells #[.slice (some ⟨w1.heap.size,0,none⟩) 1 1] 170)):=by
 have hb:Blk ((w1.alloc (.cells #[.string ⟨wd.toArray⟩] 9)).alloc (.cells #[.slice (some ⟨w1.heap.size,0,none⟩) 1 1] 170)) (w1.heap.size + 1) #[.slice (some ⟨w1.heap.size,0,none⟩) 1 1] 170:=by
  have:=Blk.new (w1.alloc (.cells #[.string ⟨wd.toArray⟩] 9)) #[.slice (some ⟨w1.heap.size,0,none⟩) 1 1] 170
  simpa using this
 have hr:Blk ((w1.alloc (.cells #[.string ⟨wd.toArray⟩] 9)).alloc (.cells #[.slice (some ⟨w1.heap.size,0,none⟩) 1 1] 170)) w1.heap.size #[.string ⟨wd.toArray⟩] 9:=(Blk.new w1 _ 9).below (below_alloc (Below.refl _ _) _) (by simp)
 exact ⟨below_alloc (below_alloc hB _) _,hb,Nat.le_succ_of_le hB.size,row_blk (n:=1) (size:=1) hr hB.size rfl (by decide)⟩
theorem nums3 (w:World) (o1 o2:Obj) (a b c:Int):Blk (((w.alloc o1).alloc o2).alloc (.cells #[.int .i64 a,.int .i64 b,.int .i64 c] 3)) (w.heap.size + 1 + 1) ([a,b,c].map fun (x:Int)=>Value.int .i64 x).toArray 3:=by
 have:=Blk.new ((w.alloc o1).alloc o2) #[.int .i64 a,.int .i64 b,.int .i64 c] 3
 simpa using this
theorem nums_fit {g f p:Int} (h:(1 ≤ g ∧ g < 65) ∧ (0 ≤ f ∧ f < 16) ∧ (0 ≤ p ∧ p < 64)):∀ x ∈ [g,f,p], -9223372036854775808 ≤ x ∧ x ≤ 9223372036854775807:=by
 intro x hx
 simp only [List.mem_cons,List.not_mem_nil,or_false] at hx
 rcases hx with rfl | rfl | rfl <;> omega
set_option maxHeartbeats 4000000 in
theorem eline_any (k g f p:Int) (n:Nat) (w:World) (h:EvOk k g f p n) (hn:n < 100) (hP:Shf.Pow w) :
  Calls Tryz.prog 161 #[.agg #[.int .i64 k,.int .i64 g,.int .i64 f,.int .i64 p,.int .i64 n]] w fun e w'=>e = .returned (.tuple #[.string ⟨(lineE k g f p n).toArray⟩,.int .i64 0]) ∧ Below w.heap.size w w':=by
 obtain ⟨W0,hW0⟩:∃ W0,w.alloc (.cells #[.int .i64 k,.int .i64 g,.int .i64 f,.int .i64 p,.int .i64 n] 38) = W0:=⟨_,rfl⟩
 have hb0:Blk W0 w.heap.size #[.int .i64 k,.int .i64 g,.int .i64 f,.int .i64 p,.int .i64 n] 38:=by rw [← hW0];exact Blk.new w _ 38
 have hB0:Below w.heap.size w W0:=by rw [← hW0];exact below_alloc (Below.refl _ _) _
 have hs0:W0.heap.size = w.heap.size + 1:=by rw [← hW0];simp
 have HS0:=Lib.hid hs0
 have HR:=Lib.hid (eright_any k g f p n W0 h)
 have HO:=Lib.hid h.2
 have HK:=h.1
 have HP:=Lib.hid (Pow.below hP hB0)
 have HB:=Lib.hid (And.intro hb0 hB0)
 have HL:=Lib.hid (evW_len k g f p n h.2 hn)
 have HN:=Lib.hid hn
 have HC:Hid (∀ W,Below W0.heap.size W0 W → W.cell? ⟨w.heap.size,0,none⟩ = some (.int .i64 k) ∧ W.cell? ⟨w.heap.size,1,none⟩ = some (.int .i64 g) ∧ W.cell? ⟨w.heap.size,2,none⟩ = some (.int .i64 f) ∧ W.cell? ⟨w.heap.size,3,none⟩ = some (.int .i64 p) ∧ W.cell? ⟨w.heap.size,4,none⟩ = some (.int .i64 n) ∧ w.heap.size < W.heap.size):=fun W hW=>by
  have k2:=hb0.below hW hb0.lt
  exact ⟨k2.cell 0,k2.cell 1,k2.cell 2,k2.cell 3,k2.cell 4,k2.lt⟩
 obtain ⟨a0,a1,a2,a3,a4,a5⟩:=HC.out W0 (Below.refl _ _)
 clear h hP hb0 hB0 hn hs0
 rcases HK with ⟨rfl,h0⟩ | rfl
 ·clear h0
  have e1:evW 1 g f p n = [[98,101,103,105,110]] ++ numsW [g,f,p]:=by simp [evW,kindW]
  rw [e1] at HL
  have HE1:=Lib.hid e1
  clear e1
  go_enter Tryz.func161,Tryz.ntmps161
  go_wp2_with (first
   | (go_at_call 234;refine HR.out.mono ?_;rintro e w1 ⟨rfl,hB1⟩;obtain ⟨b0,b1,b2,b3,b4,b5⟩:=HC.out w1 hB1;have m1:¬ w.heap.size = w1.heap.size:=(by omega);have m2:¬ w.heap.size = w1.heap.size + 1:=(by omega);have m3:¬ w.heap.size = w1.heap.size + 1 + 1:=(by omega);have l1:w.heap.size < w1.heap.size + 1:=(by omega);have l2:w.heap.size < w1.heap.size + 1 + 1:=(by omega);have HB1:=Lib.hid hB1;clear a0 a1 a2 a3 a4 a5 hB1)
   | (go_at_call 235;refine (put_any W0 (w1.heap.size + 1) (w1.heap.size + 1 + 1) 3 [[98,101,103,105,110]] _ [g,f,p] _ ((EvS.start HB1.out _).go (below_alloc (Below.refl _ _) _)) (nums3 _ _ _ _ _ _) (by simp) (nums_fit HO.out) (by simp) HP.out).mono ?_;rintro e w3 ⟨rfl,v3,hE⟩;obtain ⟨a,c,rfl⟩:=row_slice hE.row;obtain ⟨d0,d1,d2,d3,d4,d5⟩:=HC.out w3 hE.below;have k0:=hE.cell.cell 0;have hbl:=hE.cell.lt;simp only [List.getElem?_toArray,List.getElem?_cons_zero] at k0;have HE:=Lib.hid hE;clear hE)
   | (go_at_call 80;refine (join_own ([[98,101,103,105,110]] ++ numsW [g,f,p]) _ _ _ HE.out.row HL.out.1 (by have:=HL.out.2.1;omega) (by have:=HL.out.2.2;omega)).mono ?_;rintro e w8 ⟨rfl,hB⟩;have HB8:=Lib.hid ((HB.out.2.trans (HE.out.below.mono (by have:=HS0.out;omega))).trans (hB.mono (by have:=HE.out.below.size;have:=HS0.out;omega)));clear hB))
  go_ret2
  refine ⟨?_,HB8.out⟩
  unfold lineE
  rw [HE1.out]
  rfl
 ·have e1:evW 2 g f p n = [[99,111,109,109,105,116]] ++ numsW [g,f,p] ++ [Lib.decDigits n]:=by simp [evW,kindW]
  rw [e1] at HL
  have HE1:=Lib.hid e1
  clear e1
  go_enter Tryz.func161,Tryz.ntmps161
  go_wp2_with (first
   | (go_at_call 234;refine HR.out.mono ?_;rintro e w1 ⟨rfl,hB1⟩;obtain ⟨b0,b1,b2,b3,b4,b5⟩:=HC.out w1 hB1;have m1:¬ w.heap.size = w1.heap.size:=(by omega);have m2:¬ w.heap.size = w1.heap.size + 1:=(by omega);have m3:¬ w.heap.size = w1.heap.size + 1 + 1:=(by omega);have l1:w.heap.size < w1.heap.size + 1:=(by omega);have l2:w.heap.size < w1.heap.size + 1 + 1:=(by omega);have HB1:=Lib.hid hB1;clear a0 a1 a2 a3 a4 a5 hB1)
   | (go_at_call 235;refine (put_any W0 (w1.heap.size + 1) (w1.heap.size + 1 + 1) 3 [[99,111,109,109,105,116]] _ [g,f,p] _ ((EvS.start HB1.out _).go (below_alloc (Below.refl _ _) _)) (nums3 _ _ _ _ _ _) (by simp) (nums_fit HO.out) (by simp) HP.out).mono ?_;rintro e w3 ⟨rfl,v3,hE⟩;obtain ⟨a,c,rfl⟩:=row_slice hE.row;obtain ⟨d0,d1,d2,d3,d4,d5⟩:=HC.out w3 hE.below;have k0:=hE.cell.cell 0;have hbl:=hE.cell.lt;simp only [List.getElem?_toArray,List.getElem?_cons_zero] at k0;have HE:=Lib.hid hE;clear hE))
  have hSW:Hid (∀ W',Below w3.heap.size w3 W' → W'.cell? ⟨w1.heap.size + 1,0,none⟩ = some (.slice a ([[99,111,109,109,105,116]] ++ numsW [g,f,p]).length c) ∧ W'.cell? ⟨w.heap.size,4,none⟩ = some (.int .i64 n)):=fun W' hW=>⟨((HE.out.go hW).cell.cell 0),(HC.out W' (HE.out.go hW).below).2.2.2.2.1⟩
  have hS0:=Lib.hid (hSW.out _ (Below.refl _ _).drew)
  refine wp_region_m 6 (fun W'=>W'.cell? ⟨w1.heap.size + 1,0,none⟩ = some (.slice a ([[99,111,109,109,105,116]] ++ numsW [g,f,p]).length c) ∧ W'.cell? ⟨w.heap.size,4,none⟩ = some (.int .i64 n)) (by kernel_rfl) ?_
  refine wpAnyM_take0 (i:=1) (v:=?_) rfl (by decide) (by kernel_rfl) (by kernel_rfl) (by kernel_rfl) (fun _ _ _ h=>h) (Or.inl ⟨by kernel_rfl,?_⟩) (fun _=>hS0.out) ?_
  rotate_left
  ·intro w';go_simp;try (with_reducible rfl)
  refine wpAnyM_take (i:=0) (v:=?_) rfl rfl (by kernel_rfl) (by kernel_rfl) (by kernel_rfl) (by kernel_rfl) (by kernel_rfl) (fun _ _ _ h=>h) (Or.inl ⟨by kernel_rfl,?_⟩) hS0.out ?_
  rotate_left
  ·intro w' hw';obtain ⟨s0,s1⟩:=hw';go_simp;try (with_reducible rfl)
  refine wpAnyM_take (i:=2) (v:=?_) rfl rfl (by kernel_rfl) (by kernel_rfl) (by kernel_rfl) (by kernel_rfl) (by kernel_rfl) (fun _ _ _ h=>h) (Or.inl ⟨by kernel_rfl,?_⟩) hS0.out ?_
  rotate_left
  ·intro w' hw';obtain ⟨s0,s1⟩:=hw';go_simp;try (with_reducible rfl)
  refine wpAnyM_ready (rs:=[3]) (by kernel_rfl) (by simp) ?_
  refine AllReadyM.cons rfl (fun K hK=>?_) AllReadyM.nil
  go_simp
  go_wp2_with (go_at_call 136;refine (Shf.fint n HN.out _).mono ?_;rintro e w3' ⟨rfl,rfl⟩)
  refine ⟨fun _=>hSW.out _ (by (repeat (first | exact Below.refl _ _ | refine Below.drew ?_ | refine below_alloc ?_ _))),?_⟩
  refine wpAnyM_ready (rs:=[4]) (by kernel_rfl) (by simp) ?_
  refine AllReadyM.cons rfl (fun K hK=>?_) AllReadyM.nil
  go_simp
  refine hK _ _ ⟨fun _=>hSW.out _ (by (repeat (first | exact Below.refl _ _ | refine Below.drew ?_ | refine below_alloc ?_ _))),?_⟩
  clear hK K
  refine wpAnyM_ready (rs:=[5]) (by kernel_rfl) (by simp) ?_
  refine AllReadyM.cons rfl (fun K hK=>?_) AllReadyM.nil
  (refine stepV Tryz.underlying170 info9 rfl (by decide) (by decide) W0.heap.size _ rfl (.tmp 28) (.tmp 32) rfl (.slice a ([[99,111,109,109,105,116]] ++ numsW [g,f,p]).length c) ([[99,111,109,109,105,116]] ++ numsW [g,f,p]).length (sc ([[99,111,109,109,105,116]] ++ numsW [g,f,p])) ⟨w3.drew.heap.size,0,none⟩ 1 [.string ⟨(Lib.decDigits n).toArray⟩] (by simp [Act.eval]) (by rfl) (.inl (rowv_below HE.out.row (by (repeat (first | exact Below.refl _ _ | refine Below.drew ?_ | refine below_alloc ?_ _))))) rfl (new1 w3.drew _ 9) (by simp [Value.oneCell']) (by have:=HE.out.below.size;simp;omega) (by simp [numsW]) ?_;intro v' w5 hA;obtain ⟨g5,c5,rfl⟩:=hA.some;have hq:=(HE.out.go (W':=w3.drew.alloc (.cells #[.string ⟨(Lib.decDigits n).toArray⟩] 9)) (by (repeat (first | exact Below.refl _ _ | refine Below.drew ?_ | refine below_alloc ?_ _)))).app hA;have z0:=hq.1.cell 0;have u0:=hq.1.free 0;have hl5:=(HC.out w5 (below_grown (below_alloc HE.out.below.drew _) hA.2.1 (fun j hj=>(World.ownsRow.lt HE.out.row j hj).1))).2.2.2.2.1;have hS5:Hid (∀ W',Below w5.heap.size w5 W' → W'.cell? ⟨w1.heap.size + 1,0,none⟩ = some (.slice a ([[99,111,109,109,105,116]] ++ numsW [g,f,p]).length c) ∧ W'.cell? ⟨w.heap.size,4,none⟩ = some (.int .i64 n)):=(fun W' hW=>⟨((hq.1.below hW hq.1.lt).cell 0),(hW.cell (p:=⟨w.heap.size,4,none⟩) (HC.out w5 (below_grown (below_alloc HE.out.below.drew _) hA.2.1 (fun j hj=>(World.ownsRow.lt HE.out.row j hj).1))).2.2.2.2.2).trans hl5⟩);have HE5:=Lib.hid hq.2;simp only [List.getElem?_toArray,List.getElem?_cons_zero] at z0;clear hA hq hl5)
  refine hK _ _ ⟨fun _=>hS5.out _ (Below.refl _ _),?_⟩
  clear hK K
  refine wpAnyM_ready (rs:=[6]) (by kernel_rfl) (by simp) ?_
  refine AllReadyM.cons rfl (fun K hK=>?_) AllReadyM.nil
  go_simp
  refine hK _ _ ⟨(fun h=>absurd (h.symm.trans (show _ = true by kernel_rfl)) Bool.false_ne_true),?_⟩
  clear hK K
  refine wpAnyM_done (by kernel_rfl) ?_ _
  go_wp2_with (go_at_call 80;refine (join_own (([[99,111,109,109,105,116]] ++ numsW [g,f,p]) ++ [Lib.decDigits n]) _ _ _ HE5.out.row HL.out.1 (by have:=HL.out.2.1;omega) (by have:=HL.out.2.2;omega)).mono ?_;rintro e w8 ⟨rfl,hB⟩;have HB8:=Lib.hid ((HB.out.2.trans (HE5.out.below.mono (by have:=HS0.out;omega))).trans (hB.mono (by have:=HE5.out.below.size;have:=HS0.out;omega)));clear hB)
  go_ret2
  refine ⟨?_,HB8.out⟩
  unfold lineE
  rw [HE1.out]
  rfl
end Go.Proofs.YtgadhchejmlfjaaGreatDoor.Evt
end
section
namespace Go.Proofs.YtgadhchejmlfjaaGreatDoor.Evt
open Go.RowKit Go.Esc
open Go.Proofs.YtgadhchejmlfjaaGreatDoor.Txt (isb_below isb_new bytes_append byte_cells_append Pow.below)
abbrev Ev:=Int × Int × Int × Int × Int
def e0:Ev:=(0,0,0,0,0)
def EvIn (w:World) (lb lo:Nat) (l:List Ev):Prop:=
 ∀ k,k < l.length → w.cell? ⟨lb,lo + k * 5,none⟩ = some (.int .i64 (l[k]?.getD e0).1) ∧ w.cell? ⟨lb,lo + k * 5 + 1,none⟩ = some (.int .i64 (l[k]?.getD e0).2.1) ∧ w.cell? ⟨lb,lo + k * 5 + 2,none⟩ = some (.int .i64 (l[k]?.getD e0).2.2.1) ∧ w.cell? ⟨lb,lo + k * 5 + 3,none⟩ = some (.int .i64 (l[k]?.getD e0).2.2.2.1) ∧ w.cell? ⟨lb,lo + k * 5 + 4,none⟩ = some (.int .i64 (l[k]?.getD e0).2.2.2.2)
def EvFine (x:Ev):Prop:=EvOk x.1 x.2.1 x.2.2.1 x.2.2.2.1 x.2.2.2.2 ∧ 0 ≤ x.2.2.2.2 ∧ x.2.2.2.2 < 100
def lineX (x:Ev):List UInt8:=lineE x.1 x.2.1 x.2.2.1 x.2.2.2.1 x.2.2.2.2.toNat
def printE (l:List Ev):List UInt8:=l.flatMap fun x=>lineX x ++ [10]
theorem printE_snoc (l:List Ev) (x:Ev):printE (l ++ [x]) = printE l ++ (lineX x ++ [10]):=by simp [printE]
theorem lineX_len (x:Ev) (h:EvFine x):(lineX x).length ≤ 200:=(evW_len x.1 x.2.1 x.2.2.1 x.2.2.2.1 x.2.2.2.2.toNat h.1.2 (by have:=h.2;omega)).2.2
theorem printE_len (l:List Ev) (h:∀ x ∈ l,EvFine x):(printE l).length ≤ l.length * 201:=by
 induction l with
 | nil=>simp [printE]
 | cons x l ih=>
  have h1:=lineX_len x (h x (by simp))
  have h2:=ih (fun y hy=>h y (List.mem_cons_of_mem _ hy))
  simp only [printE,List.flatMap_cons,List.length_append,List.length_cons,List.length_nil] at h2 ⊢
  omega
theorem lineX_any (x:Ev) (w:World) (h:EvFine x) (hP:Shf.Pow w):Calls Tryz.prog 161 #[.agg #[.int .i64 x.1,.int .i64 x.2.1,.int .i64 x.2.2.1,.int .i64 x.2.2.2.1,.int .i64 x.2.2.2.2]] w fun e w'=>e = .returned (.tuple #[.string ⟨(lineX x).toArray⟩,.int .i64 0]) ∧ Below w.heap.size w w':=by
 obtain ⟨k,g,f,p,n⟩:=x
 obtain ⟨h1,h2,h3⟩:=h
 simp only at h1 h2 h3
 obtain ⟨m,rfl⟩:∃ m:Nat,n = m:=⟨n.toNat,by omega⟩
 exact eline_any k g f p m w h1 (by omega) hP
set_option maxHeartbeats 4000000 in
theorem eprint_any (l:List Ev) (lb lo lc:Nat) (w:World) (hE:EvIn w lb lo l) (hlb:lb < w.heap.size) (hf:∀ x ∈ l,EvFine x) (hln:l.length ≤ 65536) (hp:Shf.Pow w) :
  Calls Tryz.prog 101 #[.slice (some ⟨lb,lo,none⟩) l.length lc] w fun e w'=>e = .returned (.tuple #[.string ⟨(printE l).toArray⟩,.int .i64 0]) ∧ Below w.heap.size w w':=by
 have H0:=Lib.hid (And.intro hE (And.intro hlb (And.intro hf (And.intro hln hp))))
 clear hE hlb hf hln hp
 go_enter Tryz.func101,Tryz.ntmps101
 go_wp2
 generalize hnl:l.length = nl at *
 have HNL:=Lib.hid hnl
 clear hnl
 go_loopw [11] (fun t wr=>∃ k:Nat,k ≤ nl ∧ t = .int .i64 k ∧ Lib.IsBuilder 152 5 w.heap.size w.heap.size (Lib.byteCells (printE (l.take k))) wr ∧ Below w.heap.size w wr) (fun t _=>nl - (intOf t).toNat)
 case atStart=>exact ⟨0,Nat.zero_le _,rfl,isb_new w 152 5,below_alloc (Below.refl _ _) _⟩
 case round=>
  obtain ⟨k,hk,rfl,hI,hB⟩:=hrel
  by_cases hlt:k < nl
  ·have hkn:(k:Int) < (nl:Int):=by omega
   have hlr:lb < wr.heap.size:=Nat.lt_of_lt_of_le H0.out.2.1 hB.size
   obtain ⟨p0,p1,p2,p3,p4⟩:=H0.out.1 k (by rw [HNL.out];exact hlt)
   have hc:∀ i,wr.cell? ⟨lb,i,none⟩ = w.cell? ⟨lb,i,none⟩:=fun i=>hB.cell (p:=⟨lb,i,none⟩) H0.out.2.1
   rw [← hc] at p0 p1 p2 p3 p4
   obtain ⟨x,hx⟩:∃ x,l[k]?.getD e0 = x:=⟨_,rfl⟩
   have hxl:l[k]? = some x:=by rw [List.getElem?_eq_getElem (by rw [HNL.out];exact hlt)] at hx ⊢;exact congrArg some hx
   rw [hx] at p0 p1 p2 p3 p4
   have hfx:EvFine x:=H0.out.2.2.1 _ (List.mem_of_getElem? hxl)
   have HLn:=Lib.hid (lineX_any x (wr.alloc (.cells #[.int .i64 x.1,.int .i64 x.2.1,.int .i64 x.2.2.1,.int .i64 x.2.2.2.1,.int .i64 x.2.2.2.2] 38)) hfx (Pow.below H0.out.2.2.2.2 (hB.alloc hB.size _)))
   have HI:=Lib.hid (isb_below hI (below_alloc (Below.refl wr.heap.size wr) (.cells #[.int .i64 x.1,.int .i64 x.2.1,.int .i64 x.2.2.1,.int .i64 x.2.2.2.1,.int .i64 x.2.2.2.2] 38)))
   have HB:=Lib.hid (hB.alloc hB.size (.cells #[.int .i64 x.1,.int .i64 x.2.1,.int .i64 x.2.2.1,.int .i64 x.2.2.2.1,.int .i64 x.2.2.2.2] 38))
   have HX:=Lib.hid (And.intro hxl hfx)
   have n1:¬ 9223372036854775807 < (lineX x).length + 1:=by have:=lineX_len _ hfx;omega
   have HK:=Lib.hid hk
   have HLen:Hid ((Lib.byteCells (printE (l.take k))).length + ((⟨(lineX x).toArray⟩:ByteArray) ++ ⟨#[10]⟩).size ≤ 140737488355328):=by
    have e1:=printE_len (l.take k) (fun y hy=>H0.out.2.2.1 y (List.mem_of_mem_take hy))
    have e2:=lineX_len _ hfx
    have e3:(l.take k).length ≤ 65536:=by have:=H0.out.2.2.2.1;rw [List.length_take];omega
    rw [show (⟨#[10]⟩:ByteArray) = ⟨([10]:List UInt8).toArray⟩ from rfl,bytes_append]
    show (Lib.byteCells (printE (l.take k))).length + ((lineX x ++ [10]).toArray).size ≤ _
    simp only [Lib.byteCells,List.length_map,List.size_toArray,List.length_append,List.length_cons,List.length_nil]
    omega
   clear hB hI hc hx hxl hfx hk
   go_wp2_with (first
    | (go_at_call 161;refine HLn.out.mono ?_;rintro e w1 ⟨rfl,hB1⟩;have HI1:=Lib.hid (isb_below HI.out hB1);have HB1:=Lib.hid (HB.out.trans (hB1.mono HB.out.size));clear hB1)
    | (go_at_call 70;refine (Shf.wstr _ _ _ _ _ HI1.out HLen.out HB1.out.size).mono ?_;rintro e w2 ⟨rfl,hI2,hB2⟩;have HI2:=Lib.hid hI2;have HB2:=Lib.hid (HB1.out.trans hB2);clear hI2 hB2))
   have hw:wrap64 ((k:Int) + 1) = ((k + 1:Nat):Int):=by have:=H0.out.2.2.2.1;unfold wrap64;omega
   rw [hw]
   refine ⟨⟨k + 1,by omega,rfl,.inr ?_,HB2.out⟩,by simp [intOf];omega⟩
   have q:=HI2.out
   rw [show (⟨#[10]⟩:ByteArray) = ⟨([10]:List UInt8).toArray⟩ from rfl,bytes_append,Lib.strCells_eq,← byte_cells_append] at q
   rw [List.take_add_one,HX.out.1,Option.toList_some,printE_snoc]
   exact q
  ·obtain rfl:k = nl:=by omega
   rw [List.take_of_length_le (by rw [HNL.out];exact Nat.le_refl _)] at hI
   have HS:=Lib.hid (Shf.bstr _ _ _ _ hI hB.size)
   have HB:=Lib.hid hB
   clear hI hB hlt hk
   go_wp2_with (go_at_call 72;refine HS.out.mono ?_;rintro e w2 ⟨rfl,hB2⟩;have HB2:=Lib.hid (HB.out.trans hB2);clear hB2)
   go_ret2
   exact ⟨rfl,HB2.out⟩
end Go.Proofs.YtgadhchejmlfjaaGreatDoor.Evt
end
