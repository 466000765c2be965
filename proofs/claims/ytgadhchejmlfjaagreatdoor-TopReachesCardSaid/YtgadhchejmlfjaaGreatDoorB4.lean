/- Parts of the proof of TopReaches. -/
import Derived.Test.YtgadhchejmlfjaaGreatDoorB1
import Derived.Test.YtgadhchejmlfjaaGreatDoorB3
set_option linter.unusedVariables false
set_option maxRecDepth 20000
section
namespace Go.Proofs.YtgadhchejmlfjaaGreatDoor.Val
open Go.RowKit Go.Esc
set_option maxHeartbeats 2000000 in
theorem out_any (n most:Int) (w:World) (h:1 ≤ n ∧ n ≤ most):Calls Tryz.prog 106 #[.int .i64 n,.int .i64 most] w fun e w'=>e = .returned (.bool false) ∧ w = w':=by
 have d1:decide (n < 1) = false:=by simpa using h.1
 have d2:decide (n > most) = false:=by simpa using h.2
 have d3:decide (most < n) = false:=by simpa using h.2
 have d4:(1:Int) ≤ n:=h.1
 have d5:n ≤ most:=h.2
 clear h
 go_enter Tryz.func106,Tryz.ntmps106
 go_wp2
 go_ret
 exact ⟨rfl,rfl⟩
set_option maxHeartbeats 2000000 in
theorem conf_any (p g m:Int) (w:World) (hp:1 ≤ p ∧ p ≤ 256) (hg:1 ≤ g ∧ g ≤ 64) (hm:1 ≤ m ∧ m ≤ 64):Calls Tryz.prog 41 #[.agg #[.int .i64 p,.int .i64 g,.int .i64 m]] w fun e w'=>e = .returned (.int .i64 0) ∧ Below w.heap.size w w':=by
 have H:=Lib.hid (And.intro hp (And.intro hg hm))
 clear hp hg hm
 go_enter Tryz.func41,Tryz.ntmps41
 go_wp2_with (go_at_call 106;refine (out_any _ _ _ (by first | exact H.out.1 | exact H.out.2.1 | exact H.out.2.2)).mono ?_;rintro e w1 ⟨rfl,rfl⟩)
 go_ret
 exact ⟨rfl,below_alloc (Below.refl _ _) _⟩
end Go.Proofs.YtgadhchejmlfjaaGreatDoor.Val
end
section
namespace Go.Proofs.YtgadhchejmlfjaaGreatDoor.Val
open Go.RowKit Go.Esc
open Go.Proofs.YtgadhchejmlfjaaGreatDoor.Isa (row rows Laid)
def isaB (op n places funcs:Int):Bool:=
 !(row op).name.isEmpty && (if (row op).target = 0 then decide (n = 0) || (row op).number else if (row op).target = 2 then decide (0 ≤ n ∧ n < funcs) else decide (0 ≤ n ∧ n < places))
set_option maxHeartbeats 4000000 in
theorem check_any (op n places funcs:Int) (w:World) (hL:Laid w) (h:isaB op n places funcs = true) (hp:places ≤ 9223372036854775807) (hf:funcs ≤ 9223372036854775807) (hn:0 ≤ n → n ≤ 9223372036854775807) :
  Calls Tryz.prog 131 #[.agg #[.int .i64 op,.int .i64 0,.int .i64 0,.int .i64 0,.int .i64 n],.int .i64 places,.int .i64 funcs] w fun e w'=>e = .returned (.int .i64 0) ∧ Below w.heap.size w w':=by
 have h0:Below w.heap.size w (w.alloc (.cells #[.int .i64 op,.int .i64 0,.int .i64 0,.int .i64 0,.int .i64 n] 84)):=below_alloc (Below.refl _ _) _
 have HO:=Lib.hid (Isa.of_any op _ (hL.below h0))
 unfold isaB at h
 obtain ⟨r,hr⟩:∃ r,row op = r:=⟨_,rfl⟩
 unfold Isa.OfP Isa.agg at HO
 rw [hr] at h HO
 have b0:Blk (w.alloc (.cells #[.int .i64 op,.int .i64 0,.int .i64 0,.int .i64 0,.int .i64 n] 84)) w.heap.size #[.int .i64 op,.int .i64 0,.int .i64 0,.int .i64 0,.int .i64 n] 84:=Blk.new w _ 84
 have HB:=Lib.hid (And.intro h0 b0)
 obtain ⟨rn,rr,rt,rnum,rw',re,ra⟩:=r
 simp only [Bool.and_eq_true,Bool.not_eq_true'] at h
 obtain ⟨hne,hcond⟩:=h
 have HC:=Lib.hid hcond
 clear hL h0 hr b0 hcond
 go_enter Tryz.func131,Tryz.ntmps131
 go_wp2_with (go_at_call 162;refine HO.out.mono ?_;rintro e w1 ⟨rfl,hB⟩;have hP:=(HB.out.2.below hB HB.out.2.lt).below (below_alloc (Below.refl w1.heap.size w1) (.cells #[.string ⟨rn.toArray⟩,.int .i64 rr,.int .i64 rt,.bool rnum,.bool rw',.bool re,.bool ra] 258)) (HB.out.2.below hB HB.out.2.lt).lt;have q1:=hP.cell 1;have q2:=hP.cell 2;have q3:=hP.cell 3;have q4:=hP.cell 4;simp only [List.getElem?_toArray,List.getElem?_cons_zero,List.getElem?_cons_succ] at q1 q2 q3 q4;have HW:=Lib.hid (HB.out.1.trans ((hB.alloc hB.size (.cells #[.string ⟨rn.toArray⟩,.int .i64 rr,.int .i64 rt,.bool rnum,.bool rw',.bool re,.bool ra] 258)).mono HB.out.1.size));clear hB hP)
 have p:=Blk.new w1 #[.string ⟨rn.toArray⟩,.int .i64 rr,.int .i64 rt,.bool rnum,.bool rw',.bool re,.bool ra] 258
 have p1:=p.cell 1
 have p2:=p.cell 2
 have p3:=p.cell 3
 simp only [List.getElem?_toArray,List.getElem?_cons_zero,List.getElem?_cons_succ] at p1 p2 p3
 clear p HO HB
 generalize w1.alloc (.cells #[.string ⟨rn.toArray⟩,.int .i64 rr,.int .i64 rt,.bool rnum,.bool rw',.bool re,.bool ra] 258) = W at *
 generalize w1.heap.size = L7 at *
 generalize hL3:w.heap.size = L3 at *
 go_loop [8,25] (fun t8 t25=>∃ k:Nat,k ≤ 3 ∧ t8 = .bool false ∧ t25 = .int .i64 k) (fun _ t=>3 - (intOf t).toNat)
 case atStart=>exact ⟨0,by omega,rfl,rfl⟩
 case round=>
  obtain ⟨k,hk,rfl,rfl⟩:=hrel
  have HL3:=Lib.hid hL3
  have hix0:∀ W,(Instr.index 237 (.agg #[.int .i64 0,.int .i64 0,.int .i64 0]) (.int .i64 0)).run Tryz.prog W = .ok (.int .i64 0) W:=fun _=>by kernel_rfl
  have hix1:∀ W,(Instr.index 237 (.agg #[.int .i64 0,.int .i64 0,.int .i64 0]) (.int .i64 1)).run Tryz.prog W = .ok (.int .i64 0) W:=fun _=>by kernel_rfl
  have hix2:∀ W,(Instr.index 237 (.agg #[.int .i64 0,.int .i64 0,.int .i64 0]) (.int .i64 2)).run Tryz.prog W = .ok (.int .i64 0) W:=fun _=>by kernel_rfl
  clear hL3
  rcases (show k = 0 ∨ k = 1 ∨ k = 2 ∨ k = 3 by omega) with rfl | rfl | rfl | rfl
  ·by_cases hr:(0:Int) < rr
   ·go_wp2
    go_round
    case rel=>exact ⟨1,by omega,rfl,rfl⟩
    case measure=>simp [intOf]
   ·have hr2:rr ≤ 0:=by omega
    go_wp2
    go_round
    case rel=>exact ⟨1,by omega,rfl,rfl⟩
    case measure=>simp [intOf]
  ·by_cases hr:(1:Int) < rr
   ·go_wp2
    go_round
    case rel=>exact ⟨2,by omega,rfl,rfl⟩
    case measure=>simp [intOf]
   ·have hr2:rr ≤ 1:=by omega
    go_wp2
    go_round
    case rel=>exact ⟨2,by omega,rfl,rfl⟩
    case measure=>simp [intOf]
  ·by_cases hr:(2:Int) < rr
   ·go_wp2
    go_round
    case rel=>exact ⟨3,by omega,rfl,rfl⟩
    case measure=>simp [intOf]
   ·have hr2:rr ≤ 2:=by omega
    go_wp2
    go_round
    case rel=>exact ⟨3,by omega,rfl,rfl⟩
    case measure=>simp [intOf]
  ·have hc:=HC.out
   clear HC
   by_cases h0:rt = 0
   ·rw [if_pos h0] at hc
    subst h0
    by_cases hn0:n = 0
    ·subst hn0
     clear hc
     go_wp2
     go_ret
     exact ⟨rfl,by rw [HL3.out];exact HW.out⟩
    ·have d1:(n != 0) = true:=by simpa using hn0
     have d2:rnum = true:=by simpa [hn0] using hc
     subst d2
     clear hc hn0
     go_wp2
     go_ret
     exact ⟨rfl,by rw [HL3.out];exact HW.out⟩
   ·rw [if_neg h0] at hc
    have d0:(rt == 0) = false:=by simpa using h0
    by_cases h2:rt = 2
    ·rw [if_pos h2] at hc
     subst h2
     have hc2:0 ≤ n ∧ n < funcs:=by simpa using hc
     obtain ⟨e1,e2⟩:=hc2
     have e3:decide (n < 0) = false:=by simp;omega
     have e4:decide (funcs ≤ n) = false:=by simp;omega
     clear hc h0 d0
     go_wp2
     go_ret
     exact ⟨rfl,by rw [HL3.out];exact HW.out⟩
    ·rw [if_neg h2] at hc
     have d2:(rt == 2) = false:=by simpa using h2
     have hc2:0 ≤ n ∧ n < places:=by simpa using hc
     obtain ⟨e1,e2⟩:=hc2
     have e3:decide (n < 0) = false:=by simp;omega
     have e4:decide (places ≤ n) = false:=by simp;omega
     clear hc h0 h2
     go_wp2
     go_ret
     exact ⟨rfl,by rw [HL3.out];exact HW.out⟩
end Go.Proofs.YtgadhchejmlfjaaGreatDoor.Val
end
section
namespace Go.Proofs.YtgadhchejmlfjaaGreatDoor.Val
open Go.RowKit Go.Esc
open Go.Proofs.YtgadhchejmlfjaaGreatDoor.Isa (row rows Laid)
open Go.Proofs.YtgadhchejmlfjaaGreatDoor.Vm (Ins)
def CodeIn (w:World) (cb co:Nat) (l:List Ins):Prop:=
 cb < w.heap.size ∧ ∀ i,i < l.length → w.cell? ⟨cb,co + i * 5,none⟩ = some (.int .i64 (l[i]?.getD ⟨0,0,0,0,0⟩).op) ∧ w.cell? ⟨cb,co + i * 5 + 1,none⟩ = some (.int .i64 (l[i]?.getD ⟨0,0,0,0,0⟩).a) ∧ w.cell? ⟨cb,co + i * 5 + 2,none⟩ = some (.int .i64 (l[i]?.getD ⟨0,0,0,0,0⟩).b) ∧ w.cell? ⟨cb,co + i * 5 + 3,none⟩ = some (.int .i64 (l[i]?.getD ⟨0,0,0,0,0⟩).c) ∧ w.cell? ⟨cb,co + i * 5 + 4,none⟩ = some (.int .i64 (l[i]?.getD ⟨0,0,0,0,0⟩).n)
theorem CodeIn.below {w w':World} {cb co:Nat} {l:List Ins} (h:CodeIn w cb co l) (hB:Below w.heap.size w w'):CodeIn w' cb co l:=
 ⟨Nat.lt_of_lt_of_le h.1 hB.size,fun i hi=>by
  have k:=h.2 i hi
  rw [← hB.cell (p:=⟨cb,co + i * 5,none⟩) h.1,← hB.cell (p:=⟨cb,co + i * 5 + 1,none⟩) h.1,← hB.cell (p:=⟨cb,co + i * 5 + 2,none⟩) h.1,← hB.cell (p:=⟨cb,co + i * 5 + 3,none⟩) h.1,← hB.cell (p:=⟨cb,co + i * 5 + 4,none⟩) h.1] at k
  exact k⟩
def placeB (l:List Ins) (sf:List Bool) (funcs:Int) (k:Nat):Bool:=
 match l[k]? with
 | some i=>decide (i.a = 0 ∧ i.b = 0 ∧ i.c = 0) && isaB i.op i.n l.length funcs && (!(row i.op).waits || (Dec.safeB sf k && Dec.safeB sf (k + 1)))
 | none=>false
set_option maxHeartbeats 4000000 in
theorem place_any (cb co cc sb so sc:Nat) (l:List Ins) (sf:List Bool) (k:Nat) (funcs:Int) (w:World) (hL:Laid w) (hC:CodeIn w cb co l) (hS:Dec.Bs w (.slice (some ⟨sb,so,none⟩) sf.length sc) sf) (hk:k < l.length) (hl:l.length ≤ 100000) (hf:funcs ≤ 100000) (hn:∀ i,l[k]? = some i → i.n ≤ 9223372036854775807) (h:placeB l sf funcs k = true) :
  Calls Tryz.prog 163 #[.agg #[.slice (some ⟨cb,co,none⟩) l.length cc,.slice (some ⟨sb,so,none⟩) sf.length sc],.int .i64 k,.int .i64 funcs] w fun e w'=>e = .returned (.int .i64 0) ∧ Below w.heap.size w w':=by
 unfold placeB at h
 have hn2:=hn
 clear hn
 cases hi:l[k]? with
 | none=>rw [hi] at h;cases h
 | some i=>
 rw [hi] at h
 have hn3:=hn2 i hi
 clear hn2
 obtain ⟨op,ia,ib,ic,n⟩:=i
 simp only at hn3
 simp only [Bool.and_eq_true,decide_eq_true_eq] at h
 obtain ⟨⟨⟨rfl,rfl,rfl⟩,hI⟩,hW⟩:=h
 have hc:=hC.2 k hk
 rw [hi] at hc
 simp only [Option.getD_some] at hc
 obtain ⟨c0,c1,c2,c3,c4⟩:=hc
 have hcb:=hC.1
 generalize hn0:l.length = nl at *
 have hkl:(k:Int) < (nl:Int):=by omega
 have HK:Hid (∀ W,Below w.heap.size w W → Laid W ∧ Dec.Bs W (.slice (some ⟨sb,so,none⟩) sf.length sc) sf):=fun W hB=>⟨hL.below hB,hS.below hB⟩
 have HI:=Lib.hid (And.intro hI hW)
 have hw1:(nl:Int) ≤ 9223372036854775807:=by omega
 have hw2:funcs ≤ 9223372036854775807:=by omega
 have HWz:=Lib.hid (And.intro hw1 hw2)
 have hk1:(k:Int) ≤ 100000:=by omega
 have hB0:Below w.heap.size w ((w.alloc (.cells #[.slice (some ⟨cb,co,none⟩) nl cc,.slice (some ⟨sb,so,none⟩) sf.length sc] 87)).alloc (.cells #[.int .i64 op,.int .i64 0,.int .i64 0,.int .i64 0,.int .i64 n] 84)):=below_alloc (below_alloc (Below.refl _ _) _) _
 have b3:Blk ((w.alloc (.cells #[.slice (some ⟨cb,co,none⟩) nl cc,.slice (some ⟨sb,so,none⟩) sf.length sc] 87)).alloc (.cells #[.int .i64 op,.int .i64 0,.int .i64 0,.int .i64 0,.int .i64 n] 84)) w.heap.size #[.slice (some ⟨cb,co,none⟩) nl cc,.slice (some ⟨sb,so,none⟩) sf.length sc] 87:=(Blk.new w _ 87).below (below_alloc (Below.refl _ _) _) (by simp)
 have b7:Blk ((w.alloc (.cells #[.slice (some ⟨cb,co,none⟩) nl cc,.slice (some ⟨sb,so,none⟩) sf.length sc] 87)).alloc (.cells #[.int .i64 op,.int .i64 0,.int .i64 0,.int .i64 0,.int .i64 n] 84)) (w.heap.size + 1) #[.int .i64 op,.int .i64 0,.int .i64 0,.int .i64 0,.int .i64 n] 84:=by
  have q:=Blk.new (w.alloc (.cells #[.slice (some ⟨cb,co,none⟩) nl cc,.slice (some ⟨sb,so,none⟩) sf.length sc] 87)) #[.int .i64 op,.int .i64 0,.int .i64 0,.int .i64 0,.int .i64 n] 84
  simpa using q
 have HB:=Lib.hid (And.intro hB0 (And.intro b3 b7))
 clear hL hC hS hi hI hW hn0 hl hf hw1 hw2 hB0 b3 b7
 have e1:cb < w.heap.size + 1:=by omega
 cases hwt:(row op).waits with
 | false=>
  have HWt:=Lib.hid hwt
  clear hwt
  go_enter Tryz.func163,Tryz.ntmps163
  go_wp2_with (first
   | (go_at_call 131;refine (check_any op n nl funcs _ (HK.out _ HB.out.1).1 HI.out.1 HWz.out.1 HWz.out.2 (fun _=>hn3)).mono ?_;rintro e w1 ⟨rfl,hB⟩;have h3:=HB.out.2.1.below hB HB.out.2.1.lt;have h7:=HB.out.2.2.below hB HB.out.2.2.lt;have q0:=h3.cell 0;have q1:=h3.cell 1;have p0:=h7.cell 0;simp only [List.getElem?_toArray,List.getElem?_cons_zero,List.getElem?_cons_succ] at q0 q1 p0;have HB1:=Lib.hid (And.intro (HB.out.1.trans (hB.mono HB.out.1.size)) (And.intro h3 h7));clear hB h3 h7)
   | (go_at_call 104;refine (Isa.waits_any op _ (HK.out _ HB1.out.1).1).mono ?_;rintro e w2 ⟨rfl,hB⟩;rw [HWt.out];have h3:=HB1.out.2.1.below hB HB1.out.2.1.lt;have q0:=h3.cell 0;have q1:=h3.cell 1;simp only [List.getElem?_toArray,List.getElem?_cons_zero,List.getElem?_cons_succ] at q0 q1;have HB2:=Lib.hid (And.intro (HB1.out.1.trans (hB.mono HB1.out.1.size)) h3);clear hB h3))
  go_ret
  exact ⟨rfl,HB2.out.1⟩
 | true=>
  have HWt:=Lib.hid hwt
  have hs:=HI.out.2
  rw [hwt] at hs
  simp only [Bool.not_true,Bool.false_or,Bool.and_eq_true] at hs
  have HSf:=Lib.hid hs
  clear hwt hs
  go_enter Tryz.func163,Tryz.ntmps163
  go_wp2_with (first
   | (go_at_call 131;refine (check_any op n nl funcs _ (HK.out _ HB.out.1).1 HI.out.1 HWz.out.1 HWz.out.2 (fun _=>hn3)).mono ?_;rintro e w1 ⟨rfl,hB⟩;have h3:=HB.out.2.1.below hB HB.out.2.1.lt;have h7:=HB.out.2.2.below hB HB.out.2.2.lt;have q0:=h3.cell 0;have q1:=h3.cell 1;have p0:=h7.cell 0;simp only [List.getElem?_toArray,List.getElem?_cons_zero,List.getElem?_cons_succ] at q0 q1 p0;have HB1:=Lib.hid (And.intro (HB.out.1.trans (hB.mono HB.out.1.size)) (And.intro h3 h7));clear hB h3 h7)
   | (go_at_call 104;refine (Isa.waits_any op _ (HK.out _ HB1.out.1).1).mono ?_;rintro e w2 ⟨rfl,hB⟩;rw [HWt.out];have h3:=HB1.out.2.1.below hB HB1.out.2.1.lt;have q0:=h3.cell 0;have q1:=h3.cell 1;simp only [List.getElem?_toArray,List.getElem?_cons_zero,List.getElem?_cons_succ] at q0 q1;have HB2:=Lib.hid (And.intro (HB1.out.1.trans (hB.mono HB1.out.1.size)) h3);clear hB h3)
   | (go_at_call 155;first
    | (have hh:=HB3.out;refine (Dec.safe_any _ _ sf _ _ (HK.out _ hh).2).mono ?_;rintro e w4 ⟨rfl,hB⟩;rw [HSf.out.2];have HB4:=Lib.hid (HB3.out.trans (hB.mono HB3.out.size));clear hB hh)
    | (refine (Dec.safe_any _ _ sf _ _ (HK.out _ HB2.out.1).2).mono ?_;rintro e w3 ⟨rfl,hB⟩;rw [HSf.out.1];have h3:=HB2.out.2.below hB HB2.out.2.lt;have q0:=h3.cell 0;have q1:=h3.cell 1;simp only [List.getElem?_toArray,List.getElem?_cons_zero,List.getElem?_cons_succ] at q0 q1;have HB3:=Lib.hid (HB2.out.1.trans (hB.mono HB2.out.1.size));clear hB h3)))
  go_ret
  exact ⟨rfl,HB4.out⟩
end Go.Proofs.YtgadhchejmlfjaaGreatDoor.Val
end
section
namespace Go.Proofs.YtgadhchejmlfjaaGreatDoor.Val
open Go.RowKit Go.Esc
open Go.Proofs.YtgadhchejmlfjaaGreatDoor.Isa (row rows Laid)
open Go.Proofs.YtgadhchejmlfjaaGreatDoor.Vm (Ins)
def fnB (l:List Ins) (sf:List Bool) (funcs:Int):Bool:=
 decide (0 < l.length ∧ l.length ≤ 64 ∧ sf.length = l.length) && (List.range l.length).all (placeB l sf funcs) && l.all (fun i=>decide (i.n ≤ 9223372036854775807)) && (row (l[l.length - 1]?.getD ⟨0,0,0,0,0⟩).op).ends
set_option maxHeartbeats 4000000 in
theorem fn_any (cb co cc sb so sc:Nat) (l:List Ins) (sf:List Bool) (funcs:Int) (w:World) (hL:Laid w) (hC:CodeIn w cb co l) (hS:Dec.Bs w (.slice (some ⟨sb,so,none⟩) sf.length sc) sf) (hf:funcs ≤ 100000) (h:fnB l sf funcs = true) :
  Calls Tryz.prog 105 #[.agg #[.slice (some ⟨cb,co,none⟩) l.length cc,.slice (some ⟨sb,so,none⟩) sf.length sc],.int .i64 funcs] w fun e w'=>e = .returned (.tuple #[.int .i64 (-1),.int .i64 0]) ∧ Below w.heap.size w w':=by
 unfold fnB at h
 simp only [Bool.and_eq_true,decide_eq_true_eq] at h
 obtain ⟨⟨⟨⟨h0,h64,hsl⟩,hall⟩,hnn⟩,hend⟩:=h
 have HPl:Hid (∀ (k:Nat) (W:World),k < l.length → Below w.heap.size w W → Calls Tryz.prog 163 #[.agg #[.slice (some ⟨cb,co,none⟩) l.length cc,.slice (some ⟨sb,so,none⟩) sf.length sc],.int .i64 k,.int .i64 funcs] W fun e w'=>e = .returned (.int .i64 0) ∧ Below W.heap.size W w'):=fun k W hk hB=>
  place_any cb co cc sb so sc l sf k funcs W (hL.below hB) (hC.below hB) (hS.below hB) hk (by omega) hf (fun i hi=>by
   have q:=List.all_eq_true.1 hnn i (List.mem_of_getElem? hi)
   simpa using q) (List.all_eq_true.1 hall k (List.mem_range.2 hk))
 obtain ⟨m,hm⟩:∃ m,l.length - 1 = m:=⟨_,rfl⟩
 have hml:m < l.length:=by omega
 have HEn:Hid (∀ W,Below w.heap.size w W → W.cell? ⟨cb,co + m * 5,none⟩ = some (.int .i64 (l[m]?.getD ⟨0,0,0,0,0⟩).op) ∧ Calls Tryz.prog 164 #[.int .i64 (l[m]?.getD ⟨0,0,0,0,0⟩).op] W fun e w'=>e = .returned (.bool true) ∧ Below W.heap.size W w'):=fun W hB=>by
  refine ⟨((hC.below hB).2 m hml).1,?_⟩
  rw [hm] at hend
  rw [← hend]
  exact Isa.ends_any _ W (hL.below hB)
 rw [hsl] at HPl ⊢
 generalize (l[m]?.getD ⟨0,0,0,0,0⟩).op = lop at *
 have hcb:=hC.1
 generalize hnl:l.length = nl at *
 have hm1:(nl:Int) - 1 = (m:Int):=by omega
 have hmn:(m:Int) < (nl:Int):=by omega
 have hn0:((nl:Int) == 0) = false:=by simp;omega
 have hn64:decide ((64:Int) < (nl:Int)) = false:=by simp;omega
 have b3:Blk (w.alloc (.cells #[.slice (some ⟨cb,co,none⟩) nl cc,.slice (some ⟨sb,so,none⟩) nl sc] 87)) w.heap.size #[.slice (some ⟨cb,co,none⟩) nl cc,.slice (some ⟨sb,so,none⟩) nl sc] 87:=Blk.new w _ 87
 have HB:=Lib.hid (And.intro (below_alloc (Below.refl w.heap.size w) (.cells #[.slice (some ⟨cb,co,none⟩) nl cc,.slice (some ⟨sb,so,none⟩) nl sc] 87)) b3)
 have HM:=Lib.hid (And.intro hm (And.intro hm1 hcb))
 clear hL hC hS hf hall hnn hend hsl hnl hm hml hcb b3
 go_enter Tryz.func105,Tryz.ntmps105
 go_wp2
 go_step3
 go_wp2
 go_step3
 go_wp2
 generalize w.alloc (.cells #[.slice (some ⟨cb,co,none⟩) nl cc,.slice (some ⟨sb,so,none⟩) nl sc] 87) = W0 at *
 go_loopw [28] (fun t wr=>∃ k:Nat,k ≤ nl ∧ t = .int .i64 k ∧ Below W0.heap.size W0 wr) (fun t _=>nl - (intOf t).toNat)
 case atStart=>exact ⟨0,Nat.zero_le _,rfl,Below.refl _ _⟩
 case round=>
  obtain ⟨k,hk,rfl,hB⟩:=hrel
  have h3:=HB.out.2.below hB HB.out.2.lt
  have q0:=h3.cell 0
  have q1:=h3.cell 1
  simp only [List.getElem?_toArray,List.getElem?_cons_zero,List.getElem?_cons_succ] at q0 q1
  by_cases hlt:k < nl
  ·have hkn:(k:Int) < (nl:Int):=by omega
   have HP:=Lib.hid (HPl.out k wr hlt (HB.out.1.trans (hB.mono HB.out.1.size)))
   have HBB:=Lib.hid hB
   clear hB h3
   go_wp2_with (go_at_call 163;refine HP.out.mono ?_;rintro e w1 ⟨rfl,hB⟩;have HB1:=Lib.hid (HBB.out.trans (hB.mono HBB.out.size));clear hB)
   go_roundw
   case rel=>exact ⟨k + 1,by omega,by go_num,HB1.out⟩
   case measure=>simp [intOf];omega
  ·obtain rfl:k = nl:=by omega
   have hBw:=HB.out.1.trans (hB.mono HB.out.1.size)
   obtain ⟨cm,hce⟩:=HEn.out wr hBw
   have HCe:=Lib.hid hce
   have HBW:=Lib.hid hBw
   have hcl:cb < wr.heap.size:=Nat.lt_of_lt_of_le HM.out.2.2 hBw.size
   clear hlt hB h3 hce hBw hk
   go_wp2_with (go_at_call 164;refine HCe.out.mono ?_;rintro e w1 ⟨rfl,hB⟩;have HB1:=Lib.hid (HBW.out.trans (hB.mono HBW.out.size));clear hB)
   rw [Exit.noGoto_ret]
   go_ret2
   exact ⟨rfl,HB1.out⟩
end Go.Proofs.YtgadhchejmlfjaaGreatDoor.Val
end
section
namespace Go.Proofs.YtgadhchejmlfjaaGreatDoor.Val
open Go.RowKit Go.Esc
open Go.Proofs.YtgadhchejmlfjaaGreatDoor.Isa (row rows Laid)
open Go.Proofs.YtgadhchejmlfjaaGreatDoor.Vm (Ins)
def FnIn (w:World) (pb po k:Nat) (l:List Ins) (sf:List Bool):Prop:=
 ∃ cb co cc sb so sc,w.cell? ⟨pb,po + k * 2,none⟩ = some (.slice (some ⟨cb,co,none⟩) l.length cc) ∧ w.cell? ⟨pb,po + k * 2 + 1,none⟩ = some (.slice (some ⟨sb,so,none⟩) sf.length sc) ∧ CodeIn w cb co l ∧ Dec.Bs w (.slice (some ⟨sb,so,none⟩) sf.length sc) sf
def PrIn (w:World) (pb po:Nat) (p:List (List Ins × List Bool)):Prop:=
 pb < w.heap.size ∧ ∀ k,k < p.length → FnIn w pb po k (p[k]?.getD ([],[])).1 (p[k]?.getD ([],[])).2
theorem PrIn.below {w w':World} {pb po:Nat} {p:List (List Ins × List Bool)} (h:PrIn w pb po p) (hB:Below w.heap.size w w'):PrIn w' pb po p:=
 ⟨Nat.lt_of_lt_of_le h.1 hB.size,fun k hk=>by
  obtain ⟨cb,co,cc,sb,so,sc,a1,a2,a3,a4⟩:=h.2 k hk
  exact ⟨cb,co,cc,sb,so,sc,(hB.cell (p:=⟨pb,po + k * 2,none⟩) h.1).trans a1,(hB.cell (p:=⟨pb,po + k * 2 + 1,none⟩) h.1).trans a2,a3.below hB,a4.below hB⟩⟩
def prB (p:List (List Ins × List Bool)):Bool:=decide (0 < p.length ∧ p.length ≤ 16) && p.all (fun f=>fnB f.1 f.2 p.length)
set_option maxHeartbeats 4000000 in
theorem pcheck_any (pb po pc:Nat) (p:List (List Ins × List Bool)) (w:World) (hL:Laid w) (hP:PrIn w pb po p) (h:prB p = true) :
  Calls Tryz.prog 40 #[.agg #[.slice (some ⟨pb,po,none⟩) p.length pc]] w fun e w'=>e = .returned (.tuple #[.int .i64 (-1),.int .i64 (-1),.int .i64 0]) ∧ Below w.heap.size w w':=by
 unfold prB at h
 simp only [Bool.and_eq_true,decide_eq_true_eq] at h
 obtain ⟨⟨h0,h16⟩,hall⟩:=h
 have HF:Hid (∀ (k:Nat) (W:World),k < p.length → Below w.heap.size w W → ∃ ca n cc sa m sc,W.cell? ⟨pb,po + k * 2,none⟩ = some (.slice ca n cc) ∧ W.cell? ⟨pb,po + k * 2 + 1,none⟩ = some (.slice sa m sc) ∧ ∀ W',Below w.heap.size w W' → Calls Tryz.prog 105 #[.agg #[.slice ca n cc,.slice sa m sc],.int .i64 p.length] W' fun e w'=>e = .returned (.tuple #[.int .i64 (-1),.int .i64 0]) ∧ Below W'.heap.size W' w'):=fun k W hk hB=>by
  obtain ⟨cb,co,cc,sb,so,sc,a1,a2,a3,a4⟩:=hP.2 k hk
  refine ⟨_,_,_,_,_,_,(hB.cell (p:=⟨pb,po + k * 2,none⟩) hP.1).trans a1,(hB.cell (p:=⟨pb,po + k * 2 + 1,none⟩) hP.1).trans a2,fun W' hB'=>fn_any _ _ _ _ _ _ _ _ _ W' (hL.below hB') (a3.below hB') (a4.below hB') (by omega) ?_⟩
  have q:=List.all_eq_true.1 hall (p[k]) (List.getElem_mem hk)
  rw [List.getElem?_eq_getElem hk]
  exact q
 generalize hnl:p.length = nl at *
 have hpb:=hP.1
 have hn0:((nl:Int) == 0) = false:=by simp;omega
 have hn16:decide ((16:Int) < (nl:Int)) = false:=by simp;omega
 have b1:Blk (w.alloc (.cells #[.slice (some ⟨pb,po,none⟩) nl pc] 26)) w.heap.size #[.slice (some ⟨pb,po,none⟩) nl pc] 26:=Blk.new w _ 26
 have HB:=Lib.hid (And.intro (below_alloc (Below.refl w.heap.size w) (.cells #[.slice (some ⟨pb,po,none⟩) nl pc] 26)) (And.intro b1 hpb))
 clear hL hP hall hnl b1
 go_enter Tryz.func40,Tryz.ntmps40
 go_wp2
 generalize w.alloc (.cells #[.slice (some ⟨pb,po,none⟩) nl pc] 26) = W0 at *
 go_loopw [22] (fun t wr=>∃ k:Nat,k ≤ nl ∧ t = .int .i64 k ∧ Below W0.heap.size W0 wr) (fun t _=>nl - (intOf t).toNat)
 case atStart=>exact ⟨0,Nat.zero_le _,rfl,Below.refl _ _⟩
 case round=>
  obtain ⟨k,hk,rfl,hB⟩:=hrel
  have h3:=HB.out.2.1.below hB HB.out.2.1.lt
  have q0:=h3.cell 0
  simp only [List.getElem?_toArray,List.getElem?_cons_zero] at q0
  have hlw:=h3.lt
  have hBw:=HB.out.1.trans (hB.mono HB.out.1.size)
  by_cases hlt:k < nl
  ·have hkn:(k:Int) < (nl:Int):=by omega
   obtain ⟨ca,n,cc,sa,m,sc,p0,p1,hfn⟩:=HF.out k wr hlt hBw
   have hpl:pb < wr.heap.size:=Nat.lt_of_lt_of_le HB.out.2.2 hBw.size
   have HFn:=Lib.hid (hfn (wr.alloc (.cells #[.slice ca n cc,.slice sa m sc] 87)) (hBw.alloc hBw.size _))
   have HBB:=Lib.hid (hB.alloc hB.size (.cells #[.slice ca n cc,.slice sa m sc] 87))
   have q0':(wr.alloc (.cells #[.slice ca n cc,.slice sa m sc] 87)).cell? ⟨w.heap.size,0,none⟩ = some (.slice (some ⟨pb,po,none⟩) nl pc):=by
    have q:=(h3.below (below_alloc (Below.refl wr.heap.size wr) (.cells #[.slice ca n cc,.slice sa m sc] 87)) h3.lt).cell 0
    simpa using q
   clear hB h3 hBw hfn
   go_wp2_with (go_at_call 105;refine HFn.out.mono ?_;rintro e w1 ⟨rfl,hB⟩;have HB1:=Lib.hid (HBB.out.trans (hB.mono HBB.out.size));clear hB)
   go_roundw
   case rel=>exact ⟨k + 1,by omega,by go_num,HB1.out⟩
   case measure=>simp [intOf];omega
  ·obtain rfl:k = nl:=by omega
   have HBW:=Lib.hid hBw
   clear hlt hB h3 hBw hk
   go_wp2
   go_ret3
   exact ⟨rfl,HBW.out⟩
end Go.Proofs.YtgadhchejmlfjaaGreatDoor.Val
end
section
namespace Go.Proofs.YtgadhchejmlfjaaGreatDoor.Val
open Go.RowKit Go.Esc
open Go.Proofs.YtgadhchejmlfjaaGreatDoor.Isa (row rows Laid)
open Go.Proofs.YtgadhchejmlfjaaGreatDoor.Vm (Ins)
set_option maxHeartbeats 2000000 in
theorem mwaits_any (fb cb co nl cc k:Nat) (v1:Value) (op:Int) (w:World) (hF:Blk w fb #[.slice (some ⟨cb,co,none⟩) nl cc,v1] 87) (hc:w.cell? ⟨cb,co + k * 5,none⟩ = some (.int .i64 op)) (hk:k < nl) (hL:Laid w) :
  Calls Tryz.prog 103 #[.int .i64 k,.pointer (some ⟨fb,0,none⟩)] w fun e w'=>e = .returned (.bool (row op).waits) ∧ Below w.heap.size w w':=by
 have q0:=hF.cell 0
 simp only [List.getElem?_toArray,List.getElem?_cons_zero] at q0
 have hkn:(k:Int) < (nl:Int):=by omega
 have HW:=Lib.hid (Isa.waits_any op w hL)
 clear hF hL
 go_enter Tryz.func103,Tryz.ntmps103
 go_wp2_with (go_at_call 104;refine HW.out.mono ?_;rintro e w1 ⟨rfl,hB⟩;have HB:=Lib.hid hB;clear hB)
 go_ret
 exact ⟨rfl,HB.out⟩
end Go.Proofs.YtgadhchejmlfjaaGreatDoor.Val
end
section
namespace Go.Proofs.YtgadhchejmlfjaaGreatDoor.Asm
open Go.RowKit Go.Esc
open Go.Proofs.YtgadhchejmlfjaaGreatDoor.Isa (row rows Laid)
def longB (op:Int):Bool:=(row op).number || (row op).target != 0
set_option maxHeartbeats 2000000 in
theorem long_any (op:Int) (w:World) (h:Laid w):Calls Tryz.prog 135 #[.int .i64 op] w fun e w'=>e = .returned (.bool (longB op)) ∧ Below w.heap.size w w':=by
 unfold longB
 have HN:=Lib.hid (Isa.number_any op w h)
 have HL:=Lib.hid h
 clear h
 cases hn:(row op).number with
 | true=>
  rw [hn] at HN
  go_enter Tryz.func135,Tryz.ntmps135
  go_wp2_with (go_at_call 205;refine HN.out.mono ?_;rintro e w1 ⟨rfl,hB⟩;have HB:=Lib.hid hB;clear hB)
  go_ret
  exact ⟨rfl,HB.out⟩
 | false=>
  rw [hn] at HN
  go_enter Tryz.func135,Tryz.ntmps135
  go_wp2_with (first
   | (go_at_call 205;refine HN.out.mono ?_;rintro e w1 ⟨rfl,hB⟩;have HB:=Lib.hid hB;clear hB)
   | (go_at_call 130;refine (Isa.target_any op _ (HL.out.below HB.out)).mono ?_;rintro e w2 ⟨rfl,hB⟩;have HB2:=Lib.hid (HB.out.trans (hB.mono HB.out.size));clear hB))
  go_ret
  exact ⟨rfl,HB2.out⟩
end Go.Proofs.YtgadhchejmlfjaaGreatDoor.Asm
end
section
namespace Go.Proofs.YtgadhchejmlfjaaGreatDoor.Evt
open Go.RowKit Go.Esc
set_option maxHeartbeats 2000000 in
theorem within_any (n a b:Int) (w:World) (h:a ≤ n ∧ n < b):Calls Tryz.prog 282 #[.int .i64 n,.int .i64 a,.int .i64 b] w fun e w'=>e = .returned (.bool true) ∧ w = w':=by
 have d1:decide (a ≤ n) = true:=by simpa using h.1
 have d2:decide (n < b) = true:=by simpa using h.2
 have d3:a ≤ n:=h.1
 have d4:n < b:=h.2
 clear h
 go_enter Tryz.func282,Tryz.ntmps282
 go_wp2
 go_ret
 exact ⟨rfl,rfl⟩
def EvOk (k g f p n:Int):Prop:=(k = 1 ∧ n = 0 ∨ k = 2) ∧ (1 ≤ g ∧ g < 65) ∧ (0 ≤ f ∧ f < 16) ∧ (0 ≤ p ∧ p < 64)
set_option maxHeartbeats 2000000 in
theorem eright_any (k g f p n:Int) (w:World) (h:EvOk k g f p n):Calls Tryz.prog 234 #[.agg #[.int .i64 k,.int .i64 g,.int .i64 f,.int .i64 p,.int .i64 n]] w fun e w'=>e = .returned (.bool true) ∧ Below w.heap.size w w':=by
 obtain ⟨hk,h1,h2,h3⟩:=h
 have HN:=Lib.hid (And.intro h1 (And.intro h2 h3))
 clear h1 h2 h3
 rcases hk with ⟨rfl,rfl⟩ | rfl
 all_goals
  go_enter Tryz.func234,Tryz.ntmps234
  go_wp2_with (go_at_call 282;refine (within_any _ _ _ _ (by first | exact HN.out.1 | exact HN.out.2.1 | exact HN.out.2.2)).mono ?_;rintro e w1 ⟨rfl,rfl⟩)
  go_ret
  exact ⟨rfl,below_alloc (Below.refl _ _) _⟩
end Go.Proofs.YtgadhchejmlfjaaGreatDoor.Evt
end
