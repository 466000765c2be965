/- TopReaches' walk: it answers true, whatever the draws are. -/
import Derived.Test.YtgadhchejmlfjaaGreatDoorRcp
set_option linter.unusedVariables false
set_option maxRecDepth 20000
namespace Go.Proofs.YtgadhchejmlfjaaGreatDoor.Top
open Go.RowKit Go.Esc
open Go.Proofs.YtgadhchejmlfjaaGreatDoor.Isa (Laid)
open Go.Proofs.YtgadhchejmlfjaaGreatDoor.Mac
open Go.Proofs.YtgadhchejmlfjaaGreatDoor.Txt (Mx)
structure SnQ (s:St) (n:Nat) (hd:Int):Prop where
 len:s.gs.length = n
 hold:s.sc.holder = hd
 pos:0 < n
theorem held_of {s:St} {n:Nat} {hd:Int} (h:SnQ s n hd):heldB s = decide (hd = 1 ∧ n = 4):=by unfold heldB;rw [h.len,h.hold]
theorem good_at {s:St} (h:goodB s = true) {j:Nat} (h1:1 ≤ j) (h4:j < 4):(s.gs[j]?.getD g0).fn = 1 ∧ (s.gs[j]?.getD g0).word = 1:=by
 unfold goodB at h
 have k:=List.all_eq_true.1 h j (by simp;omega)
 exact of_decide_eq_true k
theorem snap_at {s:St} {w:World} {b1 b2:Nat} (hat:∀ k,k < s.gs.length → w.cell? ⟨b1,k,none⟩ = some (.int .i64 (s.gs[k]?.getD g0).word) ∧ ∀ r,r < 12 → w.cell? ⟨b2,k * 12 + r,none⟩ = (thC (s.gs[k]?.getD g0))[r]?) {j:Nat} (hj:j < s.gs.length) :
  w.cell? ⟨b1,j,none⟩ = some (.int .i64 (s.gs[j]?.getD g0).word) ∧ w.cell? ⟨b2,j * 12,none⟩ = some (.int .i64 (s.gs[j]?.getD g0).fn) ∧ w.cell? ⟨b2,j * 12 + 11,none⟩ = some (.bool (s.gs[j]?.getD g0).done):=
 ⟨(hat j hj).1,(hat j hj).2 0 (by decide),(hat j hj).2 11 (by decide)⟩
set_option maxHeartbeats 16000000 in
theorem reaches_any (W:World) (a0:Option Addr) (len0 cap0:Nat) (z0:Nat → Nat → Int) (r0:Row W a0 len0 1 z0) (hI:Laid W) (hM:Mx W) (hP:Shf.Pow W):Calls Tryz.prog 3 #[.slice a0 len0 cap0] W fun e w'=>e = .returned (.bool true) ∧ Below W.heap.size W w':=by
 have HAl:=Lib.hid (fun W2 (hB:Below W.heap.size W W2)=>alive_any W2 (hI.below hB) (hM.below hB) (Txt.Pow.below hP hB))
 have HRo:=Lib.hid (Gnn.rounds_any W hI)
 have HI:=Lib.hid hI
 have HR0:=Lib.hid r0
 clear hI hM hP r0
 by_cases h60:len0 ≤ 60
 ·have d60:decide ((60:Int) < (len0:Int)) = false:=by simp;omega
  go_enter Tryz.func3,Tryz.ntmps3
  go_wp2_with (first
   | (go_at_call 9;go_loud (refine HRo.out.mono ?_;rintro e w1 ⟨pb,pc,rfl,hP1,hB1⟩;have H1:=Lib.hid (And.intro hP1 hB1);clear hP1 hB1))
   | (go_at_call 10;go_loud (refine (rounds_mach (below_alloc (Below.refl _ _) _) (HI.out.below H1.out.2) H1.out.1).mono ?_;rintro e wr ⟨mb,V,own,rfl,hR,hmb,ho,hB,_⟩;have H2:=Lib.hid (RcI.start (D:=drawD len0 z0) hR ho hB);clear hR hmb ho hB)))
  obtain ⟨wn,hwn⟩:∃ wn,wn = w1.alloc (.cells #[.slice (some ⟨pb,0,none⟩) 2 pc] 26):=⟨_,rfl⟩
  have HN:Hid (Below W.heap.size W wn):=by show Below _ _ _;rw [hwn];exact H1.out.2.alloc H1.out.2.size _
  rw [← hwn] at H2
  clear hwn
  go_loopw [7,8,9] (fun t7 t8 t9 wr=>∃ (k:Nat) (hb db:Bool),k ≤ 3000 ∧ t9 = .int .i64 k ∧ t7 = .bool hb ∧ t8 = .bool db ∧ RcI wn w1 mb (drawD len0 z0) k hb db wr) (fun _ _ t _=>3000 - (intOf t).toNat)
  case atStart=>exact ⟨0,false,false,by decide,rfl,rfl,rfl,H2.out⟩
  case round=>
   obtain ⟨k,hb,db,hk,rfl,rfl,rfl,hRc⟩:=hrel
   clear H2
   by_cases hlt:k < 3000
   ·have hkn:(k:Int) < 3000:=by omega
    obtain ⟨s1,hg,hst⟩:=hRc.step hlt
    obtain ⟨n,hn⟩:∃ n,n = s1.gs.length:=⟨_,rfl⟩
    obtain ⟨hd,hhd⟩:∃ hd,hd = s1.sc.holder:=⟨_,rfl⟩
    obtain ⟨dn,hdn⟩:∃ dn,dn = (s1.gs[0]?.getD g0).done:=⟨_,rfl⟩
    obtain ⟨hq,hhq⟩:∃ hq,hq = heldB s1:=⟨_,rfl⟩
    have HQ:Hid (SnQ s1 n hd):=⟨hn.symm,hhd.symm,by rw [hn];exact hg.1⟩
    have HDn:Hid ((s1.gs[0]?.getD g0).done = dn):=hdn.symm
    have hDone:doneB s1 = dn:=hdn.symm
    rw [hDone,← hhq] at hst
    have HGd:=Lib.hid hg.2
    have hHeld:hq = decide (hd = 1 ∧ n = 4):=hhq.trans (held_of HQ.out)
    have HHq:=Lib.hid hhq
    have hnn:0 < n:=HQ.out.pos
    have HBr:=Lib.hid hRc
    clear hg hn hhd hdn hDone hhq hRc
    obtain ⟨d,hd0⟩:∃ d,d = drawD len0 z0 k:=⟨_,rfl⟩
    rw [← hd0] at hst
    have HSt:=Lib.hid hst
    clear hst
    by_cases hz:len0 = 0
    ·have e0:d = 0:=by rw [hd0];simp [drawD,hz]
     have dz:decide (0 < len0) = false:=by simp [hz]
     have dzi:decide ((0:Int) < (len0:Int)) = false:=by simp [hz]
     rw [e0] at HSt
     clear e0 hz hd0
     cases db with
     | false=>
      by_cases h1:hd = 1
      ·have q1:(hd == 1) = true:=by simpa using h1
       by_cases h4:n = 4
       ·have q4:((n:Int) == 4) = true:=by simp;omega
        have e:hq = true:=by rw [hHeld];simp [h1,h4]
        have HGood:=Lib.hid (HGd.out (HHq.out.symm.trans e))
        have HE:=Lib.hid e
        have HN4:=Lib.hid h4
        clear h1 h4 hHeld e
        go_wp2_with (first
         | (go_at_call 11;go_loud (refine (HSt.out _ (by repeat (first | exact Below.refl _ _ | refine below_alloc ?_ _ | refine Below.setCell ?_ (Nat.le_refl _) _))).mono ?_;rintro e w2 ⟨⟨x,rfl⟩,hI2,hSn⟩;have HI2:=Lib.hid hI2;have HSn:=Lib.hid hSn;clear hI2 hSn))
         | (go_at_call 12;go_loud (refine HSn.out.mono ?_;rintro e w3 hs;obtain ⟨b1,c1,b2,c2,a3,m3,c3,a4,m4,c4,a5,m5,c5,a6,m6,c6,a7,m7,c7,a8,m8,c8,a9,m9,c9,a10,m10,c10,rfl,l1,l2,hat,hB3⟩:=snap_rows hs (by rw [HQ.out.len];exact HQ.out.pos);rw [HQ.out.len,HQ.out.hold];have HI3:=Lib.hid (HI2.out.go hB3);have HAt:=Lib.hid (snap_at hat (j:=0) (by rw [HQ.out.len];exact HQ.out.pos));have HAll:=Lib.hid hat;have d11:=HAt.out.2.2;rw [Nat.zero_mul,Nat.zero_add,HDn.out] at d11;clear hs hB3 hat)))
        have HW:=Lib.hid (HI3.out.go (below_alloc (Below.refl _ _) (.cells #[.int .i64 hd,.slice (some ⟨b1,0,none⟩) n c1,.slice (some ⟨b2,0,none⟩) n c2,.slice a3 m3 c3,.slice a4 m4 c4,.slice a5 m5 c5,.slice a6 m6 c6,.slice a7 m7 c7,.slice a8 m8 c8,.slice a9 m9 c9,.slice a10 m10 c10] 45)))
        go_loopw [12] (fun t12 wi=>∃ j:Nat,1 ≤ j ∧ j ≤ 4 ∧ t12 = .int .i64 j ∧ wi = w3.alloc (.cells #[.int .i64 hd,.slice (some ⟨b1,0,none⟩) n c1,.slice (some ⟨b2,0,none⟩) n c2,.slice a3 m3 c3,.slice a4 m4 c4,.slice a5 m5 c5,.slice a6 m6 c6,.slice a7 m7 c7,.slice a8 m8 c8,.slice a9 m9 c9,.slice a10 m10 c10] 45)) (fun t _=>4 - (intOf t).toNat)
        case atStart=>exact ⟨1,Nat.le_refl _,by decide,rfl,by first | trivial | rfl⟩
        case round=>
         obtain ⟨j,hj1,hj4,rfl,rfl⟩:=hrel
         by_cases hj:j < 4
         ·have hjl:j < n:=by rw [HN4.out];exact hj
          obtain ⟨y1,y2,_⟩:=snap_at HAll.out (j:=j) (by rw [HQ.out.len];exact hjl)
          obtain ⟨g1,g2⟩:=good_at HGood.out hj1 hj
          rw [g1] at y2
          rw [g2] at y1
          have hjn:(j:Int) < 4:=by omega
          clear g1 g2
          go_wp2
          go_roundw
          case rel=>exact ⟨j + 1,by omega,by omega,by go_num,by first | trivial | rfl⟩
          case measure=>simp [intOf];omega
         ·obtain rfl:j = 4:=by omega
          clear hj hj1 hj4
          go_wp2
          go_roundw
          case rel=>exact ⟨k + 1,true,dn,by omega,by go_num,rfl,rfl,by have q:=HW.out;rw [HE.out] at q;simpa using q⟩
          case measure=>simp [intOf];omega
       ·have q4:((n:Int) == 4) = false:=by simp;omega
        have HE:Hid (hq = false):=by show hq = false;rw [hHeld];simp [h4]
        clear h1 h4 hHeld
        go_wp2_with (first
         | (go_at_call 11;go_loud (refine (HSt.out _ (by repeat (first | exact Below.refl _ _ | refine below_alloc ?_ _ | refine Below.setCell ?_ (Nat.le_refl _) _))).mono ?_;rintro e w2 ⟨⟨x,rfl⟩,hI2,hSn⟩;have HI2:=Lib.hid hI2;have HSn:=Lib.hid hSn;clear hI2 hSn))
         | (go_at_call 12;go_loud (refine HSn.out.mono ?_;rintro e w3 hs;obtain ⟨b1,c1,b2,c2,a3,m3,c3,a4,m4,c4,a5,m5,c5,a6,m6,c6,a7,m7,c7,a8,m8,c8,a9,m9,c9,a10,m10,c10,rfl,l1,l2,hat,hB3⟩:=snap_rows hs (by rw [HQ.out.len];exact HQ.out.pos);rw [HQ.out.len,HQ.out.hold];have HI3:=Lib.hid (HI2.out.go hB3);have HAt:=Lib.hid (snap_at hat (j:=0) (by rw [HQ.out.len];exact HQ.out.pos));have HAll:=Lib.hid hat;have d11:=HAt.out.2.2;rw [Nat.zero_mul,Nat.zero_add,HDn.out] at d11;clear hs hB3 hat)))
        go_roundw
        case rel=>exact ⟨k + 1,hb,dn,by omega,by go_num,rfl,rfl,by have q:=HI3.out.go (below_alloc (Below.refl _ _) (.cells #[.int .i64 hd,.slice (some ⟨b1,0,none⟩) n c1,.slice (some ⟨b2,0,none⟩) n c2,.slice a3 m3 c3,.slice a4 m4 c4,.slice a5 m5 c5,.slice a6 m6 c6,.slice a7 m7 c7,.slice a8 m8 c8,.slice a9 m9 c9,.slice a10 m10 c10] 45));rw [HE.out] at q;simpa using q⟩
        case measure=>simp [intOf];omega
      ·have q1:(hd == 1) = false:=by simpa using h1
       have HE:Hid (hq = false):=by show hq = false;rw [hHeld];simp [h1]
       clear h1 hHeld
       go_wp2_with (first
        | (go_at_call 11;go_loud (refine (HSt.out _ (by repeat (first | exact Below.refl _ _ | refine below_alloc ?_ _ | refine Below.setCell ?_ (Nat.le_refl _) _))).mono ?_;rintro e w2 ⟨⟨x,rfl⟩,hI2,hSn⟩;have HI2:=Lib.hid hI2;have HSn:=Lib.hid hSn;clear hI2 hSn))
        | (go_at_call 12;go_loud (refine HSn.out.mono ?_;rintro e w3 hs;obtain ⟨b1,c1,b2,c2,a3,m3,c3,a4,m4,c4,a5,m5,c5,a6,m6,c6,a7,m7,c7,a8,m8,c8,a9,m9,c9,a10,m10,c10,rfl,l1,l2,hat,hB3⟩:=snap_rows hs (by rw [HQ.out.len];exact HQ.out.pos);rw [HQ.out.len,HQ.out.hold];have HI3:=Lib.hid (HI2.out.go hB3);have HAt:=Lib.hid (snap_at hat (j:=0) (by rw [HQ.out.len];exact HQ.out.pos));have HAll:=Lib.hid hat;have d11:=HAt.out.2.2;rw [Nat.zero_mul,Nat.zero_add,HDn.out] at d11;clear hs hB3 hat)))
       go_roundw
       case rel=>exact ⟨k + 1,hb,dn,by omega,by go_num,rfl,rfl,by have q:=HI3.out.go (below_alloc (Below.refl _ _) (.cells #[.int .i64 hd,.slice (some ⟨b1,0,none⟩) n c1,.slice (some ⟨b2,0,none⟩) n c2,.slice a3 m3 c3,.slice a4 m4 c4,.slice a5 m5 c5,.slice a6 m6 c6,.slice a7 m7 c7,.slice a8 m8 c8,.slice a9 m9 c9,.slice a10 m10 c10] 45));rw [HE.out] at q;simpa using q⟩
       case measure=>simp [intOf];omega
     | true=>
      by_cases h1:hd = 1
      ·have q1:(hd == 1) = true:=by simpa using h1
       by_cases h4:n = 4
       ·have q4:((n:Int) == 4) = true:=by simp;omega
        have e:hq = true:=by rw [hHeld];simp [h1,h4]
        have HGood:=Lib.hid (HGd.out (HHq.out.symm.trans e))
        have HE:=Lib.hid e
        have HN4:=Lib.hid h4
        clear h1 h4 hHeld e
        go_wp2_with (first
         | (go_at_call 11;go_loud (refine (HSt.out _ (by repeat (first | exact Below.refl _ _ | refine below_alloc ?_ _ | refine Below.setCell ?_ (Nat.le_refl _) _))).mono ?_;rintro e w2 ⟨⟨x,rfl⟩,hI2,hSn⟩;have HI2:=Lib.hid hI2;have HSn:=Lib.hid hSn;clear hI2 hSn))
         | (go_at_call 12;go_loud (refine HSn.out.mono ?_;rintro e w3 hs;obtain ⟨b1,c1,b2,c2,a3,m3,c3,a4,m4,c4,a5,m5,c5,a6,m6,c6,a7,m7,c7,a8,m8,c8,a9,m9,c9,a10,m10,c10,rfl,l1,l2,hat,hB3⟩:=snap_rows hs (by rw [HQ.out.len];exact HQ.out.pos);rw [HQ.out.len,HQ.out.hold];have HI3:=Lib.hid (HI2.out.go hB3);have HAt:=Lib.hid (snap_at hat (j:=0) (by rw [HQ.out.len];exact HQ.out.pos));have HAll:=Lib.hid hat;have d11:=HAt.out.2.2;rw [Nat.zero_mul,Nat.zero_add,HDn.out] at d11;clear hs hB3 hat)))
        have HW:=Lib.hid (HI3.out.go (below_alloc (Below.refl _ _) (.cells #[.int .i64 hd,.slice (some ⟨b1,0,none⟩) n c1,.slice (some ⟨b2,0,none⟩) n c2,.slice a3 m3 c3,.slice a4 m4 c4,.slice a5 m5 c5,.slice a6 m6 c6,.slice a7 m7 c7,.slice a8 m8 c8,.slice a9 m9 c9,.slice a10 m10 c10] 45)))
        go_loopw [12] (fun t12 wi=>∃ j:Nat,1 ≤ j ∧ j ≤ 4 ∧ t12 = .int .i64 j ∧ wi = w3.alloc (.cells #[.int .i64 hd,.slice (some ⟨b1,0,none⟩) n c1,.slice (some ⟨b2,0,none⟩) n c2,.slice a3 m3 c3,.slice a4 m4 c4,.slice a5 m5 c5,.slice a6 m6 c6,.slice a7 m7 c7,.slice a8 m8 c8,.slice a9 m9 c9,.slice a10 m10 c10] 45)) (fun t _=>4 - (intOf t).toNat)
        case atStart=>exact ⟨1,Nat.le_refl _,by decide,rfl,by first | trivial | rfl⟩
        case round=>
         obtain ⟨j,hj1,hj4,rfl,rfl⟩:=hrel
         by_cases hj:j < 4
         ·have hjl:j < n:=by rw [HN4.out];exact hj
          obtain ⟨y1,y2,_⟩:=snap_at HAll.out (j:=j) (by rw [HQ.out.len];exact hjl)
          obtain ⟨g1,g2⟩:=good_at HGood.out hj1 hj
          rw [g1] at y2
          rw [g2] at y1
          have hjn:(j:Int) < 4:=by omega
          clear g1 g2
          go_wp2
          go_roundw
          case rel=>exact ⟨j + 1,by omega,by omega,by go_num,by first | trivial | rfl⟩
          case measure=>simp [intOf];omega
         ·obtain rfl:j = 4:=by omega
          clear hj hj1 hj4
          go_wp2
          go_roundw
          case rel=>exact ⟨k + 1,true,true,by omega,by go_num,rfl,rfl,by have q:=HW.out;rw [HE.out] at q;simpa using q⟩
          case measure=>simp [intOf];omega
       ·have q4:((n:Int) == 4) = false:=by simp;omega
        have HE:Hid (hq = false):=by show hq = false;rw [hHeld];simp [h4]
        clear h1 h4 hHeld
        go_wp2_with (first
         | (go_at_call 11;go_loud (refine (HSt.out _ (by repeat (first | exact Below.refl _ _ | refine below_alloc ?_ _ | refine Below.setCell ?_ (Nat.le_refl _) _))).mono ?_;rintro e w2 ⟨⟨x,rfl⟩,hI2,hSn⟩;have HI2:=Lib.hid hI2;have HSn:=Lib.hid hSn;clear hI2 hSn))
         | (go_at_call 12;go_loud (refine HSn.out.mono ?_;rintro e w3 hs;obtain ⟨b1,c1,b2,c2,a3,m3,c3,a4,m4,c4,a5,m5,c5,a6,m6,c6,a7,m7,c7,a8,m8,c8,a9,m9,c9,a10,m10,c10,rfl,l1,l2,hat,hB3⟩:=snap_rows hs (by rw [HQ.out.len];exact HQ.out.pos);rw [HQ.out.len,HQ.out.hold];have HI3:=Lib.hid (HI2.out.go hB3);have HAt:=Lib.hid (snap_at hat (j:=0) (by rw [HQ.out.len];exact HQ.out.pos));have HAll:=Lib.hid hat;have d11:=HAt.out.2.2;rw [Nat.zero_mul,Nat.zero_add,HDn.out] at d11;clear hs hB3 hat)))
        go_roundw
        case rel=>exact ⟨k + 1,hb,true,by omega,by go_num,rfl,rfl,by have q:=HI3.out.go (below_alloc (Below.refl _ _) (.cells #[.int .i64 hd,.slice (some ⟨b1,0,none⟩) n c1,.slice (some ⟨b2,0,none⟩) n c2,.slice a3 m3 c3,.slice a4 m4 c4,.slice a5 m5 c5,.slice a6 m6 c6,.slice a7 m7 c7,.slice a8 m8 c8,.slice a9 m9 c9,.slice a10 m10 c10] 45));rw [HE.out] at q;simpa using q⟩
        case measure=>simp [intOf];omega
      ·have q1:(hd == 1) = false:=by simpa using h1
       have HE:Hid (hq = false):=by show hq = false;rw [hHeld];simp [h1]
       clear h1 hHeld
       go_wp2_with (first
        | (go_at_call 11;go_loud (refine (HSt.out _ (by repeat (first | exact Below.refl _ _ | refine below_alloc ?_ _ | refine Below.setCell ?_ (Nat.le_refl _) _))).mono ?_;rintro e w2 ⟨⟨x,rfl⟩,hI2,hSn⟩;have HI2:=Lib.hid hI2;have HSn:=Lib.hid hSn;clear hI2 hSn))
        | (go_at_call 12;go_loud (refine HSn.out.mono ?_;rintro e w3 hs;obtain ⟨b1,c1,b2,c2,a3,m3,c3,a4,m4,c4,a5,m5,c5,a6,m6,c6,a7,m7,c7,a8,m8,c8,a9,m9,c9,a10,m10,c10,rfl,l1,l2,hat,hB3⟩:=snap_rows hs (by rw [HQ.out.len];exact HQ.out.pos);rw [HQ.out.len,HQ.out.hold];have HI3:=Lib.hid (HI2.out.go hB3);have HAt:=Lib.hid (snap_at hat (j:=0) (by rw [HQ.out.len];exact HQ.out.pos));have HAll:=Lib.hid hat;have d11:=HAt.out.2.2;rw [Nat.zero_mul,Nat.zero_add,HDn.out] at d11;clear hs hB3 hat)))
       go_roundw
       case rel=>exact ⟨k + 1,hb,true,by omega,by go_num,rfl,rfl,by have q:=HI3.out.go (below_alloc (Below.refl _ _) (.cells #[.int .i64 hd,.slice (some ⟨b1,0,none⟩) n c1,.slice (some ⟨b2,0,none⟩) n c2,.slice a3 m3 c3,.slice a4 m4 c4,.slice a5 m5 c5,.slice a6 m6 c6,.slice a7 m7 c7,.slice a8 m8 c8,.slice a9 m9 c9,.slice a10 m10 c10] 45));rw [HE.out] at q;simpa using q⟩
       case measure=>simp [intOf];omega
    ·have dz:decide (0 < len0) = true:=by simp;omega
     have dzi:decide ((0:Int) < (len0:Int)) = true:=by simp;omega
     obtain ⟨r,hr⟩:∃ r,r = k % len0:=⟨_,rfl⟩
     have hrl:r < len0:=by rw [hr];exact Nat.mod_lt _ (by omega)
     have e3:(k:Int).tmod (len0:Int) = (r:Int):=by rw [hr,Int.tmod_eq_emod_of_nonneg (by omega)];rfl
     have e4:(k:Int) % (len0:Int) = (r:Int):=by rw [hr];rfl
     have ed:d = z0 r 0:=by rw [hd0,hr];simp [drawD,hz]
     have hr0:=HR0.out
     unfold Row at hr0
     obtain ⟨b,off,rfl,hb0,hmx,hcell,hwf⟩:=hr0.resolve_left hz
     have hc0:=hcell r 0 hrl (by decide)
     rw [Nat.mul_one,Nat.add_zero,← ed] at hc0
     have hbr:Below W.heap.size W wr:=by obtain ⟨_,_,_,_,_,_,_,hBw⟩:=HBr.out;exact below_below HN.out hBw
     have hcr:=(hbr.cell (p:=⟨b,off + r,none⟩) hb0).trans hc0
     have hblt:b < wr.heap.size:=Nat.lt_of_lt_of_le hb0 hbr.size
     have hlen:(len0:Int) ≠ 0:=by omega
     clear hr0 hcell hwf hc0 hbr hd0 ed hr hz
     cases db with
     | false=>
      by_cases h1:hd = 1
      ·have q1:(hd == 1) = true:=by simpa using h1
       by_cases h4:n = 4
       ·have q4:((n:Int) == 4) = true:=by simp;omega
        have e:hq = true:=by rw [hHeld];simp [h1,h4]
        have HGood:=Lib.hid (HGd.out (HHq.out.symm.trans e))
        have HE:=Lib.hid e
        have HN4:=Lib.hid h4
        clear h1 h4 hHeld e
        go_wp2_with (first
         | (go_at_call 11;go_loud (refine (HSt.out _ (by repeat (first | exact Below.refl _ _ | refine below_alloc ?_ _ | refine Below.setCell ?_ (Nat.le_refl _) _))).mono ?_;rintro e w2 ⟨⟨x,rfl⟩,hI2,hSn⟩;have HI2:=Lib.hid hI2;have HSn:=Lib.hid hSn;clear hI2 hSn))
         | (go_at_call 12;go_loud (refine HSn.out.mono ?_;rintro e w3 hs;obtain ⟨b1,c1,b2,c2,a3,m3,c3,a4,m4,c4,a5,m5,c5,a6,m6,c6,a7,m7,c7,a8,m8,c8,a9,m9,c9,a10,m10,c10,rfl,l1,l2,hat,hB3⟩:=snap_rows hs (by rw [HQ.out.len];exact HQ.out.pos);rw [HQ.out.len,HQ.out.hold];have HI3:=Lib.hid (HI2.out.go hB3);have HAt:=Lib.hid (snap_at hat (j:=0) (by rw [HQ.out.len];exact HQ.out.pos));have HAll:=Lib.hid hat;have d11:=HAt.out.2.2;rw [Nat.zero_mul,Nat.zero_add,HDn.out] at d11;clear hs hB3 hat)))
        have HW:=Lib.hid (HI3.out.go (below_alloc (Below.refl _ _) (.cells #[.int .i64 hd,.slice (some ⟨b1,0,none⟩) n c1,.slice (some ⟨b2,0,none⟩) n c2,.slice a3 m3 c3,.slice a4 m4 c4,.slice a5 m5 c5,.slice a6 m6 c6,.slice a7 m7 c7,.slice a8 m8 c8,.slice a9 m9 c9,.slice a10 m10 c10] 45)))
        go_loopw [12] (fun t12 wi=>∃ j:Nat,1 ≤ j ∧ j ≤ 4 ∧ t12 = .int .i64 j ∧ wi = w3.alloc (.cells #[.int .i64 hd,.slice (some ⟨b1,0,none⟩) n c1,.slice (some ⟨b2,0,none⟩) n c2,.slice a3 m3 c3,.slice a4 m4 c4,.slice a5 m5 c5,.slice a6 m6 c6,.slice a7 m7 c7,.slice a8 m8 c8,.slice a9 m9 c9,.slice a10 m10 c10] 45)) (fun t _=>4 - (intOf t).toNat)
        case atStart=>exact ⟨1,Nat.le_refl _,by decide,rfl,by first | trivial | rfl⟩
        case round=>
         obtain ⟨j,hj1,hj4,rfl,rfl⟩:=hrel
         by_cases hj:j < 4
         ·have hjl:j < n:=by rw [HN4.out];exact hj
          obtain ⟨y1,y2,_⟩:=snap_at HAll.out (j:=j) (by rw [HQ.out.len];exact hjl)
          obtain ⟨g1,g2⟩:=good_at HGood.out hj1 hj
          rw [g1] at y2
          rw [g2] at y1
          have hjn:(j:Int) < 4:=by omega
          clear g1 g2
          go_wp2
          go_roundw
          case rel=>exact ⟨j + 1,by omega,by omega,by go_num,by first | trivial | rfl⟩
          case measure=>simp [intOf];omega
         ·obtain rfl:j = 4:=by omega
          clear hj hj1 hj4
          go_wp2
          go_roundw
          case rel=>exact ⟨k + 1,true,dn,by omega,by go_num,rfl,rfl,by have q:=HW.out;rw [HE.out] at q;simpa using q⟩
          case measure=>simp [intOf];omega
       ·have q4:((n:Int) == 4) = false:=by simp;omega
        have HE:Hid (hq = false):=by show hq = false;rw [hHeld];simp [h4]
        clear h1 h4 hHeld
        go_wp2_with (first
         | (go_at_call 11;go_loud (refine (HSt.out _ (by repeat (first | exact Below.refl _ _ | refine below_alloc ?_ _ | refine Below.setCell ?_ (Nat.le_refl _) _))).mono ?_;rintro e w2 ⟨⟨x,rfl⟩,hI2,hSn⟩;have HI2:=Lib.hid hI2;have HSn:=Lib.hid hSn;clear hI2 hSn))
         | (go_at_call 12;go_loud (refine HSn.out.mono ?_;rintro e w3 hs;obtain ⟨b1,c1,b2,c2,a3,m3,c3,a4,m4,c4,a5,m5,c5,a6,m6,c6,a7,m7,c7,a8,m8,c8,a9,m9,c9,a10,m10,c10,rfl,l1,l2,hat,hB3⟩:=snap_rows hs (by rw [HQ.out.len];exact HQ.out.pos);rw [HQ.out.len,HQ.out.hold];have HI3:=Lib.hid (HI2.out.go hB3);have HAt:=Lib.hid (snap_at hat (j:=0) (by rw [HQ.out.len];exact HQ.out.pos));have HAll:=Lib.hid hat;have d11:=HAt.out.2.2;rw [Nat.zero_mul,Nat.zero_add,HDn.out] at d11;clear hs hB3 hat)))
        go_roundw
        case rel=>exact ⟨k + 1,hb,dn,by omega,by go_num,rfl,rfl,by have q:=HI3.out.go (below_alloc (Below.refl _ _) (.cells #[.int .i64 hd,.slice (some ⟨b1,0,none⟩) n c1,.slice (some ⟨b2,0,none⟩) n c2,.slice a3 m3 c3,.slice a4 m4 c4,.slice a5 m5 c5,.slice a6 m6 c6,.slice a7 m7 c7,.slice a8 m8 c8,.slice a9 m9 c9,.slice a10 m10 c10] 45));rw [HE.out] at q;simpa using q⟩
        case measure=>simp [intOf];omega
      ·have q1:(hd == 1) = false:=by simpa using h1
       have HE:Hid (hq = false):=by show hq = false;rw [hHeld];simp [h1]
       clear h1 hHeld
       go_wp2_with (first
        | (go_at_call 11;go_loud (refine (HSt.out _ (by repeat (first | exact Below.refl _ _ | refine below_alloc ?_ _ | refine Below.setCell ?_ (Nat.le_refl _) _))).mono ?_;rintro e w2 ⟨⟨x,rfl⟩,hI2,hSn⟩;have HI2:=Lib.hid hI2;have HSn:=Lib.hid hSn;clear hI2 hSn))
        | (go_at_call 12;go_loud (refine HSn.out.mono ?_;rintro e w3 hs;obtain ⟨b1,c1,b2,c2,a3,m3,c3,a4,m4,c4,a5,m5,c5,a6,m6,c6,a7,m7,c7,a8,m8,c8,a9,m9,c9,a10,m10,c10,rfl,l1,l2,hat,hB3⟩:=snap_rows hs (by rw [HQ.out.len];exact HQ.out.pos);rw [HQ.out.len,HQ.out.hold];have HI3:=Lib.hid (HI2.out.go hB3);have HAt:=Lib.hid (snap_at hat (j:=0) (by rw [HQ.out.len];exact HQ.out.pos));have HAll:=Lib.hid hat;have d11:=HAt.out.2.2;rw [Nat.zero_mul,Nat.zero_add,HDn.out] at d11;clear hs hB3 hat)))
       go_roundw
       case rel=>exact ⟨k + 1,hb,dn,by omega,by go_num,rfl,rfl,by have q:=HI3.out.go (below_alloc (Below.refl _ _) (.cells #[.int .i64 hd,.slice (some ⟨b1,0,none⟩) n c1,.slice (some ⟨b2,0,none⟩) n c2,.slice a3 m3 c3,.slice a4 m4 c4,.slice a5 m5 c5,.slice a6 m6 c6,.slice a7 m7 c7,.slice a8 m8 c8,.slice a9 m9 c9,.slice a10 m10 c10] 45));rw [HE.out] at q;simpa using q⟩
       case measure=>simp [intOf];omega
     | true=>
      by_cases h1:hd = 1
      ·have q1:(hd == 1) = true:=by simpa using h1
       by_cases h4:n = 4
       ·have q4:((n:Int) == 4) = true:=by simp;omega
        have e:hq = true:=by rw [hHeld];simp [h1,h4]
        have HGood:=Lib.hid (HGd.out (HHq.out.symm.trans e))
        have HE:=Lib.hid e
        have HN4:=Lib.hid h4
        clear h1 h4 hHeld e
        go_wp2_with (first
         | (go_at_call 11;go_loud (refine (HSt.out _ (by repeat (first | exact Below.refl _ _ | refine below_alloc ?_ _ | refine Below.setCell ?_ (Nat.le_refl _) _))).mono ?_;rintro e w2 ⟨⟨x,rfl⟩,hI2,hSn⟩;have HI2:=Lib.hid hI2;have HSn:=Lib.hid hSn;clear hI2 hSn))
         | (go_at_call 12;go_loud (refine HSn.out.mono ?_;rintro e w3 hs;obtain ⟨b1,c1,b2,c2,a3,m3,c3,a4,m4,c4,a5,m5,c5,a6,m6,c6,a7,m7,c7,a8,m8,c8,a9,m9,c9,a10,m10,c10,rfl,l1,l2,hat,hB3⟩:=snap_rows hs (by rw [HQ.out.len];exact HQ.out.pos);rw [HQ.out.len,HQ.out.hold];have HI3:=Lib.hid (HI2.out.go hB3);have HAt:=Lib.hid (snap_at hat (j:=0) (by rw [HQ.out.len];exact HQ.out.pos));have HAll:=Lib.hid hat;have d11:=HAt.out.2.2;rw [Nat.zero_mul,Nat.zero_add,HDn.out] at d11;clear hs hB3 hat)))
        have HW:=Lib.hid (HI3.out.go (below_alloc (Below.refl _ _) (.cells #[.int .i64 hd,.slice (some ⟨b1,0,none⟩) n c1,.slice (some ⟨b2,0,none⟩) n c2,.slice a3 m3 c3,.slice a4 m4 c4,.slice a5 m5 c5,.slice a6 m6 c6,.slice a7 m7 c7,.slice a8 m8 c8,.slice a9 m9 c9,.slice a10 m10 c10] 45)))
        go_loopw [12] (fun t12 wi=>∃ j:Nat,1 ≤ j ∧ j ≤ 4 ∧ t12 = .int .i64 j ∧ wi = w3.alloc (.cells #[.int .i64 hd,.slice (some ⟨b1,0,none⟩) n c1,.slice (some ⟨b2,0,none⟩) n c2,.slice a3 m3 c3,.slice a4 m4 c4,.slice a5 m5 c5,.slice a6 m6 c6,.slice a7 m7 c7,.slice a8 m8 c8,.slice a9 m9 c9,.slice a10 m10 c10] 45)) (fun t _=>4 - (intOf t).toNat)
        case atStart=>exact ⟨1,Nat.le_refl _,by decide,rfl,by first | trivial | rfl⟩
        case round=>
         obtain ⟨j,hj1,hj4,rfl,rfl⟩:=hrel
         by_cases hj:j < 4
         ·have hjl:j < n:=by rw [HN4.out];exact hj
          obtain ⟨y1,y2,_⟩:=snap_at HAll.out (j:=j) (by rw [HQ.out.len];exact hjl)
          obtain ⟨g1,g2⟩:=good_at HGood.out hj1 hj
          rw [g1] at y2
          rw [g2] at y1
          have hjn:(j:Int) < 4:=by omega
          clear g1 g2
          go_wp2
          go_roundw
          case rel=>exact ⟨j + 1,by omega,by omega,by go_num,by first | trivial | rfl⟩
          case measure=>simp [intOf];omega
         ·obtain rfl:j = 4:=by omega
          clear hj hj1 hj4
          go_wp2
          go_roundw
          case rel=>exact ⟨k + 1,true,true,by omega,by go_num,rfl,rfl,by have q:=HW.out;rw [HE.out] at q;simpa using q⟩
          case measure=>simp [intOf];omega
       ·have q4:((n:Int) == 4) = false:=by simp;omega
        have HE:Hid (hq = false):=by show hq = false;rw [hHeld];simp [h4]
        clear h1 h4 hHeld
        go_wp2_with (first
         | (go_at_call 11;go_loud (refine (HSt.out _ (by repeat (first | exact Below.refl _ _ | refine below_alloc ?_ _ | refine Below.setCell ?_ (Nat.le_refl _) _))).mono ?_;rintro e w2 ⟨⟨x,rfl⟩,hI2,hSn⟩;have HI2:=Lib.hid hI2;have HSn:=Lib.hid hSn;clear hI2 hSn))
         | (go_at_call 12;go_loud (refine HSn.out.mono ?_;rintro e w3 hs;obtain ⟨b1,c1,b2,c2,a3,m3,c3,a4,m4,c4,a5,m5,c5,a6,m6,c6,a7,m7,c7,a8,m8,c8,a9,m9,c9,a10,m10,c10,rfl,l1,l2,hat,hB3⟩:=snap_rows hs (by rw [HQ.out.len];exact HQ.out.pos);rw [HQ.out.len,HQ.out.hold];have HI3:=Lib.hid (HI2.out.go hB3);have HAt:=Lib.hid (snap_at hat (j:=0) (by rw [HQ.out.len];exact HQ.out.pos));have HAll:=Lib.hid hat;have d11:=HAt.out.2.2;rw [Nat.zero_mul,Nat.zero_add,HDn.out] at d11;clear hs hB3 hat)))
        go_roundw
        case rel=>exact ⟨k + 1,hb,true,by omega,by go_num,rfl,rfl,by have q:=HI3.out.go (below_alloc (Below.refl _ _) (.cells #[.int .i64 hd,.slice (some ⟨b1,0,none⟩) n c1,.slice (some ⟨b2,0,none⟩) n c2,.slice a3 m3 c3,.slice a4 m4 c4,.slice a5 m5 c5,.slice a6 m6 c6,.slice a7 m7 c7,.slice a8 m8 c8,.slice a9 m9 c9,.slice a10 m10 c10] 45));rw [HE.out] at q;simpa using q⟩
        case measure=>simp [intOf];omega
      ·have q1:(hd == 1) = false:=by simpa using h1
       have HE:Hid (hq = false):=by show hq = false;rw [hHeld];simp [h1]
       clear h1 hHeld
       go_wp2_with (first
        | (go_at_call 11;go_loud (refine (HSt.out _ (by repeat (first | exact Below.refl _ _ | refine below_alloc ?_ _ | refine Below.setCell ?_ (Nat.le_refl _) _))).mono ?_;rintro e w2 ⟨⟨x,rfl⟩,hI2,hSn⟩;have HI2:=Lib.hid hI2;have HSn:=Lib.hid hSn;clear hI2 hSn))
        | (go_at_call 12;go_loud (refine HSn.out.mono ?_;rintro e w3 hs;obtain ⟨b1,c1,b2,c2,a3,m3,c3,a4,m4,c4,a5,m5,c5,a6,m6,c6,a7,m7,c7,a8,m8,c8,a9,m9,c9,a10,m10,c10,rfl,l1,l2,hat,hB3⟩:=snap_rows hs (by rw [HQ.out.len];exact HQ.out.pos);rw [HQ.out.len,HQ.out.hold];have HI3:=Lib.hid (HI2.out.go hB3);have HAt:=Lib.hid (snap_at hat (j:=0) (by rw [HQ.out.len];exact HQ.out.pos));have HAll:=Lib.hid hat;have d11:=HAt.out.2.2;rw [Nat.zero_mul,Nat.zero_add,HDn.out] at d11;clear hs hB3 hat)))
       go_roundw
       case rel=>exact ⟨k + 1,hb,true,by omega,by go_num,rfl,rfl,by have q:=HI3.out.go (below_alloc (Below.refl _ _) (.cells #[.int .i64 hd,.slice (some ⟨b1,0,none⟩) n c1,.slice (some ⟨b2,0,none⟩) n c2,.slice a3 m3 c3,.slice a4 m4 c4,.slice a5 m5 c5,.slice a6 m6 c6,.slice a7 m7 c7,.slice a8 m8 c8,.slice a9 m9 c9,.slice a10 m10 c10] 45));rw [HE.out] at q;simpa using q⟩
       case measure=>simp [intOf];omega
   ·obtain rfl:k = 3000:=by omega
    obtain ⟨rfl,rfl,hBw⟩:=hRc.last
    have HBw:=Lib.hid (below_below HN.out hBw)
    clear hRc hlt hk hBw
    go_wp2_with (go_at_call 8;refine (HAl.out _ HBw.out).mono ?_;rintro e w2 ⟨rfl,hB⟩;have HB2:=Lib.hid (below_below HBw.out hB);clear hB)
    go_ret
    exact ⟨rfl,HB2.out⟩
 ·have d60:decide ((60:Int) < (len0:Int)) = true:=by simp;omega
  go_enter Tryz.func3,Tryz.ntmps3
  go_wp2_with (go_at_call 8;refine (HAl.out _ (Below.refl _ _)).mono ?_;rintro e w2 ⟨rfl,hB⟩;have HB2:=Lib.hid hB;clear hB)
  go_ret
  exact ⟨rfl,HB2.out⟩
end Go.Proofs.YtgadhchejmlfjaaGreatDoor.Top
