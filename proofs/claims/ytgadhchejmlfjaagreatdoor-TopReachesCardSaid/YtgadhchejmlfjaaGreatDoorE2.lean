/- Parts of the proof of TopReaches. -/
import Derived.Test.YtgadhchejmlfjaaGreatDoorE1
set_option linter.unusedVariables false
set_option maxRecDepth 20000
section
namespace Go.Proofs.YtgadhchejmlfjaaGreatDoor.Mac
open Go.RowKit Go.Esc
open Go.Proofs.YtgadhchejmlfjaaGreatDoor.Vm (Ins)
section
variable {mb:Nat} {V:Vr} {own:Nat → Nat} {w:World} {s:St}
theorem Rep.thrF (h:Rep mb V own w s) {b i:Nat} {x:G} (hb:own b = 20 + 5 * i) (hi:s.gs[i]? = some x):ThrC b x w ∧ w.cell? ⟨b,17,none⟩ = some (.bool x.begun) ∧ ∀ k,w.frozen? ⟨b,k,none⟩ = false:=by
 obtain ⟨_,_,sv,hBk,_⟩:=h.gat hb hi
 exact ⟨h.thrC hb hi,gc17 hBk,fun k=>hBk.free k⟩
theorem thr12 {P:Nat} {x:G} {t:TypeId} (h:Blk w P (thrC12 x) t):(w.cell? ⟨P,0,none⟩ = some (.int .i64 x.fn) ∧ w.cell? ⟨P,1,none⟩ = some (.int .i64 x.pc) ∧ w.cell? ⟨P,2,none⟩ = some (.int .i64 (rg x 0)) ∧ w.cell? ⟨P,3,none⟩ = some (.int .i64 (rg x 1)) ∧ w.cell? ⟨P,4,none⟩ = some (.int .i64 (rg x 2)) ∧ w.cell? ⟨P,5,none⟩ = some (.int .i64 (rg x 3)) ∧
 w.cell? ⟨P,6,none⟩ = some (.int .i64 (rg x 4)) ∧ w.cell? ⟨P,7,none⟩ = some (.int .i64 (rg x 5)) ∧ w.cell? ⟨P,8,none⟩ = some (.int .i64 (rg x 6)) ∧ w.cell? ⟨P,9,none⟩ = some (.int .i64 (rg x 7)) ∧ w.cell? ⟨P,10,none⟩ = some Vm.nilS ∧ w.cell? ⟨P,11,none⟩ = some (.bool x.done)):=
 ⟨h.cell 0,h.cell 1,h.cell 2,h.cell 3,h.cell 4,h.cell 5,h.cell 6,h.cell 7,h.cell 8,h.cell 9,h.cell 10,h.cell 11⟩
theorem commit_fin (h:Rep mb V own w s) {xb j b i:Nat} {x x':G} {y:M1} {u:Int} (hx:own xb = 22 + 5 * j) (hb:own b = 20 + 5 * i) (hj:s.ms[j]? = some y) (hi:s.gs[i]? = some x) (hg:y.g = (i:Int) + 1)
  (hl:x'.regs.length = 8 ∧ x'.word = x.word ∧ x'.blocked = x.blocked ∧ x'.token = x.token ∧ x'.sema = x.sema ∧ x'.asker = x.asker) :
  Rep mb V own ((thrW w b x').setCell ⟨xb,5,none⟩ (.int .i64 u)) ((s.setG i { x' with begun:=false }).setX j { y with g:=(i:Int) + 1,used:=u }) ∧ Ext own w own ((thrW w b x').setCell ⟨xb,5,none⟩ (.int .i64 u)):=by
 obtain ⟨R1,E1⟩:=h.setThr hb hi hl.1 hl.2.1 hl.2.2.1 hl.2.2.2.1 hl.2.2.2.2.1 hl.2.2.2.2.2
 obtain ⟨R2,E2⟩:=R1.xused (y:=y) hx hj u
 rw [← hg]
 exact ⟨R2,E1.trans E2⟩
set_option maxHeartbeats 8000000 in
theorem Rep.commit (h:Rep mb V own w s) {xb j:Nat} {ans:Int} {s':St} (hx:own xb = 22 + 5 * j) (hs:commitM s j ans = some s'):Calls Tryz.prog 187 #[ptr mb,ptr xb,.int .i64 ans] w (Does mb V own w unit s'):=by
 unfold commitM at hs
 cases hj:s.ms[j]? with
 | none=>rw [hj] at hs;cases hs
 | some y=>
 rw [hj] at hs
 dsimp only at hs
 replace hs:=opt_if hs
 obtain ⟨hg1,hs⟩:=hs
 have hg2:=(h.xg hj).2
 obtain ⟨i,hgi⟩:∃ i:Nat,y.g = (i:Int) + 1:=⟨(y.g - 1).toNat,by omega⟩
 rw [hgi] at hg1 hg2 hs
 have e2:((i:Int) + 1 - 1).toNat = i:=by omega
 rw [e2] at hs
 cases hi:s.gs[i]? with
 | none=>rw [hi] at hs;cases hs
 | some x=>
 rw [hi] at hs
 dsimp only at hs
 obtain ⟨e1,hb⟩:=h.gp hg1 hg2
 rw [e2] at e1 hb
 obtain ⟨b,hbe⟩:∃ b,V.gb i = b:=⟨_,rfl⟩
 rw [hbe] at e1 hb
 replace hs:=bind_some hs
 obtain ⟨ins,hI,hs⟩:=hs
 replace hs:=bind_some hs
 obtain ⟨⟨x',n⟩,hd,hs⟩:=hs
 replace hs:=bind_some hs
 obtain ⟨s1,hse,hs⟩:=hs
 dsimp only at hs
 replace hs:=bind_some hs
 obtain ⟨s4,hq,hs⟩:=hs
 have x2:w.cell? ⟨xb,2,none⟩ = some (ptr b):=by rw [← e1,← hgi];exact xc2 (h.xblk hx hj)
 unfold seeM at hse
 rw [hi] at hse
 simp only [Option.some.injEq] at hse
 have hl8:=(h.gat hb hi).len
 obtain ⟨g1,g2,g3,g4,g5,g6⟩:=doG_same hd hl8
 have HD:Hid (∀ W,Below w.heap.size w W → Calls Tryz.prog 259 #[.agg #[V.pv],thrV x,.int .i64 ans] W (Vm.DoP (thrV x') n W)):=fun W hW=>(h.below hW).doI hI hd hl8
 have c1:=h.c1
 have hT:=h.thrC hb hi
 obtain ⟨t2,t3,t4,t5,t6,t7,t8,t9,t10,t11,t12,t13⟩:=hT
 have hxl:=h.xlt hx hj
 have hbl:=h.glt hb hi
 have hml:=h.mlt
 have HR:=Lib.hid h
 have HT:Hid (∀ W,Below w.heap.size w W → ThrC b x W ∧ W.cell? ⟨mb,1,none⟩ = some V.pv):=fun W hW=>⟨(h.below hW).thrC hb hi,(h.below hW).c1⟩
 have HX:=Lib.hid (And.intro hx (And.intro hxl (And.intro hb (And.intro hbl (And.intro hj (And.intro hi hgi))))))
 have HG:=Lib.hid (And.intro g1 (And.intro g2 (And.intro g3 (And.intro g4 (And.intro g5 g6)))))
 have HS1:=Lib.hid hse
 have HQ:=Lib.hid hq
 have HS:=Lib.hid hs
 unfold thrV at HD
 have nmb:¬ mb = w.heap.size:=by omega
 have nmb2:¬ w.heap.size = mb:=by omega
 have nbb2:¬ w.heap.size = b:=by omega
 have nbb:¬ b = w.heap.size:=by omega
 clear h hx hb hi hI hd hj hgi hg1 hg2 hbe e1 e2 hse g1 g2 g3 g4 g5 g6 hl8 hq hs hxl hbl hml
 go_enter Tryz.func187,Tryz.ntmps187
 go_wp2
 go_region_held3 (fun w'=>w'.cell? ⟨mb,1,none⟩ = some V.pv ∧ w'.cell? ⟨b,2,none⟩ = some (.int .i64 x.fn) ∧ w'.cell? ⟨b,3,none⟩ = some (.int .i64 x.pc) ∧ w'.cell? ⟨b,4,none⟩ = some (.int .i64 (rg x 0)) ∧ w'.cell? ⟨b,5,none⟩ = some (.int .i64 (rg x 1)) ∧ w'.cell? ⟨b,6,none⟩ = some (.int .i64 (rg x 2)) ∧ w'.cell? ⟨b,7,none⟩ = some (.int .i64 (rg x 3)) ∧ w'.cell? ⟨b,8,none⟩ = some (.int .i64 (rg x 4)) ∧ w'.cell? ⟨b,9,none⟩ = some (.int .i64 (rg x 5)) ∧ w'.cell? ⟨b,10,none⟩ = some (.int .i64 (rg x 6)) ∧ w'.cell? ⟨b,11,none⟩ = some (.int .i64 (rg x 7)) ∧ w'.cell? ⟨b,12,none⟩ = some Vm.nilS ∧ w'.cell? ⟨b,13,none⟩ = some (.bool x.done)) (go_keep) (first
  | (go_at_call 259;refine (HD.out _ (by repeat (first | exact Below.refl _ _ | apply bl_alloc | apply bl_drew))).mono ?_;rintro e w2 ⟨rfl,hB2⟩;have hW2:Below w.heap.size w w2:=(bl_next (by repeat (first | exact Below.refl _ _ | apply bl_alloc | apply bl_drew)) hB2);obtain ⟨⟨t2,t3,t4,t5,t6,t7,t8,t9,t10,t11,t12,t13⟩,c1⟩:=HT.out _ hW2;first
   | (have hP2:Blk w2 w.heap.size #[.int .i64 0,.int .i64 0,.int .i64 0,.int .i64 0,.int .i64 0,.int .i64 0,.int .i64 0,.int .i64 0,.int .i64 0,.int .i64 0,.slice none 0 0,.bool false] 50:=(Blk.new w.drew _ 50).below hB2 (by simp);have q0:=hP2.cell 0;have q1:=hP2.cell 1;have q2:=hP2.cell 2;have q3:=hP2.cell 3;have q4:=hP2.cell 4;have q5:=hP2.cell 5;have q6:=hP2.cell 6;have q7:=hP2.cell 7;have q8:=hP2.cell 8;have q9:=hP2.cell 9;have q10:=hP2.cell 10;have q11:=hP2.cell 11;have f0:=hP2.free 0;have f1:=hP2.free 1;have f2:=hP2.free 2;have f3:=hP2.free 3;have f4:=hP2.free 4;have f5:=hP2.free 5;have f6:=hP2.free 6;have f7:=hP2.free 7;have f8:=hP2.free 8;have f9:=hP2.free 9;have f10:=hP2.free 10;have f11:=hP2.free 11;simp only [List.getElem?_toArray,List.getElem?_cons_zero,List.getElem?_cons_succ] at q0 q1 q2 q3 q4 q5 q6 q7 q8 q9 q10 q11;have HLa:=Lib.hid (loc_ahead HR.out hW2 hP2 (Nat.le_refl _) x');clear hP2 hW2 hB2)
   | (have HLl:=Lib.hid (loc_last HR.out hW2 x');clear hW2 hB2)))
 all_goals
  rename_i hh
  clear hh HD HT t2 t3 t4 t5 t6 t7 t8 t9 t10 t11 t12 t13 c1 nmb nbb nmb2 nbb2
  clear t2 t3 t4 t5 t6 t7 t8 t9 t10 t11 t12 t13 c1 x2
  first
   | (have HL:=HLl;clear HLl;change Exit.then _ _ _ _ (w2.alloc (.cells (thrC12 x') 50));generalize w2.alloc (.cells (thrC12 x') 50) = W at *;obtain ⟨P,hP⟩:∃ P,w2.heap.size = P:=⟨_,rfl⟩)
   | (have HL:=HLa;clear HLa;clear q0 q1 q2 q3 q4 q5 q6 q7 q8 q9 q10 q11 f0 f1 f2 f3 f4 f5 f6 f7 f8 f9 f10 f11;change Exit.then _ _ _ _ (locW w2 w.heap.size x');generalize locW w2 w.heap.size x' = W at *;obtain ⟨P,hP⟩:∃ P,w.heap.size = P:=⟨_,rfl⟩)
  rw [hP] at HL ⊢
  have HSW:=Lib.hid (And.intro (HL.out.2.1.keep HX.out.1 HX.out.2.1) (HL.out.2.1.keep HX.out.2.2.1 HX.out.2.2.2.1))
  have HJ:=Lib.hid HX.out.2.2.2.2
  have HA:=HL
  clear HX HR HL hP
  have HSee:=Lib.hid (HA.out.1.see 2 HSW.out.2 HJ.out.2.1 n)
  rw [HS1.out] at HSee
  have hj1:s1.ms[j]? = some y:=by rw [← HS1.out];exact HJ.out.1
  have hi1:s1.gs[i]? = some x:=by rw [← HS1.out];exact HJ.out.2.1
  have HJ1:=Lib.hid (And.intro hj1 (And.intro hi1 HJ.out.2.2))
  obtain ⟨u0,hu0⟩:∃ u0,y.used = u0:=⟨_,rfl⟩
  obtain ⟨u,hu⟩:∃ u,wrap64 (u0 + 1) = u:=⟨_,rfl⟩
  have hQ:=HQ.out
  rw [hu0,hu] at hQ
  obtain ⟨S3,hS3⟩:∃ S3,S3 = (s1.setG i { x' with begun:=false }).setX j { y with g:=(i:Int) + 1,used:=u }:=⟨_,rfl⟩
  rw [← hS3] at hQ
  have hsc3:S3.sc = s1.sc:=by rw [hS3];rfl
  have HFin:Hid (∀ (own1:Nat → Nat) (w1:World),Rep mb V own1 w1 s1 → own1 xb = 22 + 5 * j → own1 b = 20 + 5 * i → Rep mb V own1 ((thrW w1 b x').setCell ⟨xb,5,none⟩ (.int .i64 u)) S3 ∧ Ext own1 w1 own1 ((thrW w1 b x').setCell ⟨xb,5,none⟩ (.int .i64 u))):=fun own1 w1 hR hx hb=>by
   rw [hS3];exact commit_fin hR hx hb HJ1.out.1 HJ1.out.2.1 HJ1.out.2.2 HG.out
  have HU:=Lib.hid hu0
  have HSC:=Lib.hid hsc3
  clear HQ HJ hj1 hi1 hu0 hS3 hsc3
  have HQ:=Lib.hid hQ
  clear hQ
  cases hdn:x'.done with
  | false=>
   have HDN:=Lib.hid hdn
   have hs':=HS.out
   rw [hdn] at hs'
   have hs4:s4 = s':=by simpa using hs'
   have HS4:=Lib.hid hs4
   clear hdn hs' hs4
   by_cases h20:u = 20
   ·have hd20:(u == 20) = true:=by simpa using h20
    have hq:=HQ.out
    rw [if_pos h20] at hq
    have HQ2:=Lib.hid hq
    clear hq h20
    go_wp2_with (first
     | (go_at_call 260;refine HSee.out.mono ?_;rintro e w1 ⟨rfl,own1,hR1,hE1⟩;have hx1:=hE1.keep HSW.out.1 (HA.out.1.tag_lt HSW.out.1 (by omega));have hb1:=hE1.keep HSW.out.2 (HA.out.1.tag_lt HSW.out.2 (by omega));have hP1:=blk_ext HA.out.2.2.1 HA.out.2.2.2 hE1;have hP0:=(hE1.same P HA.out.2.2.1.lt).trans HA.out.2.2.2;obtain ⟨⟨t2,t3,t4,t5,t6,t7,t8,t9,t10,t11,t12,t13⟩,t17,tf⟩:=hR1.thrF hb1 HJ1.out.2.1;obtain ⟨q0,q1,q2,q3,q4,q5,q6,q7,q8,q9,q10,q11⟩:=thr12 hP1;rw [HDN.out] at q11;have hxB:=hR1.xblk hx1 HJ1.out.1;have k5:=xc5 hxB;rw [HU.out] at k5;have k5f:=hxB.free 5;have n1:¬ xb = b:=(by rintro rfl;omega);have n2:¬ b = xb:=(by rintro rfl;omega);have n3:¬ P = b:=(by rintro rfl;omega);have n4:¬ b = P:=(by rintro rfl;omega);have n5:¬ P = xb:=(by rintro rfl;omega);have n6:¬ xb = P:=(by rintro rfl;omega);have hF:=HFin.out own1 w1 hR1 hx1 hb1;unfold thrW Vm.nilS at hF;rw [HDN.out] at hF;have HF:=Lib.hid hF;have HR1:=Lib.hid (And.intro hR1 (And.intro hE1 (And.intro hx1 (And.intro hb1 (And.intro hP1 hP0)))));have HAsk:=Lib.hid (hF.1.asks hx1 HQ2.out);clear hR1 hE1 hx1 hb1 hP1 hP0 hxB hF)
     | (go_at_call 258;refine HAsk.out.mono ?_;rintro e w4 ⟨rfl,own4,hR4,hE4⟩;have hE14:=HF.out.2.trans hE4;have hP4:=blk_ext HR1.out.2.2.2.2.1 HR1.out.2.2.2.2.2 hE14;have p11:w4.cell? ⟨P,11,none⟩ = some (.bool x'.done):=hP4.cell 11;rw [HDN.out] at p11;have HR4:=Lib.hid (And.intro hR4 (HA.out.2.1.trans (HR1.out.2.1.trans hE14)));clear hR4 hE4 hE14 hP4))
    all_goals
     go_end0
     exact ⟨rfl,V,own4,by rw [← HS4.out];exact HR4.out.1,HR4.out.2,Fx.refl V⟩
   ·have hd20:(u == 20) = false:=by simpa using h20
    have hq:=HQ.out
    rw [if_neg h20] at hq
    have hq4:S3 = s':=by rw [← HS4.out];exact Option.some.inj hq
    have HQ2:=Lib.hid hq4
    clear hq hq4 h20
    go_wp2_with (go_at_call 260;refine HSee.out.mono ?_;rintro e w1 ⟨rfl,own1,hR1,hE1⟩;have hx1:=hE1.keep HSW.out.1 (HA.out.1.tag_lt HSW.out.1 (by omega));have hb1:=hE1.keep HSW.out.2 (HA.out.1.tag_lt HSW.out.2 (by omega));have hP1:=blk_ext HA.out.2.2.1 HA.out.2.2.2 hE1;have hP0:=(hE1.same P HA.out.2.2.1.lt).trans HA.out.2.2.2;obtain ⟨⟨t2,t3,t4,t5,t6,t7,t8,t9,t10,t11,t12,t13⟩,t17,tf⟩:=hR1.thrF hb1 HJ1.out.2.1;obtain ⟨q0,q1,q2,q3,q4,q5,q6,q7,q8,q9,q10,q11⟩:=thr12 hP1;rw [HDN.out] at q11;have hxB:=hR1.xblk hx1 HJ1.out.1;have k5:=xc5 hxB;rw [HU.out] at k5;have k5f:=hxB.free 5;have n1:¬ xb = b:=(by rintro rfl;omega);have n2:¬ b = xb:=(by rintro rfl;omega);have n3:¬ P = b:=(by rintro rfl;omega);have n4:¬ b = P:=(by rintro rfl;omega);have n5:¬ P = xb:=(by rintro rfl;omega);have n6:¬ xb = P:=(by rintro rfl;omega);have hF:=HFin.out own1 w1 hR1 hx1 hb1;unfold thrW Vm.nilS at hF;rw [HDN.out] at hF;have HF:=Lib.hid hF;have HR1:=Lib.hid (And.intro hR1 (And.intro hE1 (And.intro hx1 (And.intro hb1 (And.intro hP1 hP0)))));clear hR1 hE1 hx1 hb1 hP1 hP0 hxB hF)
    all_goals
     go_end0
     exact ⟨rfl,V,own1,by rw [← HQ2.out];exact HF.out.1,HA.out.2.1.trans (HR1.out.2.1.trans HF.out.2),Fx.refl V⟩
  | true=>
   have HDN:=Lib.hid hdn
   have hs':=HS.out
   rw [hdn] at hs'
   replace hs':=bind_some hs'
   obtain ⟨s5,hst,hs'⟩:=hs'
   cases hoff:offM s5 j with
   | none=>rw [hoff] at hs';cases hs'
   | some r=>
   rw [hoff] at hs'
   simp only [Option.map_some,Option.some.injEq] at hs'
   have HO5:=Lib.hid (And.intro hoff hs')
   have HST:=Lib.hid hst
   clear hdn hs' hoff hst HS
   by_cases h20:u = 20
   ·have hd20:(u == 20) = true:=by simpa using h20
    have hq:=HQ.out
    rw [if_pos h20] at hq
    have HQ2:=Lib.hid hq
    clear hq h20
    obtain ⟨hv,hhv⟩:∃ hv,gptr V.gb s4.sc.holder = hv:=⟨_,rfl⟩
    have HHV:=Lib.hid hhv
    clear hhv
    have hgd:=eqg_ptr (.tmp 60) (.tmp 61) hv b
    by_cases hho:s4.sc.holder = (i:Int) + 1
    ·have hst:=HST.out
     rw [if_pos hho] at hst
     have HST2:=Lib.hid hst
     have hal:decide (s4.sc.holder = (i:Int) + 1) = true:=by simpa using hho
     have HAL:=Lib.hid hal
     clear hst hho HST hal
     go_wp2_with (first
      | (go_at_call 260;refine HSee.out.mono ?_;rintro e w1 ⟨rfl,own1,hR1,hE1⟩;have hx1:=hE1.keep HSW.out.1 (HA.out.1.tag_lt HSW.out.1 (by omega));have hb1:=hE1.keep HSW.out.2 (HA.out.1.tag_lt HSW.out.2 (by omega));have hP1:=blk_ext HA.out.2.2.1 HA.out.2.2.2 hE1;have hP0:=(hE1.same P HA.out.2.2.1.lt).trans HA.out.2.2.2;obtain ⟨⟨t2,t3,t4,t5,t6,t7,t8,t9,t10,t11,t12,t13⟩,t17,tf⟩:=hR1.thrF hb1 HJ1.out.2.1;obtain ⟨q0,q1,q2,q3,q4,q5,q6,q7,q8,q9,q10,q11⟩:=thr12 hP1;rw [HDN.out] at q11;have hxB:=hR1.xblk hx1 HJ1.out.1;have k5:=xc5 hxB;rw [HU.out] at k5;have k5f:=hxB.free 5;have n1:¬ xb = b:=(by rintro rfl;omega);have n2:¬ b = xb:=(by rintro rfl;omega);have n3:¬ P = b:=(by rintro rfl;omega);have n4:¬ b = P:=(by rintro rfl;omega);have n5:¬ P = xb:=(by rintro rfl;omega);have n6:¬ xb = P:=(by rintro rfl;omega);have hF:=HFin.out own1 w1 hR1 hx1 hb1;unfold thrW Vm.nilS at hF;rw [HDN.out] at hF;have HF:=Lib.hid hF;have HR1:=Lib.hid (And.intro hR1 (And.intro hE1 (And.intro hx1 (And.intro hb1 (And.intro hP1 hP0)))));have HAsk:=Lib.hid (hF.1.asks hx1 HQ2.out);clear hR1 hE1 hx1 hb1 hP1 hP0 hxB hF)
      | (go_at_call 258;refine HAsk.out.mono ?_;rintro e w4 ⟨rfl,own4,hR4,hE4⟩;have hE14:=HF.out.2.trans hE4;have hP4:=blk_ext HR1.out.2.2.2.2.1 HR1.out.2.2.2.2.2 hE14;have p11:w4.cell? ⟨P,11,none⟩ = some (.bool x'.done):=hP4.cell 11;rw [HDN.out] at p11;have hx4:=hE14.keep HR1.out.2.2.1 (HR1.out.1.tag_lt HR1.out.2.2.1 (by omega));have hb4:=hE14.keep HR1.out.2.2.2.1 (HR1.out.1.tag_lt HR1.out.2.2.2.1 (by omega));have k20:=hR4.c20;have hq20:=hR4.eqlG hb4 hR4.hold.1 hR4.hold.2;rw [HHV.out] at k20 hq20;rw [HAL.out] at hq20;have HSt:=Lib.hid (hR4.start hx4 HST2.out);have HR4:=Lib.hid (And.intro (And.intro hx4 (hR4.tag_lt hx4 (by omega))) (HA.out.2.1.trans (HR1.out.2.1.trans hE14)));clear hR4 hE4 hE14 hP4 hx4 hb4)
      | (go_at_call 249;refine HSt.out.mono ?_;rintro e w5 ⟨rfl,V5,o5,hR5,hE5,hF5⟩;have hx5:=hE5.keep HR4.out.1.1 HR4.out.1.2;obtain ⟨b5,hb5,hO⟩:=hR5.offX hx5 HO5.out.1;have HO:=Lib.hid hO;have HB5:=Lib.hid (And.intro hb5 (hR5.tag_lt hb5 (by omega)));have HR5:=Lib.hid (And.intro hF5 (HR4.out.2.trans hE5));clear hR5 hE5 hF5 hx5 hb5 hO)
      | (go_at_call 183;refine HO.out.mono ?_;rintro e w6 ⟨rfl,o6,hR6,hE6⟩;have hb6:=hE6.keep HB5.out.1 HB5.out.2;obtain ⟨x6,hi6⟩:∃ x6,r.2.gs[r.1]? = some x6:=⟨_,List.getElem?_eq_getElem (hR6.lg _ _ hb6)⟩;have HI:=Lib.hid (hR6.is hb6 hi6 6 (by decide) (by decide));have HI6:=Lib.hid (And.intro hi6 hE6);clear hR6 hE6 hb6 hi6)
      | (go_at_call 116;refine HI.out.mono ?_;rintro e w7 ⟨rfl,o7,hR7,hE7⟩;have HR7:=Lib.hid (And.intro hR7 hE7);clear hR7 hE7))
     all_goals
      go_end0
      exact ⟨rfl,V5,o7,by rw [← HO5.out.2,mv_eq HI6.out.1 6];exact HR7.out.1,(HR5.out.2.trans HI6.out.2).trans HR7.out.2,HR5.out.1⟩
    ·have hst:=HST.out
     rw [if_neg hho] at hst
     obtain rfl:=Option.some.inj hst
     have hal:decide (s4.sc.holder = (i:Int) + 1) = false:=by simpa using hho
     have HAL:=Lib.hid hal
     clear hst hho HST hal
     go_wp2_with (first
      | (go_at_call 260;refine HSee.out.mono ?_;rintro e w1 ⟨rfl,own1,hR1,hE1⟩;have hx1:=hE1.keep HSW.out.1 (HA.out.1.tag_lt HSW.out.1 (by omega));have hb1:=hE1.keep HSW.out.2 (HA.out.1.tag_lt HSW.out.2 (by omega));have hP1:=blk_ext HA.out.2.2.1 HA.out.2.2.2 hE1;have hP0:=(hE1.same P HA.out.2.2.1.lt).trans HA.out.2.2.2;obtain ⟨⟨t2,t3,t4,t5,t6,t7,t8,t9,t10,t11,t12,t13⟩,t17,tf⟩:=hR1.thrF hb1 HJ1.out.2.1;obtain ⟨q0,q1,q2,q3,q4,q5,q6,q7,q8,q9,q10,q11⟩:=thr12 hP1;rw [HDN.out] at q11;have hxB:=hR1.xblk hx1 HJ1.out.1;have k5:=xc5 hxB;rw [HU.out] at k5;have k5f:=hxB.free 5;have n1:¬ xb = b:=(by rintro rfl;omega);have n2:¬ b = xb:=(by rintro rfl;omega);have n3:¬ P = b:=(by rintro rfl;omega);have n4:¬ b = P:=(by rintro rfl;omega);have n5:¬ P = xb:=(by rintro rfl;omega);have n6:¬ xb = P:=(by rintro rfl;omega);have hF:=HFin.out own1 w1 hR1 hx1 hb1;unfold thrW Vm.nilS at hF;rw [HDN.out] at hF;have HF:=Lib.hid hF;have HR1:=Lib.hid (And.intro hR1 (And.intro hE1 (And.intro hx1 (And.intro hb1 (And.intro hP1 hP0)))));have HAsk:=Lib.hid (hF.1.asks hx1 HQ2.out);clear hR1 hE1 hx1 hb1 hP1 hP0 hxB hF)
      | (go_at_call 258;refine HAsk.out.mono ?_;rintro e w4 ⟨rfl,own4,hR4,hE4⟩;have hE14:=HF.out.2.trans hE4;have hP4:=blk_ext HR1.out.2.2.2.2.1 HR1.out.2.2.2.2.2 hE14;have p11:w4.cell? ⟨P,11,none⟩ = some (.bool x'.done):=hP4.cell 11;rw [HDN.out] at p11;have hx4:=hE14.keep HR1.out.2.2.1 (HR1.out.1.tag_lt HR1.out.2.2.1 (by omega));have hb4:=hE14.keep HR1.out.2.2.2.1 (HR1.out.1.tag_lt HR1.out.2.2.2.1 (by omega));have k20:=hR4.c20;have hq20:=hR4.eqlG hb4 hR4.hold.1 hR4.hold.2;rw [HHV.out] at k20 hq20;rw [HAL.out] at hq20;obtain ⟨b5,hb5,hO⟩:=hR4.offX hx4 HO5.out.1;have HO:=Lib.hid hO;have HB5:=Lib.hid (And.intro hb5 (hR4.tag_lt hb5 (by omega)));clear hb5 hO;have HR4:=Lib.hid (And.intro (And.intro hx4 (hR4.tag_lt hx4 (by omega))) (HA.out.2.1.trans (HR1.out.2.1.trans hE14)));clear hR4 hE4 hE14 hP4 hx4 hb4)
      | (go_at_call 183;refine HO.out.mono ?_;rintro e w6 ⟨rfl,o6,hR6,hE6⟩;have hb6:=hE6.keep HB5.out.1 HB5.out.2;obtain ⟨x6,hi6⟩:∃ x6,r.2.gs[r.1]? = some x6:=⟨_,List.getElem?_eq_getElem (hR6.lg _ _ hb6)⟩;have HI:=Lib.hid (hR6.is hb6 hi6 6 (by decide) (by decide));have HI6:=Lib.hid (And.intro hi6 hE6);clear hR6 hE6 hb6 hi6)
      | (go_at_call 116;refine HI.out.mono ?_;rintro e w7 ⟨rfl,o7,hR7,hE7⟩;have HR7:=Lib.hid (And.intro hR7 hE7);clear hR7 hE7))
     all_goals
      go_end0
      exact ⟨rfl,V,o7,by rw [← HO5.out.2,mv_eq HI6.out.1 6];exact HR7.out.1,(HR4.out.2.trans HI6.out.2).trans HR7.out.2,Fx.refl V⟩
   ·have hd20:(u == 20) = false:=by simpa using h20
    have hq:=HQ.out
    rw [if_neg h20] at hq
    obtain rfl:=Option.some.inj hq
    clear hq h20
    obtain ⟨hv,hhv⟩:∃ hv,gptr V.gb s1.sc.holder = hv:=⟨_,rfl⟩
    have HHV:=Lib.hid hhv
    clear hhv
    have hgd:=eqg_ptr (.tmp 60) (.tmp 61) hv b
    by_cases hho:S3.sc.holder = (i:Int) + 1
    ·have hst:=HST.out
     rw [if_pos hho] at hst
     have HST2:=Lib.hid hst
     rw [HSC.out] at hho
     have hal:decide (s1.sc.holder = (i:Int) + 1) = true:=by simpa using hho
     have HAL:=Lib.hid hal
     clear hst hho HST hal
     go_wp2_with (first
      | (go_at_call 260;refine HSee.out.mono ?_;rintro e w1 ⟨rfl,own1,hR1,hE1⟩;have hx1:=hE1.keep HSW.out.1 (HA.out.1.tag_lt HSW.out.1 (by omega));have hb1:=hE1.keep HSW.out.2 (HA.out.1.tag_lt HSW.out.2 (by omega));have hP1:=blk_ext HA.out.2.2.1 HA.out.2.2.2 hE1;have hP0:=(hE1.same P HA.out.2.2.1.lt).trans HA.out.2.2.2;obtain ⟨⟨t2,t3,t4,t5,t6,t7,t8,t9,t10,t11,t12,t13⟩,t17,tf⟩:=hR1.thrF hb1 HJ1.out.2.1;obtain ⟨q0,q1,q2,q3,q4,q5,q6,q7,q8,q9,q10,q11⟩:=thr12 hP1;rw [HDN.out] at q11;have hxB:=hR1.xblk hx1 HJ1.out.1;have k5:=xc5 hxB;rw [HU.out] at k5;have k5f:=hxB.free 5;have n1:¬ xb = b:=(by rintro rfl;omega);have n2:¬ b = xb:=(by rintro rfl;omega);have n3:¬ P = b:=(by rintro rfl;omega);have n4:¬ b = P:=(by rintro rfl;omega);have n5:¬ P = xb:=(by rintro rfl;omega);have n6:¬ xb = P:=(by rintro rfl;omega);have hF:=HFin.out own1 w1 hR1 hx1 hb1;unfold thrW Vm.nilS at hF;rw [HDN.out] at hF;have HF:=Lib.hid hF;have n7:¬ mb = b:=(hR1.gneM hb1).2;have n8:¬ b = mb:=(hR1.gneM hb1).1;have hom:=hR1.om;have n9:¬ mb = xb:=(by rintro rfl;omega);have n10:¬ xb = mb:=(by rintro rfl;omega);clear hom;have k20:=hR1.c20;have hq20:=hF.1.eqlG hb1 hF.1.hold.1 hF.1.hold.2;rw [HSC.out] at hq20;rw [HHV.out] at k20 hq20;rw [HAL.out] at hq20;have HSt:=Lib.hid (hF.1.start hx1 HST2.out);have HR4:=Lib.hid (And.intro (And.intro hx1 (hF.1.tag_lt hx1 (by omega))) (HA.out.2.1.trans (hE1.trans hF.2)));have HR1:=Lib.hid (And.intro hR1 (And.intro hE1 (And.intro hx1 (And.intro hb1 (And.intro hP1 hP0)))));clear hR1 hE1 hx1 hb1 hP1 hP0 hxB hF)
      | (go_at_call 249;refine HSt.out.mono ?_;rintro e w5 ⟨rfl,V5,o5,hR5,hE5,hF5⟩;have hx5:=hE5.keep HR4.out.1.1 HR4.out.1.2;obtain ⟨b5,hb5,hO⟩:=hR5.offX hx5 HO5.out.1;have HO:=Lib.hid hO;have HB5:=Lib.hid (And.intro hb5 (hR5.tag_lt hb5 (by omega)));have HR5:=Lib.hid (And.intro hF5 (HR4.out.2.trans hE5));clear hR5 hE5 hF5 hx5 hb5 hO)
      | (go_at_call 183;refine HO.out.mono ?_;rintro e w6 ⟨rfl,o6,hR6,hE6⟩;have hb6:=hE6.keep HB5.out.1 HB5.out.2;obtain ⟨x6,hi6⟩:∃ x6,r.2.gs[r.1]? = some x6:=⟨_,List.getElem?_eq_getElem (hR6.lg _ _ hb6)⟩;have HI:=Lib.hid (hR6.is hb6 hi6 6 (by decide) (by decide));have HI6:=Lib.hid (And.intro hi6 hE6);clear hR6 hE6 hb6 hi6)
      | (go_at_call 116;refine HI.out.mono ?_;rintro e w7 ⟨rfl,o7,hR7,hE7⟩;have HR7:=Lib.hid (And.intro hR7 hE7);clear hR7 hE7))
     all_goals
      go_end0
      exact ⟨rfl,V5,o7,by rw [← HO5.out.2,mv_eq HI6.out.1 6];exact HR7.out.1,(HR5.out.2.trans HI6.out.2).trans HR7.out.2,HR5.out.1⟩
    ·have hst:=HST.out
     rw [if_neg hho] at hst
     obtain rfl:=Option.some.inj hst
     rw [HSC.out] at hho
     have hal:decide (s1.sc.holder = (i:Int) + 1) = false:=by simpa using hho
     have HAL:=Lib.hid hal
     clear hst hho HST hal
     go_wp2_with (first
      | (go_at_call 260;refine HSee.out.mono ?_;rintro e w1 ⟨rfl,own1,hR1,hE1⟩;have hx1:=hE1.keep HSW.out.1 (HA.out.1.tag_lt HSW.out.1 (by omega));have hb1:=hE1.keep HSW.out.2 (HA.out.1.tag_lt HSW.out.2 (by omega));have hP1:=blk_ext HA.out.2.2.1 HA.out.2.2.2 hE1;have hP0:=(hE1.same P HA.out.2.2.1.lt).trans HA.out.2.2.2;obtain ⟨⟨t2,t3,t4,t5,t6,t7,t8,t9,t10,t11,t12,t13⟩,t17,tf⟩:=hR1.thrF hb1 HJ1.out.2.1;obtain ⟨q0,q1,q2,q3,q4,q5,q6,q7,q8,q9,q10,q11⟩:=thr12 hP1;rw [HDN.out] at q11;have hxB:=hR1.xblk hx1 HJ1.out.1;have k5:=xc5 hxB;rw [HU.out] at k5;have k5f:=hxB.free 5;have n1:¬ xb = b:=(by rintro rfl;omega);have n2:¬ b = xb:=(by rintro rfl;omega);have n3:¬ P = b:=(by rintro rfl;omega);have n4:¬ b = P:=(by rintro rfl;omega);have n5:¬ P = xb:=(by rintro rfl;omega);have n6:¬ xb = P:=(by rintro rfl;omega);have hF:=HFin.out own1 w1 hR1 hx1 hb1;unfold thrW Vm.nilS at hF;rw [HDN.out] at hF;have HF:=Lib.hid hF;have n7:¬ mb = b:=(hR1.gneM hb1).2;have n8:¬ b = mb:=(hR1.gneM hb1).1;have hom:=hR1.om;have n9:¬ mb = xb:=(by rintro rfl;omega);have n10:¬ xb = mb:=(by rintro rfl;omega);clear hom;have k20:=hR1.c20;have hq20:=hF.1.eqlG hb1 hF.1.hold.1 hF.1.hold.2;rw [HSC.out] at hq20;rw [HHV.out] at k20 hq20;rw [HAL.out] at hq20;obtain ⟨b5,hb5,hO⟩:=hF.1.offX hx1 HO5.out.1;have HO:=Lib.hid hO;have HB5:=Lib.hid (And.intro hb5 (hF.1.tag_lt hb5 (by omega)));clear hb5 hO;have HR4:=Lib.hid (And.intro (And.intro hx1 (hF.1.tag_lt hx1 (by omega))) (HA.out.2.1.trans (hE1.trans hF.2)));have HR1:=Lib.hid (And.intro hR1 (And.intro hE1 (And.intro hx1 (And.intro hb1 (And.intro hP1 hP0)))));clear hR1 hE1 hx1 hb1 hP1 hP0 hxB hF)
      | (go_at_call 183;refine HO.out.mono ?_;rintro e w6 ⟨rfl,o6,hR6,hE6⟩;have hb6:=hE6.keep HB5.out.1 HB5.out.2;obtain ⟨x6,hi6⟩:∃ x6,r.2.gs[r.1]? = some x6:=⟨_,List.getElem?_eq_getElem (hR6.lg _ _ hb6)⟩;have HI:=Lib.hid (hR6.is hb6 hi6 6 (by decide) (by decide));have HI6:=Lib.hid (And.intro hi6 hE6);clear hR6 hE6 hb6 hi6)
      | (go_at_call 116;refine HI.out.mono ?_;rintro e w7 ⟨rfl,o7,hR7,hE7⟩;have HR7:=Lib.hid (And.intro hR7 hE7);clear hR7 hE7))
     all_goals
      go_end0
      exact ⟨rfl,V,o7,by rw [← HO5.out.2,mv_eq HI6.out.1 6];exact HR7.out.1,(HR4.out.2.trans HI6.out.2).trans HR7.out.2,Fx.refl V⟩
end
end Go.Proofs.YtgadhchejmlfjaaGreatDoor.Mac
end
section
namespace Go.Proofs.YtgadhchejmlfjaaGreatDoor.Mac
open Go.RowKit Go.Esc
open Go.Proofs.YtgadhchejmlfjaaGreatDoor.Vm (Ins)
section
variable {mb:Nat} {V:Vr} {own:Nat → Nat} {w:World} {s:St}
theorem Rep.setHolder (h:Rep mb V own w s) {b i:Nat} {u:Int} (hb:own b = 20 + 5 * i) (hu:u = (i:Int) + 1):Rep mb V own (w.setCell ⟨mb,20,none⟩ (ptr b)) (s.setSc { s.sc with holder:=u }) ∧ Ext own w own (w.setCell ⟨mb,20,none⟩ (ptr b)):=by
 have hil:=h.lg b i hb
 have e:gptr V.gb u = ptr b:=by rw [hu];exact h.gptr_at hb (List.getElem?_eq_getElem hil)
 have h1:(0:Int) ≤ u:=by omega
 have h2:u ≤ (s.gs.length:Int):=by omega
 have k:=h.putSc (oset (orefl mb w) 20 (gptr V.gb u)) { s.sc with holder:=u } ⟨h1,h2⟩ (mset_holder h.mblk _)
 rw [e] at k
 exact k
theorem commit_g {s s':St} {j:Nat} {y:M1} {a:Int} (hs:commitM s j a = some s') (hj:s.ms[j]? = some y):1 ≤ y.g:=by
 unfold commitM at hs
 rw [hj] at hs
 dsimp only at hs
 exact (opt_if hs).1
set_option maxHeartbeats 4000000 in
theorem Rep.stop (h:Rep mb V own w s) {xb j:Nat} {s':St} (hx:own xb = 22 + 5 * j) (hs:stopM s j = some s'):Calls Tryz.prog 119 #[ptr mb,ptr xb] w (Does mb V own w unit s'):=by
 unfold stopM at hs
 cases hj:s.ms[j]? with
 | none=>rw [hj] at hs;cases hs
 | some y=>
 rw [hj] at hs
 dsimp only at hs
 have c19:=h.c19
 by_cases hw:0 < s.sc.wait
 ·rw [if_pos hw] at hs
  have HA:=Lib.hid (h.again hx hj hs)
  clear h hx hs hj
  generalize s.sc.wait = u at *
  go_enter Tryz.func119,Tryz.ntmps119
  go_wp2_with (go_at_call 186;refine HA.out.mono ?_;rintro e w1 ⟨rfl,o1,hR,hE⟩;have HR:=Lib.hid hR;have HE:=Lib.hid hE;clear hR hE)
  go_end0
  exact ⟨rfl,V,o1,HR.out,HE.out,Fx.refl V⟩
 ·rw [if_neg hw] at hs
  have hj1:((s.setX j { y with phase:=2 }).setSc { s.sc with holder:=y.g }).ms[j]? = some { y with phase:=2 }:=setX_at (lt_of_some hj)
  have hg1:1 ≤ y.g:=commit_g (y:={ y with phase:=2 }) hs hj1
  have hg2:=(h.xg hj).2
  obtain ⟨i,hgi⟩:∃ i:Nat,y.g = (i:Int) + 1:=⟨(y.g - 1).toNat,by omega⟩
  have HGI:=hgi
  rw [hgi] at hg1 hg2
  have e2:((i:Int) + 1 - 1).toNat = i:=by omega
  obtain ⟨e1,hb⟩:=h.gp hg1 hg2
  rw [e2] at e1 hb
  obtain ⟨b,hbe⟩:∃ b,V.gb i = b:=⟨_,rfl⟩
  rw [hbe] at e1 hb
  have x2:w.cell? ⟨xb,2,none⟩ = some (ptr b):=by rw [← e1,← hgi];exact xc2 (h.xblk hx hj)
  have x3:=xc3 (h.xblk hx hj)
  have f3:=(h.xblk hx hj).free 3
  have c20:=h.c20
  have f20:=h.mfree 20
  obtain ⟨hR1,hE1⟩:=h.setPhase hx hj 2
  obtain ⟨hR2,hE2⟩:=hR1.setHolder hb HGI
  have HC:=Lib.hid (hR2.commit hx hs)
  have HE:=Lib.hid (hE1.trans hE2)
  have nx:¬ xb = mb:=by have:=h.om;rintro rfl;omega
  have nm:¬ mb = xb:=fun e=>nx e.symm
  obtain ⟨hv,hhv⟩:∃ hv,gptr V.gb s.sc.holder = hv:=⟨_,rfl⟩
  rw [hhv] at c20
  obtain ⟨ph,hph⟩:∃ ph,y.phase = ph:=⟨_,rfl⟩
  rw [hph] at x3
  have hw2:s.sc.wait ≤ 0:=by omega
  clear HGI h hx hs hj hj1 hg1 hg2 hgi e2 e1 hb hbe hR1 hE1 hR2 hE2 hhv hw hph
  generalize s.sc.wait = u at *
  go_enter Tryz.func119,Tryz.ntmps119
  go_wp2_with (go_at_call 187;refine HC.out.mono ?_;rintro e w1 ⟨rfl,V1,o1,hR,hE,hF⟩;have HR:=Lib.hid (And.intro hR hF);have HE1:=Lib.hid (HE.out.trans hE);clear hR hE hF)
  go_end0
  exact ⟨rfl,V1,o1,HR.out.1,HE1.out,HR.out.2⟩
end
end Go.Proofs.YtgadhchejmlfjaaGreatDoor.Mac
end
section
namespace Go.Proofs.YtgadhchejmlfjaaGreatDoor.Mac
open Go.RowKit Go.Esc
open Go.Proofs.YtgadhchejmlfjaaGreatDoor.Vm (Ins)
section
variable {mb:Nat} {V:Vr} {own:Nat → Nat} {w:World} {s:St}
theorem enter_g {s s':St} {j:Nat} {y:M1} {a:Int} (hs:enterM s j a = some s') (hj:s.ms[j]? = some y):1 ≤ y.g:=by
 unfold enterM at hs
 rw [hj] at hs
 dsimp only at hs
 exact (opt_if hs).1.1
theorem do_g {s s':St} {j:Nat} {y:M1} {ins:Ins} (hs:doM s j ins = some s') (hj:s.ms[j]? = some y):1 ≤ y.g:=by
 unfold doM at hs
 rw [hj] at hs
 dsimp only at hs
 split at hs
 ·split at hs
  ·exact commit_g hs hj
  ·exact enter_g hs hj
 ·split at hs
  ·obtain ⟨s1,h1,_⟩:=bind_some hs
   exact commit_g h1 hj
  ·split at hs
   ·obtain ⟨s1,h1,_⟩:=bind_some hs
    exact commit_g h1 hj
   ·split at hs
    ·cases hs
    ·exact (opt_if hs).1
set_option maxHeartbeats 8000000 in
theorem Rep.do_ (h:Rep mb V own w s) {xb j:Nat} {op a b2 c n:Int} {s':St} (hx:own xb = 22 + 5 * j) (hs:doM s j ⟨op,a,b2,c,n⟩ = some s'):Calls Tryz.prog 178 #[ptr mb,ptr xb,.agg #[.int .i64 op,.int .i64 a,.int .i64 b2,.int .i64 c,.int .i64 n]] w (DoesW mb V own w unit s'):=by
 cases hj:s.ms[j]? with
 | none=>unfold doM at hs;rw [hj] at hs;cases hs
 | some y=>
 have hg1:=do_g hs hj
 unfold doM at hs
 rw [hj] at hs
 dsimp only at hs
 have hg2:=(h.xg hj).2
 obtain ⟨i,hgi⟩:∃ i:Nat,y.g = (i:Int) + 1:=⟨(y.g - 1).toNat,by omega⟩
 rw [hgi] at hg1 hg2 hs
 have e2:((i:Int) + 1 - 1).toNat = i:=by omega
 rw [e2,if_pos hg1] at hs
 obtain ⟨e1,hb⟩:=h.gp hg1 hg2
 rw [e2] at e1 hb
 obtain ⟨b,hbe⟩:∃ b,V.gb i = b:=⟨_,rfl⟩
 rw [hbe] at e1 hb
 have h0:=h.alloc (insO op a b2 c n)
 have x2:(w.alloc (insO op a b2 c n)).cell? ⟨xb,2,none⟩ = some (ptr b):=by rw [← e1,← hgi];exact xc2 (h0.xblk hx hj)
 have c20:=h0.c20
 have E0:=(Ext.refl own w).alloc (insO op a b2 c n)
 have B0:Blk (w.alloc (insO op a b2 c n)) w.heap.size #[.int .i64 op,.int .i64 a,.int .i64 b2,.int .i64 c,.int .i64 n] 84:=Blk.new w _ 84
 have hL:=h.fresh w.heap.size (Nat.le_refl _)
 have hml:=h.mlt
 have hxl:=h.xlt hx hj
 have hxl0:=h0.xlt hx hj
 have hbl0:=h0.glt hb (List.getElem?_eq_getElem (h0.lg b i hb))
 have nm:¬ mb = w.heap.size:=by omega
 have nx:¬ xb = w.heap.size:=by omega
 obtain ⟨hv,hhv⟩:∃ hv,gptr V.gb s.sc.holder = hv:=⟨_,rfl⟩
 have heq:∀ m,(binOp .eql 119 hv (ptr b)).run Tryz.prog ((w.alloc (insO op a b2 c n)).drewN m) = .ok (.bool (decide (s.sc.holder = (i:Int) + 1))) ((w.alloc (insO op a b2 c n)).drewN m):=fun m=>by
  rw [← hhv];exact (h0.drewN m).eqlG hb h.hold.1 h.hold.2
 rw [hhv] at c20
 obtain ⟨al,hal⟩:∃ al,decide (s.sc.holder = (i:Int) + 1) = al:=⟨_,rfl⟩
 rw [hal] at heq hs
 have HE0:=Lib.hid (And.intro h0 (And.intro E0 (And.intro B0 hL)))
 have HX:=Lib.hid (And.intro hx (And.intro hxl0 (And.intro hb (And.intro hbl0 hj))))
 have HS:=Lib.hid hs
 unfold insO at HE0 HX heq x2 c20
 clear h h0 E0 B0 hL hx hxl0 hb hbl0 hj hg1 hg2 hgi e1 e2 hbe hs hhv hal hml hxl
 have hgd:=eqg_ptr (.tmp 15) (.tmp 19) hv b
 go_enter Tryz.func178,Tryz.ntmps178
 go_wp2
 go_quiet (fail)
 have HR:=Lib.hid (HE0.out.1.drewN nq)
 have HE:=Lib.hid (HE0.out.2.1.drewN nq)
 have B1:Blk ((w.alloc (.cells #[.int .i64 op,.int .i64 a,.int .i64 b2,.int .i64 c,.int .i64 n] 84)).drewN nq) w.heap.size #[.int .i64 op,.int .i64 a,.int .i64 b2,.int .i64 c,.int .i64 n] 84:=HE0.out.2.2.1
 have l0:=B1.cell 0
 have l1:=B1.cell 1
 have l2:=B1.cell 2
 have l3:=B1.cell 3
 have l4:=B1.cell 4
 simp only [List.getElem?_toArray,List.getElem?_cons_zero,List.getElem?_cons_succ] at l0 l1 l2 l3 l4
 have HJ:=Lib.hid (And.intro HX.out.1 (And.intro (show xb < ((w.alloc (.cells #[.int .i64 op,.int .i64 a,.int .i64 b2,.int .i64 c,.int .i64 n] 84)).drewN nq).heap.size from HX.out.2.1) (And.intro HX.out.2.2.1 (show b < ((w.alloc (.cells #[.int .i64 op,.int .i64 a,.int .i64 b2,.int .i64 c,.int .i64 n] 84)).drewN nq).heap.size from HX.out.2.2.2.1))))
 clear x2 c20 heq HE0 HX B1 nm nx hgd
 generalize (w.alloc (.cells #[.int .i64 op,.int .i64 a,.int .i64 b2,.int .i64 c,.int .i64 n] 84)).drewN nq = W at *
 generalize w.heap.size = L at *
 have hs:=HS.out
 clear HS
 by_cases h1:op = 17 ∨ op = 19
 ·rw [if_pos h1] at hs
  cases al with
  | true=>
   rw [if_pos rfl] at hs
   have HC:=Lib.hid (HR.out.commit HJ.out.1 hs)
   clear hs
   rcases h1 with rfl | rfl
   all_goals
    go_wp2_with (go_at_call 187;refine HC.out.mono ?_;rintro e w1 ⟨rfl,V1,o1,hR,hE,hF⟩;have HR1:=Lib.hid (And.intro hR hF);have HE1:=Lib.hid (HE.out.trans hE);clear hR hE hF)
    go_end0
    exact ⟨rfl,V1,o1,HR1.out.1,HE1.out,HR1.out.2.toFw⟩
  | false=>
   rw [if_neg (by decide)] at hs
   have HC:=Lib.hid (HR.out.enterX op a b2 c n HJ.out.1 hs)
   clear hs
   rcases h1 with rfl | rfl
   all_goals
    go_wp2_with (go_at_call 248;refine HC.out.mono ?_;rintro e w1 ⟨rfl,o1,hR,hE⟩;have HR1:=Lib.hid hR;have HE1:=Lib.hid (HE.out.trans hE);clear hR hE)
    go_end0
    exact ⟨rfl,V,o1,HR1.out,HE1.out,Fw.refl V⟩
 ·rw [if_neg h1] at hs
  have d17:(op == 17) = false:=by simp;omega
  have d19:(op == 19) = false:=by simp;omega
  by_cases h2:op = 18
  ·rw [if_pos h2] at hs
   replace hs:=bind_some hs
   obtain ⟨s1,hc,hs⟩:=hs
   have HC:=Lib.hid (HR.out.commit HJ.out.1 hc)
   clear hc h1
   subst h2
   cases al with
   | true=>
    rw [if_pos rfl] at hs
    have HS:=Lib.hid hs
    clear hs
    go_wp2_with (first
     | (go_at_call 187;refine HC.out.mono ?_;rintro e w1 ⟨rfl,V1,o1,hR,hE,hF⟩;have HS2:=Lib.hid (hR.start (hE.keep HJ.out.1 HJ.out.2.1) HS.out);have HR1:=Lib.hid (And.intro hR hF);have HE1:=Lib.hid (HE.out.trans hE);clear hR hE hF)
     | (go_at_call 249;refine HS2.out.mono ?_;rintro e w2 ⟨rfl,V2,o2,hR,hE,hF⟩;have HR2:=Lib.hid (And.intro hR (HR1.out.2.trans hF));have HE2:=Lib.hid (HE1.out.trans hE);clear hR hE hF))
    go_end0
    exact ⟨rfl,V2,o2,HR2.out.1,HE2.out,HR2.out.2.toFw⟩
   | false=>
    rw [if_neg (by decide)] at hs
    obtain rfl:=Option.some.inj hs
    clear hs
    go_wp2_with (go_at_call 187;refine HC.out.mono ?_;rintro e w1 ⟨rfl,V1,o1,hR,hE,hF⟩;have HR1:=Lib.hid (And.intro hR hF);have HE1:=Lib.hid (HE.out.trans hE);clear hR hE hF)
    go_end0
    exact ⟨rfl,V1,o1,HR1.out.1,HE1.out,HR1.out.2.toFw⟩
  ·rw [if_neg h2] at hs
   have d18:(op == 18) = false:=by simpa using h2
   by_cases h3:op = 11
   ·rw [if_pos h3] at hs
    replace hs:=bind_some hs
    obtain ⟨s1,hc,hs⟩:=hs
    have HC:=Lib.hid (HR.out.commit HJ.out.1 hc)
    clear hc h1 h2
    subst h3
    cases al with
    | true=>
     rw [if_pos rfl] at hs
     obtain rfl:=Option.some.inj hs
     clear hs
     go_wp2_with (go_at_call 187;refine HC.out.mono ?_;rintro e w1 ⟨rfl,V1,o1,hR,hE,hF⟩;have HR1:=Lib.hid (And.intro hR hF);have HE1:=Lib.hid (HE.out.trans hE);clear hR hE hF)
     go_end0
     exact ⟨rfl,V1,o1,HR1.out.1,HE1.out,HR1.out.2.toFw⟩
    | false=>
     rw [if_neg (by decide)] at hs
     have HS:=Lib.hid hs
     clear hs
     go_wp2_with (first
      | (go_at_call 187;refine HC.out.mono ?_;rintro e w1 ⟨rfl,V1,o1,hR,hE,hF⟩;have HS2:=Lib.hid (hR.back (hE.keep HJ.out.1 HJ.out.2.1) HS.out);have HR1:=Lib.hid (And.intro hR hF);have HE1:=Lib.hid (HE.out.trans hE);clear hR hE hF)
      | (go_at_call 185;refine HS2.out.mono ?_;rintro e w2 ⟨rfl,V2,o2,hR,hE,hF⟩;have HR2:=Lib.hid (And.intro hR (HR1.out.2.trans hF));have HE2:=Lib.hid (HE1.out.trans hE);clear hR hE hF))
     go_end0
     exact ⟨rfl,V2,o2,HR2.out.1,HE2.out,HR2.out.2.toFw⟩
   ·rw [if_neg h3] at hs
    have d11:(op == 11) = false:=by simpa using h3
    by_cases h4:op = 12 ∨ op = 16 ∨ op = 20
    ·rw [if_pos h4] at hs;cases hs
    ·rw [if_neg h4] at hs
     have d12:(op == 12) = false:=by simp;omega
     have d16:(op == 16) = false:=by simp;omega
     have d20:(op == 20) = false:=by simp;omega
     replace hs:=bind_some hs
     obtain ⟨⟨r,s1⟩,ha,hs⟩:=hs
     have HC:=Lib.hid (HR.out.answer HJ.out.1 HJ.out.2.2.1 ha)
     have HS:=Lib.hid hs
     clear ha hs h1 h2 h3 h4
     go_wp2_with (first
      | (go_at_call 253;refine HC.out.mono ?_;rintro e w1 ⟨rfl,V1,o1,hR,hE,hF⟩;have HS2:=Lib.hid (hR.commit (hE.keep HJ.out.1 HJ.out.2.1) HS.out);have HR1:=Lib.hid (And.intro hR hF);have HE1:=Lib.hid (HE.out.trans hE);clear hR hE hF)
      | (go_at_call 187;refine HS2.out.mono ?_;rintro e w2 ⟨rfl,V2,o2,hR,hE,hF⟩;have HR2:=Lib.hid (And.intro hR (HR1.out.2.trans hF.toFw));have HE2:=Lib.hid (HE1.out.trans hE);clear hR hE hF))
     go_end0
     exact ⟨rfl,V2,o2,HR2.out.1,HE2.out,HR2.out.2⟩
end
end Go.Proofs.YtgadhchejmlfjaaGreatDoor.Mac
end
