/- Parts of the proof of TopReaches. -/
import Derived.Test.YtgadhchejmlfjaaGreatDoorD8
set_option linter.unusedVariables false
set_option maxRecDepth 20000
section
namespace Go.Proofs.YtgadhchejmlfjaaGreatDoor.Mac
open Go.RowKit Go.Esc
open Go.Proofs.YtgadhchejmlfjaaGreatDoor.Pstat (Pr pz)
open Go.Proofs.YtgadhchejmlfjaaGreatDoor.Vm (Ins)
section
variable {mb:Nat} {V:Vr} {own:Nat → Nat} {w:World} {s:St}
theorem wrap64_max (x:Int):wrap64 x ≤ 9223372036854775807:=by unfold wrap64;omega
theorem mset_start {c:Sc} (h:Blk w mb (mcells V c) 121):Blk ((w.setCell ⟨mb,20,none⟩ (.pointer none)).setCell ⟨mb,18,none⟩ (.bool false)) mb (mcells V { c with holder:=0,stopped:=false }) 121:=
 (h.set 20 (.pointer none)).set 18 (.bool false)
theorem Rep.setStart (h:Rep mb V own w s):Rep mb V own ((w.setCell ⟨mb,20,none⟩ (.pointer none)).setCell ⟨mb,18,none⟩ (.bool false)) (s.setSc { s.sc with holder:=0,stopped:=false }) ∧ Ext own w own ((w.setCell ⟨mb,20,none⟩ (.pointer none)).setCell ⟨mb,18,none⟩ (.bool false)):=
 h.putSc (oset (oset (orefl mb w) 20 (.pointer none)) 18 (.bool false)) { s.sc with holder:=0,stopped:=false } ⟨Int.le_refl 0,Int.natCast_nonneg _⟩ (mset_start h.mblk)
def lensM (ls:List (List Int)):List Int:=ls.map fun l=>(l.length:Int)
def LensR (ls:List (List Int)) (w1:World) (t5 t29:Value) (wr:World):Prop:=
 ∃ k:Nat,k ≤ ls.length ∧ t29 = .int .i64 k ∧ OwnI wr w1.heap.size t5 ((lensM ls).take k) ∧ Below w1.heap.size w1 wr
theorem lens_step {ls:List (List Int)} {w1 wr W2:World} {k:Nat} {v v':Value} {o:Obj} {l:List Int} (hk:k < ls.length) (hl:ls[k]?.getD [] = l) (hO:OwnI wr w1.heap.size v ((lensM ls).take k)) (hB:Below w1.heap.size w1 wr)
  (hA:Appd (wr.alloc o) w1.heap.size v ((lensM ls).take k) [(l.length:Int)] v' W2) (t29:Value) (ht:t29 = .int .i64 (k + 1:Nat)):LensR ls w1 v' t29 W2:=by
 refine ⟨k + 1,hk,ht,?_,?_⟩
 ·have:(lensM ls).take (k + 1) = (lensM ls).take k ++ [(l.length:Int)]:=by
   rw [List.take_add_one]
   congr 1
   unfold lensM
   rw [List.getElem?_map,List.getElem?_eq_getElem hk]
   rw [List.getElem?_eq_getElem hk] at hl
   simp only [Option.getD_some] at hl
   simp [hl]
  rw [this]
  exact hA.1
 ·exact Below.grown (hB.alloc hB.size o) hA.2.1 (by have:=hB.size;simp;omega) (fun j hj=>(hO.lt j hj).1)
def PlanF (own:Nat → Nat) (W:World) (P:Nat) (v1 v2:Value) (gl il:List Int):Prop:=
 Blk W P #[v1,v2] 367 ∧ own P = 0 ∧ OwnI W 0 v1 gl ∧ OwnI W 0 v2 il ∧ (∀ j,v1.ownBlock = some j → own j = 0) ∧ (∀ j,v2.ownBlock = some j → own j = 0)
theorem PlanF.ext {own own':Nat → Nat} {W W':World} {P:Nat} {v1 v2:Value} {gl il:List Int} (h:PlanF own W P v1 v2 gl il) (hE:Ext own W own' W'):PlanF own' W' P v1 v2 gl il:=by
 obtain ⟨a,b,c,d,e,f⟩:=h
 obtain ⟨c1,c2⟩:=slw_ext c e hE
 obtain ⟨d1,d2⟩:=slw_ext d f hE
 exact ⟨blk_ext a b hE,(hE.same P a.lt).trans b,c1,d1,c2,d2⟩
abbrev planO:Obj:=.cells #[.slice none 0 0,.slice none 0 0] 367
def PlanE (mb:Nat) (V:Vr) (own:Nat → Nat) (wa:World) (s:St) (W:World) (P:Nat) (v1 v2:Value) (gl il:List Int):Prop:=
  Rep mb V own W s ∧ Ext own wa own W ∧ PlanF own W P v1 v2 gl il
theorem plan_end {wa w4:World} {P:Nat} {v1 v2:Value} {gl il:List Int} (hR:Rep mb V own wa s) (hB:Below wa.heap.size wa w4) (hP:Blk w4 P #[.slice none 0 0,.slice none 0 0] 367) (hPa:wa.heap.size ≤ P) (o1:OwnI w4 wa.heap.size v1 gl) (o2:OwnI w4 wa.heap.size v2 il) (n1:v1.ownBlock ≠ some P) (n2:v2.ownBlock ≠ some P) :
  PlanE mb V own wa s ((w4.setCell ⟨P,0,none⟩ v1).setCell ⟨P,1,none⟩ v2) P v1 v2 gl il:=by
 have hB2:Below wa.heap.size wa ((w4.setCell ⟨P,0,none⟩ v1).setCell ⟨P,1,none⟩ v2):=(hB.setCell hPa _).setCell hPa _
 have hO:Only (fun j=>j = P) w4 ((w4.setCell ⟨P,0,none⟩ v1).setCell ⟨P,1,none⟩ v2):=oset (oset (orefl P w4) 0 v1) 1 v2
 refine ⟨hR.below hB2,Ext.below hB2,(hP.set 0 v1).set 1 v2,hR.fresh _ hPa,(o1.off hO (fun j hj e=>n1 (by rw [hj,show j = P from e]))).mono (Nat.zero_le _),(o2.off hO (fun j hj e=>n2 (by rw [hj,show j = P from e]))).mono (Nat.zero_le _),fun j hj=>hR.fresh j (o1.lt j hj).1,fun j hj=>hR.fresh j (o2.lt j hj).1⟩
theorem plan_last {wa W w3:World} {v1 v2:Value} {gl il:List Int} (hR:Rep mb V own wa s) (hW:Below wa.heap.size wa W) (hB:Below W.heap.size W w3) (o1:OwnI w3 W.heap.size v1 gl) (o2:OwnI w3 W.heap.size v2 il):PlanE mb V own wa s (w3.alloc (.cells #[v1,v2] 367)) w3.heap.size v1 v2 gl il:=by
 have hb:=hW.trans (hB.mono hW.size)
 have hB2:Below wa.heap.size wa (w3.alloc (.cells #[v1,v2] 367)):=hb.alloc hb.size _
 exact ⟨hR.below hB2,Ext.below hB2,Blk.new w3 _ 367,hR.fresh _ hb.size,(o1.below (below_alloc (Below.refl _ _) _)).mono (Nat.zero_le _),(o2.below (below_alloc (Below.refl _ _) _)).mono (Nat.zero_le _),fun j hj=>hR.fresh j (Nat.le_trans hW.size (o1.lt j hj).1),fun j hj=>hR.fresh j (Nat.le_trans hW.size (o2.lt j hj).1)⟩
theorem plan_ahead {wa W w3:World} {P:Nat} {v1 v2:Value} {gl il:List Int} (hR:Rep mb V own wa s) (hW:Below wa.heap.size wa W) (hB:Below W.heap.size W w3) (hP:Blk W P #[.slice none 0 0,.slice none 0 0] 367) (hPa:wa.heap.size ≤ P) (o1:OwnI w3 W.heap.size v1 gl) (o2:OwnI w3 W.heap.size v2 il):PlanE mb V own wa s ((w3.setCell ⟨P,0,none⟩ v1).setCell ⟨P,1,none⟩ v2) P v1 v2 gl il:=
 plan_end hR (hW.trans (hB.mono hW.size)) (hP.below hB hP.lt) hPa (o1.mono hW.size) (o2.mono hW.size) (fun e=>by have h1:=(o1.lt _ e).1;have h2:=hP.lt;omega) (fun e=>by have h1:=(o2.lt _ e).1;have h2:=hP.lt;omega)
theorem bl_drew {wa W:World} (h:Below wa.heap.size wa W):Below wa.heap.size wa W.drew:=h.trans ⟨rfl,rfl,rfl,Nat.le_refl _,fun _ _=>rfl⟩
theorem bl_next {wa W w2:World} (h:Below wa.heap.size wa W) (h2:Below W.heap.size W w2):Below wa.heap.size wa w2:=h.trans (h2.mono h.size)
theorem bl_alloc {wa W:World} (h:Below wa.heap.size wa W) (o:Obj):Below wa.heap.size wa (W.alloc o):=h.alloc h.size o
def GoR (mb:Nat) (V:Vr) (own:Nat → Nat) (w:World) (P:Nat) (v1 v2:Value) (gl il:List Int) (s2:St) (t:Value) (wr:World):Prop:=
 ∃ (k:Nat) (V1:Vr) (own1:Nat → Nat) (s1:St),k ≤ gl.length ∧ t = .int .i64 k ∧ Rep mb V1 own1 wr s1 ∧ Ext own w own1 wr ∧ Fx V V1 ∧ PlanF own1 wr P v1 v2 gl il ∧ goL (gl.drop k) s1 = some s2
theorem worldL_len (me:Int):∀ (l:List Int) (i:Nat) (m:Int),(worldL me l i m).1.length + (worldL me l i m).2.length ≤ l.length
 | [],i,m=>by simp [worldL]
 | n :: r,i,m=>by
  rw [Spr.worldL_cons]
  split
  ·have:=worldL_len me r (i + 1) m
   simp only [List.length_cons];omega
  ·split
   ·have:=worldL_len me r (i + 1) (m - 1)
    simp only [List.length_cons];omega
   ·have:=worldL_len me r (i + 1) m
    simp only [List.length_cons];omega
theorem Rep.allB (h:Rep mb V own w s) {p:Nat} (hp:p < s.rings.length):(Ring.allL (rAt s p).nx (rAt s p).row).length ≤ 257:=by
 obtain ⟨rv,R,hT⟩:=h.rings (by decide)
 have hw:=(hT.prc.ring p hp).nums
 rw [(hT.is p hp).1,(hT.is p hp).2] at hw
 have h1:(rAt s p).row.length ≤ 256:=hw.1
 unfold Ring.allL
 rw [List.length_append]
 split
 ·simp only [List.length_cons,List.length_nil];omega
 ·simp only [List.length_nil];omega
def IdR (mb:Nat) (V:Vr) (own:Nat → Nat) (w:World) (v2:Value) (il:List Int) (s2:St) (t:Value) (wr:World):Prop:=
 ∃ (k:Nat) (V1:Vr) (own1:Nat → Nat) (s1:St),k ≤ il.length ∧ t = .int .i64 k ∧ Rep mb V1 own1 wr s1 ∧ Ext own w own1 wr ∧ Fx V V1 ∧ OwnI wr 0 v2 il ∧ (∀ j,v2.ownBlock = some j → own1 j = 0) ∧ idleL (il.drop k) s1 = some s2
set_option maxHeartbeats 16000000 in
theorem Rep.start (h:Rep mb V own w s) {xb j:Nat} {s':St} (hx:own xb = 22 + 5 * j) (hs:startM s j = some s'):Calls Tryz.prog 249 #[ptr mb,ptr xb] w (Does mb V own w unit s'):=by
 unfold startM at hs
 cases hj:s.ms[j]? with
 | none=>rw [hj] at hs;cases hs
 | some y=>
 rw [hj] at hs
 dsimp only at hs
 replace hs:=opt_if hs
 obtain ⟨⟨hg1,hg2⟩,hs⟩:=hs
 obtain ⟨e1,hb⟩:=h.gp hg1 hg2
 obtain ⟨i,hi⟩:∃ i:Nat,(s.sc.holder - 1).toNat = i:=⟨_,rfl⟩
 rw [hi] at e1 hb hs
 have hil:i < s.gs.length:=by omega
 obtain ⟨b,hbe⟩:∃ b,V.gb i = b:=⟨_,rfl⟩
 rw [hbe] at e1 hb
 have c20:=h.c20
 rw [e1] at c20
 have f20:=h.mfree 20
 have c18:=h.c18
 have f18:=h.mfree 18
 have hxl:=h.xlt hx hj
 have hbl:=h.glt hb (List.getElem?_eq_getElem hil)
 obtain ⟨h1,hE1⟩:=h.setStart
 obtain ⟨s1,hs1⟩:∃ s1,s1 = s.setSc { s.sc with holder:=0,stopped:=false }:=⟨_,rfl⟩
 have hj1:s1.ms[j]? = some y:=by rw [hs1];exact hj
 have hil1:i < s1.gs.length:=by rw [hs1];exact hil
 rw [← hs1] at h1 hs
 have hr256:=h1.lim.2.2
 have hqlen:(qsM s1.rings).length = s1.rings.length:=by unfold qsM;simp
 have c0:=h1.c0
 have HQ:=Lib.hid h1.queues
 have HH:=Lib.hid (And.intro h1 (And.intro hE1 (And.intro hs (And.intro hj1 hil1))))
 have HX:=Lib.hid (And.intro hx (And.intro hxl (And.intro hb hbl)))
 have HQ2:=Lib.hid hqlen
 have hq256:(qsM s1.rings).length ≤ 256:=by omega
 clear h h1 hE1 hs hj hj1 hx hxl hb hbl hg1 hg2 hi hil hil1 hs1 hbe e1 hqlen hr256
 obtain ⟨ls,hls⟩:∃ ls,qsM s1.rings = ls:=⟨_,rfl⟩
 rw [hls] at HQ HQ2 hq256
 have HLS:=Lib.hid hls
 clear hls
 go_enter Tryz.func249,Tryz.ntmps249
 go_wp2_with (go_at_call 60;refine HQ.out.mono ?_;rintro e w1 ⟨vq,rfl,hLL,hBq⟩;obtain ⟨qa,qc,rfl⟩:=hLL.len;have HLL:=Lib.hid hLL;have HBq:=Lib.hid hBq;clear hLL hBq)
 clear c20 f20 c18 f18
 go_loopw [5,29] (fun t5 t29 wr=>LensR ls w1 t5 t29 wr) (fun _ t _=>ls.length - (intOf t).toNat)
 case atStart=>exact ⟨0,Nat.zero_le _,rfl,OwnI.nil _ _,Below.refl _ _⟩
 case round=>
  obtain ⟨k,hk,rfl,hO,hB⟩:=hrel
  by_cases hlt:k < ls.length
  ·have hLk:=HLL.out.below hB
   obtain ⟨_,g,u,rfl,cu,hOu⟩:=hLk.at k hlt
   obtain ⟨l,hl⟩:∃ l,ls[k]?.getD [] = l:=⟨_,rfl⟩
   rw [hl] at hOu
   obtain ⟨ua,uc,rfl⟩:=Glob.own_len hOu
   have hkn:(k:Int) < (ls.length:Int):=by omega
   obtain ⟨a5,c5,rfl⟩:=Glob.own_len hO
   have hLT:((lensM ls).take k).length = k:=by unfold lensM;rw [List.length_take,List.length_map];omega
   have HO:=Lib.hid hO
   have HB:=Lib.hid hB
   have HLn:=Lib.hid hl
   have hsz:=hB.size
   clear hLk hOu hO hB hl
   go_wp2_with (at_builtin;refine appX Tryz.underlying22 Glob.info3 w1.heap.size _ rfl _ _ rfl _ _ _ [(l.length:Int)] rfl rfl (HO.out.below (below_alloc (Below.refl _ _) _)) (Slw.new1 wr (l.length:Int)) (by simp;omega) (by rw [hLT];simp;omega) ?_;intro v' w2 hA;obtain ⟨g',cap'',hv'⟩:=hA.some;rw [hLT] at hv';subst hv';have HA:=Lib.hid hA;clear hA)
   go_roundw
   case rel=>exact lens_step hlt HLn.out HO.out HB.out HA.out _ (by go_num)
   case measure=>simp [intOf];omega
  ·obtain rfl:k = ls.length:=by omega
   rw [show (lensM ls).take ls.length = lensM ls from List.take_of_length_le (by simp [lensM])] at hO
   obtain ⟨a5,c5,rfl⟩:=Glob.own_len hO
   have hLL5:(lensM ls).length = ls.length:=by simp [lensM]
   rw [hLL5] at hO ⊢
   have hxr:wr.cell? ⟨xb,1,none⟩ = some (.int .i64 y.p):=xc1 (((HH.out.1.below HBq.out).below hB).xblk HX.out.1 HH.out.2.2.2.1)
   have HR0:=Lib.hid ((HH.out.1.below HBq.out).below hB)
   have HE0:=Lib.hid ((HH.out.2.1.trans (Ext.below HBq.out)).trans (Ext.below hB))
   have HO:=Lib.hid hO
   clear hO hB
   have HFr:Hid (∀ W,Below wr.heap.size wr W → Calls Tryz.prog 298 #[ptr mb] W fun e w'=>e = .returned (.int .i64 (freeM s1)) ∧ Below W.heap.size W w'):=fun W hW=>((HR0.out.below hW).free).mono (by rintro e w' ⟨rfl,n,rfl⟩;exact ⟨rfl,⟨rfl,rfl,rfl,Nat.le_refl _,fun _ _=>rfl⟩⟩)
   have hls5:(lensM ls).length ≤ 100000:=by simp [lensM];omega
   have HWo:Hid (∀ W,Below wr.heap.size wr W → Calls Tryz.prog 297 #[.slice a5 ls.length c5,.int .i64 y.p,.int .i64 (freeM s1)] W (Spr.WorldP (worldM (lensM ls) y.p (freeM s1)) W)):=fun W hW=>Spr.world_any _ (lensM ls) y.p (freeM s1) W (Slw.ofOwn (HO.out.below hW)) hls5 (wrap64_max _)
   have HXr:Hid (∀ W,Below wr.heap.size wr W → W.cell? ⟨xb,1,none⟩ = some (.int .i64 y.p)):=fun W hW=>xc1 ((HR0.out.below hW).xblk (HE0.out.keep HX.out.1 HX.out.2.1) HH.out.2.2.2.1)
   have hxlr:=(HR0.out.xlt (HE0.out.keep HX.out.1 HX.out.2.1) HH.out.2.2.2.1)
   have HXL:=Lib.hid hxlr
   have nwr:¬ xb = wr.heap.size:=by omega
   have mwr:¬ wr.heap.size = xb:=by omega
   clear hls5 c0 hxlr
   have hs:=HH.out.2.2.1
   rw [HLS.out,show List.map (fun l=>(l.length:Int)) ls = lensM ls from rfl] at hs
   obtain ⟨⟨gl,il⟩,hpl⟩:∃ pl,worldM (lensM ls) y.p (freeM s1) = pl:=⟨_,rfl⟩
   have hwl:gl.length ≤ 256 ∧ il.length ≤ 256:=by
    have h1:=worldL_len y.p (lensM ls) 0 (freeM s1)
    have h2:worldL y.p (lensM ls) 0 (freeM s1) = (gl,il):=hpl
    rw [h2,hLL5] at h1
    dsimp only at h1
    omega
   rw [hpl] at hs HWo
   dsimp only at hs
   replace hs:=bind_some hs
   obtain ⟨s2,hgo,hs⟩:=hs
   have HS:=Lib.hid (And.intro hgo hs)
   clear hs hgo hpl
   go_wp2
   generalize freeM s1 = fr at *
   go_region_held3 (fun w'=>w'.cell? ⟨xb,1,none⟩ = some (.int .i64 y.p)) (go_keep) (first
    | (go_at_call 298;refine (HFr.out _ (by repeat (first | exact Below.refl _ _ | apply bl_alloc | apply bl_drew))).mono ?_;rintro e w2 ⟨rfl,hB2⟩;have hW2:Below wr.heap.size wr w2:=bl_next (by repeat (first | exact Below.refl _ _ | apply bl_alloc | apply bl_drew)) hB2;have kx:=HXr.out _ hW2;have nw2:¬ xb = w2.heap.size:=(by have h1:=hW2.size;have h2:=HXL.out;omega);have mw2:¬ w2.heap.size = xb:=(by have h1:=hW2.size;have h2:=HXL.out;omega);first | (have hP2:Blk w2 wr.heap.size #[.slice none 0 0,.slice none 0 0] 367:=(Blk.new wr.drew #[.slice none 0 0,.slice none 0 0] 367).below hB2 (by simp);have q0:=hP2.cell 0;have q1:=hP2.cell 1;have q2:=hP2.free 0;have q3:=hP2.free 1;have HP2:=Lib.hid hP2;clear hP2;simp only [List.getElem?_toArray,List.getElem?_cons_zero,List.getElem?_cons_succ] at q0 q1;have HW2:=Lib.hid hW2;clear hW2 hB2) | (have HW2:=Lib.hid hW2;clear hW2 hB2))
    | (go_at_call 297;refine (HWo.out _ (by repeat (first | exact HW2.out | apply bl_alloc))).mono ?_;rintro e w3 ⟨v1,v2,rfl,o1,o2,hB3⟩;dsimp only at o1 o2;obtain ⟨p1,r1,rfl⟩:=Glob.own_len o1;obtain ⟨p2,r2,rfl⟩:=Glob.own_len o2;first
     | (have kz:=HXr.out _ (bl_next HW2.out hB3);have nw3:¬ xb = w3.heap.size:=(by have h1:=(bl_next HW2.out hB3).size;have h2:=HXL.out;omega);have mw3:¬ w3.heap.size = xb:=(by have h1:=(bl_next HW2.out hB3).size;have h2:=HXL.out;omega);have HPl:=Lib.hid (plan_ahead HR0.out HW2.out hB3 HP2.out (Nat.le_refl _) o1 o2);have hP3:=HP2.out.below hB3 HP2.out.lt;have q0:=hP3.cell 0;have q1:=hP3.cell 1;have q2:=hP3.free 0;have q3:=hP3.free 1;clear hP3;simp only [List.getElem?_toArray,List.getElem?_cons_zero,List.getElem?_cons_succ] at q0 q1;clear o1 o2 hB3)
     | (have kz:=HXr.out _ (bl_next (bl_alloc HW2.out planO) hB3);have HPl:=Lib.hid (plan_ahead HR0.out (bl_alloc HW2.out planO) hB3 (Blk.new w2 _ 367) HW2.out.size o1 o2);have hP3:=(Blk.new w2 #[.slice none 0 0,.slice none 0 0] 367).below hB3 (by simp);have q0:=hP3.cell 0;have q1:=hP3.cell 1;have q2:=hP3.free 0;have q3:=hP3.free 1;clear hP3;simp only [List.getElem?_toArray,List.getElem?_cons_zero,List.getElem?_cons_succ] at q0 q1;clear o1 o2 hB3)
     | (have kz:=HXr.out _ (bl_next HW2.out hB3);have nw3:¬ xb = w3.heap.size:=(by have h1:=(bl_next HW2.out hB3).size;have h2:=HXL.out;omega);have mw3:¬ w3.heap.size = xb:=(by have h1:=(bl_next HW2.out hB3).size;have h2:=HXL.out;omega);have HPl:=Lib.hid (plan_last HR0.out HW2.out hB3 o1 o2);clear o1 o2 hB3)))
   all_goals
    first
     | (have hx:Hid (PlanE mb V own wr s1 _ w3.heap.size _ _ gl il):=HPl;clear hx;generalize w3.alloc (.cells #[.slice p1 gl.length r1,.slice p2 il.length r2] 367) = W at *;generalize w3.heap.size = P at *)
     | (have hx:Hid (PlanE mb V own wr s1 _ wr.heap.size _ _ gl il):=HPl;clear hx;generalize (w3.setCell ⟨wr.heap.size,0,none⟩ (.slice p1 gl.length r1)).setCell ⟨wr.heap.size,1,none⟩ (.slice p2 il.length r2) = W at *;generalize wr.heap.size = P at *)
     | (have hx:Hid (PlanE mb V own wr s1 _ w2.heap.size _ _ gl il):=HPl;clear hx;generalize (w3.setCell ⟨w2.heap.size,0,none⟩ (.slice p1 gl.length r1)).setCell ⟨w2.heap.size,1,none⟩ (.slice p2 il.length r2) = W at *;generalize w2.heap.size = P at *)
   all_goals
    have HRP:=Lib.hid HPl.out.1
    have HEP:=Lib.hid (HE0.out.trans HPl.out.2.1)
    have HPF:=Lib.hid HPl.out.2.2
    have pc0:W.cell? ⟨P,0,none⟩ = some (.slice p1 gl.length r1):=HPF.out.1.cell 0
    clear HPl HFr HWo HXr HO HXL
    go_wp2
    go_loopw [50] (fun t wr=>GoR mb V own w P (.slice p1 gl.length r1) (.slice p2 il.length r2) gl il s2 t wr) (fun t _=>gl.length - (intOf t).toNat)
    case atStart=>exact ⟨0,V,own,s1,Nat.zero_le _,rfl,HRP.out,HEP.out,Fx.refl V,HPF.out,HS.out.1⟩
    case round=>
     obtain ⟨k,V1,own1,sA,hk,rfl,hR,hE,hF,hPF,hgo⟩:=hrel
     by_cases hlt:k < gl.length
     ·rcases hPF.2.2.1.open with ⟨_,h0⟩ | ⟨gb,gcap,hv,_,_,_,hcells⟩
      ·rw [h0] at hlt;simp at hlt
      simp only [Value.slice.injEq] at hv
      obtain ⟨rfl,_,rfl⟩:=hv
      have cu:=hcells k hlt
      rw [List.drop_eq_getElem_cons hlt] at hgo
      unfold goL at hgo
      rw [show gl[k]?.getD 0 = gl[k] by rw [List.getElem?_eq_getElem hlt];rfl] at cu
      clear hcells
      generalize gl[k] = n at *
      replace hgo:=bind_some hgo
      obtain ⟨⟨rb,s3⟩,hbg,hgo⟩:=hgo
      have c8:=hR.c8
      have HT:=Lib.hid (hR.sgo n)
      have hkn:(k:Int) < (gl.length:Int):=by omega
      have HE:=Lib.hid hE
      have HF:=Lib.hid (And.intro hF (And.intro hPF (And.intro hbg hgo)))
      clear hR hE hF hPF hbg hgo
      go_wp2_with (first
       | (go_at_call 299;refine HT.out.mono ?_;rintro e w4 ⟨rfl,o4,hR4,hE4⟩;have HR4:=Lib.hid hR4;have HE4:=Lib.hid hE4;clear hR4 hE4)
       | (go_at_call 293;refine (HR4.out.begin HF.out.2.2.1).mono ?_;rintro e w5 ⟨rfl,V5,o5,hR5,hE5,hF5⟩;have HR5:=Lib.hid hR5;have HE5:=Lib.hid (HE4.out.trans hE5);have HF5:=Lib.hid hF5;clear hR5 hE5 hF5))
      go_roundw
      case rel=>exact ⟨k + 1,V5,o5,s3,by omega,by go_num,HR5.out,HE.out.trans HE5.out,HF.out.1.trans HF5.out,HF.out.2.1.ext HE5.out,HF.out.2.2.2⟩
      case measure=>simp [intOf];omega
     ·obtain rfl:k = gl.length:=by omega
      rw [List.drop_length] at hgo
      simp only [goL,Option.some.injEq] at hgo
      subst hgo
      have HI:=HS.out.2
      replace HI:=bind_some HI
      obtain ⟨s3,hid,hs3⟩:=HI
      have pc1:wr.cell? ⟨P,1,none⟩ = some (.slice p2 il.length r2):=hPF.1.cell 1
      have HR:=Lib.hid hR
      have HE:=Lib.hid hE
      have HF:=Lib.hid (And.intro hF (And.intro hPF (And.intro hid hs3)))
      clear hR hE hF hPF hid hs3 pc0 HRP HEP HPF
      go_wp2
      go_loopw [67] (fun t wr=>IdR mb V own w (.slice p2 il.length r2) il s3 t wr) (fun t _=>il.length - (intOf t).toNat)
      case atStart=>exact ⟨0,V1,own1,sA,Nat.zero_le _,rfl,HR.out,HE.out,HF.out.1,HF.out.2.1.2.2.2.1,HF.out.2.1.2.2.2.2.2,HF.out.2.2.1⟩
      case round=>
       have HF0:=Lib.hid HF.out.2.2.2
       clear HR HE HF pc1
       obtain ⟨k,V2,own2,sB,hk,rfl,hR,hE,hF,hO2,hv2,hid⟩:=hrel
       by_cases hlt:k < il.length
       ·rcases hO2.open with ⟨_,h0⟩ | ⟨gb,gcap,hv,_,_,_,hcells⟩
        ·rw [h0] at hlt;simp at hlt
        simp only [Value.slice.injEq] at hv
        obtain ⟨rfl,_,rfl⟩:=hv
        have cu:=hcells k hlt
        rw [List.drop_eq_getElem_cons hlt] at hid
        unfold idleL at hid
        rw [show il[k]?.getD 0 = il[k] by rw [List.getElem?_eq_getElem hlt];rfl] at cu
        clear hcells
        generalize il[k] = n at *
        replace hid:=opt_if hid
        obtain ⟨⟨h0,h1,h2⟩,hid⟩:=hid
        dsimp only at hid
        obtain ⟨q,rfl⟩:∃ q:Nat,n = q:=⟨n.toNat,by omega⟩
        rw [Int.toNat_natCast] at hid
        have hq:q < sB.rings.length:=by omega
        have hAB:=hR.allB hq
        have c8:=hR.c8
        have HT:=Lib.hid (hR.sgo q)
        have hkn:(k:Int) < (il.length:Int):=by have:=hlt;omega
        have HE:=Lib.hid hE
        have HF:=Lib.hid (And.intro hF (And.intro hO2 (And.intro hv2 hid)))
        have HQ3:=Lib.hid (And.intro hq (And.intro hAB h2))
        clear hR hE hF hO2 hv2 hid h0 h1 h2 hq hAB
        go_wp2_with (first
         | (go_at_call 299;refine HT.out.mono ?_;rintro e w4 ⟨rfl,o4,hR4,hE4⟩;have a11:=hR4.c11;have HR4:=Lib.hid hR4;have HE4:=Lib.hid hE4;clear hR4 hE4)
         | (go_at_call 48;refine (HR4.out.pput _).mono ?_;rintro e w5 ⟨rfl,o5,hR5,hE5⟩;have a9:=hR5.c9;have a0:=hR5.c0;have HR5:=Lib.hid hR5;have HE5:=Lib.hid (HE4.out.trans hE5);clear hR5 hE5))
        go_region_held3 (fun w'=>w'.cell? ⟨mb,9,none⟩ = some (ptr V2.all) ∧ w'.cell? ⟨mb,0,none⟩ = some (ptr V2.procs)) (go_keep) (first
         | (go_at_call 50;refine ((HR5.out.drewN 1).ring q HQ3.out.1).mono ?_;rintro e w6 ⟨⟨rb,rfl,hrb⟩,rfl⟩;have HRB:=Lib.hid hrb;clear hrb)
         | (go_at_call 300;refine ((HR5.out.drewN 1).rdrain HQ3.out.1 HRB.out).mono ?_;rintro e w7 ⟨v,rfl,hvO,o6,hR6,hE6,hv0⟩;obtain ⟨va,vc,rfl⟩:=Glob.own_len hvO;have k0:=hR6.c0;have k9:=hR6.c9;have HV:=Lib.hid (And.intro hvO hv0);have HR6:=Lib.hid hR6;have HE6:=Lib.hid ((HE5.out.drewN 1).trans hE6);clear hR6 hE6 hvO hv0)
         | (go_at_call 243;refine (HR6.out.aput _ _ (Slw.ofOwn HV.out.1) (fun _ j hj=>by rw [HV.out.2 j hj];decide) (by have hA1:=HQ3.out.2.1;have hA2:=HQ3.out.2.2;exact Nat.lt_of_lt_of_le (Nat.add_lt_add_of_lt_of_le hA2 hA1) (by decide))).mono ?_;rintro e w8 ⟨rfl,o7,hR7,hE7⟩;have k0:=hR7.c0;have k9:=hR7.c9;have HR7:=Lib.hid hR7;have HE7:=Lib.hid (HE6.out.trans hE7);clear hR7 hE7))
        all_goals
         go_wp2
         go_roundw
         case rel=>exact ⟨k + 1,V2,o7,_,by omega,by go_num,HR7.out,HE.out.trans HE7.out,HF.out.1,(slw_ext HF.out.2.1 HF.out.2.2.1 HE7.out).1,(slw_ext HF.out.2.1 HF.out.2.2.1 HE7.out).2,HF.out.2.2.2⟩
         case measure=>simp [intOf];omega
       ·obtain rfl:k = il.length:=by omega
        rw [List.drop_length] at hid
        simp only [idleL,Option.some.injEq] at hid
        subst hid
        have hx2:=hE.keep HX.out.1 HX.out.2.1
        have hb2:=hE.keep HX.out.2.2.1 HX.out.2.2.2
        have hs3:=HF0.out
        cases hj3:sB.ms[j]? with
        | none=>rw [hj3] at hs3;cases hs3
        | some y3=>
         rw [hj3] at hs3
         dsimp only at hs3
         replace hs3:=bind_some hs3
         obtain ⟨s4,hrl,hwk⟩:=hs3
         have c8:=hR.c8
         have x1:=xc1 (hR.xblk hx2 hj3)
         obtain ⟨yp,hyp⟩:∃ yp,y3.p = yp:=⟨_,rfl⟩
         rw [hyp] at x1 hrl
         have HT:=Lib.hid ((hR.drewN 1).sgo yp)
         have HE:=Lib.hid (hE.drewN 1)
         have HF:=Lib.hid (And.intro hF (And.intro hrl (And.intro hwk (And.intro hj3 hyp))))
         clear hR hE hF hx2 hb2 hrl hwk hj3 hO2 hv2 hyp
         go_wp2
         go_region_held3 (fun w'=>w'.cell? ⟨mb,8,none⟩ = some (ptr V2.stat) ∧ w'.cell? ⟨xb,1,none⟩ = some (.int .i64 yp)) (go_keep) (first
          | (go_at_call 299;refine HT.out.mono ?_;rintro e w4 ⟨rfl,o4,hR4,hE4⟩;have k8:=hR4.c8;have HE4:=Lib.hid (HE.out.trans hE4);have kx:=hR4.x1c (HE4.out.keep HX.out.1 HX.out.2.1) HF.out.2.2.2.1 HF.out.2.2.2.2;have HR4:=Lib.hid hR4;clear hR4 hE4))
         all_goals
          have hb4:=HE4.out.keep HX.out.2.2.1 HX.out.2.2.2
          have HRl:=Lib.hid (HR4.out.release hb4 (List.getElem?_eq_getElem (HR4.out.lg b i hb4)) HF.out.2.1)
          clear hb4 k8 kx
          go_wp2_with (first
           | (go_at_call 188;refine HRl.out.mono ?_;rintro e w5 ⟨rfl,V5,o5,hR5,hE5,hF5⟩;have HR5:=Lib.hid hR5;have HE5:=Lib.hid (HE4.out.trans hE5);have HF5:=Lib.hid (HF.out.1.trans hF5);clear hR5 hE5 hF5)
           | (go_at_call 247;refine (HR5.out.wake HF.out.2.2.1).mono ?_;rintro e w6 ⟨rfl,V6,o6,hR6,hE6,hF6⟩;have HR6:=Lib.hid hR6;have HE6:=Lib.hid (HE5.out.trans hE6);have HF6:=Lib.hid (HF5.out.trans hF6);clear hR6 hE6 hF6))
          go_end0
          exact ⟨rfl,V6,o6,HR6.out,HE6.out,HF6.out⟩
end
end Go.Proofs.YtgadhchejmlfjaaGreatDoor.Mac
end
section
namespace Go.Proofs.YtgadhchejmlfjaaGreatDoor.Mac
open Go.RowKit Go.Esc
open Go.Proofs.YtgadhchejmlfjaaGreatDoor.Pstat (Pr pz)
open Go.Proofs.YtgadhchejmlfjaaGreatDoor.Vm (Ins)
section
variable {mb:Nat} {V:Vr} {own:Nat → Nat} {w:World} {s:St}
def newG (word fn arg:Int):G:=⟨word,fn,0,[arg,0,0,0,0,0,0,0],false,false,false,false,false,0⟩
theorem isW01:isW 0 1 = 1:=by decide +kernel
theorem bl_only {w W W':World} {B:Nat} (h:Below w.heap.size w W) (o:Only (fun j=>j = B) W W') (hB:w.heap.size ≤ B):Below w.heap.size w W':=
 h.trans ⟨o.os,o.tape,o.output,o.size,fun k hk=>o.block k (Nat.lt_of_lt_of_le hk h.size) (fun e=>by have:k = B:=e;omega)⟩
theorem newG_is (fn arg:Int):({ newG 0 fn arg with word:=isW (newG 0 fn arg).word 1 }:G) = newG 1 fn arg:=by
 simp only [newG,isW01]
def BornP (mb:Nat) (V:Vr) (own:Nat → Nat) (w:World) (s:St) (fn arg:Int) (e:Ending) (w':World):Prop:=
 ∃ B,e = .returned (ptr B) ∧ own B = 0 ∧ ∃ V' own',Rep mb V' own' w' (bornM s fn arg) ∧ Ext own w own' w' ∧ Fw V V' ∧ own' B = 20 + 5 * s.gs.length
set_option maxHeartbeats 8000000 in
theorem Rep.born (h:Rep mb V own w s) (fn arg:Int) (h64:s.gs.length < 64):Calls Tryz.prog 52 #[ptr mb,.int .i64 fn,.int .i64 arg] w (BornP mb V own w s fn arg):=by
 obtain ⟨a,cap,hv⟩:=h.gsl
 have c5:=h.c5
 have hmb:=h.mlt
 rw [hv] at c5
 have HH:=Lib.hid h
 have HV:=Lib.hid hv
 have HC5:Hid (∀ W,Below w.heap.size w W → W.cell? ⟨mb,5,none⟩ = some (.slice a s.gs.length cap) ∧ W.frozen? ⟨mb,5,none⟩ = false):=fun W hW=>by
  have h1:=HH.out.below hW
  have h2:=h1.c5
  rw [hv] at h2
  exact ⟨h2,h1.mfree 5⟩
 have HM:=Lib.hid hmb
 clear h hv hmb
 go_enter Tryz.func52,Tryz.ntmps52
 go_wp2
 go_region_held3 (fun w'=>w'.cell? ⟨mb,5,none⟩ = some (.slice a s.gs.length cap)) (go_keep) (first
  | (go_at_call 115;refine (Vm.new_any fn arg _).mono ?_;rintro e w2 ⟨rfl,hB2⟩;have hW2:Below w.heap.size w w2:=bl_next (bl_drew (Below.refl _ _)) hB2;have k5:=(HC5.out _ hW2).1;have nm:¬ mb = w2.heap.size:=(by have h1:=hW2.size;have h2:=HM.out;omega);have HW2:=Lib.hid hW2;clear hW2 hB2))
 all_goals
  have e1:IntKind.i64.wrap ((s.gs.length:Int) + 1) = (s.gs.length:Int) + 1:=IntWalk.i64_in _ (by omega)
  rw [e1] at *
  have hB1:Blk (w2.alloc (.cells #[.int .i64 ((s.gs.length:Int) + 1),.int .i64 0,.int .i64 fn,.int .i64 0,.int .i64 arg,.int .i64 0,.int .i64 0,.int .i64 0,.int .i64 0,.int .i64 0,.int .i64 0,.int .i64 0,Vm.nilS,.bool false,.bool false,.bool false,.bool false,.bool false,.int .i64 0] 130)) w2.heap.size (gcells s.gs.length Vm.nilS (newG 0 fn arg)) 130:=Blk.new w2 _ 130
  have hW1:=bl_alloc HW2.out (.cells #[.int .i64 ((s.gs.length:Int) + 1),.int .i64 0,.int .i64 fn,.int .i64 0,.int .i64 arg,.int .i64 0,.int .i64 0,.int .i64 0,.int .i64 0,.int .i64 0,.int .i64 0,.int .i64 0,Vm.nilS,.bool false,.bool false,.bool false,.bool false,.bool false,.int .i64 0] 130)
  have hsz:=HW2.out.size
  have HIs:=(is_blk w2.heap.size s.gs.length Vm.nilS (newG 0 fn arg) 1 _ hB1 (by show Gst.Word 0;unfold Gst.Word;decide) (by decide) (by decide))
  rw [newG_is] at HIs
  replace HIs:=Lib.hid HIs
  have HW1:=Lib.hid hW1
  clear hB1 hW1 c5 e1
  generalize w2.alloc (.cells #[.int .i64 ((s.gs.length:Int) + 1),.int .i64 0,.int .i64 fn,.int .i64 0,.int .i64 arg,.int .i64 0,.int .i64 0,.int .i64 0,.int .i64 0,.int .i64 0,.int .i64 0,.int .i64 0,Vm.nilS,.bool false,.bool false,.bool false,.bool false,.bool false,.int .i64 0] 130) = W1 at *
  generalize hBe:w2.heap.size = B at *
  go_wp2_with (first
   | (go_at_call 116;refine HIs.out.mono ?_;rintro e w3 ⟨rfl,hB3,hO3⟩;have HW3:=Lib.hid (bl_only HW1.out hO3 hsz);have k5':=(HC5.out _ HW3.out).1;have HGr:=Lib.hid ((HH.out.below HW3.out).gsr (by decide)).1;rw [HV.out] at HGr;have HB3:=Lib.hid hB3;clear hB3 hO3)
   | (at_builtin;go_loud (refine appV Tryz.underlying116 info119 rfl (by decide) (by decide) 0 _ rfl _ _ rfl (.slice a s.gs.length cap) s.gs.length (prow s.gs.length V.gb) ⟨w3.heap.size,0,none⟩ 1 [ptr B] rfl rfl (HGr.out.below (below_alloc (Below.refl _ _) _)) rfl (new1' _ _ rfl) (by simp [Value.oneCell']) (Nat.zero_le _) (by omega) ?_;intro v' w4 hA;obtain ⟨g',cap',rfl⟩:=hA.some;rw [← HV.out] at hA;obtain ⟨hb3,hg3,n3,n4⟩:=HH.out.addG0 (bl_alloc HW3.out _) hA;have HG:=Lib.hid (HH.out.addG h64 (x:=newG 1 fn arg) ⟨rfl,by show Gst.Word 1;unfold Gst.Word;decide⟩ (HB3.out.alloc _) hsz (bl_alloc HW3.out _) hA);have z5:w4.cell? ⟨mb,5,none⟩ = some V.gsv:=hb3.cell 5;have zf:=hb3.free 5;clear hA hb3 hg3)))
  go_ret
  obtain ⟨own',R,E,F,hB⟩:=HG.out
  exact ⟨B,rfl,HH.out.fresh B hsz,_,own',R,E,F,hB⟩
end
end Go.Proofs.YtgadhchejmlfjaaGreatDoor.Mac
end
section
namespace Go.Proofs.YtgadhchejmlfjaaGreatDoor.Mac
open Go.RowKit Go.Esc
open Go.Proofs.YtgadhchejmlfjaaGreatDoor.Pstat (Pr pz)
open Go.Proofs.YtgadhchejmlfjaaGreatDoor.Vm (Ins)
section
variable {mb:Nat} {V:Vr} {own:Nat → Nat} {w:World} {s:St}
theorem Rep.gcu (h:Rep mb V own w s) {b i:Nat} {u:Int} (hb:own b = 20 + 5 * i) (hu:(i:Int) + 1 = u):w.cell? ⟨b,0,none⟩ = some (.int .i64 u):=
 gc0x h hb (List.getElem?_eq_getElem (h.lg b i hb)) hu
theorem born_at {s:St} {i:Nat} {x:G} {f a:Int} (h:s.gs[i]? = some x):(bornM s f a).gs[i]? = some x:=by
 unfold bornM
 show (s.gs ++ _)[i]? = some x
 rw [List.getElem?_append_left (lt_of_some h)]
 exact h
theorem Rep.gc4x (h:Rep mb V own w s) {b i:Nat} {x:G} {r0:Int} (hb:own b = 20 + 5 * i) (hi:s.gs[i]? = some x) (hr:rg x 0 = r0):w.cell? ⟨b,4,none⟩ = some (.int .i64 r0):=by
 obtain ⟨_,_,sv,hBk,_⟩:=h.gat hb hi
 rw [← hr];exact gc4 hBk
set_option maxHeartbeats 16000000 in
theorem Rep.answer (h:Rep mb V own w s) {xb j b i:Nat} {op a b2 c n r:Int} {s':St} (hx:own xb = 22 + 5 * j) (hb:own b = 20 + 5 * i) (hs:answerM s j i ⟨op,a,b2,c,n⟩ = some (r,s')):Calls Tryz.prog 253 #[ptr mb,ptr xb,ptr b,.agg #[.int .i64 op,.int .i64 a,.int .i64 b2,.int .i64 c,.int .i64 n]] w (DoesW mb V own w (.int .i64 r) s'):=by
 unfold answerM at hs
 cases hj:s.ms[j]? with
 | none=>rw [hj] at hs;cases hs
 | some y=>
 cases hi:s.gs[i]? with
 | none=>rw [hj,hi] at hs;cases hs
 | some x=>
 rw [hj,hi] at hs
 dsimp only at hs
 have h0:=h.alloc (insO op a b2 c n)
 have E0:=(Ext.refl own w).alloc (insO op a b2 c n)
 have B0:Blk (w.alloc (insO op a b2 c n)) w.heap.size #[.int .i64 op,.int .i64 a,.int .i64 b2,.int .i64 c,.int .i64 n] 84:=Blk.new w _ 84
 have hL:=h.fresh w.heap.size (Nat.le_refl _)
 by_cases h10:op = 10 ∧ a = 0
 ·rw [if_pos h10] at hs
  obtain ⟨rfl,rfl⟩:=h10
  have c5:=h0.c5
  have c3:=h0.c3
  obtain ⟨ga,gcap,hgv⟩:=h0.gsl
  rw [hgv] at c5
  have hml:=h0.mlt
  have hmL:mb < w.heap.size:=h.mlt
  have nm:¬ mb = w.heap.size:=by omega
  unfold insO at c5 c3
  by_cases hcg:s.sc.cg ≤ s.gs.length
  ·rw [if_pos hcg] at hs
   simp only [Option.some.injEq,Prod.mk.injEq] at hs
   obtain ⟨rfl,rfl⟩:=hs
   have hd:decide (s.sc.cg ≤ (s.gs.length:Int)) = true:=by simpa using hcg
   have HE0:=Lib.hid (And.intro h0 E0)
   unfold insO at HE0
   clear h h0 E0 B0 hL hj hi hx hb hgv hml hcg
   generalize s.gs.length = ng at *
   generalize s.sc.cg = cg at *
   go_enter Tryz.func253,Tryz.ntmps253
   go_wp2
   go_quiet (fail)
   go_wp2
   go_ret
   exact ⟨rfl,V,own,HE0.out.1.drewN _,HE0.out.2.drewN _,Fw.refl V⟩
  ·rw [if_neg hcg] at hs
   replace hs:=opt_if hs
   obtain ⟨h64,hs⟩:=hs
   cases hq:queueM (bornM s n (rg x 0)) y.p s.gs.length true with
   | none=>rw [hq] at hs;cases hs
   | some sq=>
    rw [hq] at hs
    simp only [Option.map_some,Option.some.injEq,Prod.mk.injEq] at hs
    obtain ⟨rfl,rfl⟩:=hs
    have hd:decide (s.sc.cg ≤ (s.gs.length:Int)) = false:=by simpa using hcg
    have b4:(w.alloc (insO 10 0 b2 c n)).cell? ⟨b,4,none⟩ = some (.int .i64 (rg x 0)):=by
     obtain ⟨_,_,sv,hBk,_⟩:=h0.gat hb hi
     exact gc4 hBk
    have hxl:=h0.xlt hx hj
    have hbl:=h0.glt hb hi
    have hil:=lt_of_some hi
    have HE0:=Lib.hid (And.intro h0 (And.intro E0 (And.intro B0 hL)))
    have HX:=Lib.hid (And.intro hx (And.intro hxl (And.intro hb (And.intro hbl (And.intro hj (And.intro hi hq))))))
    have H64:=Lib.hid h64
    unfold insO at HE0 HX b4
    generalize hrg:rg x 0 = r0 at *
    obtain ⟨u,hu⟩:∃ u,(s.gs.length:Int) + 1 = u:=⟨_,rfl⟩
    rw [hu]
    have HU:=Lib.hid (And.intro hu hrg)
    clear h h0 E0 B0 hL hj hi hx hb hgv hml hcg hxl hbl hq h64 hu hrg hil
    go_enter Tryz.func253,Tryz.ntmps253
    go_wp2
    go_quiet (fail)
    have HR1:=Lib.hid (HE0.out.1.drewN nq)
    have HE1:=Lib.hid (HE0.out.2.1.drewN nq)
    have B1:Blk ((w.alloc (.cells #[.int .i64 10,.int .i64 0,.int .i64 b2,.int .i64 c,.int .i64 n] 84)).drewN nq) w.heap.size #[.int .i64 10,.int .i64 0,.int .i64 b2,.int .i64 c,.int .i64 n] 84:=HE0.out.2.2.1
    have l1:=B1.cell 1
    have l4:=B1.cell 4
    simp only [List.getElem?_toArray,List.getElem?_cons_zero,List.getElem?_cons_succ] at l1 l4
    have k4:((w.alloc (.cells #[.int .i64 10,.int .i64 0,.int .i64 b2,.int .i64 c,.int .i64 n] 84)).drewN nq).cell? ⟨b,4,none⟩ = some (.int .i64 r0):=b4
    have HB1:=Lib.hid B1
    have hxl:xb < ((w.alloc (.cells #[.int .i64 10,.int .i64 0,.int .i64 b2,.int .i64 c,.int .i64 n] 84)).drewN nq).heap.size:=HX.out.2.1
    have hbl:b < ((w.alloc (.cells #[.int .i64 10,.int .i64 0,.int .i64 b2,.int .i64 c,.int .i64 n] 84)).drewN nq).heap.size:=HX.out.2.2.2.1
    have HXL:=Lib.hid (And.intro hxl hbl)
    clear c5 c3 b4 B1 hxl hbl
    generalize (w.alloc (.cells #[.int .i64 10,.int .i64 0,.int .i64 b2,.int .i64 c,.int .i64 n] 84)).drewN nq = W at *
    generalize w.heap.size = L at *
    go_wp2
    go_region_held3 (fun w'=>w'.cell? ⟨L,4,none⟩ = some (.int .i64 n) ∧ w'.cell? ⟨L,1,none⟩ = some (.int .i64 0) ∧ w'.cell? ⟨b,4,none⟩ = some (.int .i64 r0)) (go_keep) (first
     | (go_at_call 52;refine ((HR1.out.drewN 1).born n r0 H64.out).mono ?_;rintro e w2 ⟨B,rfl,hB0,V2,o2,hR2,hE2,hF2,hB2⟩;have HE2:=Lib.hid (((Ext.refl own W).drewN 1).trans hE2);have hP:=blk_ext HB1.out HE0.out.2.2.2 HE2.out;have l1:=hP.cell 1;have l4:=hP.cell 4;simp only [List.getElem?_toArray,List.getElem?_cons_zero,List.getElem?_cons_succ] at l1 l4;have hgi:(bornM s n r0).gs[i]? = some x:=born_at HX.out.2.2.2.2.2.1;have k4:=hR2.gc4x (HE2.out.keep HX.out.2.2.1 HXL.out.2) hgi HU.out.2;have HR2:=Lib.hid hR2;have HF2:=Lib.hid (And.intro hF2 hB2);clear hR2 hE2 hF2 hB2 hP hgi hB0))
    all_goals
     have HQ:=Lib.hid (HR2.out.queue_x (y:=y) (HE2.out.keep HX.out.1 HXL.out.1) HX.out.2.2.2.2.1 HF2.out.2 HX.out.2.2.2.2.2.2)
     go_wp2_with (go_at_call 192;refine HQ.out.mono ?_;rintro e w3 ⟨rfl,V3,o3,hR3,hE3,hF3⟩;have z0:=hR3.gcu (hE3.keep HF2.out.2 (HR2.out.tag_lt HF2.out.2 (by omega))) HU.out.1;have HR3:=Lib.hid hR3;have HE3:=Lib.hid (HE2.out.trans hE3);have HF3:=Lib.hid (HF2.out.1.trans hF3.toFw);clear hR3 hE3 hF3)
     go_ret
     exact ⟨rfl,V3,o3,HR3.out,HE1.out.trans HE3.out,HF3.out⟩
 ·rw [if_neg h10] at hs
  by_cases hn:op = 13 ∨ op = 21 ∨ op = 22 ∨ op = 10
  ·rw [if_pos hn] at hs;cases hs
  ·rw [if_neg hn] at hs
   have d10:(op == 10) = false:=by simp;omega
   have d13:(op == 13) = false:=by simp;omega
   have d21:(op == 21) = false:=by simp;omega
   have d22:(op == 22) = false:=by simp;omega
   have HE0:=Lib.hid (And.intro h0 E0)
   unfold insO at HE0
   by_cases h23:op = 23
   ·rw [if_pos h23] at hs
    simp only [Option.some.injEq,Prod.mk.injEq] at hs
    obtain ⟨rfl,rfl⟩:=hs
    have b0:=h0.gcu hb rfl
    unfold insO at b0
    have nb:¬ b = w.heap.size:=by have:=h.glt hb hi;omega
    obtain rfl:=h23
    generalize (i:Int) + 1 = u at *
    clear h h0 E0 B0 hL hj hi hx hb h10 hn d10 d13 d21 d22
    go_enter Tryz.func253,Tryz.ntmps253
    go_wp2
    go_ret
    exact ⟨rfl,V,own,HE0.out.1,HE0.out.2,Fw.refl V⟩
   ·rw [if_neg h23] at hs
    simp only [Option.some.injEq,Prod.mk.injEq] at hs
    obtain ⟨rfl,rfl⟩:=hs
    have d23:(op == 23) = false:=by simpa using h23
    clear h h0 E0 B0 hL hj hi hx hb h10 hn h23
    go_enter Tryz.func253,Tryz.ntmps253
    go_wp2
    go_ret
    exact ⟨rfl,V,own,HE0.out.1,HE0.out.2,Fw.refl V⟩
end
end Go.Proofs.YtgadhchejmlfjaaGreatDoor.Mac
end
