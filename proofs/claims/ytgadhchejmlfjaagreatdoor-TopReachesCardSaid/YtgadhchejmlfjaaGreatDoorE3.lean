/- Parts of the proof of TopReaches. -/
import Derived.Test.YtgadhchejmlfjaaGreatDoorD7
import Derived.Test.YtgadhchejmlfjaaGreatDoorD5
import Derived.Test.YtgadhchejmlfjaaGreatDoorE2
set_option linter.unusedVariables false
set_option maxRecDepth 20000
section
namespace Go.Proofs.YtgadhchejmlfjaaGreatDoor.Mac
open Go.RowKit Go.Esc
open Go.Proofs.YtgadhchejmlfjaaGreatDoor.Vm (Ins)
section
variable {mb:Nat} {V:Vr} {own:Nat → Nat} {w:World} {s:St}
theorem Rep.setArmed (h:Rep mb V own w s) {xb j:Nat} {y:M1} (hx:own xb = 22 + 5 * j) (hj:s.ms[j]? = some y) (u:Bool):Rep mb V own (w.setCell ⟨xb,4,none⟩ (.bool u)) (s.setX j { y with armed:=u }) ∧ Ext own w own (w.setCell ⟨xb,4,none⟩ (.bool u)):=by
 have hxi:=h.xis hx hj
 have hO:=oset (orefl xb w) 4 (.bool u)
 have hxg:=h.xg hj
 exact ⟨h.putX (lt_of_some hj) (by rw [← hxi];exact hO) { y with armed:=u } hxg (by rw [← hxi];exact xset_armed (h.xblk hx hj) u),only_ext hO (by omega)⟩
set_option maxHeartbeats 4000000 in
theorem Rep.locks (b op a b2 c n:Int) (hop:(op == 20) = false) (v:Value):Calls Tryz.prog 181 #[ptr mb,v,.agg #[.int .i64 op,.int .i64 a,.int .i64 b2,.int .i64 c,.int .i64 n]] w fun e w'=>e = .returned (.bool false) ∧ Below w.heap.size w w':=by
 go_enter Tryz.func181,Tryz.ntmps181
 go_wp2
 go_ret
 exact ⟨rfl,below_alloc (Below.refl _ _) _⟩
def doesV (ph:Int):Value:=if ph = 0 then .nilFunc else if ph = 1 then .func (.func 117) #[] #[] else if ph = 2 then .func (.func 118) #[] #[] else .func (.func 119) #[] #[]
set_option maxHeartbeats 4000000 in
theorem Rep.does (h:Rep mb V own w s) {xb j:Nat} {y:M1} {ph:Int} (hx:own xb = 22 + 5 * j) (hj:s.ms[j]? = some y) (hph:y.phase = ph) (h3:0 ≤ ph ∧ ph ≤ 3):Calls Tryz.prog 54 #[ptr xb] w fun e w'=>e = .returned (doesV ph) ∧ w' = w:=by
 have x3:=xc3 (h.xblk hx hj)
 rw [hph] at x3
 clear hph h hx hj
 obtain rfl | rfl | rfl | rfl:ph = 0 ∨ ph = 1 ∨ ph = 2 ∨ ph = 3:=by omega
 all_goals
  go_enter Tryz.func54,Tryz.ntmps54
  go_wp2
  go_ret
  exact ⟨rfl,rfl⟩
theorem flg_st0 {W:World} {b:Nat} {x0 x1 x2 x3 x4 x5 u0 u1 u2 u3 u4 u5:Value} (h:Blk W b #[x0,x1,x2,x3,x4,x5] 270):Blk ((((((W.setCell ⟨b,0,none⟩ u0).setCell ⟨b,1,none⟩ u1).setCell ⟨b,2,none⟩ u2).setCell ⟨b,3,none⟩ u3).setCell ⟨b,4,none⟩ u4).setCell ⟨b,5,none⟩ u5) b #[u0,u1,u2,u3,u4,u5] 270 ∧ Only (fun j=>j = b) W ((((((W.setCell ⟨b,0,none⟩ u0).setCell ⟨b,1,none⟩ u1).setCell ⟨b,2,none⟩ u2).setCell ⟨b,3,none⟩ u3).setCell ⟨b,4,none⟩ u4).setCell ⟨b,5,none⟩ u5):=
 ⟨flg_st h,oset (oset (oset (oset (oset (oset (orefl b W) 0 _) 1 _) 2 _) 3 _) 4 _) 5 _⟩
set_option maxHeartbeats 4000000 in
theorem Rep.clear (h:Rep mb V own w s) {xb j kp:Nat} {y:M1} {act:Int} {s':St} (a p b st su sp:Bool) (ha:act = 2 ∨ act = 3 ∨ act = 4) (hx:own xb = 22 + 5 * j) (hj:s.ms[j]? = some y) (hp:y.p = (kp:Int)) (hs:clearM s j y.p = some s') :
  Calls Tryz.prog 182 #[ptr mb,ptr xb,.agg #[.bool a,.bool p,.bool b,.bool st,.bool su,.bool sp],.int .i64 act] w (DoesV mb V own w unit s'):=by
 unfold clearM at hs
 rw [hj,hp,Int.toNat_natCast] at hs
 cases hk:s.asked[kp]? with
 | none=>rw [hk] at hs;cases hs
 | some q=>
 rw [hk] at hs
 dsimp only at hs
 replace hs:=opt_if hs
 obtain ⟨_,hs⟩:=hs
 simp only [Option.some.injEq] at hs
 have O0:Obj:=.cells #[.bool a,.bool p,.bool b,.bool st,.bool su,.bool sp] 270
 have hxl:=(h.xblk hx hj).lt
 have hL:=h.fresh w.heap.size (Nat.le_refl _)
 have h0:=h.alloc (.cells #[.bool a,.bool p,.bool b,.bool st,.bool su,.bool sp] 270)
 have E0:=(Ext.refl own w).alloc (.cells #[.bool a,.bool p,.bool b,.bool st,.bool su,.bool sp] 270)
 have B0:Blk (w.alloc (.cells #[.bool a,.bool p,.bool b,.bool st,.bool su,.bool sp] 270)) w.heap.size #[.bool a,.bool p,.bool b,.bool st,.bool su,.bool sp] 270:=Blk.new w _ 270
 have HC:=Lib.hid (fun W=>Dec.clear_any a p b st su sp act W ha)
 unfold Dec.flg at HC
 have HH:=Lib.hid (And.intro h0 (And.intro E0 (And.intro B0 hL)))
 have HX:=Lib.hid (And.intro hx (And.intro hxl (And.intro hj (And.intro hp (And.intro hk hs)))))
 have hc1:Dec.clrB a act = false:=by unfold Dec.clrB;rw [if_pos ha]
 have hc2:Dec.clrB p act = false:=by unfold Dec.clrB;rw [if_pos ha]
 clear h h0 E0 B0 hL hx hxl hj hp hk hs ha O0
 go_enter Tryz.func182,Tryz.ntmps182
 go_wp2_with (go_at_call 256;refine (HC.out _).mono ?_;rintro e w1 ⟨b1,st1,su1,sp1,rfl,hB⟩;unfold Dec.flg;rw [hc1,hc2];have hP:=HH.out.2.2.1.below hB HH.out.2.2.1.lt;have q0:=hP.cell 0;have q1:=hP.cell 1;have q2:=hP.cell 2;have q3:=hP.cell 3;have q4:=hP.cell 4;have q5:=hP.cell 5;have f0:=hP.free 0;have f1:=hP.free 1;have f2:=hP.free 2;have f3:=hP.free 3;have f4:=hP.free 4;have f5:=hP.free 5;simp only [List.getElem?_toArray,List.getElem?_cons_zero,List.getElem?_cons_succ] at q0 q1 q2 q3 q4 q5;have HP:=Lib.hid (And.intro hP hB);clear hP hB)
 clear q0 q1 q2 q3 q4 q5 f0 f1 f2 f3 f4 f5
 obtain ⟨B1,hO⟩:=flg_st0 (u0:=.bool false) (u1:=.bool false) (u2:=.bool b1) (u3:=.bool st1) (u4:=.bool su1) (u5:=.bool sp1) HP.out.1
 have hR1:=(HH.out.1.below HP.out.2).loc hO (fun j hj=>by rw [show j = w.heap.size from hj];exact HH.out.2.2.2)
 have hE1:Ext own w own (((((((w1.setCell ⟨w.heap.size,0,none⟩ (.bool false)).setCell ⟨w.heap.size,1,none⟩ (.bool false)).setCell ⟨w.heap.size,2,none⟩ (.bool b1)).setCell ⟨w.heap.size,3,none⟩ (.bool st1)).setCell ⟨w.heap.size,4,none⟩ (.bool su1)).setCell ⟨w.heap.size,5,none⟩ (.bool sp1))):=⟨(HH.out.2.1.trans (Ext.below HP.out.2)).only.andThen hO (fun j hj hs=>by rw [show j = w.heap.size from hs] at hj;exact absurd hj (Nat.lt_irrefl _)),fun _ _=>rfl⟩
 have q0:=B1.cell 0
 have q1:=B1.cell 1
 simp only [List.getElem?_toArray,List.getElem?_cons_zero,List.getElem?_cons_succ] at q0 q1
 clear B1 hO HC hc1 hc2
 generalize ((((((w1.setCell ⟨w.heap.size,0,none⟩ (.bool false)).setCell ⟨w.heap.size,1,none⟩ (.bool false)).setCell ⟨w.heap.size,2,none⟩ (.bool b1)).setCell ⟨w.heap.size,3,none⟩ (.bool st1)).setCell ⟨w.heap.size,4,none⟩ (.bool su1)).setCell ⟨w.heap.size,5,none⟩ (.bool sp1)) = W at *
 obtain ⟨g,cap,hv,hg,n1,n2,hgl,a0,a1,a2,f0,f1,f2⟩:=hR1.ask HX.out.2.2.2.2.1
 have c7:=hR1.c7
 rw [hv] at c7
 have qk:(kp:Int) < (s.asked.length:Int):=by have:=lt_of_some HX.out.2.2.2.2.1;omega
 have hxB:=hR1.xblk HX.out.1 HX.out.2.2.1
 have x1:=xc1 hxB
 rw [HX.out.2.2.2.1] at x1
 have x4:=xc4 hxB
 have x4f:=hxB.free 4
 have m1:¬ xb = mb:=by have:=hR1.om;have:=HX.out.1;rintro rfl;omega
 have m2:¬ mb = xb:=fun e=>m1 e.symm
 have m3:¬ xb = g:=by have:=HX.out.1;rintro rfl;omega
 have m4:¬ g = xb:=fun e=>m3 e.symm
 have m5:¬ w.heap.size = xb:=by have:=HX.out.2.1;omega
 have m6:¬ xb = w.heap.size:=by have:=HX.out.2.1;omega
 have m7:¬ w.heap.size = g:=by have:=HH.out.2.2.2;rintro rfl;omega
 have m8:¬ g = w.heap.size:=fun e=>m7 e.symm
 have HR:=Lib.hid (And.intro hR1 (And.intro hE1 hv))
 clear hR1 hE1 hv hg hgl hxB HP
 generalize hna:s.asked.length = na at *
 generalize w.heap.size = L at *
 obtain ⟨am,ham⟩:∃ am,y.armed = am:=⟨_,rfl⟩
 rw [ham] at x4
 clear ham
 have hx14:∀ (W:World) (v:Value),(W.setCell ⟨xb,4,none⟩ v).cell? ⟨xb,1,none⟩ = W.cell? ⟨xb,1,none⟩:=fun W v=>World.cell?_setCell_other W _ _ v (by simp)
 obtain ⟨qp,qb,qc⟩:=q
 simp only at a0 a1 a2
 go_region_held3 (fun w'=>w'.cell? ⟨mb,7,none⟩ = some (.slice (some ⟨g,0,none⟩) na cap) ∧ w'.cell? ⟨xb,1,none⟩ = some (.int .i64 kp) ∧ w'.cell? ⟨L,0,none⟩ = some (.bool false) ∧ w'.cell? ⟨L,1,none⟩ = some (.bool false)) (go_keep) (fail)
 go_end0
 obtain ⟨R1,E1⟩:=HR.out.1.setArmed HX.out.1 HX.out.2.2.1 false
 obtain ⟨hA1,_⟩:=R1.askr (by decide)
 rw [HR.out.2.2] at hA1
 have A1:=hA1.put (i:=kp) (a:=⟨qp,qb,qc⟩) HX.out.2.2.2.2.1 0 (by decide) (.bool false) ⟨false,qb,qc⟩ rfl
 obtain ⟨R2,E2⟩:=R1.putAsk HR.out.2.2 (oset (orefl g _) (kp * 3 + 0) (.bool false)) _ (by rw [HR.out.2.2];exact A1)
 rw [← HX.out.2.2.2.2.2]
 exact ⟨rfl,own,R2.drew,HR.out.2.1.trans (E1.trans (E2.trans (Ext.below below_drew')))⟩
end
end Go.Proofs.YtgadhchejmlfjaaGreatDoor.Mac
end
section
namespace Go.Proofs.YtgadhchejmlfjaaGreatDoor.Mac
open Go.RowKit Go.Esc
open Go.Proofs.YtgadhchejmlfjaaGreatDoor.Vm (Ins)
section
variable {mb:Nat} {V:Vr} {own:Nat → Nat} {w:World} {s:St}
structure RunE (mb:Nat) (V:Vr) (own:Nat → Nat) (w:World) (s:St) (W:World) (L4 L5:Nat) (v0 v1:Value) (l:List Bool) (ins:Ins):Prop where
 rep:Rep mb V own W s
 ext:Ext own w own W
 b4:Blk W L4 #[v0,v1] 87
 b5:Blk W L5 #[.int .i64 ins.op,.int .i64 ins.a,.int .i64 ins.b,.int .i64 ins.c,.int .i64 ins.n] 84
 o4:own L4 = 0
 o5:own L5 = 0
 bs:Dec.Bs W v1 l
theorem run_e {w1:World} {v0 v1:Value} {l:List Bool} {ins:Ins} (h:Rep mb V own w s) (hB:Below w.heap.size w w1) (hs:Dec.Bs w v1 l) :
  RunE mb V own w s ((w1.alloc (.cells #[v0,v1] 87)).alloc (.cells #[.int .i64 ins.op,.int .i64 ins.a,.int .i64 ins.b,.int .i64 ins.c,.int .i64 ins.n] 84)) w1.heap.size (w1.heap.size + 1) v0 v1 l ins:=by
 have hb1:Below w.heap.size w (w1.alloc (.cells #[v0,v1] 87)):=hB.alloc hB.size _
 have hb2:Below w.heap.size w ((w1.alloc (.cells #[v0,v1] 87)).alloc (.cells #[.int .i64 ins.op,.int .i64 ins.a,.int .i64 ins.b,.int .i64 ins.c,.int .i64 ins.n] 84)):=hb1.alloc hb1.size _
 refine ⟨h.below hb2,Ext.below hb2,(Blk.new w1 _ 87).below (below_alloc (Below.refl _ _) _) (by simp),?_,h.fresh _ hB.size,h.fresh _ (Nat.le_trans hB.size (Nat.le_succ _)),hs.below hb2⟩
 have k:=Blk.new (w1.alloc (.cells #[v0,v1] 87)) #[.int .i64 ins.op,.int .i64 ins.a,.int .i64 ins.b,.int .i64 ins.c,.int .i64 ins.n] 84
 simpa using k
structure RunF (mb:Nat) (V:Vr) (own:Nat → Nat) (w:World) (s:St) (W:World) (L4 L5 L6:Nat) (v0 v1:Value) (l:List Bool) (op a b c n:Int) (q0 q1 q2 q3 q4 q5:Bool):Prop where
 rep:Rep mb V own W s
 ext:Ext own w own W
 b4:Blk W L4 #[v0,v1] 87
 b5:Blk W L5 #[.int .i64 op,.int .i64 a,.int .i64 b,.int .i64 c,.int .i64 n] 84
 b6:Blk W L6 #[.bool q0,.bool q1,.bool q2,.bool q3,.bool q4,.bool q5] 270
 o4:own L4 = 0
 o5:own L5 = 0
 o6:own L6 = 0
 bs:Dec.Bs W v1 l
theorem bs_keep {own:Nat → Nat} {w w':World} {xb:Nat} {v:Value} {l:List Bool} (h:Dec.Bs w v l) (ho:∀ j,v.ownBlock = some j → own j = 14) (hO:Only (fun j=>j = xb) w w') (hx:own xb ≠ 14):Dec.Bs w' v l:=by
 obtain ⟨b,off,cap,rfl,hb,hc⟩:=h
 have hb14:=ho b rfl
 exact ⟨b,off,cap,rfl,Nat.lt_of_lt_of_le hb hO.size,fun i hi=>(World.cell?_of_block (hO.block b hb (fun e=>hx (by rw [← show b = xb from e];exact hb14)))).trans (hc i hi)⟩
theorem RunF.below {L4 L5 L6:Nat} {v0 v1:Value} {l:List Bool} {op a b c n:Int} {q0 q1 q2 q3 q4 q5:Bool} {W W':World} (h:RunF mb V own w s W L4 L5 L6 v0 v1 l op a b c n q0 q1 q2 q3 q4 q5) (hB:Below W.heap.size W W'):RunF mb V own w s W' L4 L5 L6 v0 v1 l op a b c n q0 q1 q2 q3 q4 q5:=
 ⟨h.rep.below hB,h.ext.trans (Ext.below hB),h.b4.below hB h.b4.lt,h.b5.below hB h.b5.lt,h.b6.below hB h.b6.lt,h.o4,h.o5,h.o6,h.bs.below hB⟩
theorem RunF.drewN {L4 L5 L6:Nat} {v0 v1:Value} {l:List Bool} {op a b c n:Int} {q0 q1 q2 q3 q4 q5:Bool} {W:World} (h:RunF mb V own w s W L4 L5 L6 v0 v1 l op a b c n q0 q1 q2 q3 q4 q5) (m:Nat):RunF mb V own w s (W.drewN m) L4 L5 L6 v0 v1 l op a b c n q0 q1 q2 q3 q4 q5:=h.below (below_drewN' m)
theorem run_f {W4 W5:World} {L4 L5:Nat} {v0 v1:Value} {l:List Bool} {op a b c n:Int} {q0 q1 q2 q3 q4 q5:Bool} (h:Rep mb V own W4 s) (e:Ext own w own W4) (b4:Blk W4 L4 #[v0,v1] 87) (b5:Blk W4 L5 #[.int .i64 op,.int .i64 a,.int .i64 b,.int .i64 c,.int .i64 n] 84) (o4:own L4 = 0) (o5:own L5 = 0) (bs:Dec.Bs W4 v1 l) (hB:Below W4.heap.size W4 W5) :
  RunF mb V own w s (W5.alloc (.cells #[.bool q0,.bool q1,.bool q2,.bool q3,.bool q4,.bool q5] 270)) L4 L5 W5.heap.size v0 v1 l op a b c n q0 q1 q2 q3 q4 q5:=by
 have hb:=hB.alloc hB.size (.cells #[.bool q0,.bool q1,.bool q2,.bool q3,.bool q4,.bool q5] 270)
 exact ⟨h.below hb,e.trans (Ext.below hb),b4.below hb b4.lt,b5.below hb b5.lt,Blk.new W5 _ 270,o4,o5,h.fresh _ hB.size,bs.below hb⟩
set_option maxHeartbeats 8000000 in
theorem Rep.run (h:Rep mb V own w s) {xb j:Nat} {s':St} (hx:own xb = 22 + 5 * j) (hs:runM s j = some s'):Calls Tryz.prog 118 #[ptr mb,ptr xb] w (DoesW mb V own w unit s'):=by
 unfold runM at hs
 cases hj:s.ms[j]? with
 | none=>rw [hj] at hs;cases hs
 | some y=>
 rw [hj] at hs
 dsimp only at hs
 replace hs:=opt_if hs
 obtain ⟨hg1,hs⟩:=hs
 have hg2:=(h.xg hj).2
 obtain ⟨i,hgi⟩:∃ i:Nat,y.g = (i:Int) + 1:=⟨(y.g - 1).toNat,by omega⟩
 rw [hgi] at hg1 hg2 hs
 have e2:((i:Int) + 1 - 1).toNat = i:=by omega
 rw [e2] at hs
 cases hi:s.gs[i]? with
 | none=>rw [hi] at hs;cases hs
 | some x=>
 rw [hi] at hs
 dsimp only at hs
 obtain ⟨e1,hb⟩:=h.gp hg1 hg2
 rw [e2] at e1 hb
 obtain ⟨b,hbe⟩:∃ b,V.gb i = b:=⟨_,rfl⟩
 rw [hbe] at e1 hb
 replace hs:=bind_some hs
 obtain ⟨ins,hI,hs⟩:=hs
 have x2:w.cell? ⟨xb,2,none⟩ = some (ptr b):=by rw [← e1,← hgi];exact xc2 (h.xblk hx hj)
 have HAt:=Lib.hid (h.at_ hb hi hI)
 have hxl:=h.xlt hx hj
 have hbl:=h.glt hb hi
 have HR:=Lib.hid h
 have HX:=Lib.hid (And.intro hx (And.intro hxl (And.intro hb (And.intro hbl (And.intro hj (And.intro hi hgi))))))
 have HS:=Lib.hid hs
 clear h hx hb hi hI hj hgi hg1 hg2 hbe e1 e2 hs hxl hbl
 obtain ⟨op,ia,ib,ic,im⟩:=ins
 unfold insG at *
 go_enter Tryz.func118,Tryz.ntmps118
 go_wp2_with (go_at_call 177;refine HAt.out.mono ?_;rintro e w1 ⟨f,ca,cc,sv,hf,hn0,rfl,hBs,h14,hB⟩;obtain ⟨sb,so,sc,rfl,hBs2⟩:=(show Dec.Bs w sv f.safe from hBs);have HF:=Lib.hid (And.intro hf hn0);have H14:=Lib.hid h14;have HE:=Lib.hid (run_e (v0:=.slice ca f.code.length cc) (ins:=⟨op,ia,ib,ic,im⟩) HR.out hB hBs);unfold insG;clear hf hn0 hBs hBs2 hB h14)
 generalize ((w1.alloc (.cells #[.slice ca f.code.length cc,.slice (some ⟨sb,so,none⟩) f.safe.length sc] 87)).alloc (.cells #[.int .i64 op,.int .i64 ia,.int .i64 ib,.int .i64 ic,.int .i64 im] 84)) = W at *
 generalize w1.heap.size + 1 = L5 at *
 generalize w1.heap.size = L4 at *
 have hxW:=HE.out.ext.keep HX.out.1 HX.out.2.1
 have hbW:=HX.out.2.2.1
 have x2:=xc2 (HE.out.rep.xblk HX.out.1 HX.out.2.2.2.2.1)
 rw [HX.out.2.2.2.2.2.2,HE.out.rep.gptr_at HX.out.2.2.1 HX.out.2.2.2.2.2.1] at x2
 have c20:=HE.out.rep.c20
 obtain ⟨hv,hhv⟩:∃ hv,gptr V.gb s.sc.holder = hv:=⟨_,rfl⟩
 have heq:∀ m,(binOp .eql 119 hv (ptr b)).run Tryz.prog (W.drewN m) = .ok (.bool (decide (s.sc.holder = (i:Int) + 1))) (W.drewN m):=fun m=>by
  rw [← hhv];exact (HE.out.rep.drewN m).eqlG HX.out.2.2.1 HE.out.rep.hold.1 HE.out.rep.hold.2
 rw [hhv] at c20
 have hgd:=eqg_ptr (.tmp 21) (.tmp 25) hv b
 have hs:=HS.out
 clear HS hhv hxW hbW HAt HR
 by_cases hal:s.sc.holder = (i:Int) + 1
 ·rw [if_pos hal] at hs
  have hal2:decide (s.sc.holder = (i:Int) + 1) = true:=by simpa using hal
  rw [hal2] at heq
  have HS:=Lib.hid hs
  clear hs hal hal2
  go_quiet (fail)
  have HD:=Lib.hid ((HE.out.rep.drewN nq).do_ HX.out.1 HS.out)
  have HE2:=Lib.hid (HE.out.ext.drewN nq)
  have B5:Blk (W.drewN nq) L5 #[.int .i64 op,.int .i64 ia,.int .i64 ib,.int .i64 ic,.int .i64 im] 84:=HE.out.b5
  have l0:=B5.cell 0
  have l1:=B5.cell 1
  have l2:=B5.cell 2
  have l3:=B5.cell 3
  have l4:=B5.cell 4
  simp only [List.getElem?_toArray,List.getElem?_cons_zero,List.getElem?_cons_succ] at l0 l1 l2 l3 l4
  clear B5 x2 c20 heq hgd
  generalize W.drewN nq = W2 at *
  go_wp2_with (go_at_call 178;refine HD.out.mono ?_;rintro e w2 ⟨rfl,V2,o2,hR,hE,hF⟩;have HR2:=Lib.hid (And.intro hR hF);have HE3:=Lib.hid (HE2.out.trans hE);clear hR hE hF)
  go_end0
  exact ⟨rfl,V2,o2,HR2.out.1,HE3.out,HR2.out.2⟩
 ·rw [if_neg hal] at hs
  have hal2:decide (s.sc.holder = (i:Int) + 1) = false:=by simpa using hal
  rw [hal2] at heq
  have HS:=Lib.hid hs
  clear hs hal hal2
  go_quiet (fail)
  have HR2:=Lib.hid (HE.out.rep.drewN nq)
  have y2:(W.drewN nq).cell? ⟨xb,2,none⟩ = some (ptr b):=x2
  have x5:=xc5 ((HE.out.rep.drewN nq).xblk HX.out.1 HX.out.2.2.2.2.1)
  have x5f:=((HE.out.rep.drewN nq).xblk HX.out.1 HX.out.2.2.2.2.1).free 5
  have x17:=((HE.out.rep.drewN nq).gc17f HX.out.2.2.1 HX.out.2.2.2.2.2.1).1
  have HE2:=Lib.hid (HE.out.ext.drewN nq)
  have B4:Blk (W.drewN nq) L4 #[.slice ca f.code.length cc,.slice (some ⟨sb,so,none⟩) f.safe.length sc] 87:=HE.out.b4
  have B5:Blk (W.drewN nq) L5 #[.int .i64 op,.int .i64 ia,.int .i64 ib,.int .i64 ic,.int .i64 im] 84:=HE.out.b5
  have BS:Dec.Bs (W.drewN nq) (.slice (some ⟨sb,so,none⟩) f.safe.length sc) f.safe:=HE.out.bs
  have HB:=Lib.hid (And.intro B4 (And.intro B5 (And.intro BS (And.intro HE.out.o4 HE.out.o5))))
  have HX2:=Lib.hid HX.out
  clear x2 c20 heq hgd B4 B5 BS
  clear x2 HE
  generalize W.drewN nq = W2 at *
  obtain ⟨Y,hY⟩:∃ Y,(if x.begun = true then ({ y with g:=(i:Int) + 1,used:=min y.used 19 }:M1) else y) = Y:=⟨_,rfl⟩
  have hs:=HS.out
  clear HS
  rw [hY] at hs
  obtain ⟨S1,hS1⟩:∃ S1,(if x.begun = true then s.setX j Y else s) = S1:=⟨_,rfl⟩
  rw [hS1] at hs
  replace hs:=opt_if hs
  obtain ⟨hp0,hs⟩:=hs
  cases ha:S1.asked[Y.p.toNat]? with
  | none=>rw [ha] at hs;cases hs
  | some a=>
  have hfS:S1.funcs = s.funcs:=by rw [← hS1];split <;> rfl
  rw [ha,hfS,HF.out.1] at hs
  dsimp only at hs
  obtain ⟨kp,hkp⟩:∃ kp:Nat,Y.p = kp:=⟨Y.p.toNat,by omega⟩
  rw [hkp,Int.toNat_natCast] at ha
  obtain ⟨act,hact⟩:∃ act,Dec.decideZ f.code.length f.safe x.pc Y.armed a.pre a.bar S1.sc.stopped (decide (x.asker ≠ 0)) (decide (20 ≤ Y.used)) = act:=⟨_,rfl⟩
  rw [hact] at hs
  have hjS:S1.ms[j]? = some Y:=by
   rw [← hS1]
   cases hbg:x.begun with
   | true=>rw [if_pos rfl];exact setX_at (lt_of_some HX2.out.2.2.2.2.1)
   | false=>rw [hbg,if_neg (by decide)] at hY;rw [if_neg (by decide),← hY];exact HX2.out.2.2.2.2.1
  have hiS:S1.gs[i]? = some x:=by rw [← hS1];split <;> exact HX2.out.2.2.2.2.2.1
  have hak:(x.asker != 0) = decide (x.asker ≠ 0):=by by_cases h:x.asker = 0 <;> simp [h]
  have hn0:=HF.out.2
  have HS:=Lib.hid hs
  have HA:=Lib.hid (And.intro ha (And.intro hkp (And.intro hact (And.intro hjS (And.intro hiS hak)))))
  have HY:=Lib.hid (And.intro hY hS1)
  have HN0:=Lib.hid hn0
  clear hs ha hkp hact hjS hiS hak hY hS1 hp0 hfS hn0 HF
  have hYg:Y.g = (i:Int) + 1:=by rw [← HY.out.1];split <;> first | rfl | exact HX2.out.2.2.2.2.2.2
  have HAK:=Lib.hid HA.out.2.2.2.2.2
  have HA:=Lib.hid (And.intro HA.out.1 (And.intro HA.out.2.1 (And.intro HA.out.2.2.1 (And.intro HA.out.2.2.2.1 (And.intro HA.out.2.2.2.2.1 hYg)))))
  clear hYg
  obtain ⟨us,hus⟩:∃ us,y.used = us:=⟨_,rfl⟩
  rw [hus] at x5
  cases hbg:x.begun with
  | true=>
   rw [hbg] at x17
   have hY1:=HY.out.1
   have hS2:=HY.out.2
   rw [hbg,if_pos rfl] at hY1 hS2
   clear hbg
   by_cases h19:19 < us
   ·skip
    have HW:Hid (Rep mb V own (W2.setCell ⟨xb,5,none⟩ (.int .i64 19)) S1 ∧ Ext own W2 own (W2.setCell ⟨xb,5,none⟩ (.int .i64 19))):=by
     have k:=HR2.out.xused HX2.out.1 HX2.out.2.2.2.2.1 (19)
     have e:min us 19 = 19:=by omega
     rw [← hS2,← hY1,← HX2.out.2.2.2.2.2.2,hus,e]
     exact k
    have x22:(W2.setCell ⟨xb,5,none⟩ (.int .i64 19)).cell? ⟨xb,2,none⟩ = some (ptr b):=(World.cell?_setCell_other W2 _ _ _ (by simp)).trans y2
    have HFl:=Lib.hid (HW.out.1.flags HX2.out.1 HA.out.2.2.2.1 HX2.out.2.2.1 HA.out.2.2.2.2.1 x22 HA.out.2.1 HA.out.1)
    clear x22
    have hZ:=HA.out.2.2.1
    unfold Dec.flg at HFl
    rw [HAK.out] at HFl
    clear hY1 hS2 hus
    generalize hz0:Y.armed = z0 at HFl hZ
    generalize hz1:a.pre = z1 at HFl hZ
    generalize hz2:a.bar = z2 at HFl hZ
    generalize hz3:S1.sc.stopped = z3 at HFl hZ
    generalize hz4:decide (x.asker ≠ 0) = z4 at HFl hZ
    generalize hz5:decide (20 ≤ Y.used) = z5 at HFl hZ
    have HZ:=Lib.hid hZ
    clear hz0 hz1 hz2 hz3 hz4 hz5 hZ
    go_wp2_with (go_at_call 179;refine HFl.out.mono ?_;rintro e w4 ⟨rfl,hB⟩;have HC:=Lib.hid (run_f (q0:=z0) (q1:=z1) (q2:=z2) (q3:=z3) (q4:=z4) (q5:=z5) HW.out.1 (HE2.out.trans HW.out.2) (blk_ext HB.out.1 HB.out.2.2.2.1 HW.out.2) (blk_ext HB.out.2.1 HB.out.2.2.2.2 HW.out.2) HB.out.2.2.2.1 HB.out.2.2.2.2 (bs_keep HB.out.2.2.1 H14.out (oset (orefl xb W2) 5 _) (by rw [HX2.out.1];omega)) hB);clear hB)
    clear y2 x5 x5f x17
    generalize w4.alloc (.cells #[.bool z0,.bool z1,.bool z2,.bool z3,.bool z4,.bool z5] 270) = W4 at *
    generalize w4.heap.size = L6 at *
    have HDec:Hid (∀ W,Below W4.heap.size W4 W → Calls Tryz.prog 180 #[.agg #[.slice ca f.code.length cc,.slice (some ⟨sb,so,none⟩) f.safe.length sc],.int .i64 x.pc,.agg #[.bool z0,.bool z1,.bool z2,.bool z3,.bool z4,.bool z5]] W (Dec.IntB act W)):=fun W hW=>by
     rw [← HZ.out]
     exact Dec.decide_any ca f.code.length cc _ f.safe x.pc z0 z1 z2 z3 z4 z5 W HN0.out (HC.out.bs.below hW)
    have HCel:Hid (∀ W,Below W4.heap.size W4 W → W.cell? ⟨L4,0,none⟩ = some (.slice ca f.code.length cc) ∧ W.cell? ⟨L4,1,none⟩ = some (.slice (some ⟨sb,so,none⟩) f.safe.length sc) ∧ W.cell? ⟨xb,2,none⟩ = some (ptr b) ∧ W.cell? ⟨b,3,none⟩ = some (.int .i64 x.pc) ∧ W.cell? ⟨L6,0,none⟩ = some (.bool z0) ∧ W.cell? ⟨L6,1,none⟩ = some (.bool z1) ∧ W.cell? ⟨L6,2,none⟩ = some (.bool z2) ∧ W.cell? ⟨L6,3,none⟩ = some (.bool z3) ∧ W.cell? ⟨L6,4,none⟩ = some (.bool z4) ∧ W.cell? ⟨L6,5,none⟩ = some (.bool z5)):=fun W hW=>by
     have k:=HC.out.below hW
     have k2:=xc2 (k.rep.xblk HX2.out.1 HA.out.2.2.2.1)
     rw [HA.out.2.2.2.2.2,k.rep.gptr_at HX2.out.2.2.1 HA.out.2.2.2.2.1] at k2
     obtain ⟨_,_,svv,hBk,_⟩:=k.rep.gat HX2.out.2.2.1 HA.out.2.2.2.2.1
     exact ⟨k.b4.cell 0,k.b4.cell 1,k2,hBk.cell 3,k.b6.cell 0,k.b6.cell 1,k.b6.cell 2,k.b6.cell 3,k.b6.cell 4,k.b6.cell 5⟩
    obtain ⟨a0,a1,a2,a3,a4,a5,a6,a7,a8,a9⟩:=HCel.out W4 (Below.refl _ _)
    go_region_held3 (fun w'=>w'.cell? ⟨L4,0,none⟩ = some (.slice ca f.code.length cc) ∧ w'.cell? ⟨L4,1,none⟩ = some (.slice (some ⟨sb,so,none⟩) f.safe.length sc) ∧ w'.cell? ⟨xb,2,none⟩ = some (ptr b) ∧ w'.cell? ⟨b,3,none⟩ = some (.int .i64 x.pc) ∧ w'.cell? ⟨L6,0,none⟩ = some (.bool z0) ∧ w'.cell? ⟨L6,1,none⟩ = some (.bool z1) ∧ w'.cell? ⟨L6,2,none⟩ = some (.bool z2) ∧ w'.cell? ⟨L6,3,none⟩ = some (.bool z3) ∧ w'.cell? ⟨L6,4,none⟩ = some (.bool z4) ∧ w'.cell? ⟨L6,5,none⟩ = some (.bool z5)) (go_keep) (first
     | (go_at_call 180;refine (HDec.out _ (by first | exact Below.refl _ _ | exact below_drew' | exact below_drewN' _)).mono ?_;rintro e w5 ⟨rfl,hB5⟩;have hB6:Below W4.heap.size W4 w5:=bl_next (by first | exact Below.refl _ _ | exact below_drew' | exact below_drewN' _) hB5;obtain ⟨c0,c1,c2,c3,c4,c5,c6,c7,c8,c9⟩:=HCel.out w5 hB6;have HC5:=Lib.hid (HC.out.below hB6);clear hB5 hB6))
    rename_i hh
    clear hh a0 a1 a2 a3 a4 a5 a6 a7 a8 a9 c0 c1 c2 c3 c4 c5 c6 c7 c8 c9 HDec HCel HC
    have hs:=HS.out
    clear HS
    have hq2:¬ act = 2:=by
     intro e
     rw [e,if_neg (by decide),if_pos rfl] at hs
     cases hs
    have d2:(act == 2) = false:=by simpa using hq2
    have HS:=Lib.hid hs
    clear hs hq2
    go_wp2
    go_quiet (fail)
    have HC7:=Lib.hid (HC5.out.drewN nq)
    clear HC5
    generalize w5.drewN nq = W7 at *
    have HXL:=Lib.hid (HC7.out.rep.tag_lt HX2.out.1 (by omega))
    have hs:=HS.out
    clear HS
    by_cases k1:act = 1
    ·rw [if_pos k1] at hs
     subst k1
     have x1:=xc1 (HC7.out.rep.xblk HX2.out.1 HA.out.2.2.2.1)
     rw [HA.out.2.1] at x1 hs
     have HSv:=Lib.hid (HC7.out.rep.serve hs)
     clear hs d2
     go_wp2_with (go_at_call 171;refine HSv.out.mono ?_;rintro e w8 ⟨rfl,o8,hR8,hE8⟩;have HR8:=Lib.hid (And.intro hR8 (HC7.out.ext.trans hE8));clear hR8 hE8)
     go_end0
     exact ⟨rfl,V,o8,HR8.out.1,HR8.out.2,Fw.refl V⟩
    ·rw [if_neg k1] at hs
     have d1:(act == 1) = false:=by simpa using k1
     have d2n:¬ act = 2:=by simpa using d2
     rw [if_neg d2n] at hs
     by_cases k3:act = 3
     ·rw [if_pos k3] at hs
      subst k3
      replace hs:=bind_some hs
      obtain ⟨s2,hc,hbk⟩:=hs
      have HCl:=Lib.hid (HC7.out.rep.clear z0 z1 z2 z3 z4 z5 (act:=3) (.inr (.inl rfl)) HX2.out.1 HA.out.2.2.2.1 HA.out.2.1 hc)
      have HBk:=Lib.hid hbk
      have b0:=HC7.out.b6.cell 0
      have b1:=HC7.out.b6.cell 1
      have b2:=HC7.out.b6.cell 2
      have b3:=HC7.out.b6.cell 3
      have b4:=HC7.out.b6.cell 4
      have b5:=HC7.out.b6.cell 5
      simp only [List.getElem?_toArray,List.getElem?_cons_zero,List.getElem?_cons_succ] at b0 b1 b2 b3 b4 b5
      clear hc hbk d1 d2 d2n k1
      go_wp2_with (first
       | (go_at_call 182;refine HCl.out.mono ?_;rintro e w8 ⟨rfl,o8,hR8,hE8⟩;have HB8:=Lib.hid (hR8.back (hE8.keep HX2.out.1 HXL.out) HBk.out);have HE8:=Lib.hid (HC7.out.ext.trans hE8);clear hR8 hE8)
       | (go_at_call 185;refine HB8.out.mono ?_;rintro e w9 ⟨rfl,V9,o9,hR9,hE9,hF9⟩;have HR9:=Lib.hid (And.intro hR9 (And.intro (HE8.out.trans hE9) hF9));clear hR9 hE9 hF9))
      go_end0
      exact ⟨rfl,V9,o9,HR9.out.1,HR9.out.2.1,HR9.out.2.2.toFw⟩
     ·rw [if_neg k3] at hs
      have d3:(act == 3) = false:=by simpa using k3
      by_cases k4:act = 4
      ·rw [if_pos k4] at hs
       subst k4
       have HCl:=Lib.hid (HC7.out.rep.clear z0 z1 z2 z3 z4 z5 (act:=4) (.inr (.inr rfl)) HX2.out.1 HA.out.2.2.2.1 HA.out.2.1 hs)
       have b0:=HC7.out.b6.cell 0
       have b1:=HC7.out.b6.cell 1
       have b2:=HC7.out.b6.cell 2
       have b3:=HC7.out.b6.cell 3
       have b4:=HC7.out.b6.cell 4
       have b5:=HC7.out.b6.cell 5
       simp only [List.getElem?_toArray,List.getElem?_cons_zero,List.getElem?_cons_succ] at b0 b1 b2 b3 b4 b5
       clear hs d1 d2 d3 d2n k1 k3
       go_wp2_with (go_at_call 182;refine HCl.out.mono ?_;rintro e w8 ⟨rfl,o8,hR8,hE8⟩;have HR8:=Lib.hid (And.intro hR8 (HC7.out.ext.trans hE8));clear hR8 hE8)
       go_end0
       exact ⟨rfl,V,o8,HR8.out.1,HR8.out.2,Fw.refl V⟩
      ·rw [if_neg k4] at hs
       have d4:(act == 4) = false:=by simpa using k4
       have HD:=Lib.hid (HC7.out.rep.do_ HX2.out.1 hs)
       have b0:=HC7.out.b5.cell 0
       have b1:=HC7.out.b5.cell 1
       have b2:=HC7.out.b5.cell 2
       have b3:=HC7.out.b5.cell 3
       have b4:=HC7.out.b5.cell 4
       simp only [List.getElem?_toArray,List.getElem?_cons_zero,List.getElem?_cons_succ] at b0 b1 b2 b3 b4
       clear hs k1 k3 k4 d2n
       go_wp2_with (go_at_call 178;refine HD.out.mono ?_;rintro e w8 ⟨rfl,V8,o8,hR8,hE8,hF8⟩;have HR8:=Lib.hid (And.intro hR8 (And.intro (HC7.out.ext.trans hE8) hF8));clear hR8 hE8 hF8)
       go_end0
       exact ⟨rfl,V8,o8,HR8.out.1,HR8.out.2.1,HR8.out.2.2⟩
   ·skip
    have HW:Hid (Rep mb V own (W2.setCell ⟨xb,5,none⟩ (.int .i64 us)) S1 ∧ Ext own W2 own (W2.setCell ⟨xb,5,none⟩ (.int .i64 us))):=by
     have k:=HR2.out.xused HX2.out.1 HX2.out.2.2.2.2.1 (us)
     have e:min us 19 = us:=by omega
     rw [← hS2,← hY1,← HX2.out.2.2.2.2.2.2,hus,e]
     exact k
    have x22:(W2.setCell ⟨xb,5,none⟩ (.int .i64 us)).cell? ⟨xb,2,none⟩ = some (ptr b):=(World.cell?_setCell_other W2 _ _ _ (by simp)).trans y2
    have HFl:=Lib.hid (HW.out.1.flags HX2.out.1 HA.out.2.2.2.1 HX2.out.2.2.1 HA.out.2.2.2.2.1 x22 HA.out.2.1 HA.out.1)
    clear x22
    have hZ:=HA.out.2.2.1
    unfold Dec.flg at HFl
    rw [HAK.out] at HFl
    clear hY1 hS2 hus
    generalize hz0:Y.armed = z0 at HFl hZ
    generalize hz1:a.pre = z1 at HFl hZ
    generalize hz2:a.bar = z2 at HFl hZ
    generalize hz3:S1.sc.stopped = z3 at HFl hZ
    generalize hz4:decide (x.asker ≠ 0) = z4 at HFl hZ
    generalize hz5:decide (20 ≤ Y.used) = z5 at HFl hZ
    have HZ:=Lib.hid hZ
    clear hz0 hz1 hz2 hz3 hz4 hz5 hZ
    go_wp2_with (go_at_call 179;refine HFl.out.mono ?_;rintro e w4 ⟨rfl,hB⟩;have HC:=Lib.hid (run_f (q0:=z0) (q1:=z1) (q2:=z2) (q3:=z3) (q4:=z4) (q5:=z5) HW.out.1 (HE2.out.trans HW.out.2) (blk_ext HB.out.1 HB.out.2.2.2.1 HW.out.2) (blk_ext HB.out.2.1 HB.out.2.2.2.2 HW.out.2) HB.out.2.2.2.1 HB.out.2.2.2.2 (bs_keep HB.out.2.2.1 H14.out (oset (orefl xb W2) 5 _) (by rw [HX2.out.1];omega)) hB);clear hB)
    clear y2 x5 x5f x17
    generalize w4.alloc (.cells #[.bool z0,.bool z1,.bool z2,.bool z3,.bool z4,.bool z5] 270) = W4 at *
    generalize w4.heap.size = L6 at *
    have HDec:Hid (∀ W,Below W4.heap.size W4 W → Calls Tryz.prog 180 #[.agg #[.slice ca f.code.length cc,.slice (some ⟨sb,so,none⟩) f.safe.length sc],.int .i64 x.pc,.agg #[.bool z0,.bool z1,.bool z2,.bool z3,.bool z4,.bool z5]] W (Dec.IntB act W)):=fun W hW=>by
     rw [← HZ.out]
     exact Dec.decide_any ca f.code.length cc _ f.safe x.pc z0 z1 z2 z3 z4 z5 W HN0.out (HC.out.bs.below hW)
    have HCel:Hid (∀ W,Below W4.heap.size W4 W → W.cell? ⟨L4,0,none⟩ = some (.slice ca f.code.length cc) ∧ W.cell? ⟨L4,1,none⟩ = some (.slice (some ⟨sb,so,none⟩) f.safe.length sc) ∧ W.cell? ⟨xb,2,none⟩ = some (ptr b) ∧ W.cell? ⟨b,3,none⟩ = some (.int .i64 x.pc) ∧ W.cell? ⟨L6,0,none⟩ = some (.bool z0) ∧ W.cell? ⟨L6,1,none⟩ = some (.bool z1) ∧ W.cell? ⟨L6,2,none⟩ = some (.bool z2) ∧ W.cell? ⟨L6,3,none⟩ = some (.bool z3) ∧ W.cell? ⟨L6,4,none⟩ = some (.bool z4) ∧ W.cell? ⟨L6,5,none⟩ = some (.bool z5)):=fun W hW=>by
     have k:=HC.out.below hW
     have k2:=xc2 (k.rep.xblk HX2.out.1 HA.out.2.2.2.1)
     rw [HA.out.2.2.2.2.2,k.rep.gptr_at HX2.out.2.2.1 HA.out.2.2.2.2.1] at k2
     obtain ⟨_,_,svv,hBk,_⟩:=k.rep.gat HX2.out.2.2.1 HA.out.2.2.2.2.1
     exact ⟨k.b4.cell 0,k.b4.cell 1,k2,hBk.cell 3,k.b6.cell 0,k.b6.cell 1,k.b6.cell 2,k.b6.cell 3,k.b6.cell 4,k.b6.cell 5⟩
    obtain ⟨a0,a1,a2,a3,a4,a5,a6,a7,a8,a9⟩:=HCel.out W4 (Below.refl _ _)
    go_region_held3 (fun w'=>w'.cell? ⟨L4,0,none⟩ = some (.slice ca f.code.length cc) ∧ w'.cell? ⟨L4,1,none⟩ = some (.slice (some ⟨sb,so,none⟩) f.safe.length sc) ∧ w'.cell? ⟨xb,2,none⟩ = some (ptr b) ∧ w'.cell? ⟨b,3,none⟩ = some (.int .i64 x.pc) ∧ w'.cell? ⟨L6,0,none⟩ = some (.bool z0) ∧ w'.cell? ⟨L6,1,none⟩ = some (.bool z1) ∧ w'.cell? ⟨L6,2,none⟩ = some (.bool z2) ∧ w'.cell? ⟨L6,3,none⟩ = some (.bool z3) ∧ w'.cell? ⟨L6,4,none⟩ = some (.bool z4) ∧ w'.cell? ⟨L6,5,none⟩ = some (.bool z5)) (go_keep) (first
     | (go_at_call 180;refine (HDec.out _ (by first | exact Below.refl _ _ | exact below_drew' | exact below_drewN' _)).mono ?_;rintro e w5 ⟨rfl,hB5⟩;have hB6:Below W4.heap.size W4 w5:=bl_next (by first | exact Below.refl _ _ | exact below_drew' | exact below_drewN' _) hB5;obtain ⟨c0,c1,c2,c3,c4,c5,c6,c7,c8,c9⟩:=HCel.out w5 hB6;have HC5:=Lib.hid (HC.out.below hB6);clear hB5 hB6))
    rename_i hh
    clear hh a0 a1 a2 a3 a4 a5 a6 a7 a8 a9 c0 c1 c2 c3 c4 c5 c6 c7 c8 c9 HDec HCel HC
    have hs:=HS.out
    clear HS
    have hq2:¬ act = 2:=by
     intro e
     rw [e,if_neg (by decide),if_pos rfl] at hs
     cases hs
    have d2:(act == 2) = false:=by simpa using hq2
    have HS:=Lib.hid hs
    clear hs hq2
    go_wp2
    go_quiet (fail)
    have HC7:=Lib.hid (HC5.out.drewN nq)
    clear HC5
    generalize w5.drewN nq = W7 at *
    have HXL:=Lib.hid (HC7.out.rep.tag_lt HX2.out.1 (by omega))
    have hs:=HS.out
    clear HS
    by_cases k1:act = 1
    ·rw [if_pos k1] at hs
     subst k1
     have x1:=xc1 (HC7.out.rep.xblk HX2.out.1 HA.out.2.2.2.1)
     rw [HA.out.2.1] at x1 hs
     have HSv:=Lib.hid (HC7.out.rep.serve hs)
     clear hs d2
     go_wp2_with (go_at_call 171;refine HSv.out.mono ?_;rintro e w8 ⟨rfl,o8,hR8,hE8⟩;have HR8:=Lib.hid (And.intro hR8 (HC7.out.ext.trans hE8));clear hR8 hE8)
     go_end0
     exact ⟨rfl,V,o8,HR8.out.1,HR8.out.2,Fw.refl V⟩
    ·rw [if_neg k1] at hs
     have d1:(act == 1) = false:=by simpa using k1
     have d2n:¬ act = 2:=by simpa using d2
     rw [if_neg d2n] at hs
     by_cases k3:act = 3
     ·rw [if_pos k3] at hs
      subst k3
      replace hs:=bind_some hs
      obtain ⟨s2,hc,hbk⟩:=hs
      have HCl:=Lib.hid (HC7.out.rep.clear z0 z1 z2 z3 z4 z5 (act:=3) (.inr (.inl rfl)) HX2.out.1 HA.out.2.2.2.1 HA.out.2.1 hc)
      have HBk:=Lib.hid hbk
      have b0:=HC7.out.b6.cell 0
      have b1:=HC7.out.b6.cell 1
      have b2:=HC7.out.b6.cell 2
      have b3:=HC7.out.b6.cell 3
      have b4:=HC7.out.b6.cell 4
      have b5:=HC7.out.b6.cell 5
      simp only [List.getElem?_toArray,List.getElem?_cons_zero,List.getElem?_cons_succ] at b0 b1 b2 b3 b4 b5
      clear hc hbk d1 d2 d2n k1
      go_wp2_with (first
       | (go_at_call 182;refine HCl.out.mono ?_;rintro e w8 ⟨rfl,o8,hR8,hE8⟩;have HB8:=Lib.hid (hR8.back (hE8.keep HX2.out.1 HXL.out) HBk.out);have HE8:=Lib.hid (HC7.out.ext.trans hE8);clear hR8 hE8)
       | (go_at_call 185;refine HB8.out.mono ?_;rintro e w9 ⟨rfl,V9,o9,hR9,hE9,hF9⟩;have HR9:=Lib.hid (And.intro hR9 (And.intro (HE8.out.trans hE9) hF9));clear hR9 hE9 hF9))
      go_end0
      exact ⟨rfl,V9,o9,HR9.out.1,HR9.out.2.1,HR9.out.2.2.toFw⟩
     ·rw [if_neg k3] at hs
      have d3:(act == 3) = false:=by simpa using k3
      by_cases k4:act = 4
      ·rw [if_pos k4] at hs
       subst k4
       have HCl:=Lib.hid (HC7.out.rep.clear z0 z1 z2 z3 z4 z5 (act:=4) (.inr (.inr rfl)) HX2.out.1 HA.out.2.2.2.1 HA.out.2.1 hs)
       have b0:=HC7.out.b6.cell 0
       have b1:=HC7.out.b6.cell 1
       have b2:=HC7.out.b6.cell 2
       have b3:=HC7.out.b6.cell 3
       have b4:=HC7.out.b6.cell 4
       have b5:=HC7.out.b6.cell 5
       simp only [List.getElem?_toArray,List.getElem?_cons_zero,List.getElem?_cons_succ] at b0 b1 b2 b3 b4 b5
       clear hs d1 d2 d3 d2n k1 k3
       go_wp2_with (go_at_call 182;refine HCl.out.mono ?_;rintro e w8 ⟨rfl,o8,hR8,hE8⟩;have HR8:=Lib.hid (And.intro hR8 (HC7.out.ext.trans hE8));clear hR8 hE8)
       go_end0
       exact ⟨rfl,V,o8,HR8.out.1,HR8.out.2,Fw.refl V⟩
      ·rw [if_neg k4] at hs
       have d4:(act == 4) = false:=by simpa using k4
       have HD:=Lib.hid (HC7.out.rep.do_ HX2.out.1 hs)
       have b0:=HC7.out.b5.cell 0
       have b1:=HC7.out.b5.cell 1
       have b2:=HC7.out.b5.cell 2
       have b3:=HC7.out.b5.cell 3
       have b4:=HC7.out.b5.cell 4
       simp only [List.getElem?_toArray,List.getElem?_cons_zero,List.getElem?_cons_succ] at b0 b1 b2 b3 b4
       clear hs k1 k3 k4 d2n
       go_wp2_with (go_at_call 178;refine HD.out.mono ?_;rintro e w8 ⟨rfl,V8,o8,hR8,hE8,hF8⟩;have HR8:=Lib.hid (And.intro hR8 (And.intro (HC7.out.ext.trans hE8) hF8));clear hR8 hE8 hF8)
       go_end0
       exact ⟨rfl,V8,o8,HR8.out.1,HR8.out.2.1,HR8.out.2.2⟩
  | false=>
   rw [hbg] at x17
   have hY1:=HY.out.1
   have hS2:=HY.out.2
   rw [hbg,if_neg (by decide)] at hY1 hS2
   clear hbg
   have hR3:=HR2.out
   rw [hS2] at hR3
   have HFl:=Lib.hid (hR3.flags HX2.out.1 HA.out.2.2.2.1 HX2.out.2.2.1 HA.out.2.2.2.2.1 y2 HA.out.2.1 HA.out.1)
   have HR3:=Lib.hid hR3
   clear hR3
   have hZ:=HA.out.2.2.1
   unfold Dec.flg at HFl
   rw [HAK.out] at HFl
   clear hY1 hS2 hus
   generalize hz0:Y.armed = z0 at HFl hZ
   generalize hz1:a.pre = z1 at HFl hZ
   generalize hz2:a.bar = z2 at HFl hZ
   generalize hz3:S1.sc.stopped = z3 at HFl hZ
   generalize hz4:decide (x.asker ≠ 0) = z4 at HFl hZ
   generalize hz5:decide (20 ≤ Y.used) = z5 at HFl hZ
   have HZ:=Lib.hid hZ
   clear hz0 hz1 hz2 hz3 hz4 hz5 hZ
   go_wp2_with (go_at_call 179;refine HFl.out.mono ?_;rintro e w4 ⟨rfl,hB⟩;have HC:=Lib.hid (run_f (q0:=z0) (q1:=z1) (q2:=z2) (q3:=z3) (q4:=z4) (q5:=z5) HR3.out HE2.out HB.out.1 HB.out.2.1 HB.out.2.2.2.1 HB.out.2.2.2.2 HB.out.2.2.1 hB);clear hB)
   clear y2 x5 x5f x17
   generalize w4.alloc (.cells #[.bool z0,.bool z1,.bool z2,.bool z3,.bool z4,.bool z5] 270) = W4 at *
   generalize w4.heap.size = L6 at *
   have HDec:Hid (∀ W,Below W4.heap.size W4 W → Calls Tryz.prog 180 #[.agg #[.slice ca f.code.length cc,.slice (some ⟨sb,so,none⟩) f.safe.length sc],.int .i64 x.pc,.agg #[.bool z0,.bool z1,.bool z2,.bool z3,.bool z4,.bool z5]] W (Dec.IntB act W)):=fun W hW=>by
    rw [← HZ.out]
    exact Dec.decide_any ca f.code.length cc _ f.safe x.pc z0 z1 z2 z3 z4 z5 W HN0.out (HC.out.bs.below hW)
   have HCel:Hid (∀ W,Below W4.heap.size W4 W → W.cell? ⟨L4,0,none⟩ = some (.slice ca f.code.length cc) ∧ W.cell? ⟨L4,1,none⟩ = some (.slice (some ⟨sb,so,none⟩) f.safe.length sc) ∧ W.cell? ⟨xb,2,none⟩ = some (ptr b) ∧ W.cell? ⟨b,3,none⟩ = some (.int .i64 x.pc) ∧ W.cell? ⟨L6,0,none⟩ = some (.bool z0) ∧ W.cell? ⟨L6,1,none⟩ = some (.bool z1) ∧ W.cell? ⟨L6,2,none⟩ = some (.bool z2) ∧ W.cell? ⟨L6,3,none⟩ = some (.bool z3) ∧ W.cell? ⟨L6,4,none⟩ = some (.bool z4) ∧ W.cell? ⟨L6,5,none⟩ = some (.bool z5)):=fun W hW=>by
    have k:=HC.out.below hW
    have k2:=xc2 (k.rep.xblk HX2.out.1 HA.out.2.2.2.1)
    rw [HA.out.2.2.2.2.2,k.rep.gptr_at HX2.out.2.2.1 HA.out.2.2.2.2.1] at k2
    obtain ⟨_,_,svv,hBk,_⟩:=k.rep.gat HX2.out.2.2.1 HA.out.2.2.2.2.1
    exact ⟨k.b4.cell 0,k.b4.cell 1,k2,hBk.cell 3,k.b6.cell 0,k.b6.cell 1,k.b6.cell 2,k.b6.cell 3,k.b6.cell 4,k.b6.cell 5⟩
   obtain ⟨a0,a1,a2,a3,a4,a5,a6,a7,a8,a9⟩:=HCel.out W4 (Below.refl _ _)
   go_region_held3 (fun w'=>w'.cell? ⟨L4,0,none⟩ = some (.slice ca f.code.length cc) ∧ w'.cell? ⟨L4,1,none⟩ = some (.slice (some ⟨sb,so,none⟩) f.safe.length sc) ∧ w'.cell? ⟨xb,2,none⟩ = some (ptr b) ∧ w'.cell? ⟨b,3,none⟩ = some (.int .i64 x.pc) ∧ w'.cell? ⟨L6,0,none⟩ = some (.bool z0) ∧ w'.cell? ⟨L6,1,none⟩ = some (.bool z1) ∧ w'.cell? ⟨L6,2,none⟩ = some (.bool z2) ∧ w'.cell? ⟨L6,3,none⟩ = some (.bool z3) ∧ w'.cell? ⟨L6,4,none⟩ = some (.bool z4) ∧ w'.cell? ⟨L6,5,none⟩ = some (.bool z5)) (go_keep) (first
    | (go_at_call 180;refine (HDec.out _ (by first | exact Below.refl _ _ | exact below_drew' | exact below_drewN' _)).mono ?_;rintro e w5 ⟨rfl,hB5⟩;have hB6:Below W4.heap.size W4 w5:=bl_next (by first | exact Below.refl _ _ | exact below_drew' | exact below_drewN' _) hB5;obtain ⟨c0,c1,c2,c3,c4,c5,c6,c7,c8,c9⟩:=HCel.out w5 hB6;have HC5:=Lib.hid (HC.out.below hB6);clear hB5 hB6))
   rename_i hh
   clear hh a0 a1 a2 a3 a4 a5 a6 a7 a8 a9 c0 c1 c2 c3 c4 c5 c6 c7 c8 c9 HDec HCel HC
   have hs:=HS.out
   clear HS
   have hq2:¬ act = 2:=by
    intro e
    rw [e,if_neg (by decide),if_pos rfl] at hs
    cases hs
   have d2:(act == 2) = false:=by simpa using hq2
   have HS:=Lib.hid hs
   clear hs hq2
   go_wp2
   go_quiet (fail)
   have HC7:=Lib.hid (HC5.out.drewN nq)
   clear HC5
   generalize w5.drewN nq = W7 at *
   have HXL:=Lib.hid (HC7.out.rep.tag_lt HX2.out.1 (by omega))
   have hs:=HS.out
   clear HS
   by_cases k1:act = 1
   ·rw [if_pos k1] at hs
    subst k1
    have x1:=xc1 (HC7.out.rep.xblk HX2.out.1 HA.out.2.2.2.1)
    rw [HA.out.2.1] at x1 hs
    have HSv:=Lib.hid (HC7.out.rep.serve hs)
    clear hs d2
    go_wp2_with (go_at_call 171;refine HSv.out.mono ?_;rintro e w8 ⟨rfl,o8,hR8,hE8⟩;have HR8:=Lib.hid (And.intro hR8 (HC7.out.ext.trans hE8));clear hR8 hE8)
    go_end0
    exact ⟨rfl,V,o8,HR8.out.1,HR8.out.2,Fw.refl V⟩
   ·rw [if_neg k1] at hs
    have d1:(act == 1) = false:=by simpa using k1
    have d2n:¬ act = 2:=by simpa using d2
    rw [if_neg d2n] at hs
    by_cases k3:act = 3
    ·rw [if_pos k3] at hs
     subst k3
     replace hs:=bind_some hs
     obtain ⟨s2,hc,hbk⟩:=hs
     have HCl:=Lib.hid (HC7.out.rep.clear z0 z1 z2 z3 z4 z5 (act:=3) (.inr (.inl rfl)) HX2.out.1 HA.out.2.2.2.1 HA.out.2.1 hc)
     have HBk:=Lib.hid hbk
     have b0:=HC7.out.b6.cell 0
     have b1:=HC7.out.b6.cell 1
     have b2:=HC7.out.b6.cell 2
     have b3:=HC7.out.b6.cell 3
     have b4:=HC7.out.b6.cell 4
     have b5:=HC7.out.b6.cell 5
     simp only [List.getElem?_toArray,List.getElem?_cons_zero,List.getElem?_cons_succ] at b0 b1 b2 b3 b4 b5
     clear hc hbk d1 d2 d2n k1
     go_wp2_with (first
      | (go_at_call 182;refine HCl.out.mono ?_;rintro e w8 ⟨rfl,o8,hR8,hE8⟩;have HB8:=Lib.hid (hR8.back (hE8.keep HX2.out.1 HXL.out) HBk.out);have HE8:=Lib.hid (HC7.out.ext.trans hE8);clear hR8 hE8)
      | (go_at_call 185;refine HB8.out.mono ?_;rintro e w9 ⟨rfl,V9,o9,hR9,hE9,hF9⟩;have HR9:=Lib.hid (And.intro hR9 (And.intro (HE8.out.trans hE9) hF9));clear hR9 hE9 hF9))
     go_end0
     exact ⟨rfl,V9,o9,HR9.out.1,HR9.out.2.1,HR9.out.2.2.toFw⟩
    ·rw [if_neg k3] at hs
     have d3:(act == 3) = false:=by simpa using k3
     by_cases k4:act = 4
     ·rw [if_pos k4] at hs
      subst k4
      have HCl:=Lib.hid (HC7.out.rep.clear z0 z1 z2 z3 z4 z5 (act:=4) (.inr (.inr rfl)) HX2.out.1 HA.out.2.2.2.1 HA.out.2.1 hs)
      have b0:=HC7.out.b6.cell 0
      have b1:=HC7.out.b6.cell 1
      have b2:=HC7.out.b6.cell 2
      have b3:=HC7.out.b6.cell 3
      have b4:=HC7.out.b6.cell 4
      have b5:=HC7.out.b6.cell 5
      simp only [List.getElem?_toArray,List.getElem?_cons_zero,List.getElem?_cons_succ] at b0 b1 b2 b3 b4 b5
      clear hs d1 d2 d3 d2n k1 k3
      go_wp2_with (go_at_call 182;refine HCl.out.mono ?_;rintro e w8 ⟨rfl,o8,hR8,hE8⟩;have HR8:=Lib.hid (And.intro hR8 (HC7.out.ext.trans hE8));clear hR8 hE8)
      go_end0
      exact ⟨rfl,V,o8,HR8.out.1,HR8.out.2,Fw.refl V⟩
     ·rw [if_neg k4] at hs
      have d4:(act == 4) = false:=by simpa using k4
      have HD:=Lib.hid (HC7.out.rep.do_ HX2.out.1 hs)
      have b0:=HC7.out.b5.cell 0
      have b1:=HC7.out.b5.cell 1
      have b2:=HC7.out.b5.cell 2
      have b3:=HC7.out.b5.cell 3
      have b4:=HC7.out.b5.cell 4
      simp only [List.getElem?_toArray,List.getElem?_cons_zero,List.getElem?_cons_succ] at b0 b1 b2 b3 b4
      clear hs k1 k3 k4 d2n
      go_wp2_with (go_at_call 178;refine HD.out.mono ?_;rintro e w8 ⟨rfl,V8,o8,hR8,hE8,hF8⟩;have HR8:=Lib.hid (And.intro hR8 (And.intro (HC7.out.ext.trans hE8) hF8));clear hR8 hE8 hF8)
      go_end0
      exact ⟨rfl,V8,o8,HR8.out.1,HR8.out.2.1,HR8.out.2.2⟩
end
end Go.Proofs.YtgadhchejmlfjaaGreatDoor.Mac
end
section
namespace Go.Proofs.YtgadhchejmlfjaaGreatDoor.Mac
open Go.RowKit Go.Esc
section
variable {mb:Nat} {V:Vr} {own:Nat → Nat} {w:World} {s:St}
theorem mset_e4 {c:Sc} (h:Blk w mb (mcells V c) 121) (nw pk dl dr:Int):Blk ((((w.setCell ⟨mb,17,none⟩ (.int .i64 nw)).setCell ⟨mb,14,none⟩ (.int .i64 pk)).setCell ⟨mb,15,none⟩ (.int .i64 dl)).setCell ⟨mb,16,none⟩ (.int .i64 dr)) mb (mcells V { c with now:=nw,pick:=pk,delay:=dl,draw:=dr }) 121:=
 (((h.set 17 (.int .i64 nw)).set 14 (.int .i64 pk)).set 15 (.int .i64 dl)).set 16 (.int .i64 dr)
theorem mset_ev0 {c:Sc} (h:Blk w mb (mcells V c) 121):Blk ((((((w.setCell ⟨mb,21,none⟩ (.int .i64 0)).setCell ⟨mb,22,none⟩ (.int .i64 0)).setCell ⟨mb,23,none⟩ (.int .i64 0)).setCell ⟨mb,24,none⟩ (.int .i64 0)).setCell ⟨mb,25,none⟩ (.int .i64 0)).setCell ⟨mb,26,none⟩ (.bool false)) mb (mcells V { c with kind:=0,eg:=0,efn:=0,epc:=0,en:=0,seen:=false }) 121:=
 (((((h.set 21 (.int .i64 0)).set 22 (.int .i64 0)).set 23 (.int .i64 0)).set 24 (.int .i64 0)).set 25 (.int .i64 0)).set 26 (.bool false)
def step0 (s:St) (pick delay draw:Int):St:=s.setSc { s.sc with now:=wrap64 (s.sc.now + 1),pick:=pick,delay:=delay,draw:=draw,kind:=0,eg:=0,efn:=0,epc:=0,en:=0,seen:=false }
def stepW (w:World) (mb:Nat) (nw pk dl dr:Int):World:=
 (((((((((((w.setCell ⟨mb,17,none⟩ (.int .i64 nw)).setCell ⟨mb,14,none⟩ (.int .i64 pk)).setCell ⟨mb,15,none⟩ (.int .i64 dl)).setCell ⟨mb,16,none⟩ (.int .i64 dr)).setCell ⟨mb,21,none⟩ (.int .i64 0)).setCell ⟨mb,22,none⟩ (.int .i64 0)).setCell ⟨mb,23,none⟩ (.int .i64 0)).setCell ⟨mb,24,none⟩ (.int .i64 0)).setCell ⟨mb,25,none⟩ (.int .i64 0)).setCell ⟨mb,26,none⟩ (.bool false)))
theorem Rep.step0 (h:Rep mb V own w s) (pk dl dr:Int):Rep mb V own (stepW w mb (wrap64 (s.sc.now + 1)) pk dl dr) (step0 s pk dl dr) ∧ Ext own w own (stepW w mb (wrap64 (s.sc.now + 1)) pk dl dr):=by
 obtain ⟨R1,E1⟩:=h.putSc (oset (oset (oset (oset (orefl mb w) 17 (.int .i64 (wrap64 (s.sc.now + 1)))) 14 (.int .i64 pk)) 15 (.int .i64 dl)) 16 (.int .i64 dr)) { s.sc with now:=wrap64 (s.sc.now + 1),pick:=pk,delay:=dl,draw:=dr } h.hold (mset_e4 h.mblk (wrap64 (s.sc.now + 1)) pk dl dr)
 obtain ⟨R2,E2⟩:=R1.putSc (oset (oset (oset (oset (oset (oset (orefl mb _) 21 (.int .i64 0)) 22 (.int .i64 0)) 23 (.int .i64 0)) 24 (.int .i64 0)) 25 (.int .i64 0)) 26 (.bool false)) { s.sc with now:=wrap64 (s.sc.now + 1),pick:=pk,delay:=dl,draw:=dr,kind:=0,eg:=0,efn:=0,epc:=0,en:=0,seen:=false } R1.hold (mset_ev0 R1.mblk)
 exact ⟨R2,E1.trans E2⟩
structure StE (mb:Nat) (V:Vr) (own:Nat → Nat) (w:World) (s:St) (W:World) (L3 L4:Nat) (pk dl dr:Int):Prop where
 rep:Rep mb V own W s
 ext:Ext own w own W
 b3:Blk W L3 #[.int .i64 pk,.int .i64 dl,.int .i64 dr] 36
 b4:∃ u0 u1 u2 u3 u4,Blk W L4 #[u0,u1,u2,u3,u4] 38
 o3:own L3 = 0
 o4:own L4 = 0
theorem step_e (h:Rep mb V own w s) (pk dl dr:Int):StE mb V own w (step0 s pk dl dr) (stepW ((w.alloc (.cells #[.int .i64 pk,.int .i64 dl,.int .i64 dr] 36)).alloc (.cells #[.int .i64 0,.int .i64 0,.int .i64 0,.int .i64 0,.int .i64 0] 38)) mb (wrap64 (s.sc.now + 1)) pk dl dr) w.heap.size (w.heap.size + 1) pk dl dr:=by
 have hb:Below w.heap.size w ((w.alloc (.cells #[.int .i64 pk,.int .i64 dl,.int .i64 dr] 36)).alloc (.cells #[.int .i64 0,.int .i64 0,.int .i64 0,.int .i64 0,.int .i64 0] 38)):=below_alloc (below_alloc (Below.refl _ _) _) _
 obtain ⟨R,E⟩:=(h.below hb).step0 pk dl dr
 have o3:=h.fresh w.heap.size (Nat.le_refl _)
 have o4:=h.fresh (w.heap.size + 1) (Nat.le_succ _)
 have b3:Blk ((w.alloc (.cells #[.int .i64 pk,.int .i64 dl,.int .i64 dr] 36)).alloc (.cells #[.int .i64 0,.int .i64 0,.int .i64 0,.int .i64 0,.int .i64 0] 38)) w.heap.size #[.int .i64 pk,.int .i64 dl,.int .i64 dr] 36:=(Blk.new w _ 36).below (below_alloc (Below.refl _ _) _) (by simp)
 have b4:Blk ((w.alloc (.cells #[.int .i64 pk,.int .i64 dl,.int .i64 dr] 36)).alloc (.cells #[.int .i64 0,.int .i64 0,.int .i64 0,.int .i64 0,.int .i64 0] 38)) (w.heap.size + 1) #[.int .i64 0,.int .i64 0,.int .i64 0,.int .i64 0,.int .i64 0] 38:=by
  have k:=Blk.new (w.alloc (.cells #[.int .i64 pk,.int .i64 dl,.int .i64 dr] 36)) #[.int .i64 0,.int .i64 0,.int .i64 0,.int .i64 0,.int .i64 0] 38
  simpa using k
 exact ⟨R,(Ext.below hb).trans E,blk_ext b3 o3 E,⟨_,_,_,_,_,blk_ext b4 o4 E⟩,o3,o4⟩
end
end Go.Proofs.YtgadhchejmlfjaaGreatDoor.Mac
end
