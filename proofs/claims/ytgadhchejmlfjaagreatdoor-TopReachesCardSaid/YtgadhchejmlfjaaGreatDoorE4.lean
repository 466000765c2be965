/- Parts of the proof of TopReaches. -/
import Derived.Test.YtgadhchejmlfjaaGreatDoorE3
import Derived.Test.YtgadhchejmlfjaaGreatDoorD7
import Derived.Test.YtgadhchejmlfjaaGreatDoorK
import Derived.StillTailTactics
import Derived.Test.YtgadhchejmlfjaaGreatDoorB2
set_option linter.unusedVariables false
set_option maxRecDepth 20000
section
namespace Go.Proofs.YtgadhchejmlfjaaGreatDoor.Mac
open Go.RowKit Go.Esc
section
variable {mb:Nat} {V:Vr} {own:Nat → Nat} {w:World} {s:St}
def stepK (s1:St) (pick:Int):Option St:=
  match s1.ms[(modZ pick s1.ms.length).toNat]? with
  | none=>none
  | some y=>
    if y.phase = 0 then some s1
    else if (modZ pick s1.ms.length).toNat < 64 then
      let s2:St:={ s1 with box:=dueL s1.box (modZ pick s1.ms.length).toNat s1.sc.now,ms:=s1.ms.set (modZ pick s1.ms.length).toNat { y with armed:=dueB s1.box (modZ pick s1.ms.length).toNat s1.sc.now || y.armed } }
      if y.phase = 1 then lookM s2 (modZ pick s1.ms.length).toNat
      else if y.phase = 2 then runM s2 (modZ pick s1.ms.length).toNat
      else if y.phase = 3 then stopM s2 (modZ pick s1.ms.length).toNat
      else none
    else none
theorem stepM_eq (s:St) (pk dl dr:Int):stepM s pk dl dr = stepK (Mac.step0 s pk dl dr) pk:=rfl
def StepP (mb:Nat) (V:Vr) (own:Nat → Nat) (w:World) (s':St) (e:Ending) (w':World):Prop:=
  e = .returned (.tuple #[.agg #[.int .i64 s'.sc.kind,.int .i64 s'.sc.eg,.int .i64 s'.sc.efn,.int .i64 s'.sc.epc,.int .i64 s'.sc.en],.bool s'.sc.seen]) ∧ ∃ V' own',Rep mb V' own' w' s' ∧ Ext own w own' w' ∧ Fw V V'
theorem st5_st {W:World} {b:Nat} {x0 x1 x2 x3 x4 u0 u1 u2 u3 u4:Value} {t:TypeId} (h:Blk W b #[x0,x1,x2,x3,x4] t):Blk (((((W.setCell ⟨b,0,none⟩ u0).setCell ⟨b,1,none⟩ u1).setCell ⟨b,2,none⟩ u2).setCell ⟨b,3,none⟩ u3).setCell ⟨b,4,none⟩ u4) b #[u0,u1,u2,u3,u4] t:=sn5_4 (sn5_3 (sn5_2 (sn5_1 (sn5_0 h))))
theorem st5_only {W:World} {b:Nat} {u0 u1 u2 u3 u4:Value}:Only (fun j=>j = b) W (((((W.setCell ⟨b,0,none⟩ u0).setCell ⟨b,1,none⟩ u1).setCell ⟨b,2,none⟩ u2).setCell ⟨b,3,none⟩ u3).setCell ⟨b,4,none⟩ u4):=oset (oset (oset (oset (oset (orefl b W) 0 _) 1 _) 2 _) 3 _) 4 _
theorem ret_step {W:World} {b:Nat} {u0 u1 u2 u3 u4:Value} {q:Bool} {tmps:Array Value} {Q:Ending → World → Prop} (h:Blk W b #[u0,u1,u2,u3,u4] 38) (t4:tmps[4]?.getD undef = ptr b) (t5:tmps[5]?.getD undef = .bool q) (hq:Q (.returned (.tuple #[.agg #[u0,u1,u2,u3,u4],.bool q])) W):bodyPost Tryz.prog Tryz.f11 Q Exit.ret { tmps:=tmps,defers:=[] } W:=by
  have k0:=h.cell 0;have k1:=h.cell 1;have k2:=h.cell 2;have k3:=h.cell 3;have k4:=h.cell 4
  simp only [List.getElem?_toArray,List.getElem?_cons_succ,List.getElem?_cons_zero] at k0 k1 k2 k3 k4
  exact bodyPost_ret (v:=.tuple #[.agg #[u0,u1,u2,u3,u4],.bool q]) (by simp [results,Tryz.results11,go_sem,t4,t5,k0,k1,k2,k3,k4]) rfl hq
def EndF (mb:Nat) (V:Vr) (own:Nat → Nat) (w:World) (s':St) (W:World) (L4:Nat):Prop:=
  ∃ (V1:Vr) (own1:Nat → Nat),Rep mb V1 own1 W s' ∧ Ext own w own1 W ∧ Fw V V1 ∧ own1 L4 = 0 ∧ ∃ u0 u1 u2 u3 u4,Blk W L4 #[u0,u1,u2,u3,u4] 38
theorem end_f {own1:Nat → Nat} {V1:Vr} {W0 W:World} {L4:Nat} {s':St} (R:Rep mb V1 own1 W s') (E0:Ext own w own W0) (E:Ext own W0 own1 W) (F:Fw V V1) (b:∃ u0 u1 u2 u3 u4,Blk W0 L4 #[u0,u1,u2,u3,u4] 38) (o:own L4 = 0):EndF mb V own w s' W L4:=by
  obtain ⟨u0,u1,u2,u3,u4,hb⟩:=b
  exact ⟨V1,own1,R,E0.trans E,F,(E.same L4 hb.lt).trans o,u0,u1,u2,u3,u4,blk_ext hb o E⟩
set_option maxHeartbeats 60000000 in
theorem Rep.step (h:Rep mb V own w s) {pk dl dr:Int} {s':St} (hs:stepM s pk dl dr = some s'):Calls Tryz.prog 11 #[ptr mb,.agg #[.int .i64 pk,.int .i64 dl,.int .i64 dr]] w (StepP mb V own w s'):=by
  rw [stepM_eq] at hs
  have hE:=step_e h pk dl dr
  obtain ⟨W0,hW0⟩:∃ W0,(w.alloc (.cells #[.int .i64 pk,.int .i64 dl,.int .i64 dr] 36)).alloc (.cells #[.int .i64 0,.int .i64 0,.int .i64 0,.int .i64 0,.int .i64 0] 38) = W0:=⟨_,rfl⟩
  have hb:Below w.heap.size w W0:=by rw [← hW0];exact below_alloc (below_alloc (Below.refl _ _) _) _
  have h0:=h.below hb
  have c14:=h0.c14
  have c15:=h0.c15
  have c16:=h0.c16
  have c17:=h0.c17
  have c21:=h0.c21
  have c22:=h0.c22
  have c23:=h0.c23
  have c24:=h0.c24
  have c25:=h0.c25
  have c26:=h0.c26
  have fr:=fun k=>h0.mfree k
  have b3:Blk W0 w.heap.size #[.int .i64 pk,.int .i64 dl,.int .i64 dr] 36:=by rw [← hW0];exact (Blk.new w _ 36).below (below_alloc (Below.refl _ _) _) (by simp)
  have l0:=b3.cell 0
  have l1:=b3.cell 1
  have l2:=b3.cell 2
  simp only [List.getElem?_toArray,List.getElem?_cons_zero,List.getElem?_cons_succ] at l0 l1 l2
  have hml:=h.mlt
  have n1:¬ mb = w.heap.size:=by omega
  have n2:¬ w.heap.size = mb:=by omega
  rw [hW0] at hE
  obtain ⟨nw,hnw⟩:∃ nw,s.sc.now = nw:=⟨_,rfl⟩
  rw [hnw] at hE c17
  have HE:=Lib.hid hE
  have HS:=Lib.hid hs
  clear h hs hE hb h0 b3 hml hnw
  go_enter Tryz.func11,Tryz.ntmps11
  go_wp2
  change Code.wp Tryz.prog _ _ _ (stepW W0 mb (wrap64 (nw + 1)) pk dl dr)
  clear c14 c15 c16 c17 c21 c22 c23 c24 c25 c26 fr l0 l1 l2
  generalize stepW W0 mb (wrap64 (nw + 1)) pk dl dr = W at *
  clear hW0
  obtain ⟨L4,hL4⟩:∃ L4,w.heap.size + 1 = L4:=⟨_,rfl⟩
  rw [hL4] at HE ⊢
  have HLN:Hid (¬ L4 < w.heap.size):=by rw [← hL4];exact Nat.not_lt.2 (Nat.le_succ _)
  clear hL4
  obtain ⟨L3,hL3⟩:∃ L3,w.heap.size = L3:=⟨_,rfl⟩
  rw [hL3] at HE n1 n2 ⊢
  clear hL3
  generalize Mac.step0 s pk dl dr = S1 at *
  have hs:=HS.out
  clear HS
  unfold stepK at hs
  obtain ⟨jj,hjj⟩:∃ jj:Nat,modZ pk S1.ms.length = jj:=⟨(modZ pk S1.ms.length).toNat,by have:=modZ_lo pk S1.ms.length;omega⟩
  rw [hjj,Int.toNat_natCast] at hs
  cases hj:S1.ms[jj]? with
  | none=>rw [hj] at hs;cases hs
  | some y=>
  rw [hj] at hs
  dsimp only at hs
  have hjl:=lt_of_some hj
  obtain ⟨g,cap,hgv,gc,hgl,hg3⟩:=HE.out.rep.mrow hjl
  have c6:=HE.out.rep.c6
  rw [hgv] at c6
  have l0:=HE.out.b3.cell 0
  simp only [List.getElem?_toArray,List.getElem?_cons_zero] at l0
  have hox:=HE.out.rep.ox jj hjl
  obtain ⟨xb,hxb⟩:∃ xb,V.xb jj = xb:=⟨_,rfl⟩
  rw [hxb] at gc hox
  have HMod:=Lib.hid (fun (w:World)=>Num.mod_any pk S1.ms.length w (by have:=HE.out.rep.lim.2.1;omega))
  rw [hjj] at HMod
  have qj:(jj:Int) < (S1.ms.length:Int):=by omega
  have m64:=HE.out.rep.lim.2.1
  have HJ:=Lib.hid (And.intro hj (And.intro hox (HE.out.rep.tag_lt hox (by omega))))
  clear hgv hgl hg3 hj hox hxb hjl
  generalize hn:S1.ms.length = n at *
  clear hn hjj
  go_region_held3 (fun w'=>w'.cell? ⟨mb,6,none⟩ = some (.slice (some ⟨g,0,none⟩) n cap) ∧ w'.cell? ⟨L3,0,none⟩ = some (.int .i64 pk) ∧ w'.cell? ⟨g,jj,none⟩ = some (ptr xb)) (go_keep) (first
    | (go_at_call 53;refine (HMod.out _).mono ?_;rintro e w6 ⟨rfl,rfl⟩))
  have HR1:=Lib.hid HE.out.rep.drew
  have HX1:=Lib.hid (HE.out.ext.trans (Ext.below below_drew'))
  have HB1:Hid (∃ u0 u1 u2 u3 u4,Blk W.drew L4 #[u0,u1,u2,u3,u4] 38):=HE.out.b4
  have HO4:=Lib.hid HE.out.o4
  have HJ1:Hid (S1.ms[jj]? = some y ∧ own xb = 22 + 5 * jj ∧ xb < W.drew.heap.size):=HJ.out
  have HL4:=Lib.hid HE.out.o4
  rename_i hh
  clear hh HE HJ HMod c6 l0 gc n1 n2
  generalize W.drew = W1 at *
  obtain ⟨ph,hph⟩:∃ ph,y.phase = ph:=⟨_,rfl⟩
  rw [hph] at hs
  by_cases h0:ph = 0
  · rw [if_pos h0] at hs
    have hss:=Option.some.inj hs
    subst h0
    have HDo:=Lib.hid (HR1.out.does HJ1.out.2.1 HJ1.out.1 hph (by omega))
    rw [show doesV 0 = Value.nilFunc from rfl] at HDo
    have hfn:=fn_nil W1
    have HEnd:=Lib.hid (end_f HR1.out HX1.out (Ext.refl _ _) (Fw.refl V) HB1.out HO4.out)
    rw [hss] at HEnd
    clear hs hph hss
    go_wp2_with (go_at_call 54;refine HDo.out.mono ?_;rintro e w6 ⟨rfl,rfl⟩)
    obtain ⟨V9,o9,hR9,hE9,hF9,hL9,u0,u1,u2,u3,u4,hB9⟩:=HEnd.out
    have c21:=hR9.c21
    have c22:=hR9.c22
    have c23:=hR9.c23
    have c24:=hR9.c24
    have c25:=hR9.c25
    have c26:=hR9.c26
    have t0:=hB9.cell 0
    have t1:=hB9.cell 1
    have t2:=hB9.cell 2
    have t3:=hB9.cell 3
    have t4:=hB9.cell 4
    have f0:=hB9.free 0
    have f1:=hB9.free 1
    have f2:=hB9.free 2
    have f3:=hB9.free 3
    have f4:=hB9.free 4
    simp only [List.getElem?_toArray,List.getElem?_cons_zero,List.getElem?_cons_succ] at t0 t1 t2 t3 t4
    have m1:¬ L4 = mb:=by have:=hR9.om;rintro rfl;omega
    have m2:¬ mb = L4:=fun e=>m1 e.symm
    have HR9:=Lib.hid (And.intro hR9 (And.intro hE9 (And.intro hF9 (And.intro hL9 hB9))))
    clear hR9 hE9 hF9 hL9 hB9 HEnd
    obtain ⟨z0,hz0⟩:∃ z0,s'.sc.kind = z0:=⟨_,rfl⟩
    obtain ⟨z1,hz1⟩:∃ z1,s'.sc.eg = z1:=⟨_,rfl⟩
    obtain ⟨z2,hz2⟩:∃ z2,s'.sc.efn = z2:=⟨_,rfl⟩
    obtain ⟨z3,hz3⟩:∃ z3,s'.sc.epc = z3:=⟨_,rfl⟩
    obtain ⟨z4,hz4⟩:∃ z4,s'.sc.en = z4:=⟨_,rfl⟩
    obtain ⟨z5,hz5⟩:∃ z5,s'.sc.seen = z5:=⟨_,rfl⟩
    rw [hz0] at c21
    rw [hz1] at c22
    rw [hz2] at c23
    rw [hz3] at c24
    rw [hz4] at c25
    rw [hz5] at c26
    have HZ:=Lib.hid (And.intro hz0 (And.intro hz1 (And.intro hz2 (And.intro hz3 (And.intro hz4 hz5)))))
    clear hz0 hz1 hz2 hz3 hz4 hz5
    go_region_held3 (fun w'=>w'.cell? ⟨mb,21,none⟩ = some (.int .i64 z0) ∧ w'.cell? ⟨mb,22,none⟩ = some (.int .i64 z1) ∧ w'.cell? ⟨mb,23,none⟩ = some (.int .i64 z2) ∧ w'.cell? ⟨mb,24,none⟩ = some (.int .i64 z3) ∧ w'.cell? ⟨mb,25,none⟩ = some (.int .i64 z4) ∧ w'.cell? ⟨mb,26,none⟩ = some (.bool z5)) (go_keep) (fail)
    clear c21 c22 c23 c24 c25 c26 t0 t1 t2 t3 t4 f0 f1 f2 f3 f4
    rename_i hh
    clear hh
    have A:=st5_st (u0:=.int .i64 z0) (u1:=.int .i64 z1) (u2:=.int .i64 z2) (u3:=.int .i64 z3) (u4:=.int .i64 z4) HR9.out.2.2.2.2
    have hO:=st5_only (W:=w6) (b:=L4) (u0:=.int .i64 z0) (u1:=.int .i64 z1) (u2:=.int .i64 z2) (u3:=.int .i64 z3) (u4:=.int .i64 z4)
    have hR10:=(HR9.out.1.loc hO (fun j hj=>by rw [show j = L4 from hj];exact HR9.out.2.2.2.1)).drew
    have A':=blk_drew A
    have hO':=hO.drew
    generalize (((((w6.setCell ⟨L4,0,none⟩ (.int .i64 z0)).setCell ⟨L4,1,none⟩ (.int .i64 z1)).setCell ⟨L4,2,none⟩ (.int .i64 z2)).setCell ⟨L4,3,none⟩ (.int .i64 z3)).setCell ⟨L4,4,none⟩ (.int .i64 z4)).drew = W11 at *
    go_wp2
    exact ret_step A' rfl rfl (by obtain ⟨rfl,rfl,rfl,rfl,rfl,rfl⟩:=HZ.out;exact ⟨rfl,V9,o9,hR10,⟨HR9.out.2.1.only.andThen hO' (fun j hj hs=>by rw [show j = L4 from hs] at hj ⊢;exact absurd hj HLN.out),HR9.out.2.1.same⟩,HR9.out.2.2.1⟩)
  · rw [if_neg h0,if_pos (show jj < 64 by omega)] at hs
    obtain ⟨nw2,hnw2⟩:∃ nw2,S1.sc.now = nw2:=⟨_,rfl⟩
    obtain ⟨db,hdb⟩:∃ db,dueB S1.box jj nw2 = db:=⟨_,rfl⟩
    rw [hnw2,hdb] at hs
    obtain ⟨S2,hS2⟩:∃ S2,S2 = ({ S1 with box:=dueL S1.box jj nw2,ms:=S1.ms.set jj { y with phase:=ph,armed:=db || y.armed } }:St):=⟨_,rfl⟩
    have hs2:(if ph = 1 then lookM S2 jj else if ph = 2 then runM S2 jj else if ph = 3 then stopM S2 jj else none) = some s':=by rw [hS2];exact hs
    clear hs
    have h13:ph = 1 ∨ ph = 2 ∨ ph = 3:=by
      by_cases a1:ph = 1
      · exact .inl a1
      · by_cases a2:ph = 2
        · exact .inr (.inl a2)
        · by_cases a3:ph = 3
          · exact .inr (.inr a3)
          · rw [if_neg a1,if_neg a2,if_neg a3] at hs2;cases hs2
    have HDo:=Lib.hid (HR1.out.does HJ1.out.2.1 HJ1.out.1 hph (by omega))
    have HDue:Hid (∀ W',Below W1.heap.size W1 W' → Calls Tryz.prog 55 #[ptr V.box,.int .i64 jj,.int .i64 nw2] W' (DoesV mb V own W' (.bool db) { S1 with box:=dueL S1.box jj nw2 })):=fun W' hW=>by
      rw [← hdb];exact (HR1.out.below hW).due jj (by omega) nw2
    have c13:=HR1.out.c13
    have c17:=HR1.out.c17
    rw [hnw2] at c17
    have x0:=xc0 (HR1.out.xblk HJ1.out.2.1 HJ1.out.1)
    have hx04:∀ (W:World) (v:Value),(W.setCell ⟨xb,4,none⟩ v).cell? ⟨xb,0,none⟩ = W.cell? ⟨xb,0,none⟩:=fun W v=>World.cell?_setCell_other W _ _ v (by simp)
    have m1:¬ xb = mb:=by have:=HR1.out.om;have:=HJ1.out.2.1;rintro rfl;omega
    have m2:¬ mb = xb:=fun e=>m1 e.symm
    obtain ⟨ar,har⟩:∃ ar,y.armed = ar:=⟨_,rfl⟩
    have HS2:Hid (∀ (own5:Nat → Nat) (w6:World) (v:Bool),v = (db || ar) → own5 xb = 22 + 5 * jj → Rep mb V own5 w6 { S1 with box:=dueL S1.box jj nw2 } → Rep mb V own5 (w6.setCell ⟨xb,4,none⟩ (.bool v)) S2 ∧ Ext own5 w6 own5 (w6.setCell ⟨xb,4,none⟩ (.bool v))):=fun own5 w6 v hv hx hR=>by
      have k:=hR.setArmed (y:=y) hx HJ1.out.1 v
      rw [hS2,har,← hv,← hph]
      exact k
    have HAR:=Lib.hid har
    have HK:=Lib.hid hs2
    have HNW:=Lib.hid hnw2
    clear hS2 hnw2 hdb har hs2 h0
    obtain ⟨kf,hkf,h13⟩:∃ kf,doesV ph = .func (.func kf) #[] #[] ∧ ((ph = 1 ∧ kf = 117) ∨ (ph = 2 ∧ kf = 118) ∨ (ph = 3 ∧ kf = 119)):=by
      rcases h13 with rfl | rfl | rfl
      · exact ⟨117,rfl,.inl ⟨rfl,rfl⟩⟩
      · exact ⟨118,rfl,.inr (.inl ⟨rfl,rfl⟩)⟩
      · exact ⟨119,rfl,.inr (.inr ⟨rfl,rfl⟩)⟩
    rw [hkf] at HDo
    have hfn:=fn_some W1 (.func kf)
    have H13:=Lib.hid h13
    clear hkf h13 hph
    cases db with
    | true=>
     go_wp2_with (go_at_call 54;refine HDo.out.mono ?_;rintro e w6 ⟨rfl,rfl⟩)
     have hS0:Hid (w6.drew.cell? ⟨mb,13,none⟩ = some (ptr V.box) ∧ w6.drew.cell? ⟨mb,17,none⟩ = some (.int .i64 nw2) ∧ w6.drew.cell? ⟨xb,0,none⟩ = some (.int .i64 jj)):=And.intro c13 (And.intro c17 x0)
     refine wp_region_m 13 (fun w'=>w'.cell? ⟨mb,13,none⟩ = some (ptr V.box) ∧ w'.cell? ⟨mb,17,none⟩ = some (.int .i64 nw2) ∧ w'.cell? ⟨xb,0,none⟩ = some (.int .i64 jj)) (by kernel_rfl) ?_
     refine wpAnyM_take0 (i:=0) (v:=?_) rfl (by decide) (by kernel_rfl) (by kernel_rfl) (by kernel_rfl) (fun _ _ _ h=>h) (Or.inl ⟨by kernel_rfl,?_⟩) (fun _=>hS0.out) ?_
     rotate_left
     · intro w';go_simp;try (with_reducible rfl)
     refine wpAnyM_take0 (i:=1) (v:=?_) rfl (by decide) (by kernel_rfl) (by kernel_rfl) (by kernel_rfl) (fun _ _ _ h=>h) (Or.inl ⟨by kernel_rfl,?_⟩) (fun _=>hS0.out) ?_
     rotate_left
     · intro w';go_simp;try (with_reducible rfl)
     refine wpAnyM_take0 (i:=2) (v:=?_) rfl (by decide) (by kernel_rfl) (by kernel_rfl) (by kernel_rfl) (fun _ _ _ h=>h) (Or.inl ⟨by kernel_rfl,?_⟩) (fun _=>hS0.out) ?_
     rotate_left
     · intro w';go_simp;try (with_reducible rfl)
     refine wpAnyM_take0 (i:=3) (v:=?_) rfl (by decide) (by kernel_rfl) (by kernel_rfl) (by kernel_rfl) (fun _ _ _ h=>h) (Or.inl ⟨by kernel_rfl,?_⟩) (fun _=>hS0.out) ?_
     rotate_left
     · intro w';go_simp;try (with_reducible rfl)
     refine wpAnyM_take0 (i:=5) (v:=?_) rfl (by decide) (by kernel_rfl) (by kernel_rfl) (by kernel_rfl) (fun _ _ _ h=>h) (Or.inl ⟨by kernel_rfl,?_⟩) (fun _=>hS0.out) ?_
     rotate_left
     · intro w';go_simp;try (with_reducible rfl)
     refine wpAnyM_take0 (i:=6) (v:=?_) rfl (by decide) (by kernel_rfl) (by kernel_rfl) (by kernel_rfl) (fun _ _ _ h=>h) (Or.inl ⟨by kernel_rfl,?_⟩) (fun _=>hS0.out) ?_
     rotate_left
     · intro w';go_simp;try (with_reducible rfl)
     refine wpAnyM_take0 (i:=7) (v:=?_) rfl (by decide) (by kernel_rfl) (by kernel_rfl) (by kernel_rfl) (fun _ _ _ h=>h) (Or.inl ⟨by kernel_rfl,?_⟩) (fun _=>hS0.out) ?_
     rotate_left
     · intro w';go_simp;try (with_reducible rfl)
     refine wpAnyM_take0 (i:=9) (v:=?_) rfl (by decide) (by kernel_rfl) (by kernel_rfl) (by kernel_rfl) (fun _ _ _ h=>h) (Or.inl ⟨by kernel_rfl,?_⟩) (fun _=>hS0.out) ?_
     rotate_left
     · intro w';go_simp;try (with_reducible rfl)
     refine wpAnyM_take0 (i:=10) (v:=?_) rfl (by decide) (by kernel_rfl) (by kernel_rfl) (by kernel_rfl) (fun _ _ _ h=>h) (Or.inl ⟨by kernel_rfl,?_⟩) (fun _=>hS0.out) ?_
     rotate_left
     · intro w';go_simp;try (with_reducible rfl)
     refine wpAnyM_take0 (i:=11) (v:=?_) rfl (by decide) (by kernel_rfl) (by kernel_rfl) (by kernel_rfl) (fun _ _ _ h=>h) (Or.inl ⟨by kernel_rfl,?_⟩) (fun _=>hS0.out) ?_
     rotate_left
     · intro w';go_simp;try (with_reducible rfl)
     refine wpAnyM_take (i:=4) (v:=?_) rfl rfl (by kernel_rfl) (by kernel_rfl) (by kernel_rfl) (by kernel_rfl) (by kernel_rfl) (fun _ _ _ h=>h) (Or.inl ⟨by kernel_rfl,?_⟩) hS0.out ?_
     rotate_left
     · intro w' hw';obtain ⟨s0,s1,s2⟩:=hw';go_simp;try (with_reducible rfl)
     refine wpAnyM_take (i:=8) (v:=?_) rfl rfl (by kernel_rfl) (by kernel_rfl) (by kernel_rfl) (by kernel_rfl) (by kernel_rfl) (fun _ _ _ h=>h) (Or.inl ⟨by kernel_rfl,?_⟩) hS0.out ?_
     rotate_left
     · intro w' hw';obtain ⟨s0,s1,s2⟩:=hw';go_simp;try (with_reducible rfl)
     refine wpAnyM_take (i:=12) (v:=?_) rfl rfl (by kernel_rfl) (by kernel_rfl) (by kernel_rfl) (by kernel_rfl) (by kernel_rfl) (fun _ _ _ h=>h) (Or.inl ⟨by kernel_rfl,?_⟩) hS0.out ?_
     rotate_left
     · intro w' hw';obtain ⟨s0,s1,s2⟩:=hw';go_simp;try (with_reducible rfl)
     refine wpAnyM_ready (rs:=[13]) (by kernel_rfl) (by simp) ?_
     refine AllReadyM.cons rfl (fun K hK=>?_) AllReadyM.nil
     go_simp
     go_wp2_with (go_at_call 55;refine (HDue.out _ (by first | exact Below.refl _ _ | exact below_drew' | exact below_drewN' _)).mono ?_;rintro e w7 ⟨rfl,own5,hR5,hE5⟩;have hx5:=hE5.keep HJ1.out.2.1 HJ1.out.2.2;have hxB:=hR5.xblk hx5 HJ1.out.1;have k4:=xc4 hxB;rw [HAR.out] at k4;have k4f:=hxB.free 4;obtain ⟨hR6,hE6⟩:=HS2.out own5 w7 true rfl hx5 hR5;have HRS:=Lib.hid (And.intro hR6 hx5);have HR6:=Lib.hid ((Ext.below below_drew').trans (hE5.trans hE6));clear hR5 hE5 hxB hR6 hE6 hx5)
     refine ⟨(fun h=>absurd (h.symm.trans (show _ = true by kernel_rfl)) Bool.false_ne_true),?_⟩
     clear hS0
     refine wpAnyM_take0 (i:=14) (v:=?_) rfl (by decide) (by kernel_rfl) (by kernel_rfl) (by kernel_rfl) (fun _ _ _ h=>h) (Or.inl ⟨by kernel_rfl,?_⟩) (fun h=>absurd (h.symm.trans (show _ = true by kernel_rfl)) Bool.false_ne_true) ?_
     rotate_left
     · intro w';go_simp;try (with_reducible rfl)
     refine wpAnyM_take0 (i:=15) (v:=undef) rfl (by decide) (by kernel_rfl) (by kernel_rfl) (by kernel_rfl) (fun _ _ _ h=>h) (Or.inr ⟨by kernel_rfl,rfl⟩) (fun h=>absurd (h.symm.trans (show _ = true by kernel_rfl)) Bool.false_ne_true) ?_
     refine wpAnyM_take0 (i:=16) (v:=undef) rfl (by decide) (by kernel_rfl) (by kernel_rfl) (by kernel_rfl) (fun _ _ _ h=>h) (Or.inr ⟨by kernel_rfl,rfl⟩) (fun h=>absurd (h.symm.trans (show _ = true by kernel_rfl)) Bool.false_ne_true) ?_
     refine wpAnyM_take0 (i:=17) (v:=undef) rfl (by decide) (by kernel_rfl) (by kernel_rfl) (by kernel_rfl) (fun _ _ _ h=>h) (Or.inr ⟨by kernel_rfl,rfl⟩) (fun h=>absurd (h.symm.trans (show _ = true by kernel_rfl)) Bool.false_ne_true) ?_
     refine wpAnyM_take0 (i:=18) (v:=undef) rfl (by decide) (by kernel_rfl) (by kernel_rfl) (by kernel_rfl) (fun _ _ _ h=>h) (Or.inr ⟨by kernel_rfl,rfl⟩) (fun h=>absurd (h.symm.trans (show _ = true by kernel_rfl)) Bool.false_ne_true) ?_
     refine wpAnyM_take0 (i:=19) (v:=?_) rfl (by decide) (by kernel_rfl) (by kernel_rfl) (by kernel_rfl) (fun _ _ _ h=>h) (Or.inl ⟨by kernel_rfl,?_⟩) (fun h=>absurd (h.symm.trans (show _ = true by kernel_rfl)) Bool.false_ne_true) ?_
     rotate_left
     · intro w';go_simp;try (with_reducible rfl)
     refine wpAnyM_take0 (i:=20) (v:=?_) rfl (by decide) (by kernel_rfl) (by kernel_rfl) (by kernel_rfl) (fun _ _ _ h=>h) (Or.inl ⟨by kernel_rfl,?_⟩) (fun h=>absurd (h.symm.trans (show _ = true by kernel_rfl)) Bool.false_ne_true) ?_
     rotate_left
     · intro w';go_simp;try (with_reducible rfl)
     refine wpAnyM_take0 (i:=21) (v:=?_) rfl (by decide) (by kernel_rfl) (by kernel_rfl) (by kernel_rfl) (fun _ _ _ h=>h) (Or.inl ⟨by kernel_rfl,?_⟩) (fun h=>absurd (h.symm.trans (show _ = true by kernel_rfl)) Bool.false_ne_true) ?_
     rotate_left
     · intro w';go_simp;try (with_reducible rfl)
     refine wpAnyM_ready (rs:=[22]) (by kernel_rfl) (by simp) ?_
     refine AllReadyM.cons rfl (fun K hK=>?_) AllReadyM.nil
     go_simp
     refine hK _ _ ⟨(fun h=>absurd (h.symm.trans (show _ = true by kernel_rfl)) Bool.false_ne_true),?_⟩
     clear hK K
     refine wpAnyM_done (by kernel_rfl) ?_ _
     clear x0 c13 c17 hx04 HDue HS2 HDo hfn m1 m2 k4 k4f
     rcases H13.out with ⟨rfl,rfl⟩ | ⟨rfl,rfl⟩ | ⟨rfl,rfl⟩
     case' inl=>
      have hk:=HK.out
      rw [if_pos rfl] at hk
      have HC:=Lib.hid (HRS.out.1.look HRS.out.2 hk)
      clear hk HK H13 HRS
      go_wp2_with (go_at_call 117;refine HC.out.mono ?_;rintro e w8 ⟨rfl,V8,o8,hR8,hE8,hF8⟩;have HEnd:=Lib.hid (end_f hR8 HX1.out (HR6.out.trans hE8) hF8.toFw HB1.out HO4.out);clear hR8 hE8 hF8)
     case' inr.inl=>
      have hk:=HK.out
      rw [if_neg (by decide),if_pos rfl] at hk
      have HC:=Lib.hid (HRS.out.1.run HRS.out.2 hk)
      clear hk HK H13 HRS
      go_wp2_with (go_at_call 118;refine HC.out.mono ?_;rintro e w8 ⟨rfl,V8,o8,hR8,hE8,hF8⟩;have HEnd:=Lib.hid (end_f hR8 HX1.out (HR6.out.trans hE8) hF8 HB1.out HO4.out);clear hR8 hE8 hF8)
     case' inr.inr=>
      have hk:=HK.out
      rw [if_neg (by decide),if_neg (by decide),if_pos rfl] at hk
      have HC:=Lib.hid (HRS.out.1.stop HRS.out.2 hk)
      clear hk HK H13 HRS
      go_wp2_with (go_at_call 119;refine HC.out.mono ?_;rintro e w8 ⟨rfl,V8,o8,hR8,hE8,hF8⟩;have HEnd:=Lib.hid (end_f hR8 HX1.out (HR6.out.trans hE8) hF8.toFw HB1.out HO4.out);clear hR8 hE8 hF8)
     all_goals
      obtain ⟨V9,o9,hR9,hE9,hF9,hL9,u0,u1,u2,u3,u4,hB9⟩:=HEnd.out
      have c21:=hR9.c21
      have c22:=hR9.c22
      have c23:=hR9.c23
      have c24:=hR9.c24
      have c25:=hR9.c25
      have c26:=hR9.c26
      have t0:=hB9.cell 0
      have t1:=hB9.cell 1
      have t2:=hB9.cell 2
      have t3:=hB9.cell 3
      have t4:=hB9.cell 4
      have f0:=hB9.free 0
      have f1:=hB9.free 1
      have f2:=hB9.free 2
      have f3:=hB9.free 3
      have f4:=hB9.free 4
      simp only [List.getElem?_toArray,List.getElem?_cons_zero,List.getElem?_cons_succ] at t0 t1 t2 t3 t4
      have m1:¬ L4 = mb:=by have:=hR9.om;rintro rfl;omega
      have m2:¬ mb = L4:=fun e=>m1 e.symm
      have HR9:=Lib.hid (And.intro hR9 (And.intro hE9 (And.intro hF9 (And.intro hL9 hB9))))
      clear hR9 hE9 hF9 hL9 hB9 HEnd
      obtain ⟨z0,hz0⟩:∃ z0,s'.sc.kind = z0:=⟨_,rfl⟩
      obtain ⟨z1,hz1⟩:∃ z1,s'.sc.eg = z1:=⟨_,rfl⟩
      obtain ⟨z2,hz2⟩:∃ z2,s'.sc.efn = z2:=⟨_,rfl⟩
      obtain ⟨z3,hz3⟩:∃ z3,s'.sc.epc = z3:=⟨_,rfl⟩
      obtain ⟨z4,hz4⟩:∃ z4,s'.sc.en = z4:=⟨_,rfl⟩
      obtain ⟨z5,hz5⟩:∃ z5,s'.sc.seen = z5:=⟨_,rfl⟩
      rw [hz0] at c21
      rw [hz1] at c22
      rw [hz2] at c23
      rw [hz3] at c24
      rw [hz4] at c25
      rw [hz5] at c26
      have HZ:=Lib.hid (And.intro hz0 (And.intro hz1 (And.intro hz2 (And.intro hz3 (And.intro hz4 hz5)))))
      clear hz0 hz1 hz2 hz3 hz4 hz5
      go_region_held3 (fun w'=>w'.cell? ⟨mb,21,none⟩ = some (.int .i64 z0) ∧ w'.cell? ⟨mb,22,none⟩ = some (.int .i64 z1) ∧ w'.cell? ⟨mb,23,none⟩ = some (.int .i64 z2) ∧ w'.cell? ⟨mb,24,none⟩ = some (.int .i64 z3) ∧ w'.cell? ⟨mb,25,none⟩ = some (.int .i64 z4) ∧ w'.cell? ⟨mb,26,none⟩ = some (.bool z5)) (go_keep) (fail)
      clear c21 c22 c23 c24 c25 c26 t0 t1 t2 t3 t4 f0 f1 f2 f3 f4
      rename_i hh
      clear hh
      have A:=st5_st (u0:=.int .i64 z0) (u1:=.int .i64 z1) (u2:=.int .i64 z2) (u3:=.int .i64 z3) (u4:=.int .i64 z4) HR9.out.2.2.2.2
      have hO:=st5_only (W:=w8) (b:=L4) (u0:=.int .i64 z0) (u1:=.int .i64 z1) (u2:=.int .i64 z2) (u3:=.int .i64 z3) (u4:=.int .i64 z4)
      have hR10:=(HR9.out.1.loc hO (fun j hj=>by rw [show j = L4 from hj];exact HR9.out.2.2.2.1)).drew
      have A':=blk_drew A
      have hO':=hO.drew
      generalize (((((w8.setCell ⟨L4,0,none⟩ (.int .i64 z0)).setCell ⟨L4,1,none⟩ (.int .i64 z1)).setCell ⟨L4,2,none⟩ (.int .i64 z2)).setCell ⟨L4,3,none⟩ (.int .i64 z3)).setCell ⟨L4,4,none⟩ (.int .i64 z4)).drew = W11 at *
      go_wp2
      exact ret_step A' rfl rfl (by obtain ⟨rfl,rfl,rfl,rfl,rfl,rfl⟩:=HZ.out;exact ⟨rfl,V9,o9,hR10,⟨HR9.out.2.1.only.andThen hO' (fun j hj hs=>by rw [show j = L4 from hs] at hj ⊢;exact absurd hj HLN.out),HR9.out.2.1.same⟩,HR9.out.2.2.1⟩)
    | false=>
     go_wp2_with (go_at_call 54;refine HDo.out.mono ?_;rintro e w6 ⟨rfl,rfl⟩)
     have hS0:Hid (w6.drew.cell? ⟨mb,13,none⟩ = some (ptr V.box) ∧ w6.drew.cell? ⟨mb,17,none⟩ = some (.int .i64 nw2) ∧ w6.drew.cell? ⟨xb,0,none⟩ = some (.int .i64 jj)):=And.intro c13 (And.intro c17 x0)
     refine wp_region_m 13 (fun w'=>w'.cell? ⟨mb,13,none⟩ = some (ptr V.box) ∧ w'.cell? ⟨mb,17,none⟩ = some (.int .i64 nw2) ∧ w'.cell? ⟨xb,0,none⟩ = some (.int .i64 jj)) (by kernel_rfl) ?_
     refine wpAnyM_take0 (i:=0) (v:=?_) rfl (by decide) (by kernel_rfl) (by kernel_rfl) (by kernel_rfl) (fun _ _ _ h=>h) (Or.inl ⟨by kernel_rfl,?_⟩) (fun _=>hS0.out) ?_
     rotate_left
     · intro w';go_simp;try (with_reducible rfl)
     refine wpAnyM_take0 (i:=1) (v:=?_) rfl (by decide) (by kernel_rfl) (by kernel_rfl) (by kernel_rfl) (fun _ _ _ h=>h) (Or.inl ⟨by kernel_rfl,?_⟩) (fun _=>hS0.out) ?_
     rotate_left
     · intro w';go_simp;try (with_reducible rfl)
     refine wpAnyM_take0 (i:=2) (v:=?_) rfl (by decide) (by kernel_rfl) (by kernel_rfl) (by kernel_rfl) (fun _ _ _ h=>h) (Or.inl ⟨by kernel_rfl,?_⟩) (fun _=>hS0.out) ?_
     rotate_left
     · intro w';go_simp;try (with_reducible rfl)
     refine wpAnyM_take0 (i:=3) (v:=?_) rfl (by decide) (by kernel_rfl) (by kernel_rfl) (by kernel_rfl) (fun _ _ _ h=>h) (Or.inl ⟨by kernel_rfl,?_⟩) (fun _=>hS0.out) ?_
     rotate_left
     · intro w';go_simp;try (with_reducible rfl)
     refine wpAnyM_take0 (i:=5) (v:=?_) rfl (by decide) (by kernel_rfl) (by kernel_rfl) (by kernel_rfl) (fun _ _ _ h=>h) (Or.inl ⟨by kernel_rfl,?_⟩) (fun _=>hS0.out) ?_
     rotate_left
     · intro w';go_simp;try (with_reducible rfl)
     refine wpAnyM_take0 (i:=6) (v:=?_) rfl (by decide) (by kernel_rfl) (by kernel_rfl) (by kernel_rfl) (fun _ _ _ h=>h) (Or.inl ⟨by kernel_rfl,?_⟩) (fun _=>hS0.out) ?_
     rotate_left
     · intro w';go_simp;try (with_reducible rfl)
     refine wpAnyM_take0 (i:=7) (v:=?_) rfl (by decide) (by kernel_rfl) (by kernel_rfl) (by kernel_rfl) (fun _ _ _ h=>h) (Or.inl ⟨by kernel_rfl,?_⟩) (fun _=>hS0.out) ?_
     rotate_left
     · intro w';go_simp;try (with_reducible rfl)
     refine wpAnyM_take0 (i:=9) (v:=?_) rfl (by decide) (by kernel_rfl) (by kernel_rfl) (by kernel_rfl) (fun _ _ _ h=>h) (Or.inl ⟨by kernel_rfl,?_⟩) (fun _=>hS0.out) ?_
     rotate_left
     · intro w';go_simp;try (with_reducible rfl)
     refine wpAnyM_take0 (i:=10) (v:=?_) rfl (by decide) (by kernel_rfl) (by kernel_rfl) (by kernel_rfl) (fun _ _ _ h=>h) (Or.inl ⟨by kernel_rfl,?_⟩) (fun _=>hS0.out) ?_
     rotate_left
     · intro w';go_simp;try (with_reducible rfl)
     refine wpAnyM_take0 (i:=11) (v:=?_) rfl (by decide) (by kernel_rfl) (by kernel_rfl) (by kernel_rfl) (fun _ _ _ h=>h) (Or.inl ⟨by kernel_rfl,?_⟩) (fun _=>hS0.out) ?_
     rotate_left
     · intro w';go_simp;try (with_reducible rfl)
     refine wpAnyM_take (i:=4) (v:=?_) rfl rfl (by kernel_rfl) (by kernel_rfl) (by kernel_rfl) (by kernel_rfl) (by kernel_rfl) (fun _ _ _ h=>h) (Or.inl ⟨by kernel_rfl,?_⟩) hS0.out ?_
     rotate_left
     · intro w' hw';obtain ⟨s0,s1,s2⟩:=hw';go_simp;try (with_reducible rfl)
     refine wpAnyM_take (i:=8) (v:=?_) rfl rfl (by kernel_rfl) (by kernel_rfl) (by kernel_rfl) (by kernel_rfl) (by kernel_rfl) (fun _ _ _ h=>h) (Or.inl ⟨by kernel_rfl,?_⟩) hS0.out ?_
     rotate_left
     · intro w' hw';obtain ⟨s0,s1,s2⟩:=hw';go_simp;try (with_reducible rfl)
     refine wpAnyM_take (i:=12) (v:=?_) rfl rfl (by kernel_rfl) (by kernel_rfl) (by kernel_rfl) (by kernel_rfl) (by kernel_rfl) (fun _ _ _ h=>h) (Or.inl ⟨by kernel_rfl,?_⟩) hS0.out ?_
     rotate_left
     · intro w' hw';obtain ⟨s0,s1,s2⟩:=hw';go_simp;try (with_reducible rfl)
     refine wpAnyM_ready (rs:=[13]) (by kernel_rfl) (by simp) ?_
     refine AllReadyM.cons rfl (fun K hK=>?_) AllReadyM.nil
     go_simp
     go_wp2_with (go_at_call 55;refine (HDue.out _ (by first | exact Below.refl _ _ | exact below_drew' | exact below_drewN' _)).mono ?_;rintro e w7 ⟨rfl,own5,hR5,hE5⟩;have hx5:=hE5.keep HJ1.out.2.1 HJ1.out.2.2;have hxB:=hR5.xblk hx5 HJ1.out.1;have k4:=xc4 hxB;rw [HAR.out] at k4;have k4f:=hxB.free 4;obtain ⟨hR6,hE6⟩:=HS2.out own5 w7 ar rfl hx5 hR5;have HRS:=Lib.hid (And.intro hR6 hx5);have HR6:=Lib.hid ((Ext.below below_drew').trans (hE5.trans hE6));clear hR5 hE5 hxB hR6 hE6 hx5)
     refine ⟨(fun h=>absurd (h.symm.trans (show _ = true by kernel_rfl)) Bool.false_ne_true),?_⟩
     clear hS0
     refine wpAnyM_take0 (i:=14) (v:=?_) rfl (by decide) (by kernel_rfl) (by kernel_rfl) (by kernel_rfl) (fun _ _ _ h=>h) (Or.inl ⟨by kernel_rfl,?_⟩) (fun h=>absurd (h.symm.trans (show _ = true by kernel_rfl)) Bool.false_ne_true) ?_
     rotate_left
     · intro w';go_simp;try (with_reducible rfl)
     refine wpAnyM_take0 (i:=15) (v:=?_) rfl (by decide) (by kernel_rfl) (by kernel_rfl) (by kernel_rfl) (fun _ _ _ h=>h) (Or.inl ⟨by kernel_rfl,?_⟩) (fun h=>absurd (h.symm.trans (show _ = true by kernel_rfl)) Bool.false_ne_true) ?_
     rotate_left
     · intro w';go_simp;try (with_reducible rfl)
     refine wpAnyM_take0 (i:=16) (v:=?_) rfl (by decide) (by kernel_rfl) (by kernel_rfl) (by kernel_rfl) (fun _ _ _ h=>h) (Or.inl ⟨by kernel_rfl,?_⟩) (fun h=>absurd (h.symm.trans (show _ = true by kernel_rfl)) Bool.false_ne_true) ?_
     rotate_left
     · intro w';go_simp;try (with_reducible rfl)
     refine wpAnyM_take0 (i:=17) (v:=?_) rfl (by decide) (by kernel_rfl) (by kernel_rfl) (by kernel_rfl) (fun _ _ _ h=>h) (Or.inl ⟨by kernel_rfl,?_⟩) (fun h=>absurd (h.symm.trans (show _ = true by kernel_rfl)) Bool.false_ne_true) ?_
     rotate_left
     · intro w';go_simp;try (with_reducible rfl)
     refine wpAnyM_ready (rs:=[18]) (by kernel_rfl) (by simp) ?_
     refine AllReadyM.cons rfl (fun K hK=>?_) AllReadyM.nil
     go_simp
     refine hK _ _ ⟨(fun h=>absurd (h.symm.trans (show _ = true by kernel_rfl)) Bool.false_ne_true),?_⟩
     clear hK K
     refine wpAnyM_take0 (i:=19) (v:=?_) rfl (by decide) (by kernel_rfl) (by kernel_rfl) (by kernel_rfl) (fun _ _ _ h=>h) (Or.inl ⟨by kernel_rfl,?_⟩) (fun h=>absurd (h.symm.trans (show _ = true by kernel_rfl)) Bool.false_ne_true) ?_
     rotate_left
     · intro w';go_simp;try (with_reducible rfl)
     refine wpAnyM_take0 (i:=20) (v:=?_) rfl (by decide) (by kernel_rfl) (by kernel_rfl) (by kernel_rfl) (fun _ _ _ h=>h) (Or.inl ⟨by kernel_rfl,?_⟩) (fun h=>absurd (h.symm.trans (show _ = true by kernel_rfl)) Bool.false_ne_true) ?_
     rotate_left
     · intro w';go_simp;try (with_reducible rfl)
     refine wpAnyM_take0 (i:=21) (v:=?_) rfl (by decide) (by kernel_rfl) (by kernel_rfl) (by kernel_rfl) (fun _ _ _ h=>h) (Or.inl ⟨by kernel_rfl,?_⟩) (fun h=>absurd (h.symm.trans (show _ = true by kernel_rfl)) Bool.false_ne_true) ?_
     rotate_left
     · intro w';go_simp;try (with_reducible rfl)
     refine wpAnyM_ready (rs:=[22]) (by kernel_rfl) (by simp) ?_
     refine AllReadyM.cons rfl (fun K hK=>?_) AllReadyM.nil
     go_simp
     refine hK _ _ ⟨(fun h=>absurd (h.symm.trans (show _ = true by kernel_rfl)) Bool.false_ne_true),?_⟩
     clear hK K
     refine wpAnyM_done (by kernel_rfl) ?_ _
     clear x0 c13 c17 hx04 HDue HS2 HDo hfn m1 m2 k4 k4f
     rcases H13.out with ⟨rfl,rfl⟩ | ⟨rfl,rfl⟩ | ⟨rfl,rfl⟩
     case' inl=>
      have hk:=HK.out
      rw [if_pos rfl] at hk
      have HC:=Lib.hid (HRS.out.1.look HRS.out.2 hk)
      clear hk HK H13 HRS
      go_wp2_with (go_at_call 117;refine HC.out.mono ?_;rintro e w8 ⟨rfl,V8,o8,hR8,hE8,hF8⟩;have HEnd:=Lib.hid (end_f hR8 HX1.out (HR6.out.trans hE8) hF8.toFw HB1.out HO4.out);clear hR8 hE8 hF8)
     case' inr.inl=>
      have hk:=HK.out
      rw [if_neg (by decide),if_pos rfl] at hk
      have HC:=Lib.hid (HRS.out.1.run HRS.out.2 hk)
      clear hk HK H13 HRS
      go_wp2_with (go_at_call 118;refine HC.out.mono ?_;rintro e w8 ⟨rfl,V8,o8,hR8,hE8,hF8⟩;have HEnd:=Lib.hid (end_f hR8 HX1.out (HR6.out.trans hE8) hF8 HB1.out HO4.out);clear hR8 hE8 hF8)
     case' inr.inr=>
      have hk:=HK.out
      rw [if_neg (by decide),if_neg (by decide),if_pos rfl] at hk
      have HC:=Lib.hid (HRS.out.1.stop HRS.out.2 hk)
      clear hk HK H13 HRS
      go_wp2_with (go_at_call 119;refine HC.out.mono ?_;rintro e w8 ⟨rfl,V8,o8,hR8,hE8,hF8⟩;have HEnd:=Lib.hid (end_f hR8 HX1.out (HR6.out.trans hE8) hF8.toFw HB1.out HO4.out);clear hR8 hE8 hF8)
     all_goals
      obtain ⟨V9,o9,hR9,hE9,hF9,hL9,u0,u1,u2,u3,u4,hB9⟩:=HEnd.out
      have c21:=hR9.c21
      have c22:=hR9.c22
      have c23:=hR9.c23
      have c24:=hR9.c24
      have c25:=hR9.c25
      have c26:=hR9.c26
      have t0:=hB9.cell 0
      have t1:=hB9.cell 1
      have t2:=hB9.cell 2
      have t3:=hB9.cell 3
      have t4:=hB9.cell 4
      have f0:=hB9.free 0
      have f1:=hB9.free 1
      have f2:=hB9.free 2
      have f3:=hB9.free 3
      have f4:=hB9.free 4
      simp only [List.getElem?_toArray,List.getElem?_cons_zero,List.getElem?_cons_succ] at t0 t1 t2 t3 t4
      have m1:¬ L4 = mb:=by have:=hR9.om;rintro rfl;omega
      have m2:¬ mb = L4:=fun e=>m1 e.symm
      have HR9:=Lib.hid (And.intro hR9 (And.intro hE9 (And.intro hF9 (And.intro hL9 hB9))))
      clear hR9 hE9 hF9 hL9 hB9 HEnd
      obtain ⟨z0,hz0⟩:∃ z0,s'.sc.kind = z0:=⟨_,rfl⟩
      obtain ⟨z1,hz1⟩:∃ z1,s'.sc.eg = z1:=⟨_,rfl⟩
      obtain ⟨z2,hz2⟩:∃ z2,s'.sc.efn = z2:=⟨_,rfl⟩
      obtain ⟨z3,hz3⟩:∃ z3,s'.sc.epc = z3:=⟨_,rfl⟩
      obtain ⟨z4,hz4⟩:∃ z4,s'.sc.en = z4:=⟨_,rfl⟩
      obtain ⟨z5,hz5⟩:∃ z5,s'.sc.seen = z5:=⟨_,rfl⟩
      rw [hz0] at c21
      rw [hz1] at c22
      rw [hz2] at c23
      rw [hz3] at c24
      rw [hz4] at c25
      rw [hz5] at c26
      have HZ:=Lib.hid (And.intro hz0 (And.intro hz1 (And.intro hz2 (And.intro hz3 (And.intro hz4 hz5)))))
      clear hz0 hz1 hz2 hz3 hz4 hz5
      go_region_held3 (fun w'=>w'.cell? ⟨mb,21,none⟩ = some (.int .i64 z0) ∧ w'.cell? ⟨mb,22,none⟩ = some (.int .i64 z1) ∧ w'.cell? ⟨mb,23,none⟩ = some (.int .i64 z2) ∧ w'.cell? ⟨mb,24,none⟩ = some (.int .i64 z3) ∧ w'.cell? ⟨mb,25,none⟩ = some (.int .i64 z4) ∧ w'.cell? ⟨mb,26,none⟩ = some (.bool z5)) (go_keep) (fail)
      clear c21 c22 c23 c24 c25 c26 t0 t1 t2 t3 t4 f0 f1 f2 f3 f4
      rename_i hh
      clear hh
      have A:=st5_st (u0:=.int .i64 z0) (u1:=.int .i64 z1) (u2:=.int .i64 z2) (u3:=.int .i64 z3) (u4:=.int .i64 z4) HR9.out.2.2.2.2
      have hO:=st5_only (W:=w8) (b:=L4) (u0:=.int .i64 z0) (u1:=.int .i64 z1) (u2:=.int .i64 z2) (u3:=.int .i64 z3) (u4:=.int .i64 z4)
      have hR10:=(HR9.out.1.loc hO (fun j hj=>by rw [show j = L4 from hj];exact HR9.out.2.2.2.1)).drew
      have A':=blk_drew A
      have hO':=hO.drew
      generalize (((((w8.setCell ⟨L4,0,none⟩ (.int .i64 z0)).setCell ⟨L4,1,none⟩ (.int .i64 z1)).setCell ⟨L4,2,none⟩ (.int .i64 z2)).setCell ⟨L4,3,none⟩ (.int .i64 z3)).setCell ⟨L4,4,none⟩ (.int .i64 z4)).drew = W11 at *
      go_wp2
      exact ret_step A' rfl rfl (by obtain ⟨rfl,rfl,rfl,rfl,rfl,rfl⟩:=HZ.out;exact ⟨rfl,V9,o9,hR10,⟨HR9.out.2.1.only.andThen hO' (fun j hj hs=>by rw [show j = L4 from hs] at hj ⊢;exact absurd hj HLN.out),HR9.out.2.1.same⟩,HR9.out.2.2.1⟩)
end
end Go.Proofs.YtgadhchejmlfjaaGreatDoor.Mac
end
section
namespace Go.Proofs.YtgadhchejmlfjaaGreatDoor.Mac
open Go.RowKit Go.Esc
open Go.Proofs.YtgadhchejmlfjaaGreatDoor.Scr (es)
section
variable {mb:Nat} {V:Vr} {own:Nat → Nat} {w:World} {s:St}
def evC (s:St):List Value:=[.int .i64 s.sc.kind,.int .i64 s.sc.eg,.int .i64 s.sc.efn,.int .i64 s.sc.epc,.int .i64 s.sc.en]
def runsM:List (Int × Int × Int) → St → Option (List St × St)
 | [],s=>some ([],s)
 | x :: l,s=>(stepM s x.1 x.2.1 x.2.2).bind fun s1=>(runsM l s1).map fun o=>(if s1.sc.seen then s1 :: o.1 else o.1,o.2)
def EnIn (w:World) (lb lo:Nat) (l:List (Int × Int × Int)):Prop:=
 ∀ k,k < l.length → w.cell? ⟨lb,lo + k * 3,none⟩ = some (.int .i64 (l[k]?.getD (0,0,0)).1) ∧ w.cell? ⟨lb,lo + k * 3 + 1,none⟩ = some (.int .i64 (l[k]?.getD (0,0,0)).2.1) ∧ w.cell? ⟨lb,lo + k * 3 + 2,none⟩ = some (.int .i64 (l[k]?.getD (0,0,0)).2.2)
theorem info38:(Tryz.prog.info? 38).map (fun i=>(i.zero,i.size,i.bytes)) = some (some (.agg #[.int .i64 0,.int .i64 0,.int .i64 0,.int .i64 0,.int .i64 0]),5,40):=by kernel_rfl
theorem new5 (w:World) (a b c d e:Value) (t:TypeId):∀ (j:Nat) (u:Value),[a,b,c,d,e][j]? = some u → (w.alloc (.cells #[a,b,c,d,e] t)).cell? ((⟨w.heap.size,0,none⟩:Addr).add j) = some u:=by
 have h:=Blk.new w #[a,b,c,d,e] t
 intro j u hu
 rw [show ((⟨w.heap.size,0,none⟩:Addr).add j) = ⟨w.heap.size,j,none⟩ from by rw [Go.WideShapes.add_plain,Nat.zero_add]]
 rw [h.cell j,← hu]
 simp
theorem one5 (a b c d e:Int):∀ x ∈ ([.int .i64 a,.int .i64 b,.int .i64 c,.int .i64 d,.int .i64 e]:List Value),x.oneCell' = true:=by
 intro x hx
 simp at hx
 rcases hx with rfl | rfl | rfl | rfl | rfl <;> rfl
def RunR (mb:Nat) (V:Vr) (own:Nat → Nat) (w:World) (l:List (Int × Int × Int)) (lb lo:Nat) (out:List St) (s':St) (t4 t14:Value) (wr:World):Prop:=
 ∃ (k:Nat) (d r:List St) (V1:Vr) (own1:Nat → Nat) (s1:St),k ≤ l.length ∧ t14 = .int .i64 k ∧ out = d ++ r ∧ d.length ≤ k ∧ runsM (l.drop k) s1 = some (r,s') ∧ Rep mb V1 own1 wr s1 ∧ Ext own w own1 wr ∧ Fw V V1 ∧ EnIn wr lb lo l ∧
  wr.ownsRow w.heap.size 38 5 t4 d.length (d.flatMap evC) ∧ ∀ j,t4.ownBlock = some j → own1 j = 0
theorem en_ext {own1:Nat → Nat} {wr:World} {lb lo:Nat} {l:List (Int × Int × Int)} (hE:EnIn w lb lo l) (hlb:lb < w.heap.size) (hl0:own lb = 0) (hX:Ext own w own1 wr):EnIn wr lb lo l:=fun k hk=>by
 have hc:∀ i,wr.cell? ⟨lb,i,none⟩ = w.cell? ⟨lb,i,none⟩:=fun i=>World.cell?_of_block (hX.only.block lb hlb (fun hs=>hs.1 hl0))
 rw [hc,hc,hc]
 exact hE k hk
theorem runs_cons {l:List (Int × Int × Int)} {k:Nat} {s1 s':St} {r:List St} (hk:k < l.length) (h:runsM (l.drop k) s1 = some (r,s')):∃ s2 r2,stepM s1 (l[k]?.getD (0,0,0)).1 (l[k]?.getD (0,0,0)).2.1 (l[k]?.getD (0,0,0)).2.2 = some s2 ∧ runsM (l.drop (k + 1)) s2 = some (r2,s') ∧ r = if s2.sc.seen then s2 :: r2 else r2:=by
 rw [List.drop_eq_getElem_cons hk] at h
 unfold runsM at h
 obtain ⟨s2,h1,h⟩:=bind_some h
 cases h2:runsM (l.drop (k + 1)) s2 with
 | none=>rw [h2] at h;cases h
 | some o=>
  rw [h2] at h
  simp only [Option.map_some,Option.some.injEq,Prod.mk.injEq] at h
  obtain ⟨e1,e2⟩:=h
  refine ⟨s2,o.1,?_,?_,e1.symm⟩
  ·rw [List.getElem?_eq_getElem hk];exact h1
  ·rw [h2,← e2]
theorem row_ext {own1 own2:Nat → Nat} {wr w1:World} {base n:Nat} {v:Value} {xs:List Value} (hO:wr.ownsRow base 38 5 v n xs) (ho:∀ j,v.ownBlock = some j → own1 j = 0) (hX:Ext own1 wr own2 w1):w1.ownsRow base 38 5 v n xs ∧ ∀ j,v.ownBlock = some j → own2 j = 0:=
 ⟨rowv_off hO hX.only (fun j hj hs=>hs.1 (ho j hj)),fun j hj=>(hX.same j (World.ownsRow.lt hO j hj).2).trans (ho j hj)⟩
set_option maxHeartbeats 4000000 in
theorem Rep.runs (h:Rep mb V own w s) {lb lo lc:Nat} {l:List (Int × Int × Int)} {out:List St} {s':St} (hs:runsM l s = some (out,s')) (hE:EnIn w lb lo l) (hlb:lb < w.heap.size) (hl0:own lb = 0) (hln:l.length ≤ 65536) :
  Calls Tryz.prog 69 #[ptr mb,.slice (some ⟨lb,lo,none⟩) l.length lc] w fun e w'=>∃ v V1 own1,e = .returned v ∧ w'.ownsRow w.heap.size 38 5 v out.length (out.flatMap evC) ∧ (∀ j,v.ownBlock = some j → own1 j = 0) ∧ Rep mb V1 own1 w' s' ∧ Ext own w own1 w' ∧ Fw V V1:=by
 have H0:=Lib.hid (And.intro h (And.intro hs (And.intro hE (And.intro hlb hl0))))
 clear h hs hE hlb hl0
 go_enter Tryz.func69,Tryz.ntmps69
 go_wp2
 generalize hnl:l.length = nl at *
 have HNL:=Lib.hid hnl
 clear hnl
 go_loopw [4,14] (fun t4 t14 wr=>RunR mb V own w l lb lo out s' t4 t14 wr) (fun _ t _=>nl - (intOf t).toNat)
 case atStart=>exact ⟨0,[],out,V,own,s,Nat.zero_le _,rfl,rfl,Nat.le_refl _,H0.out.2.1,H0.out.1,Ext.refl _ _,Fw.refl V,H0.out.2.2.1,World.ownsRow_nil w w.heap.size 38 5,by simp [Value.ownBlock]⟩
 case round=>
  obtain ⟨k,d,r,V1,own1,s1,hk,rfl,hout,hd,hrn,hR,hX,hF,hEn,hO,ho⟩:=hrel
  rw [HNL.out] at hk
  by_cases hlt:k < nl
  ·have hkn:(k:Int) < (nl:Int):=by omega
   obtain ⟨p0,p1,p2⟩:=hEn k (by rw [HNL.out];exact hlt)
   obtain ⟨s2,r2,hst,hrn2,hr⟩:=runs_cons (by rw [HNL.out];exact hlt) hrn
   obtain ⟨x,hx⟩:∃ x,l[k]?.getD (0,0,0) = x:=⟨_,rfl⟩
   rw [hx] at p0 p1 p2 hst
   obtain ⟨x0,x1,x2⟩:=x
   simp only at p0 p1 p2 hst
   have HSt:=Lib.hid ((hR.alloc (.cells #[.int .i64 x0,.int .i64 x1,.int .i64 x2] 36)).step hst)
   have HK:=Lib.hid (And.intro hR (And.intro hX (And.intro hF (And.intro hO (And.intro ho (And.intro hrn2 (And.intro hr (And.intro hout hd))))))))
   have hlbr:lb < wr.heap.size:=Nat.lt_of_lt_of_le H0.out.2.2.2.1 hX.only.size
   clear hst hrn hrn2 hr hout hd hR hX hF hEn hO ho hx hk
   cases hse:s2.sc.seen with
   | false=>
    go_wp2_with (go_at_call 11;refine HSt.out.mono ?_;rintro e w1 ⟨rfl,V2,own2,hR2,hE2,hF2⟩;rw [hse];have HR2:=Lib.hid (And.intro hR2 (And.intro hE2 hF2));clear hR2 hE2 hF2)
    go_roundw
    case rel=>
     have hE1:Ext own1 wr own2 (w1.alloc (.cells #[.int .i64 s2.sc.kind,.int .i64 s2.sc.eg,.int .i64 s2.sc.efn,.int .i64 s2.sc.epc,.int .i64 s2.sc.en] 38)):=((Ext.refl own1 wr).alloc _).trans (HR2.out.2.1.trans ((Ext.refl own2 w1).alloc _))
     obtain ⟨hr1,hr2⟩:=row_ext HK.out.2.2.2.1 HK.out.2.2.2.2.1 hE1
     have hX2:=HK.out.2.1.trans hE1
     have e:=HK.out.2.2.2.2.2.2.1
     rw [hse,if_neg (by decide)] at e
     exact ⟨k + 1,d,r2,V2,own2,s2,by rw [HNL.out];omega,by go_num,by rw [← e];exact HK.out.2.2.2.2.2.2.2.1,by have:=HK.out.2.2.2.2.2.2.2.2;omega,HK.out.2.2.2.2.2.1,HR2.out.1.alloc _,hX2,HK.out.2.2.1.trans HR2.out.2.2,en_ext H0.out.2.2.1 H0.out.2.2.2.1 H0.out.2.2.2.2 hX2,hr1,hr2⟩
    case measure=>simp [intOf];omega
   | true=>
    go_wp2_with (first
     | (go_at_call 11;refine HSt.out.mono ?_;rintro e w1 ⟨rfl,V2,own2,hR2,hE2,hF2⟩;rw [hse];have hE1:Ext own1 wr own2 ((w1.alloc (.cells #[.int .i64 s2.sc.kind,.int .i64 s2.sc.eg,.int .i64 s2.sc.efn,.int .i64 s2.sc.epc,.int .i64 s2.sc.en] 38)).alloc (.cells #[.int .i64 s2.sc.kind,.int .i64 s2.sc.eg,.int .i64 s2.sc.efn,.int .i64 s2.sc.epc,.int .i64 s2.sc.en] 38)):=((Ext.refl own1 wr).alloc _).trans (hE2.trans (((Ext.refl own2 w1).alloc _).trans ((Ext.refl own2 _).alloc _)));have HRow:=Lib.hid (row_ext HK.out.2.2.2.1 HK.out.2.2.2.2.1 hE1);have hw2:w.heap.size ≤ ((w1.alloc (.cells #[.int .i64 s2.sc.kind,.int .i64 s2.sc.eg,.int .i64 s2.sc.efn,.int .i64 s2.sc.epc,.int .i64 s2.sc.en] 38)).alloc (.cells #[.int .i64 s2.sc.kind,.int .i64 s2.sc.eg,.int .i64 s2.sc.efn,.int .i64 s2.sc.epc,.int .i64 s2.sc.en] 38)).heap.size:=(HK.out.2.1.trans hE1).only.size;have HSz:=Lib.hid hw2;have n5:=new5 (w1.alloc (.cells #[.int .i64 s2.sc.kind,.int .i64 s2.sc.eg,.int .i64 s2.sc.efn,.int .i64 s2.sc.epc,.int .i64 s2.sc.en] 38)) (.int .i64 s2.sc.kind) (.int .i64 s2.sc.eg) (.int .i64 s2.sc.efn) (.int .i64 s2.sc.epc) (.int .i64 s2.sc.en) 38;rw [show (w1.alloc (.cells #[.int .i64 s2.sc.kind,.int .i64 s2.sc.eg,.int .i64 s2.sc.efn,.int .i64 s2.sc.epc,.int .i64 s2.sc.en] 38)).heap.size = w1.heap.size + 1 by simp] at n5;have HN5:=Lib.hid n5;have HR2:=Lib.hid (And.intro (hR2.alloc (.cells #[.int .i64 s2.sc.kind,.int .i64 s2.sc.eg,.int .i64 s2.sc.efn,.int .i64 s2.sc.epc,.int .i64 s2.sc.en] 38)) (And.intro hE1 (And.intro hF2 hR2)));clear hR2 hE2 hF2 hE1 hw2 n5)
     | (at_builtin;refine appV Tryz.underlying147 info38 rfl (by decide) (by decide) w.heap.size _ rfl _ _ rfl _ d.length (d.flatMap evC) ⟨w1.heap.size + 1,0,none⟩ 1 [.int .i64 s2.sc.kind,.int .i64 s2.sc.eg,.int .i64 s2.sc.efn,.int .i64 s2.sc.epc,.int .i64 s2.sc.en] rfl rfl (.inl HRow.out.1) rfl HN5.out (one5 _ _ _ _ _) HSz.out (by have q1:=HK.out.2.2.2.2.2.2.2.2;omega) ?_;intro v' w3 hA;have HA:=Lib.hid hA;clear hA))
    go_roundw
    case rel=>
     have hR3:=HR2.out.1.alloc (.cells #[.int .i64 s2.sc.kind,.int .i64 s2.sc.eg,.int .i64 s2.sc.efn,.int .i64 s2.sc.epc,.int .i64 s2.sc.en] 38)
     have hX2:=HK.out.2.1.trans HR2.out.2.1
     have hO3:=Only.grown (Only.refl _ _) HA.out.2.1 (fun j hj=>Or.inr hj)
     have hR4:=hR3.loc hO3 (fun j hj=>HRow.out.2 j hj)
     have hX3:Ext own w own2 _:=⟨Only.grown hX2.only HA.out.2.1 (fun j hj=>.inl (World.ownsRow.lt HRow.out.1 j hj).1),hX2.same⟩
     have e:=HK.out.2.2.2.2.2.2.1
     rw [hse,if_pos rfl] at e
     refine ⟨k + 1,d ++ [s2],r2,V2,own2,s2,by rw [HNL.out];omega,by go_num,by rw [HK.out.2.2.2.2.2.2.2.1,e];simp,by have:=HK.out.2.2.2.2.2.2.2.2;simp;omega,HK.out.2.2.2.2.2.1,hR4,hX3,HK.out.2.2.1.trans HR2.out.2.2.1,en_ext H0.out.2.2.1 H0.out.2.2.2.1 H0.out.2.2.2.2 hX3,?_,?_⟩
     ·have q:=HA.out.1
      rw [List.length_append,List.flatMap_append]
      simpa [evC] using q
     ·intro j hj
      rcases HA.out.2.2 j hj with h1 | h1
      ·exact HRow.out.2 j h1
      ·exact hR3.fresh j h1
    case measure=>simp [intOf];omega
  ·obtain rfl:k = nl:=by omega
   rw [List.drop_of_length_le (by rw [HNL.out];exact Nat.le_refl _)] at hrn
   unfold runsM at hrn
   simp only [Option.some.injEq,Prod.mk.injEq] at hrn
   obtain ⟨rfl,rfl⟩:=hrn
   rw [List.append_nil] at hout
   subst hout
   have HK:=Lib.hid (And.intro hR (And.intro hX (And.intro hF (And.intro hO ho))))
   clear hR hX hF hO ho hEn hlt hd hk
   go_wp2
   go_ret
   exact ⟨_,V1,own1,rfl,HK.out.2.2.2.1,HK.out.2.2.2.2,HK.out.1,HK.out.2.1,HK.out.2.2.1⟩
end
end Go.Proofs.YtgadhchejmlfjaaGreatDoor.Mac
end
