/- Parts of the proof of TopReaches. -/
import Derived.Test.YtgadhchejmlfjaaGreatDoorD4
set_option linter.unusedVariables false
set_option maxRecDepth 20000
section
namespace Go.Proofs.YtgadhchejmlfjaaGreatDoor.Mac
open Go.RowKit Go.Esc
open Go.Proofs.YtgadhchejmlfjaaGreatDoor.Pstat (Pr pz)
open Go.Proofs.YtgadhchejmlfjaaGreatDoor.Vm (Ins)
section
variable {mb:Nat} {V:Vr} {own:Nat → Nat} {w:World} {s:St}
theorem mv_eq {s:St} {i:Nat} {x:G} (hi:s.gs[i]? = some x) (t:Int):s.mv i t = s.setG i { x with word:=isW x.word t }:=by unfold St.mv;rw [hi]
theorem setG_at {s:St} {i:Nat} {x:G} (hi:i < s.gs.length):(s.setG i x).gs[i]? = some x:=by
 show (s.gs.set i x)[i]? = some x
 rw [List.getElem?_set];simp [hi]
theorem setX_at {s:St} {j:Nat} {y:M1} (hj:j < s.ms.length):(s.setX j y).ms[j]? = some y:=by
 show (s.ms.set j y)[j]? = some y
 rw [List.getElem?_set];simp [hj]
theorem gc0x (h:Rep mb V own w s) {b i:Nat} {x:G} {u:Int} (hb:own b = 20 + 5 * i) (hi:s.gs[i]? = some x) (hu:(i:Int) + 1 = u):w.cell? ⟨b,0,none⟩ = some (.int .i64 u):=by
 obtain ⟨_,_,sv,hB,_⟩:=h.gat hb hi
 rw [← hu];exact gc0 hB
theorem Ext.keep {own own':Nat → Nat} {w w':World} (h:Ext own w own' w') {b t:Nat} (hb:own b = t) (hlt:b < w.heap.size):own' b = t:=(h.same b hlt).trans hb
theorem Rep.row_le (h:Rep mb V own w s) {k:Nat} (hk:k < s.rings.length):(rAt s k).row.length ≤ 256 ∧ 0 ≤ (rAt s k).nx:=by
 obtain ⟨rv,R,hT⟩:=h.rings (by decide)
 have hw:=(hT.prc.ring k hk).nums
 have hi:=hT.is k hk
 unfold rAt
 rw [← hi.2,← hi.1]
 exact ⟨hw.1,hw.2.2.2.1⟩
theorem Rep.putO_le (h:Rep mb V own w s) {k:Nat} (hk:k < s.rings.length) (u:Int) (f:Bool):(Ring.putO 256 (rAt s k).nx (rAt s k).row u f).length ≤ 300:=by
 have:=(h.row_le hk).1
 unfold Ring.putO Ring.behindO
 split
 ·simp
 ·split
  ·split
   ·simp
   ·split <;> simp <;> omega
  ·split <;> simp <;> omega
set_option maxHeartbeats 4000000 in
theorem Rep.queue_nil (h:Rep mb V own w s) {b i:Nat} {f:Bool} {s':St} (hb:own b = 20 + 5 * i) (hs:queueM s (-1) i f = some s'):Calls Tryz.prog 192 #[ptr mb,.pointer none,ptr b,.bool f] w (Does mb V own w unit s'):=by
 unfold queueM at hs
 replace hs:=opt_if hs
 obtain ⟨⟨hil,hal⟩,hs⟩:=hs
 rw [if_pos rfl] at hs
 obtain ⟨x,hi⟩:∃ x,s.gs[i]? = some x:=⟨_,List.getElem?_eq_getElem hil⟩
 rw [mv_eq hi] at hs
 have HI:=Lib.hid (h.is hb hi 1 (by decide) (by decide))
 have hi1:=setG_at (x:={ x with word:=isW x.word 1 }) hil
 obtain ⟨s1,hs1⟩:∃ s1,s1 = s.setG i { x with word:=isW x.word 1 }:=⟨_,rfl⟩
 have hal1:s1.all.length < 1000000:=by rw [hs1];show s.all.length < _;omega
 rw [← hs1] at HI hs hi1
 have HS:=Lib.hid (And.intro hal1 hi1)
 have HB:=Lib.hid hb
 have HF:=Lib.hid h.fresh
 clear h hb hi hil hal hs1 hal1 hi1
 go_enter Tryz.func192,Tryz.ntmps192
 go_wp2_with (go_at_call 116;refine HI.out.mono ?_;rintro e w1 ⟨rfl,own1,hR1,hE1⟩;have HR1:=Lib.hid hR1;have HE1:=Lib.hid hE1;clear hR1 hE1)
 have hb1:=HE1.out.lt HB.out (by omega) HF.out
 obtain ⟨_,_,sv,hB1,_⟩:=HR1.out.gat hb1 HS.out.2
 have k0:=gc0 hB1
 have c9:=HR1.out.c9
 have hbl:=hB1.lt
 clear hB1
 generalize hu:(i:Int) + 1 = u at *
 have hm1:=HR1.out.mlt
 have nn1:¬ mb = w1.heap.size:=by omega
 have nn2:¬ b = w1.heap.size:=by omega
 have HP:=Lib.hid (HR1.out.drew.aput1 u HS.out.1)
 have HE2:=Lib.hid HE1.out.drew
 go_region_held3 (fun w'=>w'.cell? ⟨mb,9,none⟩ = some (ptr V.all) ∧ w'.cell? ⟨b,0,none⟩ = some (.int .i64 u)) (go_keep) (first | (go_at_call 243;refine HP.out.mono ?_;rintro e w2 ⟨⟨n,rfl⟩,own2,hR2,hE2⟩;have k9:=hR2.c9;have k0:w2.cell? ⟨b,0,none⟩ = some (.int .i64 u):=gc0x hR2 (hE2.keep hb1 hbl) HS.out.2 hu;have HR2:=Lib.hid hR2;have HE3:=Lib.hid (HE2.out.trans hE2);clear hR2 hE2))
 all_goals
  go_wp2_with (first
   | (go_at_call 247;refine (HR2.out.wake hs).mono ?_;rintro e w3 ⟨rfl,V3,own3,hR3,hE3,hF3⟩;have HR3:=Lib.hid hR3;have HE4:=Lib.hid (HE3.out.trans hE3);have HF3:=Lib.hid hF3;clear hR3 hE3 hF3))
  go_end0
  exact ⟨rfl,V3,own3,HR3.out,HE4.out,HF3.out⟩
set_option maxHeartbeats 4000000 in
theorem Rep.queue_x (h:Rep mb V own w s) {xb j b i:Nat} {y:M1} {f:Bool} {s':St} (hx:own xb = 22 + 5 * j) (hj:s.ms[j]? = some y) (hb:own b = 20 + 5 * i) (hs:queueM s y.p i f = some s'):Calls Tryz.prog 192 #[ptr mb,ptr xb,ptr b,.bool f] w (Does mb V own w unit s'):=by
 have hF:=h.fresh
 by_cases hp:y.p = -1
 ·rw [hp] at hs
  unfold queueM at hs
  replace hs:=opt_if hs
  obtain ⟨⟨hil,hal⟩,hs⟩:=hs
  rw [if_pos rfl] at hs
  obtain ⟨x,hi⟩:∃ x,s.gs[i]? = some x:=⟨_,List.getElem?_eq_getElem hil⟩
  rw [mv_eq hi] at hs
  have HI:=Lib.hid (h.is hb hi 1 (by decide) (by decide))
  have hi1:=setG_at (x:={ x with word:=isW x.word 1 }) hil
  have hj1:(s.setG i { x with word:=isW x.word 1 }).ms[j]? = some y:=hj
  obtain ⟨s1,hs1⟩:∃ s1,s1 = s.setG i { x with word:=isW x.word 1 }:=⟨_,rfl⟩
  have hal1:s1.all.length < 1000000:=by rw [hs1];show s.all.length < _;omega
  rw [← hs1] at HI hs hi1 hj1
  have HS:=Lib.hid (And.intro hal1 (And.intro hi1 hj1))
  have HB:=Lib.hid (And.intro hb hx)
  have HF:=Lib.hid hF
  have HP:=Lib.hid hp
  clear h hb hi hil hal hs1 hal1 hi1 hx hj hj1 hF hp
  go_enter Tryz.func192,Tryz.ntmps192
  go_wp2_with (go_at_call 116;refine HI.out.mono ?_;rintro e w1 ⟨rfl,own1,hR1,hE1⟩;have hx1:=(hE1.lt HB.out.2 (by omega) HF.out);have xc:=xc1 (hR1.xblk hx1 HS.out.2.2);rw [HP.out] at xc;have HR1:=Lib.hid hR1;have HE1:=Lib.hid hE1;clear hR1 hE1)
  have hb1:=HE1.out.lt HB.out.1 (by omega) HF.out
  obtain ⟨_,_,sv,hB1,_⟩:=HR1.out.gat hb1 HS.out.2.1
  have k0:=gc0 hB1
  have c9:=HR1.out.c9
  have hbl:=hB1.lt
  clear hB1
  generalize hu:(i:Int) + 1 = u at *
  have hm1:=HR1.out.mlt
  have nn1:¬ mb = w1.heap.size:=by omega
  have nn2:¬ b = w1.heap.size:=by omega
  have HPt:=Lib.hid (HR1.out.drew.aput1 u HS.out.1)
  have HE2:=Lib.hid HE1.out.drew
  go_region_held3 (fun w'=>w'.cell? ⟨mb,9,none⟩ = some (ptr V.all) ∧ w'.cell? ⟨b,0,none⟩ = some (.int .i64 u)) (go_keep) (first | (go_at_call 243;refine HPt.out.mono ?_;rintro e w2 ⟨⟨n,rfl⟩,own2,hR2,hE2⟩;have k9:=hR2.c9;have k0:w2.cell? ⟨b,0,none⟩ = some (.int .i64 u):=gc0x hR2 (hE2.keep hb1 hbl) HS.out.2.1 hu;have HR2:=Lib.hid hR2;have HE3:=Lib.hid (HE2.out.trans hE2);clear hR2 hE2))
  all_goals
   go_wp2_with (first
    | (go_at_call 247;refine (HR2.out.wake hs).mono ?_;rintro e w3 ⟨rfl,V3,own3,hR3,hE3,hF3⟩;have HR3:=Lib.hid hR3;have HE4:=Lib.hid (HE3.out.trans hE3);have HF3:=Lib.hid hF3;clear hR3 hE3 hF3))
   go_end0
   exact ⟨rfl,V3,own3,HR3.out,HE4.out,HF3.out⟩
 ·unfold queueM at hs
  replace hs:=opt_if hs
  obtain ⟨⟨hil,hal⟩,hs⟩:=hs
  rw [if_neg hp] at hs
  replace hs:=opt_if hs
  obtain ⟨⟨hp0,hpl⟩,hs⟩:=hs
  obtain ⟨k,hk⟩:∃ k:Nat,y.p = k:=⟨y.p.toNat,by omega⟩
  rw [hk,Int.toNat_natCast] at hs
  have hkl:k < s.rings.length:=by omega
  obtain ⟨x,hi⟩:∃ x,s.gs[i]? = some x:=⟨_,List.getElem?_eq_getElem hil⟩
  rw [mv_eq hi] at hs
  have HI:=Lib.hid (h.is hb hi 1 (by decide) (by decide))
  have hi1:=setG_at (x:={ x with word:=isW x.word 1 }) hil
  have hj1:(s.setG i { x with word:=isW x.word 1 }).ms[j]? = some y:=hj
  have hd:((k:Int) == -1) = false:=by rw [beq_eq_false_iff_ne];omega
  have HS:=Lib.hid (And.intro hal (And.intro hi1 (And.intro hj1 hkl)))
  have HB:=Lib.hid (And.intro hb hx)
  have HF:=Lib.hid hF
  have HK:=Lib.hid hk
  clear h hb hi hil hal hi1 hx hj hj1 hF hp hp0 hpl hk hkl
  go_enter Tryz.func192,Tryz.ntmps192
  go_wp2_with (go_at_call 116;refine HI.out.mono ?_;rintro e w1 ⟨rfl,own1,hR1,hE1⟩;have hx1:=(hE1.lt HB.out.2 (by omega) HF.out);have xc:=xc1 (hR1.xblk hx1 HS.out.2.2.1);rw [HK.out] at xc;have HR1:=Lib.hid hR1;have HE1:=Lib.hid hE1;have HX1:=Lib.hid hx1;clear hR1 hE1 hx1)
  have hb1:=HE1.out.lt HB.out.1 (by omega) HF.out
  obtain ⟨_,_,sv,hB1,_⟩:=HR1.out.gat hb1 HS.out.2.1
  have hbl:=hB1.lt
  have hxl:=(HR1.out.xblk HX1.out HS.out.2.2.1).lt
  have k0:=gc0 hB1
  have c9:=HR1.out.c9
  have c0:=HR1.out.c0
  have HB1:=Lib.hid (And.intro hb1 (And.intro hbl hxl))
  clear hB1 hb1 hbl hxl
  generalize hu:(i:Int) + 1 = u at *
  have HRg:=Lib.hid (HR1.out.drew.ring k HS.out.2.2.2)
  have HRp:=Lib.hid (fun rb hrb=>HR1.out.drew.rput (rb:=rb) HS.out.2.2.2 hrb u f)
  have HLen:=Lib.hid (HR1.out.putO_le (k:=k) HS.out.2.2.2 u f)
  have HU:=Lib.hid hu
  have HE2:=Lib.hid HE1.out.drew
  clear hu
  go_region_held3 (fun w'=>w'.cell? ⟨mb,9,none⟩ = some (ptr V.all) ∧ w'.cell? ⟨mb,0,none⟩ = some (ptr V.procs) ∧ w'.cell? ⟨xb,1,none⟩ = some (.int .i64 k) ∧ w'.cell? ⟨b,0,none⟩ = some (.int .i64 u)) (go_keep) (first
   | (go_at_call 50;refine HRg.out.mono ?_;rintro e w2 ⟨⟨rb,rfl,hrb⟩,rfl⟩;have HRb:=Lib.hid hrb;clear hrb)
   | (go_at_call 51;refine (HRp.out _ HRb.out).mono ?_;rintro e w2 ⟨v,rfl,hv,own2,hR2,hE2,hv0⟩;have k9:=hR2.c9;have k10:=hR2.c0;have k0:w2.cell? ⟨b,0,none⟩ = some (.int .i64 u):=gc0x hR2 (hE2.keep HB1.out.1 HB1.out.2.1) HS.out.2.1 HU.out;have k1:w2.cell? ⟨xb,1,none⟩ = some (.int .i64 k):=(by have:=xc1 (hR2.xblk (hE2.keep HX1.out HB1.out.2.2) HS.out.2.2.1);rwa [HK.out] at this);have HR2:=Lib.hid hR2;have HE3:=Lib.hid (HE2.out.trans hE2);have HV:=Lib.hid (And.intro hv hv0);have HX2:=Lib.hid (hE2.keep HX1.out HB1.out.2.2);have HB2:=Lib.hid (hE2.keep HB1.out.1 HB1.out.2.1);have HS2:=Lib.hid (And.intro (Nat.lt_of_lt_of_le HB1.out.2.1 hE2.only.size) (Nat.lt_of_lt_of_le HB1.out.2.2 hE2.only.size));clear hR2 hE2 hv hv0)
   | (go_at_call 243;refine (HR2.out.aput _ _ (Slw.ofOwn HV.out.1) (fun _ j hj e=>by rw [HV.out.2 j hj] at e;cases e) (by have:=HS.out.1;have:=HLen.out;show s.all.length + _ < _;omega)).mono ?_;rintro e w3 ⟨rfl,own3,hR3,hE3⟩;have k9:=hR3.c9;have k10:=hR3.c0;have k0:w3.cell? ⟨b,0,none⟩ = some (.int .i64 u):=gc0x hR3 (hE3.keep HB2.out HS2.out.1) HS.out.2.1 HU.out;have k1:w3.cell? ⟨xb,1,none⟩ = some (.int .i64 k):=(by have:=xc1 (hR3.xblk (hE3.keep HX2.out HS2.out.2) HS.out.2.2.1);rwa [HK.out] at this);have HR3:=Lib.hid hR3;have HE4:=Lib.hid (HE3.out.trans hE3);clear hR3 hE3))
  all_goals
   go_wp2_with (first
    | (go_at_call 247;refine (HR3.out.wake hs).mono ?_;rintro e w4 ⟨rfl,V4,own4,hR4,hE4,hF4⟩;have HR4:=Lib.hid hR4;have HE5:=Lib.hid (HE4.out.trans hE4);have HF4:=Lib.hid hF4;clear hR4 hE4 hF4))
   go_end0
   exact ⟨rfl,V4,own4,HR4.out,HE5.out,HF4.out⟩
end
end Go.Proofs.YtgadhchejmlfjaaGreatDoor.Mac
end
section
namespace Go.Proofs.YtgadhchejmlfjaaGreatDoor.Mac
open Go.RowKit Go.Esc
open Go.Proofs.YtgadhchejmlfjaaGreatDoor.Pstat (Pr pz)
open Go.Proofs.YtgadhchejmlfjaaGreatDoor.Vm (Ins)
section
variable {mb:Nat} {V:Vr} {own:Nat → Nat} {w:World} {s:St}
theorem bind_some {α β:Type} {o:Option α} {f:α → Option β} {x:β} (h:o.bind f = some x):∃ a,o = some a ∧ f a = some x:=by
 cases o with
 | none=>cases h
 | some a=>exact ⟨a,rfl,h⟩
theorem Rep.offX (h:Rep mb V own w s) {xb j:Nat} {r:Nat × St} (hx:own xb = 22 + 5 * j) (hs:offM s j = some r):∃ b,own b = 20 + 5 * r.1 ∧ Calls Tryz.prog 183 #[ptr xb] w (DoesV mb V own w (ptr b) r.2):=by
 unfold offM at hs
 cases hj:s.ms[j]? with
 | none=>rw [hj] at hs;cases hs
 | some y=>
  rw [hj] at hs
  replace hs:=opt_if hs
  obtain ⟨h1,hs⟩:=hs
  simp only [Option.some.injEq] at hs
  subst hs
  obtain ⟨e1,e2⟩:=h.gp h1 (h.xg hj).2
  refine ⟨_,e2,?_⟩
  rw [← e1]
  exact h.off hx hj
set_option maxHeartbeats 4000000 in
theorem Rep.back (h:Rep mb V own w s) {xb j:Nat} {s':St} (hx:own xb = 22 + 5 * j) (hs:backM s j = some s'):Calls Tryz.prog 185 #[ptr mb,ptr xb] w (Does mb V own w unit s'):=by
 unfold backM at hs
 replace hs:=bind_some hs
 obtain ⟨r,hr,hs⟩:=hs
 obtain ⟨b,hb,hc⟩:=h.offX hx hr
 have HC:=Lib.hid hc
 have HB:=Lib.hid hb
 have HF:=Lib.hid h.fresh
 clear h hx hr hc hb
 go_enter Tryz.func185,Tryz.ntmps185
 go_wp2_with (first
  | (go_at_call 183;refine HC.out.mono ?_;rintro e w1 ⟨rfl,own1,hR1,hE1⟩;have HR1:=Lib.hid hR1;have HE1:=Lib.hid hE1;clear hR1 hE1)
  | (go_at_call 192;refine (HR1.out.queue_nil (HE1.out.lt HB.out (by omega) HF.out) hs).mono ?_;rintro e w2 ⟨rfl,V2,own2,hR2,hE2,hF2⟩;have HR2:=Lib.hid hR2;have HE2:=Lib.hid (HE1.out.trans hE2);have HF2:=Lib.hid hF2;clear hR2 hE2 hF2))
 go_end0
 exact ⟨rfl,V2,own2,HR2.out,HE2.out,HF2.out⟩
theorem queueM_len {s s':St} {p:Int} {i:Nat} {f:Bool} (hs:queueM s p i f = some s'):s'.gs.length = s.gs.length:=by
 have hh:∀ {a b:St} {p:Int} {j:Nat},haveM a p j = some b → b.gs = a.gs:=fun {a b p j} hx=>by
  unfold haveM at hx
  split at hx
  ·simp only [Option.some.injEq] at hx;subst hx;rfl
  ·cases hx
 have hb:∀ {a:St} {p:Int} {r:Bool × St},beginM a p = some r → r.2.gs = a.gs:=fun {a p r} hx=>by
  unfold beginM at hx
  split at hx
  ·split at hx
   ·simp only [Option.some.injEq] at hx;subst hx;rfl
   ·replace hx:=opt_if hx
    obtain ⟨_,hx⟩:=hx
    obtain ⟨c,h1,h2⟩:=Option.map_eq_some_iff.1 hx
    subst h2
    exact (hh h1).trans rfl
  ·replace hx:=opt_if hx
   obtain ⟨_,hx⟩:=hx
   obtain ⟨c,h1,h2⟩:=Option.map_eq_some_iff.1 hx
   subst h2
   exact (hh h1).trans rfl
 have hw:∀ {a b:St},wakeM a = some b → b.gs = a.gs:=fun {a b} hx=>by
  unfold wakeM at hx
  split at hx
  ·simp only [Option.some.injEq] at hx;subst hx;rfl
  ·split at hx
   ·cases hx
   ·split at hx
    ·simp only [Option.some.injEq] at hx;subst hx;rfl
    ·split at hx
     ·split at hx
      ·next h1=>simp only [Option.some.injEq] at hx;subst hx;exact hb h1
      ·next h1=>simp only [Option.some.injEq] at hx;subst hx;exact hb h1
      ·cases hx
     ·simp only [Option.some.injEq] at hx;subst hx;rfl
 have hm:∀ (a:St) (i:Nat) (t:Int),(a.mv i t).gs.length = a.gs.length:=fun a i t=>by
  unfold St.mv
  split
  ·show (a.gs.set i _).length = _;simp
  ·rfl
 unfold queueM at hs
 replace hs:=opt_if hs
 obtain ⟨_,hs⟩:=hs
 split at hs
 ·rw [hw hs];exact hm _ _ _
 ·replace hs:=opt_if hs
  obtain ⟨_,hs⟩:=hs
  rw [hw hs];exact hm _ _ _
set_option maxHeartbeats 4000000 in
theorem Rep.unask (h:Rep mb V own w s) {b i:Nat} {x:G} {s':St} (hb:own b = 20 + 5 * i) (hi:s.gs[i]? = some x) (hs:unaskM s i = some s'):Calls Tryz.prog 184 #[ptr mb,ptr b] w (Does mb V own w unit s'):=by
 unfold unaskM at hs
 obtain ⟨a,cap,hv⟩:=h.gsl
 have c5:=h.c5
 rw [hv] at c5
 have hn64:=h.lim.1
 have hil:=lt_of_some hi
 have hbl:=(h.gat hb hi).blk
 have hbl:b < w.heap.size:=by obtain ⟨sv,hB,_⟩:=hbl;exact hB.lt
 obtain ⟨n,hn⟩:∃ n,s.gs.length = n:=⟨_,rfl⟩
 rw [hn] at hs c5 hv hn64 hil
 have HH:=Lib.hid (And.intro h (And.intro hs hn))
 have HB:=Lib.hid (And.intro hb hbl)
 have HV:=Lib.hid hv
 clear h hb hi hs hv hn hbl
 go_enter Tryz.func184,Tryz.ntmps184
 go_wp2
 go_loopw [11] (fun t wr=>∃ (k:Nat) (V1:Vr) (own1:Nat → Nat) (s1:St),k ≤ n ∧ t = .int .i64 k ∧ Rep mb V1 own1 wr s1 ∧ Ext own w own1 wr ∧ Fx V V1 ∧ unaskL ((i:Int) + 1) (n - k) k s1 = some s' ∧ s1.gs.length = n) (fun t _=>n - (intOf t).toNat)
 case atStart=>exact ⟨0,V,own,s,Nat.zero_le _,rfl,HH.out.1,Ext.refl _ _,Fx.refl _,HH.out.2.1,HH.out.2.2⟩
 case round=>
  obtain ⟨k,V1,own1,s1,hk,rfl,hR,hE,hF,hs,hn⟩:=hrel
  by_cases hlt:k < n
  ·have hkl:k < s1.gs.length:=by omega
   obtain ⟨x1,hx1⟩:∃ x1,s1.gs[k]? = some x1:=⟨_,List.getElem?_eq_getElem hkl⟩
   obtain ⟨m,hm⟩:∃ m,n - k = m + 1:=⟨n - k - 1,by omega⟩
   rw [hm] at hs
   unfold unaskL at hs
   rw [hx1] at hs
   dsimp only at hs
   obtain ⟨g0,cap',hv1,cg,hgl,_⟩:=hR.grow hkl
   rw [hF.gsv,HV.out] at hv1
   simp only [Value.slice.injEq] at hv1
   obtain ⟨rfl,hnn,rfl⟩:=hv1
   clear hnn
   have hok:=hR.og k hkl
   have hat:=hR.gat hok hx1
   obtain ⟨hl8,hwd,sv,hBk,hst⟩:=hat
   have x18:=gc18 hBk
   have xw:=gc1 hBk
   have f18:=hBk.free 18
   obtain ⟨xi,hxi⟩:∃ xi,s1.gs[i]? = some xi:=⟨_,List.getElem?_eq_getElem (by omega)⟩
   generalize hu:(i:Int) + 1 = u at *
   have b0:=gc0x hR (hE.keep HB.out.1 HB.out.2) hxi hu
   have hkn:(k:Int) < (n:Int):=by omega
   have hgk:=hR.gis hok hx1
   have HR:=Lib.hid hR
   have HE:=Lib.hid hE
   have HF:=Lib.hid hF
   have HN:=Lib.hid (And.intro hn (And.intro hm hx1))
   by_cases e:x1.asker = u
   ·rw [if_pos e] at hs
    have hd:(x1.asker != u) = false:=by simpa using e
    have HS:=Lib.hid hs
    have HO:=Lib.hid hok
    have HX:=Lib.hid hx1
    clear hs hR hE hF hm hx1 hxi hok hBk hst hwd hl8 hn e hkl hgk hu
    go_wp2
    go_quiet (fail)
    have hR:=HR.out.drewN nq
    have HE2:=Lib.hid (HE.out.drewN nq)
    clear x18 xw f18 b0 cg hgl
    generalize wr.drewN nq = W at *
    obtain ⟨hl8,hwd,sv',hBk,hst⟩:=hR.gat HO.out HX.out
    have x18:=gc18 hBk
    have xw:=gc1 hBk
    have f18:=hBk.free 18
    have hkl:=lt_of_some HX.out
    have hO:=oset (orefl (V1.gb k) W) 18 (.int .i64 0)
    have hR1:=hR.putG hkl hO { x1 with asker:=0 } ⟨hl8,hwd,sv',gset_asker hBk 0,hst⟩
    have HR1:=Lib.hid hR1
    have HE3:=Lib.hid (HE2.out.trans (only_ext hO (by rw [HO.out];omega)))
    have HL:=Lib.hid (show (s1.setG k { x1 with asker:=0 }).gs.length = n from by show (s1.gs.set k _).length = n;rw [List.length_set];exact HN.out.1)
    clear hR hBk hst hwd hl8 hO hR1 hkl
    by_cases e5:x1.word = 5
    ·have hd5:(x1.word == 5) = true:=by simpa using e5
     have hS:=HS.out
     rw [if_pos e5] at hS
     replace hS:=bind_some hS
     obtain ⟨s2,hq,hS⟩:=hS
     have HQ:=Lib.hid hq
     have HS2:=Lib.hid hS
     clear e5 hq hS
     go_wp2_with (go_at_call 192;refine (HR1.out.queue_nil HO.out HQ.out).mono ?_;rintro e w2 ⟨rfl,V2,own2,hR2,hE2,hF2⟩;have HR2:=Lib.hid hR2;have HE4:=Lib.hid (HE3.out.trans hE2);have HF2:=Lib.hid (HF.out.trans hF2);clear hR2 hE2 hF2)
     go_roundw
     case rel=>exact ⟨k + 1,V2,own2,s2,by omega,by go_num,HR2.out,HE4.out,HF2.out,by have:=HN.out.2.1;rw [show n - (k + 1) = m by omega];exact HS2.out,(queueM_len HQ.out).trans HL.out⟩
     case measure=>simp [intOf];omega
    ·have hd5:(x1.word == 5) = false:=by simpa using e5
     have hS:=HS.out
     rw [if_neg e5] at hS
     have HS2:=Lib.hid hS
     clear e5 hS
     go_wp2
     go_roundw
     case rel=>exact ⟨k + 1,V1,own1,_,by omega,by go_num,HR1.out,HE3.out,HF.out,by have:=HN.out.2.1;rw [show n - (k + 1) = m by omega];exact HS2.out,HL.out⟩
     case measure=>simp [intOf];omega
   ·rw [if_neg e] at hs
    have hd:(x1.asker != u) = true:=by simpa using e
    have HS:=Lib.hid hs
    clear hs hR hE hF hm hx1 hxi hok hBk hst hwd hl8 hn e hkl hgk hu
    go_wp2
    go_quiet (fail)
    go_wp2
    go_roundw
    case rel=>exact ⟨k + 1,V1,own1,s1,by omega,by go_num,HR.out.drewN _,HE.out.drewN _,HF.out,by have:=HN.out.2.1;rw [show n - (k + 1) = m by omega];exact HS.out,HN.out.1⟩
    case measure=>simp [intOf];omega
  ·obtain rfl:k = n:=by omega
   rw [Nat.sub_self] at hs
   simp only [unaskL,Option.some.injEq] at hs
   subst hs
   have HR:=Lib.hid hR
   have HE:=Lib.hid hE
   have HF:=Lib.hid hF
   clear hR hE hF hn
   go_wp2
   go_end0
   exact ⟨rfl,V1,own1,HR.out,HE.out,HF.out⟩
theorem xset3r {w:World} {xb j:Nat} {y:M1} {gb:Nat → Nat} (h:Blk w xb (xcells gb j y) 125) (id:Int):Blk (((w.setCell ⟨xb,2,none⟩ (gptr gb id)).setCell ⟨xb,3,none⟩ (.int .i64 2)).setCell ⟨xb,5,none⟩ (.int .i64 0)) xb (xcells gb j { y with g:=id,phase:=2,used:=0 }) 125:=
 ((h.set 2 (gptr gb id)).set 3 (.int .i64 2)).set 5 (.int .i64 0)
theorem Rep.gptr_at (h:Rep mb V own w s) {b i:Nat} {x:G} (hb:own b = 20 + 5 * i) (hi:s.gs[i]? = some x):gptr V.gb ((i:Int) + 1) = ptr b:=by
 have hbi:=h.gis hb hi
 unfold gptr
 rw [if_neg (by omega),show ((i:Int) + 1 - 1).toNat = i by omega,hbi]
theorem Rep.setRun (h:Rep mb V own w s) {xb j b i:Nat} {x:G} {y:M1} (hx:own xb = 22 + 5 * j) (hj:s.ms[j]? = some y) (hb:own b = 20 + 5 * i) (hi:s.gs[i]? = some x) :
  Rep mb V own (((w.setCell ⟨xb,2,none⟩ (ptr b)).setCell ⟨xb,3,none⟩ (.int .i64 2)).setCell ⟨xb,5,none⟩ (.int .i64 0)) (s.setX j { y with g:=(i:Int) + 1,phase:=2,used:=0 }) ∧ Ext own w own (((w.setCell ⟨xb,2,none⟩ (ptr b)).setCell ⟨xb,3,none⟩ (.int .i64 2)).setCell ⟨xb,5,none⟩ (.int .i64 0)):=by
 have hB:=h.xblk hx hj
 have hxi:=h.xis hx hj
 have hg:=h.gptr_at hb hi
 have hil:=lt_of_some hi
 have hO:=oset (oset (oset (orefl xb w) 2 (ptr b)) 3 (.int .i64 2)) 5 (.int .i64 0)
 have hB3:=xset3r hB ((i:Int) + 1)
 rw [hg] at hB3
 refine ⟨h.putX (i:=j) (lt_of_some hj) (by rw [← hxi];exact hO) { y with g:=(i:Int) + 1,phase:=2,used:=0 } ⟨by show 0 ≤ (i:Int) + 1;omega,by show (i:Int) + 1 ≤ _;omega⟩ (by rw [← hxi];exact hB3),only_ext hO (by omega)⟩
set_option maxHeartbeats 4000000 in
theorem Rep.execute (h:Rep mb V own w s) {xb j b i:Nat} {s':St} (hx:own xb = 22 + 5 * j) (hb:own b = 20 + 5 * i) (hs:executeM s j i = some s'):Calls Tryz.prog 176 #[ptr mb,ptr xb,ptr b] w (Does mb V own w unit s'):=by
 unfold executeM at hs
 cases hi:s.gs[i]? with
 | none=>rw [hi] at hs;cases hs
 | some x=>
  cases hj:s.ms[j]? with
  | none=>rw [hi,hj] at hs;cases hs
  | some y=>
   rw [hi,hj] at hs
   dsimp only at hs
   have HSc:=Lib.hid (h.scanned hb hi)
   obtain ⟨_,_,sv,hB,_⟩:=h.gat hb hi
   have hbl:=hB.lt
   have HF:=Lib.hid h.fresh
   by_cases h8:8 ≤ x.word
   ·rw [if_pos h8] at hs
    replace hs:=opt_if hs
    obtain ⟨hal,hs⟩:=hs
    simp only [Option.some.injEq] at hs
    subst hs
    rw [show decide (8 ≤ x.word) = true by simpa using h8] at HSc
    generalize hu:(i:Int) + 1 = u at *
    have k0:=gc0x h hb hi hu
    have c9:=h.c9
    have hm1:=h.mlt
    have nn1:¬ mb = w.heap.size:=by omega
    have nn2:¬ b = w.heap.size:=by omega
    have HP:=Lib.hid (h.drew.aput1 u (by omega))
    have HE2:=Lib.hid (Ext.refl own w).drew
    have HS:=Lib.hid (And.intro hi (And.intro hb hbl))
    have HU:=Lib.hid hu
    clear h hb hi hj hx hal h8 hB hbl hm1 hu
    go_enter Tryz.func176,Tryz.ntmps176
    go_wp2_with (go_at_call 193;refine HSc.out.mono ?_;rintro e w1 ⟨rfl,rfl⟩)
    go_region_held3 (fun w'=>w'.cell? ⟨mb,9,none⟩ = some (ptr V.all) ∧ w'.cell? ⟨b,0,none⟩ = some (.int .i64 u)) (go_keep) (first | (go_at_call 243;refine HP.out.mono ?_;rintro e w2 ⟨⟨n,rfl⟩,own2,hR2,hE2⟩;have k9:=hR2.c9;have k0:w2.cell? ⟨b,0,none⟩ = some (.int .i64 u):=gc0x hR2 (hE2.keep HS.out.2.1 HS.out.2.2) HS.out.1 HU.out;have HR2:=Lib.hid hR2;have HE3:=Lib.hid (HE2.out.trans hE2);clear hR2 hE2))
    all_goals
     go_wp2
     go_end0
     exact ⟨rfl,V,own2,HR2.out,HE3.out,Fx.refl V⟩
   ·rw [if_neg h8] at hs
    rw [show decide (8 ≤ x.word) = false by simpa using h8] at HSc
    have c18:=gc18 hB
    by_cases ha:x.asker ≠ 0
    ·rw [if_pos ha] at hs
     rw [mv_eq hi] at hs
     have hd:(x.asker != 0) = true:=by simpa using ha
     have HI:=Lib.hid (h.is hb hi 5 (by decide) (by decide))
     have HX:=Lib.hid (setG_at (x:={ x with word:=isW x.word 5 }) (lt_of_some hi))
     have HS:=Lib.hid hs
     have HB:=Lib.hid hb
     clear h hb hi hj hx h8 hB hbl ha hs
     go_enter Tryz.func176,Tryz.ntmps176
     go_wp2_with (first
      | (go_at_call 193;refine HSc.out.mono ?_;rintro e w1 ⟨rfl,rfl⟩)
      | (go_at_call 116;refine HI.out.mono ?_;rintro e w2 ⟨rfl,own2,hR2,hE2⟩;have HR2:=Lib.hid hR2;have HE2:=Lib.hid hE2;clear hR2 hE2)
      | (go_at_call 184;refine (HR2.out.unask (HE2.out.lt HB.out (by omega) HF.out) HX.out HS.out).mono ?_;rintro e w3 ⟨rfl,V3,own3,hR3,hE3,hF3⟩;have HR3:=Lib.hid hR3;have HE3:=Lib.hid (HE2.out.trans hE3);have HF3:=Lib.hid hF3;clear hR3 hE3 hF3))
     go_end0
     exact ⟨rfl,V3,own3,HR3.out,HE3.out,HF3.out⟩
    ·rw [if_neg ha] at hs
     rw [mv_eq hi] at hs
     have hd:(x.asker != 0) = false:=by simpa using ha
     have HI:=Lib.hid (h.is hb hi 2 (by decide) (by decide))
     have HX:=Lib.hid (setG_at (x:={ x with word:=isW x.word 2 }) (lt_of_some hi))
     have HS:=Lib.hid hs
     have HB:=Lib.hid (And.intro hb hx)
     have HJ:=Lib.hid (show (s.setG i { x with word:=isW x.word 2 }).ms[j]? = some y from hj)
     have HL:=Lib.hid (lt_of_some hi)
     clear h hb hi hj hx h8 hB hbl ha hs
     go_enter Tryz.func176,Tryz.ntmps176
     go_wp2_with (first
      | (go_at_call 193;refine HSc.out.mono ?_;rintro e w1 ⟨rfl,rfl⟩)
      | (go_at_call 116;refine HI.out.mono ?_;rintro e w2 ⟨rfl,own2,hR2,hE2⟩;have hx2:=hE2.lt HB.out.2 (by omega) HF.out;have hb2:=hE2.lt HB.out.1 (by omega) HF.out;have hBx:=hR2.xblk hx2 HJ.out;have x2:=xc2 hBx;have x3:=xc3 hBx;have x5:=xc5 hBx;have xf2:=hBx.free 2;have xf3:=hBx.free 3;have xf5:=hBx.free 5;obtain ⟨hR3,hE3⟩:=hR2.setRun hx2 HJ.out hb2 HX.out;have HE3:=Lib.hid (hE2.trans hE3);have HR3:=Lib.hid hR3;clear hR2 hE2 hx2 hb2 hBx hE3 hR3)
      | (go_at_call 247;refine (HR3.out.wake HS.out).mono ?_;rintro e w3 ⟨rfl,V3,own3,hR3,hE3,hF3⟩;have HR4:=Lib.hid hR3;have HE4:=Lib.hid (HE3.out.trans hE3);have HF4:=Lib.hid hF3;clear hR3 hE3 hF3))
     go_end0
     exact ⟨rfl,V3,own3,HR4.out,HE4.out,HF4.out⟩
end
end Go.Proofs.YtgadhchejmlfjaaGreatDoor.Mac
end
section
namespace Go.Proofs.YtgadhchejmlfjaaGreatDoor.Mac
open Go.RowKit Go.Esc
open Go.Proofs.YtgadhchejmlfjaaGreatDoor.Pstat (Pr pz)
open Go.Proofs.YtgadhchejmlfjaaGreatDoor.Vm (Ins)
set_option maxRecDepth 100000
section
variable {mb:Nat} {V:Vr} {own:Nat → Nat} {w:World} {s:St}
theorem Rep.ringB (h:Rep mb V own w s) {p:Nat} (hp:p < s.rings.length):∃ rb,own rb = 23 + 5 * p ∧ rb < w.heap.size ∧ ∀ W,Below w.heap.size w W → Calls Tryz.prog 50 #[ptr V.procs,.int .i64 p] W fun e w'=>e = .returned (ptr rb) ∧ w' = W:=by
 obtain ⟨rv,R,hT⟩:=h.rings (by decide)
 refine ⟨(R p).b,hT.ob p hp,(hT.prc.ring p hp).lt.1,fun W hW=>?_⟩
 refine (Procs.ring_any _ rv _ R p W (hT.prc.below hW)).mono ?_
 rintro e w' ⟨rfl,rfl⟩
 refine ⟨?_,rfl⟩
 unfold Procs.ringP
 rw [if_pos ⟨by omega,by omega⟩,Int.toNat_natCast]
theorem Rep.tag_lt (h:Rep mb V own w s) {b t:Nat} (hb:own b = t) (h0:t ≠ 0):b < w.heap.size:=by
 rcases Nat.lt_or_ge b w.heap.size with h1 | h1
 ·exact h1
 ·exact absurd ((h.fresh b h1).symm.trans hb).symm h0
theorem below_drewN' {w:World} (n:Nat):Below w.heap.size w (w.drewN n):=⟨rfl,rfl,rfl,Nat.le_refl _,fun _ _=>rfl⟩
theorem below_drew' {w:World}:Below w.heap.size w w.drew:=⟨rfl,rfl,rfl,Nat.le_refl _,fun _ _=>rfl⟩
theorem Rep.setLooks (h:Rep mb V own w s) {xb j:Nat} {y:M1} (hx:own xb = 22 + 5 * j) (hj:s.ms[j]? = some y) (u:Int) :
  Rep mb V own (w.setCell ⟨xb,7,none⟩ (.int .i64 u)) (s.setX j { y with looks:=u }) ∧ Ext own w own (w.setCell ⟨xb,7,none⟩ (.int .i64 u)):=by
 have hB:=h.xblk hx hj
 have hxi:=h.xis hx hj
 have hO:=oset (orefl xb w) 7 (.int .i64 u)
 have hg:=h.xg hj
 exact ⟨h.putX (i:=j) (lt_of_some hj) (by rw [← hxi];exact hO) { y with looks:=u } hg (by rw [← hxi];exact xset_looks hB u),only_ext hO (by omega)⟩
theorem slw_ext {own own':Nat → Nat} {w w':World} {base:Nat} {v:Value} {l:List Int} (h:OwnI w base v l) (hv:∀ j,v.ownBlock = some j → own j = 0) (hE:Ext own w own' w'):OwnI w' base v l ∧ ∀ j,v.ownBlock = some j → own' j = 0:=
 ⟨h.off hE.only (fun j hj hs=>hs.1 (hv j hj)),fun j hj=>by rw [hE.same j (h.lt j hj).2];exact hv j hj⟩
end
end Go.Proofs.YtgadhchejmlfjaaGreatDoor.Mac
end
