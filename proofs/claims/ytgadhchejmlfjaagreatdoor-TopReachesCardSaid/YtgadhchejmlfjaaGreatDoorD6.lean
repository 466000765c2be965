/- Parts of the proof of TopReaches. -/
import Derived.Test.YtgadhchejmlfjaaGreatDoorD5
set_option linter.unusedVariables false
set_option maxRecDepth 20000
section
namespace Go.Proofs.YtgadhchejmlfjaaGreatDoor.Mac
open Go.RowKit Go.Esc
open Go.Proofs.YtgadhchejmlfjaaGreatDoor.Pstat (Pr pz)
open Go.Proofs.YtgadhchejmlfjaaGreatDoor.Vm (Ins)
set_option maxRecDepth 100000
section
variable {mb:Nat} {V:Vr} {own:Nat → Nat} {w:World} {s:St}
theorem tail_slw {w:World} {base g cap:Nat} {x:Int} {r:List Int} (h:OwnI w base (.slice (some ⟨g,0,none⟩) (r.length + 1) cap) (x :: r)) (hc:cap ≠ 1):Slw w (.slice (some ⟨g,1,none⟩) r.length (cap - 1)) r:=by
 have hs:Slw w (.slice (some ⟨g,0,none⟩) (x :: r).length cap) (x :: r):=Slw.ofOwn h
 rcases h.open with ⟨h0,_⟩ | ⟨g',cap',he,_,_,hcap,_⟩
 ·cases h0
 ·simp only [Value.slice.injEq] at he
  obtain ⟨_,_,rfl⟩:=he
  have:=hs.drop (cap':=cap - 1) (n:=r.length) 1 (by simp) (by simp) (by simp at hcap;omega)
  simpa using this
theorem tail_one {w:World} {base g:Nat} {x:Int} {r:List Int} (h:OwnI w base (.slice (some ⟨g,0,none⟩) (r.length + 1) 1) (x :: r)):r = []:=by
 rcases h.open with ⟨h0,_⟩ | ⟨g',cap',he,_,_,hcap,_⟩
 ·cases h0
 ·simp only [Value.slice.injEq] at he
  obtain ⟨_,_,rfl⟩:=he
  simp at hcap
  exact hcap
theorem head_cell {w:World} {base g n cap:Nat} {x:Int} {r:List Int} (h:OwnI w base (.slice (some ⟨g,0,none⟩) n cap) (x :: r)):w.cell? ⟨g,0,none⟩ = some (.int .i64 x) ∧ n = r.length + 1 ∧ n ≤ cap:=by
 rcases h.open with ⟨h0,_⟩ | ⟨g',cap',he,_,_,hcap,hc⟩
 ·cases h0
 ·simp only [Value.slice.injEq,Option.some.injEq,Addr.mk.injEq] at he
  obtain ⟨⟨rfl,_⟩,rfl,rfl⟩:=he
  exact ⟨by simpa using hc 0 (by simp),by simp,hcap⟩
theorem fillO_le (row l:List Int):(Ring.fillO 256 row l).length ≤ l.length:=by
 unfold Ring.fillO;split <;> simp
theorem grabO_le {nx:Int} {row:List Int} (h:row.length ≤ 256):(Ring.grabO nx row).length ≤ 257:=by
 unfold Ring.grabO Ring.allL
 split
 ·split <;> simp
 ·simp;omega
theorem found2_no {s:St} {p:Nat} {yp:Int} {r:Int × St} (hs:found2 s p yp = some r) (hb:Ring.getB (rAt s p).nx (rAt s p).row = false):∃ (s2 sQ:St) (O:List Int),s2 = { s with rings:=s.rings.set p ⟨0,Ring.getR (rAt s p).nx (rAt s p).row⟩ } ∧ O = s2.all.take (batchN s2) ∧ sQ = { s2 with all:=s2.all.drop (batchN s2) } ∧
  (match O with | x :: l=>some (x,fillM sQ p (x :: l)) | []=>stealM p (othersL sQ.rings.length yp sQ.sc.draw) sQ) = some r:=by
 refine ⟨_,_,_,rfl,rfl,rfl,?_⟩
 unfold found2 at hs
 rw [if_neg (by rw [hb];decide)] at hs
 exact hs
theorem others_len (n self draw:Int):(othersL n self draw).length ≤ 1024:=by
 unfold othersL orderL
 refine Nat.le_trans (List.length_filter_le _ _) ?_
 split
 ·simp
 ·exact walkL_len _ _ _
theorem steal_step {p:Nat} {z:Int} {l:List Int} {s:St} {r:Int × St} (hs:stealM p (z :: l) s = some r):(0 ≤ z ∧ z < s.rings.length) ∧ ∃ (O:List Int) (sS:St),O = Ring.grabO (rAt s z.toNat).nx (rAt s z.toNat).row ∧ sS = { s with rings:=s.rings.set z.toNat ⟨Ring.grabN (rAt s z.toNat).nx (rAt s z.toNat).row,Ring.grabR (rAt s z.toNat).row⟩ } ∧
  ((O = [] ∧ stealM p l sS = some r) ∨ ∃ y m,O = y :: m ∧ (y,fillM sS p (y :: m)) = r):=by
 unfold stealM at hs
 replace hs:=opt_if hs
 refine ⟨hs.1,_,_,rfl,rfl,?_⟩
 have h2:=hs.2
 cases hO:Ring.grabO (rAt s z.toNat).nx (rAt s z.toNat).row with
 | nil=>rw [hO] at h2;exact .inl ⟨rfl,h2⟩
 | cons y m=>rw [hO] at h2;exact .inr ⟨y,m,rfl,by simpa using h2⟩
structure StealRel (mb:Nat) (V:Vr) (own:Nat → Nat) (w:World) (rb k:Nat) (bL:Nat) (vL:Value) (L:List Int) (r:Int × St) (q:Nat) (ox:Nat → Nat) (sx:St) (wr:World):Prop where
 q_le:q ≤ L.length
 ll:L.length ≤ 1024
 rep:Rep mb V ox wr sx
 ext:Ext own w ox wr
 rb_:ox rb = 23 + 5 * k ∧ rb < wr.heap.size
 kl:k < sx.rings.length
 al:sx.all.length < 1000000
 ow:OwnI wr bL vL L
 tg:∀ j,vL.ownBlock = some j → ox j = 0
 st:stealM k (L.drop q) sx = some r
def StealR (mb:Nat) (V:Vr) (own:Nat → Nat) (w:World) (rb k:Nat) (bL:Nat) (vL:Value) (L:List Int) (r:Int × St) (t:Value) (wr:World):Prop:=∃ (q:Nat) (ox:Nat → Nat) (sx:St),t = .int .i64 q ∧ StealRel mb V own w rb k bL vL L r q ox sx wr
set_option maxHeartbeats 8000000 in
theorem Rep.found (h:Rep mb V own w s) {xb j:Nat} {r:Int} {s':St} (hx:own xb = 22 + 5 * j) (hs:foundM s j = some (r,s')):Calls Tryz.prog 175 #[ptr mb,ptr xb] w (Does mb V own w (.int .i64 r) s'):=by
 unfold foundM at hs
 cases hj:s.ms[j]? with
 | none=>rw [hj] at hs;cases hs
 | some y=>
  rw [hj] at hs
  dsimp only at hs
  replace hs:=opt_if hs
  obtain ⟨⟨h0,h1,h2⟩,hs⟩:=hs
  have hB:=h.xblk hx hj
  have x7:=xc7 hB
  have f7:=hB.free 7
  have hxm:=h.xne hx
  generalize hlk:wrap64 (y.looks + 1) = lk at *
  obtain ⟨hR,hE⟩:=h.setLooks hx hj lk
  have hj1:=setX_at (y:={ y with looks:=lk }) (lt_of_some hj)
  obtain ⟨sq,hsq⟩:∃ sq,sq = s.setX j { y with looks:=lk }:=⟨_,rfl⟩
  rw [← hsq] at hR hs hj1
  have hall:s.all = sq.all:=by rw [hsq];rfl
  rw [hall] at hs h2
  obtain ⟨k,hk⟩:∃ k:Nat,y.p = k:=⟨y.p.toNat,by omega⟩
  have hkr:k < sq.rings.length:=by rw [hsq];show k < s.rings.length;omega
  rw [hk,Int.toNat_natCast] at hs
  have HX:=Lib.hid (And.intro hx (And.intro hj1 (And.intro hk (And.intro hkr h2))))
  have HF:=Lib.hid h.fresh
  have HXl:=Lib.hid hB.lt
  have c9:=hR.c9
  have HLK:=Lib.hid hlk
  clear hB hj hj1 hsq h0 h1 hall hk hkr hx h
  obtain ⟨m1,m2⟩:=hxm
  by_cases hl:lk.tmod 4 = 0
  ·have hd:(lk.tmod 4 == 0) = true:=by simpa using hl
   cases ha:sq.all with
   | cons x0 rest=>
    rw [if_pos ⟨hl,by rw [ha];rfl⟩,ha] at hs
    simp only [Option.some.injEq,Prod.mk.injEq,List.headD_cons,List.tail_cons] at hs
    obtain ⟨rfl,rfl⟩:=hs
    have HG:=Lib.hid (hR.aget (by omega))
    rw [ha] at HG
    have HE:=Lib.hid hE
    clear hR hE ha hl h2
    go_enter Tryz.func175,Tryz.ntmps175
    go_wp2_with (go_at_call 240;refine HG.out.mono ?_;rintro e w1 ⟨rfl,o1,hR1,hE1⟩;have HR1:=Lib.hid hR1;have HE1:=Lib.hid (HE.out.trans hE1);clear hR1 hE1)
    go_ret
    exact ⟨rfl,V,o1,HR1.out,HE1.out,Fx.refl V⟩
   | nil=>
    rw [if_neg (by rw [ha];simp)] at hs
    have HG:=Lib.hid (hR.aget (by omega))
    rw [ha] at HG
    have e1:({ sq with all:=([]:List Int).tail }:St) = sq:=by rw [List.tail_nil,← ha]
    rw [e1] at HG
    have HE:=Lib.hid hE
    have HS:=Lib.hid hs
    clear hR hE ha hl h2 e1 hs
    go_enter Tryz.func175,Tryz.ntmps175
    go_wp2_with fail
    refine HG.out.mono ?_
    rintro e w1 ⟨rfl,o1,hR1,hE1⟩
    have HXb:=Lib.hid (hE1.lt HX.out.1 (by omega) (by intro j hj;exact HF.out j (Nat.le_trans HE.out.only.size hj)))
    have HR:=Lib.hid hR1
    have HE1:=Lib.hid (HE.out.trans hE1)
    clear hR1 hE1 c9 x7 f7 HG
    obtain ⟨rb,hrb,hrl,hrc⟩:=HR.out.ringB HX.out.2.2.2.1
    have HRb:=Lib.hid (And.intro hrb hrl)
    have HRc:=Lib.hid (fun m=>hrc _ (below_drewN' m))
    have c0:=HR.out.c0
    have x1:=xc1 (HR.out.xblk HXb.out HX.out.2.1)
    dsimp only at x1
    rw [HX.out.2.2.1] at x1
    have HGet:=Lib.hid (fun m=>(HR.out.drewN m).rget HX.out.2.2.2.1 hrb)
    clear hrb hrl hrc
    cases hgb:Ring.getB (rAt sq k).nx (rAt sq k).row with
    | true=>
     have hs:=HS.out
     unfold found2 at hs
     rw [if_pos hgb] at hs
     simp only [Option.some.injEq,Prod.mk.injEq] at hs
     obtain ⟨rfl,rfl⟩:=hs
     rw [hgb] at HGet
     clear hgb
     try go_wp2
     go_quiet ((go_at_call 50;exact Calls.quiet_of_same (HRc.out _)))
     go_wp2_with (go_at_call 241;refine (HGet.out _).mono ?_;rintro e w2 ⟨rfl,o2,hR2,hE2⟩;have HR2:=Lib.hid hR2;have HE2:=Lib.hid ((HE1.out.drewN _).trans hE2);clear hR2 hE2)
     go_ret
     exact ⟨rfl,V,o2,HR2.out,HE2.out,Fx.refl V⟩
    | false=>
     obtain ⟨s2,sQ,O,hs2,hO,hQ,hs⟩:=found2_no HS.out hgb
     rw [hgb] at HGet
     have hk2:k < s2.rings.length:=by rw [hs2];show k < (sq.rings.set k _).length;rw [List.length_set];exact HX.out.2.2.2.1
     have ha2:s2.all.length < 100000:=by rw [hs2];exact HX.out.2.2.2.2
     have hm2:s2.ms[j]? = some { y with looks:=lk }:=by rw [hs2];exact HX.out.2.1
     rw [← hs2] at HGet
     have HK2:=Lib.hid (And.intro hk2 (And.intro ha2 hm2))
     clear hgb hs2 hk2 ha2 hm2 HS
     have HO':=Lib.hid hO
     have HQ':=Lib.hid hQ
     have HSm:=Lib.hid hs
     clear hO hQ hs
     try go_wp2
     go_quiet ((go_at_call 50;exact Calls.quiet_of_same (HRc.out _)))
     go_wp2_with (go_at_call 241;refine (HGet.out _).mono ?_;rintro e w2 ⟨rfl,o2,hR2,hE2⟩;have HR2:=Lib.hid hR2;have HXb2:=Lib.hid (hE2.lt HXb.out (by omega) (HR.out.drewN nq).fresh);have HRb2:=Lib.hid (hE2.keep HRb.out.1 HRb.out.2);have HE2:=Lib.hid ((HE1.out.drewN _).trans hE2);clear hR2 hE2)
     clear c0 x1
     have c0:=HR2.out.c0
     have c9:=HR2.out.c9
     have HPl:=Lib.hid (fun m=>(HR2.out.drewN m).prlen)
     have HBt:Hid (∀ m,Calls Tryz.prog 242 #[ptr V.all,.int .i64 s2.rings.length,.int .i64 128] (w2.drewN m) (DoesL mb V o2 (w2.drewN m) (s2.all.take (batchN s2)) { s2 with all:=s2.all.drop (batchN s2) })):=fun m=>(HR2.out.drewN m).abatch s2.rings.length 128 (by have:=HK2.out.2.1;omega)
     have hO:=HO'.out
     have hQ:=HQ'.out
     have hs:=HSm.out
     clear HO' HQ' HSm
     have hol:O.length ≤ s2.all.length:=by rw [hO,List.length_take];omega
     have hkq:k < sQ.rings.length:=by rw [hQ];exact HK2.out.1
     have haq:sQ.all.length < 1000000:=by rw [hQ];show (s2.all.drop _).length < _;rw [List.length_drop];have:=HK2.out.2.1;omega
     have hmq:sQ.ms[j]? = some { y with looks:=lk }:=by rw [hQ];exact HK2.out.2.2
     rw [← hO,← hQ] at HBt
     have HKQ:=Lib.hid (And.intro hkq (And.intro haq (And.intro hol hmq)))
     clear hO hQ hol hkq haq hmq
     go_region_held3 (fun w'=>w'.cell? ⟨mb,9,none⟩ = some (ptr V.all) ∧ w'.cell? ⟨mb,0,none⟩ = some (ptr V.procs)) (go_keep) (first
      | (go_at_call 57;refine (HPl.out 1).mono ?_;rintro e w3 ⟨rfl,rfl⟩)
      | (go_at_call 242;refine (HBt.out 1).mono ?_;rintro e w3 ⟨v,rfl,hv,o3,hR3,hE3,ht3⟩;obtain ⟨va,vc,rfl⟩:=Glob.own_len hv;have k9:=hR3.c9;have k0:=hR3.c0;have HRq:=Lib.hid hR3;have HOv:=Lib.hid (And.intro hv ht3);have HXbq:=Lib.hid (hE3.lt HXb2.out (by omega) (HR2.out.drewN 1).fresh);have HRbq:=Lib.hid (hE3.lt HRb2.out (by omega) (HR2.out.drewN 1).fresh);have HEq:=Lib.hid ((HE2.out.drewN 1).trans hE3);clear hv hR3 hE3 ht3))
     all_goals
      clear c0 c9 HPl HBt k9 k0
      cases O with
      | cons x0 rest=>
       simp only [Option.some.injEq,Prod.mk.injEq] at hs
       obtain ⟨rfl,rfl⟩:=hs
       obtain ⟨g,hve⟩:∃ g,va = some ⟨g,0,none⟩:=by
        rcases HOv.out.1.open with ⟨h0,h00⟩ | ⟨g,cap,h0,_⟩
        ·cases h00
        ·simp only [Value.slice.injEq] at h0;exact ⟨g,h0.1⟩
       subst hve
       have HOw:=HOv
       have HKq:=Lib.hid (And.intro HKQ.out.1 (And.intro HKQ.out.2.1 (show rest.length < 1000000 by have h1:=HKQ.out.2.2.1;have h2:=HK2.out.2.1;simp at h1;omega)))
       simp only [List.length_cons] at *
       go_wp2
       have c9:=HRq.out.c9
       have g0c:=(head_cell HOw.out.1).1
       have hcp:=(head_cell HOw.out.1).2.2
       by_cases hcap:vc = 1
       ·subst hcap
        have hr0:=tail_one HOw.out.1
        subst hr0
        simp only [List.length_nil,Nat.zero_add] at *
        have HFl:=Lib.hid (fun m=>(HRq.out.drewN m).rfill HKq.out.1 HRbq.out (.slice (some ⟨g,0,none⟩) 0 0) [] (Slw.none0 _ _ _) (fun hne=>absurd rfl hne) (by simp))
        go_region_held3 (fun w'=>w'.cell? ⟨mb,9,none⟩ = some (ptr V.all) ∧ w'.cell? ⟨g,0,none⟩ = some (.int .i64 x0)) (go_keep) (first
         | (go_at_call 244;refine (HFl.out 1).mono ?_;rintro e w4 ⟨v4,rfl,hv4,o4,hR4,hE4,ht4⟩;have k9:=hR4.c9;have hO4:=slw_ext (HOw.out.1.drewN 1) HOw.out.2 hE4;have kg:=(head_cell hO4.1).1;have HR4:=Lib.hid hR4;have HE4:=Lib.hid ((HEq.out.drewN 1).trans hE4);have HV4:=Lib.hid (And.intro hv4 ht4);have HO4:=Lib.hid hO4;clear hR4 hE4 hv4 ht4 hO4)
         | (go_at_call 243;refine (HR4.out.aput _ _ (Slw.ofOwn HV4.out.1) (fun _ j hj e=>by rw [HV4.out.2 j hj] at e;cases e) (by have h1:=HKq.out.2.1;have h2:=HKq.out.2.2;have h3:=fillO_le (rAt sQ k).row [];show sQ.all.length + _ < _;(try simp only [List.length_nil] at h3);omega)).mono ?_;rintro e w5 ⟨rfl,o5,hR5,hE5⟩;have k9:=hR5.c9;have hO5:=slw_ext HO4.out.1 HO4.out.2 hE5;have kg:=(head_cell hO5.1).1;have HR5:=Lib.hid hR5;have HE5:=Lib.hid (HE4.out.trans hE5);clear hR5 hE5 hO5))
        all_goals
         go_wp2
         go_ret
         exact ⟨rfl,V,o5,HR5.out,HE5.out,Fx.refl V⟩
       ·have hcz:(1:Int) ≤ (vc:Int):=by omega
        have hq1:(1:Int) ≤ (rest.length:Int) + 1:=by omega
        have hq2:(rest.length:Int) + 1 ≤ (vc:Int):=by omega
        have HFl:=Lib.hid (fun m=>(HRq.out.drewN m).rfill HKq.out.1 HRbq.out (.slice (some ⟨g,1,none⟩) rest.length (vc - 1)) rest ((tail_slw HOw.out.1 hcap).drewN m) (fun _ j hj=>HOw.out.2 j hj) HKq.out.2.2)
        go_region_held3 (fun w'=>w'.cell? ⟨mb,9,none⟩ = some (ptr V.all) ∧ w'.cell? ⟨g,0,none⟩ = some (.int .i64 x0)) (go_keep) (first
         | (go_at_call 244;refine (HFl.out 1).mono ?_;rintro e w4 ⟨v4,rfl,hv4,o4,hR4,hE4,ht4⟩;have k9:=hR4.c9;have hO4:=slw_ext (HOw.out.1.drewN 1) HOw.out.2 hE4;have kg:=(head_cell hO4.1).1;have HR4:=Lib.hid hR4;have HE4:=Lib.hid ((HEq.out.drewN 1).trans hE4);have HV4:=Lib.hid (And.intro hv4 ht4);have HO4:=Lib.hid hO4;clear hR4 hE4 hv4 ht4 hO4)
         | (go_at_call 243;refine (HR4.out.aput _ _ (Slw.ofOwn HV4.out.1) (fun _ j hj e=>by rw [HV4.out.2 j hj] at e;cases e) (by have h1:=HKq.out.2.1;have h2:=HKq.out.2.2;have h3:=fillO_le (rAt sQ k).row rest;show sQ.all.length + _ < _;(try simp only [List.length_nil] at h3);omega)).mono ?_;rintro e w5 ⟨rfl,o5,hR5,hE5⟩;have k9:=hR5.c9;have hO5:=slw_ext HO4.out.1 HO4.out.2 hE5;have kg:=(head_cell hO5.1).1;have HR5:=Lib.hid hR5;have HE5:=Lib.hid (HE4.out.trans hE5);clear hR5 hE5 hO5))
        all_goals
         go_wp2
         go_ret
         exact ⟨rfl,V,o5,HR5.out,HE5.out,Fx.refl V⟩
      | nil=>
       dsimp only at hs
       obtain ⟨L,hL⟩:∃ L,othersL sQ.rings.length k sQ.sc.draw = L:=⟨_,rfl⟩
       rw [hL] at hs
       have HOt:Hid (∀ W,Calls Tryz.prog 245 #[.int .i64 sQ.rings.length,.int .i64 k,.int .i64 sQ.sc.draw] W (Num.ListPost L W)):=fun W=>hL ▸ Deal.others_any _ _ _ W
       have HSt:=Lib.hid hs
       have HLL:Hid (L.length ≤ 1024):=hL ▸ others_len _ _ _
       have c0:=HRq.out.c0
       have c16:=HRq.out.c16
       have x1:=xc1 (HRq.out.xblk HXbq.out HKQ.out.2.2.2)
       dsimp only at x1
       rw [HX.out.2.2.1] at x1
       have HPl3:=Lib.hid (fun m=>(HRq.out.drewN m).prlen)
       clear hs hL
       simp only [List.length_nil] at *
       go_wp2
       go_region_held3 (fun w'=>w'.cell? ⟨mb,0,none⟩ = some (ptr V.procs) ∧ w'.cell? ⟨mb,16,none⟩ = some (.int .i64 sQ.sc.draw) ∧ w'.cell? ⟨xb,1,none⟩ = some (.int .i64 k)) (go_keep) (first
        | (go_at_call 57;refine (HPl3.out 1).mono ?_;rintro e w4 ⟨rfl,rfl⟩)
        | (go_at_call 245;refine (HOt.out _).mono ?_;rintro e w4 ⟨vL,rfl,hvL,hbL⟩;obtain ⟨la,lc,rfl⟩:=Glob.own_len hvL;have hR4:Rep mb V o3 w4 sQ:=(HRq.out.drewN 1).below hbL;have k0:=hR4.c0;have k16:=hR4.c16;have kx:=xc1 (hR4.xblk HXbq.out HKQ.out.2.2.2);dsimp only at kx;rw [HX.out.2.2.1] at kx;have HE4:=Lib.hid ((HEq.out.drewN 1).trans (Ext.below hbL));have HRel:Hid (StealRel mb V own w rb k (w3.drewN 1).heap.size (.slice la L.length lc) L (r,s') 0 o3 sQ w4):=⟨Nat.zero_le _,HLL.out,hR4,HE4.out,⟨HRbq.out,Nat.lt_of_lt_of_le (HRq.out.tag_lt HRbq.out (by omega)) hbL.size⟩,HKQ.out.1,HKQ.out.2.1,hvL,fun j hj=>(HRq.out.drewN 1).fresh j (hvL.lt j hj).1,HSt.out⟩;clear hvL hbL hR4))
       all_goals
        clear c0 c16 x1 k0 k16 kx
        go_wp2
        go_loopw [94] (fun t wr=>StealR mb V own w rb k (w3.drewN 1).heap.size (.slice la L.length lc) L (r,s') t wr) (fun t _=>L.length - (intOf t).toNat)
        case atStart=>exact ⟨0,o3,sQ,rfl,HRel.out⟩
        case round=>
         obtain ⟨q,ox,sx,rfl,hrel⟩:=hrel
         have hR:=hrel.rep
         have hll:=hrel.ll
         by_cases hlt:q < L.length
         ·obtain ⟨gl,hle⟩:∃ gl,la = some ⟨gl,0,none⟩:=by
           rcases hrel.ow.open with ⟨h0,h00⟩ | ⟨gl,cap,h0,_⟩
           ·rw [h00] at hlt;simp at hlt
           ·simp only [Value.slice.injEq] at h0;exact ⟨gl,h0.1⟩
          subst hle
          obtain ⟨_,_,_,_,_,_,hcl⟩:=(hrel.ow.open).resolve_left (fun h0=>by cases h0.1)
          have hcell:wr.cell? ⟨gl,q,none⟩ = some (.int .i64 (L[q]?.getD 0)):=by
           rcases hrel.ow.open with ⟨h0,h00⟩ | ⟨g2,cap,h0,_,_,_,hc⟩
           ·rw [h00] at hlt;simp at hlt
           ·simp only [Value.slice.injEq,Option.some.injEq,Addr.mk.injEq] at h0
            rw [h0.1.1];exact hc q hlt
          clear hcl
          have hst:=hrel.st
          rw [List.drop_eq_getElem_cons hlt] at hst
          have hx0:L[q]?.getD 0 = L[q]:=by rw [List.getElem?_eq_getElem hlt];rfl
          rw [hx0] at hcell
          generalize L[q] = z at *
          clear hx0
          obtain ⟨⟨z0,zl⟩,O2,sS,hO2,hsS,hst2⟩:=steal_step hst
          obtain ⟨kz,rfl⟩:∃ kz:Nat,z = kz:=⟨z.toNat,by omega⟩
          rw [Int.toNat_natCast] at hO2 hsS
          have hkz:kz < sx.rings.length:=by omega
          obtain ⟨rz,hrz,hrzl,hrc⟩:=hR.ringB hkz
          have HRc2:Hid (Calls Tryz.prog 50 #[ptr V.procs,.int .i64 kz] wr fun e w'=>e = .returned (ptr rz) ∧ wr = w'):=(hrc wr (Below.refl _ _)).mono (fun e w' h=>⟨h.1,h.2.symm⟩)
          have HGr:=Lib.hid (hR.rgrab hkz hrz)
          have hgl:=grabO_le (nx:=(rAt sx kz).nx) (hR.row_le hkz).1
          rw [← hO2] at HGr hgl
          rw [← hsS] at HGr
          have hks:k < sS.rings.length:=by rw [hsS];show k < (sx.rings.set kz _).length;rw [List.length_set];exact hrel.kl
          have has:sS.all.length < 1000000:=by rw [hsS];exact hrel.al
          have HKK:=Lib.hid (And.intro hks (And.intro has hgl))
          have HRL:=Lib.hid hrel
          have c0:=hR.c0
          have hqn:(q:Int) < (L.length:Int):=by omega
          have HS2:=Lib.hid hst2
          have HXR:=Lib.hid (hrel.ext)
          clear hst hst2 hO2 hsS hks has hrel hrz hrzl hrc hR z0 zl hkz hgl
          rcases HS2.out with ⟨hOe,h3⟩ | ⟨x0,rest,hOe,h3⟩
          ·subst hOe
           have HS3:=Lib.hid h3
           clear h3 HS2
           go_wp2_with (first
            | (go_at_call 50;refine HRc2.out.mono ?_;rintro e w5 ⟨rfl,rfl⟩)
            | (go_at_call 246;refine HGr.out.mono ?_;rintro e w5 ⟨v5,rfl,hv5,o5,hR5,hE5,ht5⟩;obtain ⟨vs0,vs,rfl⟩:=Glob.own_len hv5;have HRs:=Lib.hid hR5;have HOs:=Lib.hid (And.intro hv5 ht5);have hL5:=slw_ext HRL.out.ow HRL.out.tg hE5;have HLs:=Lib.hid hL5;have HRbs:=Lib.hid (hE5.keep HRL.out.rb_.1 HRL.out.rb_.2);have HRbl:=Lib.hid (Nat.lt_of_lt_of_le HRL.out.rb_.2 hE5.only.size);have HEs:=Lib.hid (HXR.out.trans hE5);clear hv5 hR5 hE5 ht5 hL5;simp only [List.length_nil]))
           go_roundw
           case rel=>exact ⟨q + 1,o5,sS,by go_num,⟨by omega,hll,HRs.out,HEs.out,⟨HRbs.out,HRbl.out⟩,HKK.out.1,HKK.out.2.1,HLs.out.1,HLs.out.2,HS3.out⟩⟩
           case measure=>simp [intOf];omega
          ·subst hOe
           simp only [Prod.mk.injEq] at h3
           obtain ⟨rfl,rfl⟩:=h3
           clear HS2
           have hlp:(0:Int) < (rest.length:Int) + 1:=by omega
           have hlq:decide ((0:Int) < (rest.length:Int) + 1) = true:=by rw [decide_eq_true_eq];omega
           go_wp2_with (first
            | (go_at_call 50;refine HRc2.out.mono ?_;rintro e w5 ⟨rfl,rfl⟩)
            | (go_at_call 246;refine HGr.out.mono ?_;rintro e w5 ⟨v5,rfl,hv5,o5,hR5,hE5,ht5⟩;obtain ⟨vs0,vs,rfl⟩:=Glob.own_len hv5;have HRs:=Lib.hid hR5;have HOs:=Lib.hid (And.intro hv5 ht5);have hL5:=slw_ext HRL.out.ow HRL.out.tg hE5;have HLs:=Lib.hid hL5;have HRbs:=Lib.hid (hE5.keep HRL.out.rb_.1 HRL.out.rb_.2);have HRbl:=Lib.hid (Nat.lt_of_lt_of_le HRL.out.rb_.2 hE5.only.size);have HEs:=Lib.hid (HXR.out.trans hE5);clear hv5 hR5 hE5 ht5 hL5;simp only [List.length_cons]))
           obtain ⟨g,hve⟩:∃ g,vs0 = some ⟨g,0,none⟩:=by
            rcases HOs.out.1.open with ⟨h0,h00⟩ | ⟨g,cap,h0,_⟩
            ·cases h00
            ·simp only [Value.slice.injEq] at h0;exact ⟨g,h0.1⟩
           subst hve
           have HKs:=Lib.hid (And.intro HKK.out.1 (And.intro HKK.out.2.1 (show rest.length < 1000000 by have h1:=HKK.out.2.2;simp at h1;omega)))
           simp only [List.length_cons] at HOs
           have c9:=HRs.out.c9
           have g0c:=(head_cell HOs.out.1).1
           have hcp:=(head_cell HOs.out.1).2.2
           by_cases hcap:vs = 1
           ·subst hcap
            have hr0:=tail_one HOs.out.1
            subst hr0
            simp only [List.length_nil,Nat.zero_add] at *
            have HFl:=Lib.hid (fun m=>(HRs.out.drewN m).rfill HKs.out.1 HRbs.out (.slice (some ⟨g,0,none⟩) 0 0) [] (Slw.none0 _ _ _) (fun hne=>absurd rfl hne) (by simp))
            go_region_held3 (fun w'=>w'.cell? ⟨mb,9,none⟩ = some (ptr V.all) ∧ w'.cell? ⟨g,0,none⟩ = some (.int .i64 x0)) (go_keep) (first
             | (go_at_call 244;refine (HFl.out 1).mono ?_;rintro e w6 ⟨v4,rfl,hv4,o6,hR4,hE4,ht4⟩;have k9:=hR4.c9;have hO4:=slw_ext (HOs.out.1.drewN 1) HOs.out.2 hE4;have kg:=(head_cell hO4.1).1;have HR4:=Lib.hid hR4;have HE4:=Lib.hid ((HEs.out.drewN 1).trans hE4);have HV4:=Lib.hid (And.intro hv4 ht4);have HO4:=Lib.hid hO4;clear hR4 hE4 hv4 ht4 hO4)
             | (go_at_call 243;refine (HR4.out.aput _ _ (Slw.ofOwn HV4.out.1) (fun _ j hj e=>by rw [HV4.out.2 j hj] at e;cases e) (by have h1:=HKs.out.2.1;have h2:=HKs.out.2.2;have h3:=fillO_le (rAt sS k).row [];show sS.all.length + _ < _;(try simp only [List.length_nil] at h3);omega)).mono ?_;rintro e w7 ⟨rfl,o7,hR5,hE5⟩;have k9:=hR5.c9;have hO5:=slw_ext HO4.out.1 HO4.out.2 hE5;have kg:=(head_cell hO5.1).1;have HR5:=Lib.hid hR5;have HE5:=Lib.hid (HE4.out.trans hE5);clear hR5 hE5 hO5))
            all_goals
             go_wp2
             go_ret
             exact ⟨rfl,V,o7,HR5.out,HE5.out,Fx.refl V⟩
           ·have hcz:(1:Int) ≤ (vs:Int):=by omega
            have hq1:(1:Int) ≤ (rest.length:Int) + 1:=by omega
            have hq2:(rest.length:Int) + 1 ≤ (vs:Int):=by omega
            have HFl:=Lib.hid (fun m=>(HRs.out.drewN m).rfill HKs.out.1 HRbs.out (.slice (some ⟨g,1,none⟩) rest.length (vs - 1)) rest ((tail_slw HOs.out.1 hcap).drewN m) (fun _ j hj=>HOs.out.2 j hj) HKs.out.2.2)
            go_region_held3 (fun w'=>w'.cell? ⟨mb,9,none⟩ = some (ptr V.all) ∧ w'.cell? ⟨g,0,none⟩ = some (.int .i64 x0)) (go_keep) (first
             | (go_at_call 244;refine (HFl.out 1).mono ?_;rintro e w6 ⟨v4,rfl,hv4,o6,hR4,hE4,ht4⟩;have k9:=hR4.c9;have hO4:=slw_ext (HOs.out.1.drewN 1) HOs.out.2 hE4;have kg:=(head_cell hO4.1).1;have HR4:=Lib.hid hR4;have HE4:=Lib.hid ((HEs.out.drewN 1).trans hE4);have HV4:=Lib.hid (And.intro hv4 ht4);have HO4:=Lib.hid hO4;clear hR4 hE4 hv4 ht4 hO4)
             | (go_at_call 243;refine (HR4.out.aput _ _ (Slw.ofOwn HV4.out.1) (fun _ j hj e=>by rw [HV4.out.2 j hj] at e;cases e) (by have h1:=HKs.out.2.1;have h2:=HKs.out.2.2;have h3:=fillO_le (rAt sS k).row rest;show sS.all.length + _ < _;(try simp only [List.length_nil] at h3);omega)).mono ?_;rintro e w7 ⟨rfl,o7,hR5,hE5⟩;have k9:=hR5.c9;have hO5:=slw_ext HO4.out.1 HO4.out.2 hE5;have kg:=(head_cell hO5.1).1;have HR5:=Lib.hid hR5;have HE5:=Lib.hid (HE4.out.trans hE5);clear hR5 hE5 hO5))
            all_goals
             go_wp2
             go_ret
             exact ⟨rfl,V,o7,HR5.out,HE5.out,Fx.refl V⟩
         ·have hq:q = L.length:=by have:=hrel.q_le;omega
          have hst:=hrel.st
          rw [hq,List.drop_length] at hst
          simp only [stealM,Option.some.injEq,Prod.mk.injEq] at hst
          obtain ⟨rfl,rfl⟩:=hst
          have HRR:=Lib.hid hR
          have HEE:=Lib.hid hrel.ext
          clear hR hrel
          subst hq
          go_wp2
          go_ret
          exact ⟨rfl,V,ox,HRR.out,HEE.out,Fx.refl V⟩
  ·have hd:(lk.tmod 4 == 0) = false:=by simpa using hl
   have hs0:(if lk.tmod 4 = 0 ∧ sq.all.isEmpty = false then some (sq.all.headD 0,({ sq with all:=sq.all.tail }:St)) else found2 sq k k) = some (r,s'):=hs
   rw [if_neg (fun hh=>hl hh.1)] at hs0
   have HS:=Lib.hid hs0
   have HR:=Lib.hid hR
   have HE1:=Lib.hid hE
   have HXb:=Lib.hid HX.out.1
   clear hR hE hl hs hs0 c9 h2
   go_enter Tryz.func175,Tryz.ntmps175
   go_wp2
   clear x7 f7
   generalize w.setCell ⟨xb,7,none⟩ (.int .i64 lk) = w1 at *
   obtain ⟨rb,hrb,hrl,hrc⟩:=HR.out.ringB HX.out.2.2.2.1
   have HRb:=Lib.hid (And.intro hrb hrl)
   have HRc:=Lib.hid (fun m=>hrc _ (below_drewN' m))
   have c0:=HR.out.c0
   have x1:=xc1 (HR.out.xblk HXb.out HX.out.2.1)
   dsimp only at x1
   rw [HX.out.2.2.1] at x1
   have HGet:=Lib.hid (fun m=>(HR.out.drewN m).rget HX.out.2.2.2.1 hrb)
   clear hrb hrl hrc
   cases hgb:Ring.getB (rAt sq k).nx (rAt sq k).row with
   | true=>
    have hs:=HS.out
    unfold found2 at hs
    rw [if_pos hgb] at hs
    simp only [Option.some.injEq,Prod.mk.injEq] at hs
    obtain ⟨rfl,rfl⟩:=hs
    rw [hgb] at HGet
    clear hgb
    try go_wp2
    go_quiet ((go_at_call 50;exact Calls.quiet_of_same (HRc.out _)))
    go_wp2_with (go_at_call 241;refine (HGet.out _).mono ?_;rintro e w2 ⟨rfl,o2,hR2,hE2⟩;have HR2:=Lib.hid hR2;have HE2:=Lib.hid ((HE1.out.drewN _).trans hE2);clear hR2 hE2)
    go_ret
    exact ⟨rfl,V,o2,HR2.out,HE2.out,Fx.refl V⟩
   | false=>
    obtain ⟨s2,sQ,O,hs2,hO,hQ,hs⟩:=found2_no HS.out hgb
    rw [hgb] at HGet
    have hk2:k < s2.rings.length:=by rw [hs2];show k < (sq.rings.set k _).length;rw [List.length_set];exact HX.out.2.2.2.1
    have ha2:s2.all.length < 100000:=by rw [hs2];exact HX.out.2.2.2.2
    have hm2:s2.ms[j]? = some { y with looks:=lk }:=by rw [hs2];exact HX.out.2.1
    rw [← hs2] at HGet
    have HK2:=Lib.hid (And.intro hk2 (And.intro ha2 hm2))
    clear hgb hs2 hk2 ha2 hm2 HS
    have HO':=Lib.hid hO
    have HQ':=Lib.hid hQ
    have HSm:=Lib.hid hs
    clear hO hQ hs
    try go_wp2
    go_quiet ((go_at_call 50;exact Calls.quiet_of_same (HRc.out _)))
    go_wp2_with (go_at_call 241;refine (HGet.out _).mono ?_;rintro e w2 ⟨rfl,o2,hR2,hE2⟩;have HR2:=Lib.hid hR2;have HXb2:=Lib.hid (hE2.lt HXb.out (by omega) (HR.out.drewN nq).fresh);have HRb2:=Lib.hid (hE2.keep HRb.out.1 HRb.out.2);have HE2:=Lib.hid ((HE1.out.drewN _).trans hE2);clear hR2 hE2)
    clear c0 x1
    have c0:=HR2.out.c0
    have c9:=HR2.out.c9
    have HPl:=Lib.hid (fun m=>(HR2.out.drewN m).prlen)
    have HBt:Hid (∀ m,Calls Tryz.prog 242 #[ptr V.all,.int .i64 s2.rings.length,.int .i64 128] (w2.drewN m) (DoesL mb V o2 (w2.drewN m) (s2.all.take (batchN s2)) { s2 with all:=s2.all.drop (batchN s2) })):=fun m=>(HR2.out.drewN m).abatch s2.rings.length 128 (by have:=HK2.out.2.1;omega)
    have hO:=HO'.out
    have hQ:=HQ'.out
    have hs:=HSm.out
    clear HO' HQ' HSm
    have hol:O.length ≤ s2.all.length:=by rw [hO,List.length_take];omega
    have hkq:k < sQ.rings.length:=by rw [hQ];exact HK2.out.1
    have haq:sQ.all.length < 1000000:=by rw [hQ];show (s2.all.drop _).length < _;rw [List.length_drop];have:=HK2.out.2.1;omega
    have hmq:sQ.ms[j]? = some { y with looks:=lk }:=by rw [hQ];exact HK2.out.2.2
    rw [← hO,← hQ] at HBt
    have HKQ:=Lib.hid (And.intro hkq (And.intro haq (And.intro hol hmq)))
    clear hO hQ hol hkq haq hmq
    go_region_held3 (fun w'=>w'.cell? ⟨mb,9,none⟩ = some (ptr V.all) ∧ w'.cell? ⟨mb,0,none⟩ = some (ptr V.procs)) (go_keep) (first
     | (go_at_call 57;refine (HPl.out 1).mono ?_;rintro e w3 ⟨rfl,rfl⟩)
     | (go_at_call 242;refine (HBt.out 1).mono ?_;rintro e w3 ⟨v,rfl,hv,o3,hR3,hE3,ht3⟩;obtain ⟨va,vc,rfl⟩:=Glob.own_len hv;have k9:=hR3.c9;have k0:=hR3.c0;have HRq:=Lib.hid hR3;have HOv:=Lib.hid (And.intro hv ht3);have HXbq:=Lib.hid (hE3.lt HXb2.out (by omega) (HR2.out.drewN 1).fresh);have HRbq:=Lib.hid (hE3.lt HRb2.out (by omega) (HR2.out.drewN 1).fresh);have HEq:=Lib.hid ((HE2.out.drewN 1).trans hE3);clear hv hR3 hE3 ht3))
    all_goals
     clear c0 c9 HPl HBt k9 k0
     cases O with
     | cons x0 rest=>
      simp only [Option.some.injEq,Prod.mk.injEq] at hs
      obtain ⟨rfl,rfl⟩:=hs
      obtain ⟨g,hve⟩:∃ g,va = some ⟨g,0,none⟩:=by
       rcases HOv.out.1.open with ⟨h0,h00⟩ | ⟨g,cap,h0,_⟩
       ·cases h00
       ·simp only [Value.slice.injEq] at h0;exact ⟨g,h0.1⟩
      subst hve
      have HOw:=HOv
      have HKq:=Lib.hid (And.intro HKQ.out.1 (And.intro HKQ.out.2.1 (show rest.length < 1000000 by have h1:=HKQ.out.2.2.1;have h2:=HK2.out.2.1;simp at h1;omega)))
      simp only [List.length_cons] at *
      go_wp2
      have c9:=HRq.out.c9
      have g0c:=(head_cell HOw.out.1).1
      have hcp:=(head_cell HOw.out.1).2.2
      by_cases hcap:vc = 1
      ·subst hcap
       have hr0:=tail_one HOw.out.1
       subst hr0
       simp only [List.length_nil,Nat.zero_add] at *
       have HFl:=Lib.hid (fun m=>(HRq.out.drewN m).rfill HKq.out.1 HRbq.out (.slice (some ⟨g,0,none⟩) 0 0) [] (Slw.none0 _ _ _) (fun hne=>absurd rfl hne) (by simp))
       go_region_held3 (fun w'=>w'.cell? ⟨mb,9,none⟩ = some (ptr V.all) ∧ w'.cell? ⟨g,0,none⟩ = some (.int .i64 x0)) (go_keep) (first
        | (go_at_call 244;refine (HFl.out 1).mono ?_;rintro e w4 ⟨v4,rfl,hv4,o4,hR4,hE4,ht4⟩;have k9:=hR4.c9;have hO4:=slw_ext (HOw.out.1.drewN 1) HOw.out.2 hE4;have kg:=(head_cell hO4.1).1;have HR4:=Lib.hid hR4;have HE4:=Lib.hid ((HEq.out.drewN 1).trans hE4);have HV4:=Lib.hid (And.intro hv4 ht4);have HO4:=Lib.hid hO4;clear hR4 hE4 hv4 ht4 hO4)
        | (go_at_call 243;refine (HR4.out.aput _ _ (Slw.ofOwn HV4.out.1) (fun _ j hj e=>by rw [HV4.out.2 j hj] at e;cases e) (by have h1:=HKq.out.2.1;have h2:=HKq.out.2.2;have h3:=fillO_le (rAt sQ k).row [];show sQ.all.length + _ < _;(try simp only [List.length_nil] at h3);omega)).mono ?_;rintro e w5 ⟨rfl,o5,hR5,hE5⟩;have k9:=hR5.c9;have hO5:=slw_ext HO4.out.1 HO4.out.2 hE5;have kg:=(head_cell hO5.1).1;have HR5:=Lib.hid hR5;have HE5:=Lib.hid (HE4.out.trans hE5);clear hR5 hE5 hO5))
       all_goals
        go_wp2
        go_ret
        exact ⟨rfl,V,o5,HR5.out,HE5.out,Fx.refl V⟩
      ·have hcz:(1:Int) ≤ (vc:Int):=by omega
       have hq1:(1:Int) ≤ (rest.length:Int) + 1:=by omega
       have hq2:(rest.length:Int) + 1 ≤ (vc:Int):=by omega
       have HFl:=Lib.hid (fun m=>(HRq.out.drewN m).rfill HKq.out.1 HRbq.out (.slice (some ⟨g,1,none⟩) rest.length (vc - 1)) rest ((tail_slw HOw.out.1 hcap).drewN m) (fun _ j hj=>HOw.out.2 j hj) HKq.out.2.2)
       go_region_held3 (fun w'=>w'.cell? ⟨mb,9,none⟩ = some (ptr V.all) ∧ w'.cell? ⟨g,0,none⟩ = some (.int .i64 x0)) (go_keep) (first
        | (go_at_call 244;refine (HFl.out 1).mono ?_;rintro e w4 ⟨v4,rfl,hv4,o4,hR4,hE4,ht4⟩;have k9:=hR4.c9;have hO4:=slw_ext (HOw.out.1.drewN 1) HOw.out.2 hE4;have kg:=(head_cell hO4.1).1;have HR4:=Lib.hid hR4;have HE4:=Lib.hid ((HEq.out.drewN 1).trans hE4);have HV4:=Lib.hid (And.intro hv4 ht4);have HO4:=Lib.hid hO4;clear hR4 hE4 hv4 ht4 hO4)
        | (go_at_call 243;refine (HR4.out.aput _ _ (Slw.ofOwn HV4.out.1) (fun _ j hj e=>by rw [HV4.out.2 j hj] at e;cases e) (by have h1:=HKq.out.2.1;have h2:=HKq.out.2.2;have h3:=fillO_le (rAt sQ k).row rest;show sQ.all.length + _ < _;(try simp only [List.length_nil] at h3);omega)).mono ?_;rintro e w5 ⟨rfl,o5,hR5,hE5⟩;have k9:=hR5.c9;have hO5:=slw_ext HO4.out.1 HO4.out.2 hE5;have kg:=(head_cell hO5.1).1;have HR5:=Lib.hid hR5;have HE5:=Lib.hid (HE4.out.trans hE5);clear hR5 hE5 hO5))
       all_goals
        go_wp2
        go_ret
        exact ⟨rfl,V,o5,HR5.out,HE5.out,Fx.refl V⟩
     | nil=>
      dsimp only at hs
      obtain ⟨L,hL⟩:∃ L,othersL sQ.rings.length k sQ.sc.draw = L:=⟨_,rfl⟩
      rw [hL] at hs
      have HOt:Hid (∀ W,Calls Tryz.prog 245 #[.int .i64 sQ.rings.length,.int .i64 k,.int .i64 sQ.sc.draw] W (Num.ListPost L W)):=fun W=>hL ▸ Deal.others_any _ _ _ W
      have HSt:=Lib.hid hs
      have HLL:Hid (L.length ≤ 1024):=hL ▸ others_len _ _ _
      have c0:=HRq.out.c0
      have c16:=HRq.out.c16
      have x1:=xc1 (HRq.out.xblk HXbq.out HKQ.out.2.2.2)
      dsimp only at x1
      rw [HX.out.2.2.1] at x1
      have HPl3:=Lib.hid (fun m=>(HRq.out.drewN m).prlen)
      clear hs hL
      simp only [List.length_nil] at *
      go_wp2
      go_region_held3 (fun w'=>w'.cell? ⟨mb,0,none⟩ = some (ptr V.procs) ∧ w'.cell? ⟨mb,16,none⟩ = some (.int .i64 sQ.sc.draw) ∧ w'.cell? ⟨xb,1,none⟩ = some (.int .i64 k)) (go_keep) (first
       | (go_at_call 57;refine (HPl3.out 1).mono ?_;rintro e w4 ⟨rfl,rfl⟩)
       | (go_at_call 245;refine (HOt.out _).mono ?_;rintro e w4 ⟨vL,rfl,hvL,hbL⟩;obtain ⟨la,lc,rfl⟩:=Glob.own_len hvL;have hR4:Rep mb V o3 w4 sQ:=(HRq.out.drewN 1).below hbL;have k0:=hR4.c0;have k16:=hR4.c16;have kx:=xc1 (hR4.xblk HXbq.out HKQ.out.2.2.2);dsimp only at kx;rw [HX.out.2.2.1] at kx;have HE4:=Lib.hid ((HEq.out.drewN 1).trans (Ext.below hbL));have HRel:Hid (StealRel mb V own w rb k (w3.drewN 1).heap.size (.slice la L.length lc) L (r,s') 0 o3 sQ w4):=⟨Nat.zero_le _,HLL.out,hR4,HE4.out,⟨HRbq.out,Nat.lt_of_lt_of_le (HRq.out.tag_lt HRbq.out (by omega)) hbL.size⟩,HKQ.out.1,HKQ.out.2.1,hvL,fun j hj=>(HRq.out.drewN 1).fresh j (hvL.lt j hj).1,HSt.out⟩;clear hvL hbL hR4))
      all_goals
       clear c0 c16 x1 k0 k16 kx
       go_wp2
       go_loopw [94] (fun t wr=>StealR mb V own w rb k (w3.drewN 1).heap.size (.slice la L.length lc) L (r,s') t wr) (fun t _=>L.length - (intOf t).toNat)
       case atStart=>exact ⟨0,o3,sQ,rfl,HRel.out⟩
       case round=>
        obtain ⟨q,ox,sx,rfl,hrel⟩:=hrel
        have hR:=hrel.rep
        have hll:=hrel.ll
        by_cases hlt:q < L.length
        ·obtain ⟨gl,hle⟩:∃ gl,la = some ⟨gl,0,none⟩:=by
          rcases hrel.ow.open with ⟨h0,h00⟩ | ⟨gl,cap,h0,_⟩
          ·rw [h00] at hlt;simp at hlt
          ·simp only [Value.slice.injEq] at h0;exact ⟨gl,h0.1⟩
         subst hle
         obtain ⟨_,_,_,_,_,_,hcl⟩:=(hrel.ow.open).resolve_left (fun h0=>by cases h0.1)
         have hcell:wr.cell? ⟨gl,q,none⟩ = some (.int .i64 (L[q]?.getD 0)):=by
          rcases hrel.ow.open with ⟨h0,h00⟩ | ⟨g2,cap,h0,_,_,_,hc⟩
          ·rw [h00] at hlt;simp at hlt
          ·simp only [Value.slice.injEq,Option.some.injEq,Addr.mk.injEq] at h0
           rw [h0.1.1];exact hc q hlt
         clear hcl
         have hst:=hrel.st
         rw [List.drop_eq_getElem_cons hlt] at hst
         have hx0:L[q]?.getD 0 = L[q]:=by rw [List.getElem?_eq_getElem hlt];rfl
         rw [hx0] at hcell
         generalize L[q] = z at *
         clear hx0
         obtain ⟨⟨z0,zl⟩,O2,sS,hO2,hsS,hst2⟩:=steal_step hst
         obtain ⟨kz,rfl⟩:∃ kz:Nat,z = kz:=⟨z.toNat,by omega⟩
         rw [Int.toNat_natCast] at hO2 hsS
         have hkz:kz < sx.rings.length:=by omega
         obtain ⟨rz,hrz,hrzl,hrc⟩:=hR.ringB hkz
         have HRc2:Hid (Calls Tryz.prog 50 #[ptr V.procs,.int .i64 kz] wr fun e w'=>e = .returned (ptr rz) ∧ wr = w'):=(hrc wr (Below.refl _ _)).mono (fun e w' h=>⟨h.1,h.2.symm⟩)
         have HGr:=Lib.hid (hR.rgrab hkz hrz)
         have hgl:=grabO_le (nx:=(rAt sx kz).nx) (hR.row_le hkz).1
         rw [← hO2] at HGr hgl
         rw [← hsS] at HGr
         have hks:k < sS.rings.length:=by rw [hsS];show k < (sx.rings.set kz _).length;rw [List.length_set];exact hrel.kl
         have has:sS.all.length < 1000000:=by rw [hsS];exact hrel.al
         have HKK:=Lib.hid (And.intro hks (And.intro has hgl))
         have HRL:=Lib.hid hrel
         have c0:=hR.c0
         have hqn:(q:Int) < (L.length:Int):=by omega
         have HS2:=Lib.hid hst2
         have HXR:=Lib.hid (hrel.ext)
         clear hst hst2 hO2 hsS hks has hrel hrz hrzl hrc hR z0 zl hkz hgl
         rcases HS2.out with ⟨hOe,h3⟩ | ⟨x0,rest,hOe,h3⟩
         ·subst hOe
          have HS3:=Lib.hid h3
          clear h3 HS2
          go_wp2_with (first
           | (go_at_call 50;refine HRc2.out.mono ?_;rintro e w5 ⟨rfl,rfl⟩)
           | (go_at_call 246;refine HGr.out.mono ?_;rintro e w5 ⟨v5,rfl,hv5,o5,hR5,hE5,ht5⟩;obtain ⟨vs0,vs,rfl⟩:=Glob.own_len hv5;have HRs:=Lib.hid hR5;have HOs:=Lib.hid (And.intro hv5 ht5);have hL5:=slw_ext HRL.out.ow HRL.out.tg hE5;have HLs:=Lib.hid hL5;have HRbs:=Lib.hid (hE5.keep HRL.out.rb_.1 HRL.out.rb_.2);have HRbl:=Lib.hid (Nat.lt_of_lt_of_le HRL.out.rb_.2 hE5.only.size);have HEs:=Lib.hid (HXR.out.trans hE5);clear hv5 hR5 hE5 ht5 hL5;simp only [List.length_nil]))
          go_roundw
          case rel=>exact ⟨q + 1,o5,sS,by go_num,⟨by omega,hll,HRs.out,HEs.out,⟨HRbs.out,HRbl.out⟩,HKK.out.1,HKK.out.2.1,HLs.out.1,HLs.out.2,HS3.out⟩⟩
          case measure=>simp [intOf];omega
         ·subst hOe
          simp only [Prod.mk.injEq] at h3
          obtain ⟨rfl,rfl⟩:=h3
          clear HS2
          have hlp:(0:Int) < (rest.length:Int) + 1:=by omega
          have hlq:decide ((0:Int) < (rest.length:Int) + 1) = true:=by rw [decide_eq_true_eq];omega
          go_wp2_with (first
           | (go_at_call 50;refine HRc2.out.mono ?_;rintro e w5 ⟨rfl,rfl⟩)
           | (go_at_call 246;refine HGr.out.mono ?_;rintro e w5 ⟨v5,rfl,hv5,o5,hR5,hE5,ht5⟩;obtain ⟨vs0,vs,rfl⟩:=Glob.own_len hv5;have HRs:=Lib.hid hR5;have HOs:=Lib.hid (And.intro hv5 ht5);have hL5:=slw_ext HRL.out.ow HRL.out.tg hE5;have HLs:=Lib.hid hL5;have HRbs:=Lib.hid (hE5.keep HRL.out.rb_.1 HRL.out.rb_.2);have HRbl:=Lib.hid (Nat.lt_of_lt_of_le HRL.out.rb_.2 hE5.only.size);have HEs:=Lib.hid (HXR.out.trans hE5);clear hv5 hR5 hE5 ht5 hL5;simp only [List.length_cons]))
          obtain ⟨g,hve⟩:∃ g,vs0 = some ⟨g,0,none⟩:=by
           rcases HOs.out.1.open with ⟨h0,h00⟩ | ⟨g,cap,h0,_⟩
           ·cases h00
           ·simp only [Value.slice.injEq] at h0;exact ⟨g,h0.1⟩
          subst hve
          have HKs:=Lib.hid (And.intro HKK.out.1 (And.intro HKK.out.2.1 (show rest.length < 1000000 by have h1:=HKK.out.2.2;simp at h1;omega)))
          simp only [List.length_cons] at HOs
          have c9:=HRs.out.c9
          have g0c:=(head_cell HOs.out.1).1
          have hcp:=(head_cell HOs.out.1).2.2
          by_cases hcap:vs = 1
          ·subst hcap
           have hr0:=tail_one HOs.out.1
           subst hr0
           simp only [List.length_nil,Nat.zero_add] at *
           have HFl:=Lib.hid (fun m=>(HRs.out.drewN m).rfill HKs.out.1 HRbs.out (.slice (some ⟨g,0,none⟩) 0 0) [] (Slw.none0 _ _ _) (fun hne=>absurd rfl hne) (by simp))
           go_region_held3 (fun w'=>w'.cell? ⟨mb,9,none⟩ = some (ptr V.all) ∧ w'.cell? ⟨g,0,none⟩ = some (.int .i64 x0)) (go_keep) (first
            | (go_at_call 244;refine (HFl.out 1).mono ?_;rintro e w6 ⟨v4,rfl,hv4,o6,hR4,hE4,ht4⟩;have k9:=hR4.c9;have hO4:=slw_ext (HOs.out.1.drewN 1) HOs.out.2 hE4;have kg:=(head_cell hO4.1).1;have HR4:=Lib.hid hR4;have HE4:=Lib.hid ((HEs.out.drewN 1).trans hE4);have HV4:=Lib.hid (And.intro hv4 ht4);have HO4:=Lib.hid hO4;clear hR4 hE4 hv4 ht4 hO4)
            | (go_at_call 243;refine (HR4.out.aput _ _ (Slw.ofOwn HV4.out.1) (fun _ j hj e=>by rw [HV4.out.2 j hj] at e;cases e) (by have h1:=HKs.out.2.1;have h2:=HKs.out.2.2;have h3:=fillO_le (rAt sS k).row [];show sS.all.length + _ < _;(try simp only [List.length_nil] at h3);omega)).mono ?_;rintro e w7 ⟨rfl,o7,hR5,hE5⟩;have k9:=hR5.c9;have hO5:=slw_ext HO4.out.1 HO4.out.2 hE5;have kg:=(head_cell hO5.1).1;have HR5:=Lib.hid hR5;have HE5:=Lib.hid (HE4.out.trans hE5);clear hR5 hE5 hO5))
           all_goals
            go_wp2
            go_ret
            exact ⟨rfl,V,o7,HR5.out,HE5.out,Fx.refl V⟩
          ·have hcz:(1:Int) ≤ (vs:Int):=by omega
           have hq1:(1:Int) ≤ (rest.length:Int) + 1:=by omega
           have hq2:(rest.length:Int) + 1 ≤ (vs:Int):=by omega
           have HFl:=Lib.hid (fun m=>(HRs.out.drewN m).rfill HKs.out.1 HRbs.out (.slice (some ⟨g,1,none⟩) rest.length (vs - 1)) rest ((tail_slw HOs.out.1 hcap).drewN m) (fun _ j hj=>HOs.out.2 j hj) HKs.out.2.2)
           go_region_held3 (fun w'=>w'.cell? ⟨mb,9,none⟩ = some (ptr V.all) ∧ w'.cell? ⟨g,0,none⟩ = some (.int .i64 x0)) (go_keep) (first
            | (go_at_call 244;refine (HFl.out 1).mono ?_;rintro e w6 ⟨v4,rfl,hv4,o6,hR4,hE4,ht4⟩;have k9:=hR4.c9;have hO4:=slw_ext (HOs.out.1.drewN 1) HOs.out.2 hE4;have kg:=(head_cell hO4.1).1;have HR4:=Lib.hid hR4;have HE4:=Lib.hid ((HEs.out.drewN 1).trans hE4);have HV4:=Lib.hid (And.intro hv4 ht4);have HO4:=Lib.hid hO4;clear hR4 hE4 hv4 ht4 hO4)
            | (go_at_call 243;refine (HR4.out.aput _ _ (Slw.ofOwn HV4.out.1) (fun _ j hj e=>by rw [HV4.out.2 j hj] at e;cases e) (by have h1:=HKs.out.2.1;have h2:=HKs.out.2.2;have h3:=fillO_le (rAt sS k).row rest;show sS.all.length + _ < _;(try simp only [List.length_nil] at h3);omega)).mono ?_;rintro e w7 ⟨rfl,o7,hR5,hE5⟩;have k9:=hR5.c9;have hO5:=slw_ext HO4.out.1 HO4.out.2 hE5;have kg:=(head_cell hO5.1).1;have HR5:=Lib.hid hR5;have HE5:=Lib.hid (HE4.out.trans hE5);clear hR5 hE5 hO5))
           all_goals
            go_wp2
            go_ret
            exact ⟨rfl,V,o7,HR5.out,HE5.out,Fx.refl V⟩
        ·have hq:q = L.length:=by have:=hrel.q_le;omega
         have hst:=hrel.st
         rw [hq,List.drop_length] at hst
         simp only [stealM,Option.some.injEq,Prod.mk.injEq] at hst
         obtain ⟨rfl,rfl⟩:=hst
         have HRR:=Lib.hid hR
         have HEE:=Lib.hid hrel.ext
         clear hR hrel
         subst hq
         go_wp2
         go_ret
         exact ⟨rfl,V,ox,HRR.out,HEE.out,Fx.refl V⟩
end
end Go.Proofs.YtgadhchejmlfjaaGreatDoor.Mac
end
section
namespace Go.Proofs.YtgadhchejmlfjaaGreatDoor.Mac
open Go.RowKit Go.Esc
open Go.Proofs.YtgadhchejmlfjaaGreatDoor.Pstat (Pr pz)
open Go.Proofs.YtgadhchejmlfjaaGreatDoor.Vm (Ins)
set_option maxRecDepth 100000
section
variable {mb:Nat} {V:Vr} {own:Nat → Nat} {w:World} {s:St}
theorem Rep.setWait (h:Rep mb V own w s) (u:Int):Rep mb V own (w.setCell ⟨mb,19,none⟩ (.int .i64 u)) (s.setSc { s.sc with wait:=u }) ∧ Ext own w own (w.setCell ⟨mb,19,none⟩ (.int .i64 u)):=
 h.putSc (oset (orefl mb w) 19 (.int .i64 u)) _ h.hold (mset_wait h.mblk u)
theorem Rep.x1c (h:Rep mb V own w s) {xb j:Nat} {y:M1} {p:Int} (hx:own xb = 22 + 5 * j) (hj:s.ms[j]? = some y) (hp:y.p = p):w.cell? ⟨xb,1,none⟩ = some (.int .i64 p):=by
 rw [← hp];exact xc1 (h.xblk hx hj)
theorem steal_ms {p:Nat}:∀ (l:List Int) {s:St} {r:Int × St},stealM p l s = some r → r.2.ms = s.ms
 | [],s,r,h=>by simp only [stealM,Option.some.injEq] at h;rw [← h]
 | z :: l,s,r,h=>by
  obtain ⟨_,O,sS,_,hS,h1 | ⟨y,m,_,h1⟩⟩:=steal_step h
  ·rw [steal_ms l h1.2,hS]
  ·rw [← h1];show sS.ms = s.ms;rw [hS]
theorem found_ms {s:St} {j:Nat} {y:M1} {r:Int × St} (h:foundM s j = some r) (hj:s.ms[j]? = some y):∃ y1,r.2.ms[j]? = some y1 ∧ y1.p = y.p:=by
 unfold foundM at h
 rw [hj] at h
 dsimp only at h
 replace h:=(opt_if h).2
 have hm:=setX_at (y:={ y with looks:=wrap64 (y.looks + 1) }) (lt_of_some hj)
 split at h
 ·simp only [Option.some.injEq] at h
  rw [← h]
  exact ⟨_,hm,rfl⟩
 ·cases hb:Ring.getB (rAt (s.setX j { y with looks:=wrap64 (y.looks + 1) }) y.p.toNat).nx (rAt (s.setX j { y with looks:=wrap64 (y.looks + 1) }) y.p.toNat).row with
  | true=>
   unfold found2 at h
   rw [if_pos hb] at h
   simp only [Option.some.injEq] at h
   rw [← h]
   exact ⟨_,hm,rfl⟩
  | false=>
   obtain ⟨s2,sQ,O,h1,h2,h3,h4⟩:=found2_no h hb
   have hms:sQ.ms[j]? = some { y with looks:=wrap64 (y.looks + 1) }:=by rw [h3,h1];exact hm
   cases O with
   | nil=>exact ⟨{ y with looks:=wrap64 (y.looks + 1) },by rw [steal_ms _ h4];exact hms,rfl⟩
   | cons x l=>
    simp only [Option.some.injEq] at h4
    rw [← h4]
    exact ⟨_,hms,rfl⟩
set_option maxHeartbeats 8000000 in
theorem Rep.look (h:Rep mb V own w s) {xb j:Nat} {s':St} (hx:own xb = 22 + 5 * j) (hs:lookM s j = some s'):Calls Tryz.prog 117 #[ptr mb,ptr xb] w (Does mb V own w unit s'):=by
 unfold lookM at hs
 cases hj:s.ms[j]? with
 | none=>rw [hj] at hs;cases hs
 | some y=>
  rw [hj] at hs
  dsimp only at hs
  replace hs:=opt_if hs
  obtain ⟨h0,hs⟩:=hs
  obtain ⟨k,hk⟩:∃ k:Nat,y.p = k:=⟨y.p.toNat,by omega⟩
  rw [hk,Int.toNat_natCast] at hs
  cases ha:s.asked[k]? with
  | none=>rw [ha] at hs;cases hs
  | some a=>
   rw [ha] at hs
   dsimp only at hs
   obtain ⟨g,cap,hv,hg,n3,n4,hgl,a0,a1,a2,f0,f1,f2⟩:=h.ask ha
   have x1:=h.x1c hx hj hk
   have c7:=h.c7
   rw [hv] at c7
   have q:(k:Int) < (s.asked.length:Int):=by have:=lt_of_some ha;omega
   have HX:=Lib.hid (And.intro hx (And.intro hj (And.intro hk (h.xblk hx hj).lt)))
   have HF:=Lib.hid h.fresh
   have c18:=h.c18
   have HH:=Lib.hid h
   clear a0 a2 f0 f1 f2 hv ha hj hx h0
   cases hb:a.bar with
   | true=>
    rw [hb] at hs a1
    simp only [if_true] at hs
    have HS:=Lib.hid (fun m=>(HH.out.drewN m).serve hs)
    clear hb hs h hk
    go_enter Tryz.func117,Tryz.ntmps117
    go_wp2
    go_quiet (fail)
    go_wp2_with (go_at_call 171;refine (HS.out _).mono ?_;rintro e w1 ⟨rfl,o1,hR1,hE1⟩;have HR1:=Lib.hid hR1;have HE1:=Lib.hid (((Ext.refl own w).drewN _).trans hE1);clear hR1 hE1)
    go_end0
    exact ⟨rfl,V,o1,HR1.out,HE1.out,Fx.refl V⟩
   | false=>
    rw [hb] at hs a1
    simp only [Bool.false_eq_true,if_false] at hs
    cases hst:s.sc.stopped with
    | true=>
     rw [hst] at hs c18
     simp only [if_true] at hs
     have HRel:=Lib.hid (fun m=>(HH.out.drewN m).srelease k)
     have c8:=HH.out.c8
     have HS:=Lib.hid hs
     obtain ⟨s1,hs1⟩:∃ s1,s1 = releaseP s k:=⟨_,rfl⟩
     have hj1:s1.ms[j]? = some y:=by rw [hs1];exact HX.out.2.1
     obtain ⟨s2,hs2⟩:∃ s2,s2 = stopP s1 k:=⟨_,rfl⟩
     have hj2:s2.ms[j]? = some y:=by rw [hs2];exact hj1
     have hsE:parkM (s2.setSc { s2.sc with wait:=wrap64 (s2.sc.wait - 1) }) j = some s':=by rw [hs2,hs1];exact HS.out
     have HRel2:Hid (∀ m,Calls Tryz.prog 172 #[ptr V.stat,.int .i64 k] (w.drewN m) (DoesV mb V own (w.drewN m) (.int .i64 (Pstat.turnF s.stat k (fun s wh=>s == 1))) s1)):=by rw [hs1];exact HRel.out
     have hst2:({ s1 with stat:=Pstat.turnL s1.stat k Pstat.stopX (fun s wh=>Pstat.stopB s) }:St) = s2:=hs2.symm
     have HJ:=Lib.hid (And.intro hj1 (And.intro hj2 (And.intro hsE hst2)))
     clear hs hs1 hj1 hs2 hj2 hsE hst2 hst hb h hk HS HRel
     go_enter Tryz.func117,Tryz.ntmps117
     go_wp2
     go_quiet (fail)
     go_wp2
     go_region_held3 (fun w'=>w'.cell? ⟨mb,8,none⟩ = some (ptr V.stat) ∧ w'.cell? ⟨xb,1,none⟩ = some (.int .i64 k)) (go_keep) (first | (go_at_call 172;refine (HRel2.out (nq + 1)).mono ?_;rintro e w1 ⟨rfl,o1,hR1,hE1⟩;have k8:=hR1.c8;have hx1:=hE1.lt HX.out.1 (by omega) HF.out;have kx:=hR1.x1c hx1 HJ.out.1 HX.out.2.2.1;have HR1:=Lib.hid hR1;have HX1:=Lib.hid hx1;have HE1:=Lib.hid (((Ext.refl own w).drewN _).trans hE1);clear hR1 hE1 hx1))
     all_goals
      have HSt:Hid (∀ m,Calls Tryz.prog 173 #[ptr V.stat,.int .i64 k] (w1.drewN m) (DoesV mb V o1 (w1.drewN m) (.int .i64 (Pstat.turnF s1.stat k (fun s wh=>Pstat.stopB s))) s2)):=fun m=>by have:=(HR1.out.drewN m).sstop k;rwa [HJ.out.2.2.2] at this
      clear k8 kx a1 c7 c8 c18 x1
      have c8:=HR1.out.c8
      have x1:=HR1.out.x1c HX1.out HJ.out.1 HX.out.2.2.1
      go_wp2
      go_region_held3 (fun w'=>w'.cell? ⟨mb,8,none⟩ = some (ptr V.stat) ∧ w'.cell? ⟨xb,1,none⟩ = some (.int .i64 k)) (go_keep) (first | (go_at_call 173;refine (HSt.out 1).mono ?_;rintro e w2 ⟨rfl,o2,hR2,hE2⟩;have k8:=hR2.c8;have hx2:=hE2.lt HX1.out (by omega) (HR1.out.drewN 1).fresh;have kx:=hR2.x1c hx2 HJ.out.2.1 HX.out.2.2.1;have HR2:=Lib.hid hR2;have HX2:=Lib.hid hx2;have HE2:=Lib.hid ((HE1.out.drewN 1).trans hE2);clear hR2 hE2 hx2))
      all_goals
       have c19:=HR2.out.c19
       have f19:=HR2.out.mfree 19
       obtain ⟨R3,E3⟩:=HR2.out.setWait (wrap64 (s2.sc.wait - 1))
       have HPk:=Lib.hid (R3.park HX2.out HJ.out.2.2.1)
       have HE3:=Lib.hid (HE2.out.trans E3)
       clear R3 E3 k8 kx
       go_wp2_with (go_at_call 174;refine HPk.out.mono ?_;rintro e w3 ⟨rfl,o3,hR3,hE4⟩;have HR3:=Lib.hid hR3;have HE4:=Lib.hid (HE3.out.trans hE4);clear hR3 hE4)
       go_end0
       exact ⟨rfl,V,o3,HR3.out,HE4.out,Fx.refl V⟩
    | false=>
     rw [hst] at hs c18
     simp only [Bool.false_eq_true,if_false] at hs
     cases hfo:foundM s j with
     | none=>rw [hfo] at hs;cases hs
     | some rs=>
      obtain ⟨id,s1⟩:=rs
      rw [hfo] at hs
      dsimp only at hs
      have HFd:=Lib.hid (fun m=>(HH.out.drewN m).found HX.out.1 hfo)
      have hmj:=found_ms hfo HX.out.2.1
      obtain ⟨y1,hj1,hp1⟩:=hmj
      rw [hk] at hp1
      by_cases hid:id = 0
      ·rw [if_pos hid] at hs
       obtain ⟨s2,hs2⟩:∃ s2,s2 = releaseP s1 k:=⟨_,rfl⟩
       have hj2:s2.ms[j]? = some y1:=by rw [hs2];exact hj1
       rw [← hs2] at hs
       obtain ⟨s3,hs3⟩:∃ s3,s3 = ({ s2 with idleP:=Idle.putL 256 s2.idleP k }:St):=⟨_,rfl⟩
       rw [← hs3] at hs
       have hj3:s3.ms[j]? = some y1:=by rw [hs3];exact hj2
       have hd:(id == 0) = true:=by simpa using hid
       have HJ:=Lib.hid (And.intro hj1 (And.intro hj2 (And.intro hj3 (And.intro hs2 (And.intro hs3 (And.intro hs hp1))))))
       clear hs hs2 hs3 hj1 hj2 hj3 hid hfo hst hb h hp1 hk
       go_enter Tryz.func117,Tryz.ntmps117
       go_wp2
       go_quiet (fail)
       go_wp2_with (go_at_call 175;refine (HFd.out _).mono ?_;rintro e w1 ⟨rfl,V1,o1,hR1,hE1,hF1⟩;have HR1:=Lib.hid hR1;have HX1:=Lib.hid (hE1.lt HX.out.1 (by omega) HF.out);have HE1:=Lib.hid (((Ext.refl own w).drewN _).trans hE1);have HF1:=Lib.hid hF1;clear hR1 hE1 hF1)
       have HRl:Hid (∀ m,Calls Tryz.prog 172 #[ptr V1.stat,.int .i64 k] (w1.drewN m) (DoesV mb V1 o1 (w1.drewN m) (.int .i64 (Pstat.turnF s1.stat k (fun s wh=>s == 1))) s2)):=fun m=>by have:=(HR1.out.drewN m).srelease k;rw [HJ.out.2.2.2.1];exact this
       clear c18 c7 x1 a1
       have c8:=HR1.out.c8
       have x1:=HR1.out.x1c HX1.out HJ.out.1 HJ.out.2.2.2.2.2.2
       go_region_held3 (fun w'=>w'.cell? ⟨mb,8,none⟩ = some (ptr V1.stat) ∧ w'.cell? ⟨xb,1,none⟩ = some (.int .i64 k)) (go_keep) (first | (go_at_call 172;refine (HRl.out 1).mono ?_;rintro e w2 ⟨rfl,o2,hR2,hE2⟩;have k8:=hR2.c8;have hx2:=hE2.lt HX1.out (by omega) (HR1.out.drewN 1).fresh;have kx:=hR2.x1c hx2 HJ.out.2.1 HJ.out.2.2.2.2.2.2;have HR2:=Lib.hid hR2;have HX2:=Lib.hid hx2;have HE2:=Lib.hid ((HE1.out.drewN 1).trans hE2);clear hR2 hE2 hx2))
       all_goals
        have HPp:Hid (∀ m,Calls Tryz.prog 48 #[ptr V1.idP,.int .i64 k] (w2.drewN m) (DoesV mb V1 o2 (w2.drewN m) (.bool (Idle.putB 256 s2.idleP k)) s3)):=fun m=>by have:=(HR2.out.drewN m).pput k;rw [HJ.out.2.2.2.2.1];exact this
        clear c8 x1 k8 kx
        have c11:=HR2.out.c11
        have x1:=HR2.out.x1c HX2.out HJ.out.2.1 HJ.out.2.2.2.2.2.2
        go_wp2
        go_region_held3 (fun w'=>w'.cell? ⟨mb,11,none⟩ = some (ptr V1.idP) ∧ w'.cell? ⟨xb,1,none⟩ = some (.int .i64 k)) (go_keep) (first | (go_at_call 48;refine (HPp.out 1).mono ?_;rintro e w3 ⟨rfl,o3,hR3,hE3⟩;have k11:=hR3.c11;have hx3:=hE3.lt HX2.out (by omega) (HR2.out.drewN 1).fresh;have kx:=hR3.x1c hx3 HJ.out.2.2.1 HJ.out.2.2.2.2.2.2;have HR3:=Lib.hid hR3;have HX3:=Lib.hid hx3;have HE3:=Lib.hid ((HE2.out.drewN 1).trans hE3);clear hR3 hE3 hx3))
        all_goals
         go_wp2_with (go_at_call 174;refine (HR3.out.park HX3.out HJ.out.2.2.2.2.2.1).mono ?_;rintro e w4 ⟨rfl,o4,hR4,hE4⟩;have HR4:=Lib.hid hR4;have HE4:=Lib.hid (HE3.out.trans hE4);clear hR4 hE4)
         go_end0
         exact ⟨rfl,V1,o4,HR4.out,HE4.out,HF1.out⟩
      ·rw [if_neg hid] at hs
       replace hs:=opt_if hs
       obtain ⟨⟨h1,h2⟩,hs⟩:=hs
       obtain ⟨i,hi⟩:∃ i:Nat,id = (i:Int) + 1:=⟨(id - 1).toNat,by omega⟩
       subst hi
       have hi2:((i:Int) + 1 - 1).toNat = i:=by omega
       rw [hi2] at hs
       have hil:i < s1.gs.length:=by omega
       have hd:(((i:Int) + 1) == 0) = false:=by rw [beq_eq_false_iff_ne];omega
       have e1:(i:Int) + 1 - 1 = i:=by omega
       have q1:(i:Int) < (s1.gs.length:Int):=by omega
       have HS:=Lib.hid (And.intro hs hil)
       clear hs h1 h2 hi2 hil hid hfo hst hb h hp1 hk hj1
       go_enter Tryz.func117,Tryz.ntmps117
       go_wp2
       go_quiet (fail)
       go_wp2_with (first
        | (go_at_call 175;refine (HFd.out _).mono ?_;rintro e w1 ⟨rfl,V1,o1,hR1,hE1,hF1⟩;have hi64:i < 64:=(by have h1:=hR1.lim.1;have h2:=HS.out.2;omega);obtain ⟨gr,gcap,hgv,hgc,hgl1,_⟩:=hR1.grow HS.out.2;have c5:=hR1.c5;rw [hgv] at c5;have HR1:=Lib.hid hR1;have HX1:=Lib.hid (hE1.lt HX.out.1 (by omega) HF.out);have HE1:=Lib.hid (((Ext.refl own w).drewN _).trans hE1);have HF1:=Lib.hid hF1;clear hR1 hE1 hF1 hgv)
        | (go_at_call 176;refine (HR1.out.execute HX1.out (HR1.out.og i HS.out.2) HS.out.1).mono ?_;rintro e w2 ⟨rfl,V2,o2,hR2,hE2,hF2⟩;have HR2:=Lib.hid hR2;have HE2:=Lib.hid (HE1.out.trans hE2);have HF2:=Lib.hid (HF1.out.trans hF2);clear hR2 hE2 hF2))
       go_end0
       exact ⟨rfl,V2,o2,HR2.out,HE2.out,HF2.out⟩
end
end Go.Proofs.YtgadhchejmlfjaaGreatDoor.Mac
end
section
namespace Go.Proofs.YtgadhchejmlfjaaGreatDoor.Mac
open Go.RowKit Go.Esc
open Go.Proofs.YtgadhchejmlfjaaGreatDoor.Pstat (Pr pz)
open Go.Proofs.YtgadhchejmlfjaaGreatDoor.Vm (Ins)
set_option maxRecDepth 100000
section
variable {mb:Nat} {V:Vr} {own:Nat → Nat} {w:World} {s:St}
theorem Rep.setSema (h:Rep mb V own w s) {b i:Nat} {x:G} (hb:own b = 20 + 5 * i) (hi:s.gs[i]? = some x) (u:Bool) :
  Rep mb V own (w.setCell ⟨b,16,none⟩ (.bool u)) (s.setG i { x with sema:=u }) ∧ Ext own w own (w.setCell ⟨b,16,none⟩ (.bool u)):=by
 obtain ⟨h8,hw,sv,hB,hst⟩:=h.gat hb hi
 have hbi:=h.gis hb hi
 have hO:=oset (orefl b w) 16 (.bool u)
 exact ⟨h.putG (lt_of_some hi) (by rw [← hbi];exact hO) { x with sema:=u } (by rw [← hbi];exact ⟨h8,hw,sv,gset_sema hB u,hst⟩),only_ext hO (by omega)⟩
theorem Rep.gc16f (h:Rep mb V own w s) {b i:Nat} {x:G} (hb:own b = 20 + 5 * i) (hi:s.gs[i]? = some x):w.cell? ⟨b,16,none⟩ = some (.bool x.sema) ∧ w.frozen? ⟨b,16,none⟩ = false:=by
 obtain ⟨h8,hw,sv,hB,hst⟩:=h.gat hb hi
 exact ⟨gc16 hB,hB.free 16⟩
theorem Rep.glt (h:Rep mb V own w s) {b i:Nat} {x:G} (hb:own b = 20 + 5 * i) (hi:s.gs[i]? = some x):b < w.heap.size:=by
 obtain ⟨h8,hw,sv,hB,hst⟩:=h.gat hb hi
 exact hB.lt
set_option maxHeartbeats 8000000 in
theorem Rep.release (h:Rep mb V own w s) {b i:Nat} {x:G} {s':St} (hb:own b = 20 + 5 * i) (hi:s.gs[i]? = some x) (hs:semrelM s i = some s'):Calls Tryz.prog 188 #[ptr mb,ptr b] w (Does mb V own w unit s'):=by
 unfold semrelM at hs
 replace hs:=opt_if hs
 obtain ⟨hwl,hs⟩:=hs
 dsimp only at hs
 have c12:=h.c12
 generalize hu:(i:Int) + 1 = u at *
 have b0:=gc0x h hb hi hu
 have HB:=Lib.hid (And.intro hb (And.intro (h.glt hb hi) (And.intro hi hu)))
 have HF:=Lib.hid h.fresh
 obtain ⟨id,hid⟩:∃ id,id = Sema.relV s.owner s.waits u:=⟨_,rfl⟩
 obtain ⟨s1,hs1⟩:∃ s1,s1 = ({ s with owner:=Sema.relO s.owner s.waits u,waits:=Sema.relL s.owner s.waits u }:St):=⟨_,rfl⟩
 have hi1:s1.gs[i]? = some x:=by rw [hs1];exact hi
 have HSr:Hid (∀ m,Calls Tryz.prog 261 #[ptr V.sema,.int .i64 u] (w.drewN m) (DoesV mb V own (w.drewN m) (.tuple #[.int .i64 id,.int .i64 (Sema.relF s.owner u)]) s1)):=fun m=>by rw [hid,hs1];exact (h.drewN m).semrel u (by omega)
 rw [← hid,← hs1,show s.gs = s1.gs by rw [hs1]] at hs
 have HI1:=Lib.hid hi1
 have HH:=Lib.hid h
 clear h hb hi hu hid hs1 hi1 hwl
 by_cases h0:id = 0
 ·rw [if_pos h0] at hs
  simp only [Option.some.injEq] at hs
  subst hs
  have hd:(id == 0) = true:=by simpa using h0
  clear h0
  go_enter Tryz.func188,Tryz.ntmps188
  go_wp2
  go_region_held3 (fun w'=>w'.cell? ⟨mb,12,none⟩ = some (ptr V.sema) ∧ w'.cell? ⟨b,0,none⟩ = some (.int .i64 u)) (go_keep) (first | (go_at_call 261;refine (HSr.out 1).mono ?_;rintro e w1 ⟨rfl,o1,hR1,hE1⟩;have k12:=hR1.c12;have k0:w1.cell? ⟨b,0,none⟩ = some (.int .i64 u):=gc0x hR1 (hE1.keep HB.out.1 HB.out.2.1) HI1.out HB.out.2.2.2;have HR1:=Lib.hid hR1;have HE1:=Lib.hid (((Ext.refl own w).drewN 1).trans hE1);clear hR1 hE1))
  all_goals
   go_wp2
   go_end0
   exact ⟨rfl,V,o1,HR1.out,HE1.out,Fx.refl V⟩
 ·rw [if_neg h0] at hs
  replace hs:=opt_if hs
  obtain ⟨h1,hs⟩:=hs
  obtain ⟨k,rfl⟩:∃ k:Nat,id = (k:Int) + 1:=⟨(id - 1).toNat,by omega⟩
  have e2:((k:Int) + 1 - 1).toNat = k:=by omega
  rw [e2] at hs
  have hd:(((k:Int) + 1) == 0) = false:=by rw [beq_eq_false_iff_ne];omega
  have e1:(k:Int) + 1 - 1 = k:=by omega
  cases hk:s1.gs[k]? with
  | none=>rw [hk] at hs;cases hs
  | some xk=>
   rw [hk] at hs
   dsimp only at hs
   have hkl:=lt_of_some hk
   have q1:(k:Int) < (s1.gs.length:Int):=by omega
   have hk2:(s1.setG k { xk with sema:=false }).gs[k]? = some { xk with sema:=false }:=setG_at hkl
   obtain ⟨s2,hs2⟩:∃ s2,s2 = s1.setG k { xk with sema:=false }:=⟨_,rfl⟩
   rw [← hs2] at hs hk2
   have HK:=Lib.hid (And.intro hk (And.intro hk2 hs2))
   clear h0 h1 e2 hk hk2 hs2 hkl
   by_cases h8:8 ≤ xk.word
   ·rw [if_pos h8] at hs
    simp only [Option.some.injEq] at hs
    subst hs
    have h8d:decide (8 ≤ xk.word) = true:=by simpa using h8
    have H8:=Lib.hid h8d
    clear h8 h8d
    go_enter Tryz.func188,Tryz.ntmps188
    go_wp2
    go_region_held3 (fun w'=>w'.cell? ⟨mb,12,none⟩ = some (ptr V.sema) ∧ w'.cell? ⟨b,0,none⟩ = some (.int .i64 u)) (go_keep) (first | (go_at_call 261;refine (HSr.out 1).mono ?_;rintro e w1 ⟨rfl,o1,hR1,hE1⟩;have k12:=hR1.c12;have k0:w1.cell? ⟨b,0,none⟩ = some (.int .i64 u):=gc0x hR1 (hE1.keep HB.out.1 HB.out.2.1) HI1.out HB.out.2.2.2;have HR1:=Lib.hid hR1;have HE1:=Lib.hid (((Ext.refl own w).drewN 1).trans hE1);clear hR1 hE1))
    all_goals
     have hk64:k < 64:=by have h1:=HR1.out.lim.1;have h2:=lt_of_some HK.out.1;omega
     obtain ⟨gr,gcap,hgv,hgc,hgl1,_⟩:=HR1.out.grow (lt_of_some HK.out.1)
     have c5:=HR1.out.c5
     rw [hgv] at c5
     have hok:=HR1.out.og k (lt_of_some HK.out.1)
     obtain ⟨x16,xf16⟩:=HR1.out.gc16f hok HK.out.1
     obtain ⟨hR2,hE2⟩:=HR1.out.setSema hok HK.out.1 false
     rw [← HK.out.2.2] at hR2
     have HSc:=Lib.hid (hR2.scanned hok HK.out.2.1)
     rw [show decide (8 ≤ ({ xk with sema:=false }:G).word) = true from H8.out] at HSc
     have HR2:=Lib.hid hR2
     have HE2:=Lib.hid (HE1.out.trans hE2)
     clear hgv hok hR2 hE2 k12 k0
     go_wp2_with (go_at_call 193;refine HSc.out.mono ?_;rintro e w2 ⟨rfl,rfl⟩)
     go_end0
     exact ⟨rfl,V,o1,HR2.out,HE2.out,Fx.refl V⟩
   ·rw [if_neg h8] at hs
    have h8d:decide (8 ≤ xk.word) = false:=by simpa using h8
    have H8:=Lib.hid (And.intro h8d hs)
    clear h8 h8d hs
    go_enter Tryz.func188,Tryz.ntmps188
    go_wp2
    go_region_held3 (fun w'=>w'.cell? ⟨mb,12,none⟩ = some (ptr V.sema) ∧ w'.cell? ⟨b,0,none⟩ = some (.int .i64 u)) (go_keep) (first | (go_at_call 261;refine (HSr.out 1).mono ?_;rintro e w1 ⟨rfl,o1,hR1,hE1⟩;have k12:=hR1.c12;have k0:w1.cell? ⟨b,0,none⟩ = some (.int .i64 u):=gc0x hR1 (hE1.keep HB.out.1 HB.out.2.1) HI1.out HB.out.2.2.2;have HR1:=Lib.hid hR1;have HE1:=Lib.hid (((Ext.refl own w).drewN 1).trans hE1);clear hR1 hE1))
    all_goals
     have hk64:k < 64:=by have h1:=HR1.out.lim.1;have h2:=lt_of_some HK.out.1;omega
     obtain ⟨gr,gcap,hgv,hgc,hgl1,_⟩:=HR1.out.grow (lt_of_some HK.out.1)
     have c5:=HR1.out.c5
     rw [hgv] at c5
     have hok:=HR1.out.og k (lt_of_some HK.out.1)
     obtain ⟨x16,xf16⟩:=HR1.out.gc16f hok HK.out.1
     obtain ⟨hR2,hE2⟩:=HR1.out.setSema hok HK.out.1 false
     rw [← HK.out.2.2] at hR2
     have HSc:=Lib.hid (hR2.scanned hok HK.out.2.1)
     rw [show decide (8 ≤ ({ xk with sema:=false }:G).word) = false from H8.out.1] at HSc
     have HQ:=Lib.hid (hR2.queue_nil hok H8.out.2)
     have HE2:=Lib.hid (HE1.out.trans hE2)
     clear hgv hok hR2 hE2 k12 k0
     go_wp2_with (first
      | (go_at_call 193;refine HSc.out.mono ?_;rintro e w2 ⟨rfl,rfl⟩)
      | (go_at_call 192;refine HQ.out.mono ?_;rintro e w3 ⟨rfl,V3,o3,hR3,hE3,hF3⟩;have HR3:=Lib.hid hR3;have HE3:=Lib.hid (HE2.out.trans hE3);have HF3:=Lib.hid hF3;clear hR3 hE3 hF3))
     go_end0
     exact ⟨rfl,V3,o3,HR3.out,HE3.out,HF3.out⟩
end
end Go.Proofs.YtgadhchejmlfjaaGreatDoor.Mac
end
