/- What TopReaches needs ahead of its walk. -/
import Derived.Test.YtgadhchejmlfjaaGreatDoorE7
import Derived.Test.YtgadhchejmlfjaaGreatDoorE6
import Derived.Test.YtgadhchejmlfjaaGreatDoorRnd
set_option linter.unusedVariables false
set_option maxRecDepth 20000
namespace Go.Proofs.YtgadhchejmlfjaaGreatDoor.Top
open Go.RowKit Go.Esc
open Go.Proofs.YtgadhchejmlfjaaGreatDoor.Isa (Laid)
open Go.Proofs.YtgadhchejmlfjaaGreatDoor.Mac
open Go.Proofs.YtgadhchejmlfjaaGreatDoor.Txt (Mx)
theorem rounds_fns:fnsOf (Gnn.roundsQ.map Val.mendF) = roundsP:=by kernel_rfl
theorem rounds_check (w:World) (pb pc:Nat) (hL:Laid w) (hP:Val.PrIn w pb 0 (Gnn.roundsQ.map Val.mendF)):Calls Tryz.prog 40 #[.agg #[.slice (some ⟨pb,0,none⟩) 2 pc]] w fun e w'=>e = .returned (.tuple #[.int .i64 (-1),.int .i64 (-1),.int .i64 0]) ∧ Below w.heap.size w w':=
 Val.pcheck_any pb 0 pc (Gnn.roundsQ.map Val.mendF) w hL hP (by kernel_rfl)
theorem rounds_mach {w1 w:World} {pb pc:Nat} (hB:Below w1.heap.size w1 w) (hL:Laid w1) (hP:Val.PrIn w1 pb 0 (Gnn.roundsQ.map Val.mendF)):Calls Tryz.prog 10 #[.agg #[.slice (some ⟨pb,0,none⟩) 2 pc],.agg #[.int .i64 4,.int .i64 4,.int .i64 4]] w (NewQ (old14 w1.heap.size) w roundsP 4 4 4 (.slice (some ⟨pb,0,none⟩) 2 pc)):=by
 have hO:=old_of (pc:=pc) hB hL (Nat.lt_of_le_of_lt (Nat.zero_le _) hP.1) hP
 rw [rounds_fns] at hO
 exact new_any (old14 w1.heap.size) roundsP pb 0 pc 2 4 4 4 w hO (fun W hB2=>rounds_check W pb pc ((hL.below hB).below hB2) ((hP.below hB).below hB2)) (by decide) (by decide) (by decide)
def drawD (len:Nat) (f:Nat → Nat → Int) (i:Nat):Int:=if len = 0 then 0 else f (i % len) 0
def RcI (wn w1:World) (mb:Nat) (D:Nat → Int) (i:Nat) (hb db:Bool) (wr:World):Prop:=
 ∃ V own s se,Rep mb V own wr s ∧ rM D (3000 - i) i (s,hb,db) = some (se,true,true) ∧ (∀ j,j < wn.heap.size → own j = old14 w1.heap.size j) ∧ Below wn.heap.size wn wr
theorem snap_rows {s:St} {w w':World} {e:Ending} (h:SnapP s w e w') (hg:0 < s.gs.length):∃ b1 c1 b2 c2 a3 m3 c3 a4 m4 c4 a5 m5 c5 a6 m6 c6 a7 m7 c7 a8 m8 c8 a9 m9 c9 a10 m10 c10,e = .returned (.agg #[.int .i64 s.sc.holder,.slice (some ⟨b1,0,none⟩) s.gs.length c1,.slice (some ⟨b2,0,none⟩) s.gs.length c2,.slice a3 m3 c3,.slice a4 m4 c4,.slice a5 m5 c5,.slice a6 m6 c6,.slice a7 m7 c7,.slice a8 m8 c8,.slice a9 m9 c9,.slice a10 m10 c10]) ∧ b1 < w'.heap.size ∧ b2 < w'.heap.size ∧
   (∀ k,k < s.gs.length → w'.cell? ⟨b1,k,none⟩ = some (.int .i64 (s.gs[k]?.getD g0).word) ∧ ∀ r,r < 12 → w'.cell? ⟨b2,k * 12 + r,none⟩ = (thC (s.gs[k]?.getD g0))[r]?) ∧ Below w.heap.size w w':=by
 obtain ⟨a1,c1,a2,c2,v3,v4,v5,v6,v7,v8,v9,v10,rfl,hs,r1,r2,hB⟩:=h
 obtain ⟨a3,m3,c3,rfl⟩:=hs v3 (by simp)
 obtain ⟨a4,m4,c4,rfl⟩:=hs v4 (by simp)
 obtain ⟨a5,m5,c5,rfl⟩:=hs v5 (by simp)
 obtain ⟨a6,m6,c6,rfl⟩:=hs v6 (by simp)
 obtain ⟨a7,m7,c7,rfl⟩:=hs v7 (by simp)
 obtain ⟨a8,m8,c8,rfl⟩:=hs v8 (by simp)
 obtain ⟨a9,m9,c9,rfl⟩:=hs v9 (by simp)
 obtain ⟨a10,m10,c10,rfl⟩:=hs v10 (by simp)
 obtain ⟨b1,d1,cur1,e1,_,hb1,t1⟩:=row_full r1 hg
 obtain ⟨b2,d2,cur2,e2,_,hb2,t2⟩:=row_full r2 hg
 simp only [Value.slice.injEq,true_and] at e1 e2
 obtain ⟨rfl,rfl⟩:=e1
 obtain ⟨rfl,rfl⟩:=e2
 refine ⟨b1,c1,b2,c2,a3,m3,c3,a4,m4,c4,a5,m5,c5,a6,m6,c6,a7,m7,c7,a8,m8,c8,a9,m9,c9,a10,m10,c10,rfl,hb1.lt,hb2.lt,fun k hk=>⟨?_,fun r hr=>?_⟩,hB⟩
 ·have q:=flat_at wdC 1 g0 (fun _=>rfl) s.gs k 0 hk (by decide)
  rw [Nat.mul_one,Nat.add_zero] at q
  rw [hb1.cell,← Array.getElem?_toList,← List.getElem?_take_of_lt (show k < s.gs.length * 1 by omega),t1,q]
  rfl
 ·rw [hb2.cell,← Array.getElem?_toList,← List.getElem?_take_of_lt (show k * 12 + r < s.gs.length * 12 by omega),t2]
  exact flat_at thC 12 g0 (fun _=>rfl) s.gs k r hk hr
theorem RcI.step {wn w1 wr:World} {mb i:Nat} {D:Nat → Int} {hb db:Bool} (h:RcI wn w1 mb D i hb db wr) (hi:i < 3000):∃ s1,(0 < s1.gs.length ∧ (heldB s1 = true → goodB s1 = true)) ∧
  ∀ We,Below wr.heap.size wr We → Calls Tryz.prog 11 #[ptr mb,.agg #[.int .i64 (i:Int),.int .i64 0,.int .i64 (D i)]] We fun e w2=>(∃ x,e = .returned x) ∧ RcI wn w1 mb D (i + 1) (hb || heldB s1) (db || doneB s1) w2 ∧
   Calls Tryz.prog 12 #[ptr mb] w2 (SnapP s1 w2):=by
 obtain ⟨V,own,s,se,hR,hM,ho,hB⟩:=h
 obtain ⟨m,hm⟩:∃ m,3000 - i = m + 1:=⟨3000 - i - 1,by omega⟩
 rw [hm] at hM
 obtain ⟨s1,h1,h2,h3,h4⟩:=rM_round hM
 refine ⟨s1,⟨h2.1,h3⟩,fun We hBe=>((hR.below hBe).step h1).mono ?_⟩
 rintro e w2 ⟨rfl,V2,own2,hR2,hE2,hF2⟩
 have hall:s1.all.length < 1000000:=by have:=h2.2.2.2;omega
 have hB':=below_below hB hBe
 exact ⟨⟨_,rfl⟩,⟨V2,own2,s1,se,hR2,by rw [show 3000 - (i + 1) = m by omega];exact h4,fun j hj=>(hE2.same j (Nat.lt_of_lt_of_le hj hB'.size)).trans (ho j hj),below_ext hB' (fun j hj=>by unfold old14;split;exact .inr rfl;exact .inl rfl) ho hE2⟩,
  hR2.snap h2.1 h2.2.1 h2.2.2.1 hall⟩
theorem RcI.go {wn w1 wr W:World} {mb i:Nat} {D:Nat → Int} {hb db:Bool} (h:RcI wn w1 mb D i hb db wr) (hB2:Below wr.heap.size wr W):RcI wn w1 mb D i hb db W:=by
 obtain ⟨V,own,s,se,hR,hM,ho,hB⟩:=h
 exact ⟨V,own,s,se,hR.below hB2,hM,ho,below_below hB hB2⟩
theorem RcI.last {wn w1 wr:World} {mb:Nat} {D:Nat → Int} {hb db:Bool} (h:RcI wn w1 mb D 3000 hb db wr):hb = true ∧ db = true ∧ Below wn.heap.size wn wr:=by
 obtain ⟨V,own,s,se,hR,hM,ho,hB⟩:=h
 have hM':some (s,hb,db) = some (se,true,true):=hM
 simp only [Option.some.injEq,Prod.mk.injEq] at hM'
 exact ⟨hM'.2.1,hM'.2.2,hB⟩
theorem RcI.start {wn w1 wr:World} {mb:Nat} {D:Nat → Int} {V:Vr} {own:Nat → Nat} (hR:Rep mb V own wr (newG_ roundsP 4 4 4)) (ho:∀ j,j < wn.heap.size → own j = old14 w1.heap.size j) (hB:Below wn.heap.size wn wr):RcI wn w1 mb D 0 false false wr:=by
 obtain ⟨se,hs⟩:=reaches_run D
 rw [rounds_new] at hR
 exact ⟨V,own,_,se,hR,hs,ho,hB⟩
end Go.Proofs.YtgadhchejmlfjaaGreatDoor.Top
