/- gen.Rounds(3). -/
import Derived.Test.YtgadhchejmlfjaaGreatDoorB8
set_option linter.unusedVariables false
set_option maxRecDepth 20000
namespace Go.Proofs.YtgadhchejmlfjaaGreatDoor.Gnn
open Go.RowKit Go.Esc
open Go.Proofs.YtgadhchejmlfjaaGreatDoor.Isa (Laid)
open Go.Proofs.YtgadhchejmlfjaaGreatDoor.Vm (Ins)
open Go.Proofs.YtgadhchejmlfjaaGreatDoor.Val
def roundsI0:List (Int × Int):=[(10,1),(10,1),(10,1),(17,0),(18,0),(14,0)]
def roundsI1:List (Int × Int):=[(0,0),(0,0),(6,1)]
def roundsQ:List (List Ins × List Bool):=[(roundsI0.map insOf,List.replicate 6 false),(roundsI1.map insOf,[false,false,true])]
theorem two_fn {W w':World} {mk base lb lc:Nat} {v x y:Value} {cur:Array Value} {e:Ending} (hM:Blk W mk #[.pointer none,v] 96) (hO:W.ownsRow base 87 2 v 1 [x,y]) (hF:FnR W x y (roundsI0.map insOf) (List.replicate 6 false)) (hl:Blk W lb cur 84) (ht:cur.toList.take (roundsI1.length * 5) = roundsI1.flatMap insC)
  (h:PutP mk 1 roundsI1.length base v (.slice (some ⟨lb,0,none⟩) roundsI1.length lc) [x,y] W e w') :
  ∃ pb pc sb,e = .returned (.tuple #[]) ∧ Blk w' mk #[.pointer none,.slice (some ⟨pb,0,none⟩) 2 pc] 96 ∧ w'.cell? ⟨pb,2,none⟩ = some (.slice (some ⟨lb,0,none⟩) 3 lc) ∧ w'.cell? ⟨pb,3,none⟩ = some (.slice (some ⟨sb,0,none⟩) 3 3) ∧ pb < w'.heap.size ∧ Blk w' sb (bools [false,false,false]) 4 ∧ PrIn (w'.setCell ⟨sb,2,none⟩ (.bool true)) pb 0 roundsQ ∧ KT [96,87] W w' ∧
   Only (fun j=>j = mk ∨ v.ownBlock = some j) W w' ∧ W.heap.size ≤ sb:=by
 obtain ⟨v',y2,rfl,h1,h2,h3,h4,h5,h6,sb,rfl,h7⟩:=put_fn hM hO hl ht h
 obtain ⟨pb,pc,pcur,rfl,hge,hB,hpt⟩:=row_full h2 (by decide)
 have hat:∀ j,j < 4 → w'.cell? ⟨pb,j,none⟩ = [x,y,.slice (some ⟨lb,0,none⟩) roundsI1.length lc,.slice (some ⟨sb,0,none⟩) roundsI1.length roundsI1.length][j]?:=fun j hj=>by
  rw [hB.cell,← Array.getElem?_toList,← List.getElem?_take_of_lt (show j < (1 + 1) * 2 by omega),hpt]
  rfl
 obtain ⟨sb',es,bs⟩:=h3.safe
 simp only [Value.slice.injEq,Option.some.injEq,Addr.mk.injEq,and_true] at es
 obtain ⟨rfl,_,_⟩:=es
 have K4:KT [4] w' (w'.setCell ⟨sb,2,none⟩ (.bool true)):=KT.set bs (by decide) 2 _
 have F0:FnR (w'.setCell ⟨sb,2,none⟩ (.bool true)) x y (roundsI0.map insOf) (List.replicate 6 false):=by
  obtain ⟨⟨cb,cc,e1,ccur,b1,t1⟩,⟨s1,e2,b2⟩⟩:=hF
  exact ⟨⟨cb,cc,e1,ccur,K4.keep (h4.keep b1 (by decide)) (by decide),t1⟩,⟨s1,e2,(h4.keep b2 (by decide)).only (Only.set (S:=fun j=>j = sb) (Only.refl _ _) (.inr rfl) 2 _) (fun (q:s1 = sb)=>by have:=b2.lt;omega)⟩⟩
 have F1:FnR (w'.setCell ⟨sb,2,none⟩ (.bool true)) (.slice (some ⟨lb,0,none⟩) roundsI1.length lc) (.slice (some ⟨sb,0,none⟩) 3 3) (roundsI1.map insOf) [false,false,true]:=by
  obtain ⟨cb,cc,e1,ccur,b1,t1⟩:=h3.code
  exact ⟨⟨cb,cc,e1,ccur,K4.keep b1 (by decide),t1⟩,⟨sb,rfl,bs.set 2 (.bool true)⟩⟩
 have k:=prIn_rows (p:=roundsQ) (K4.row h2 (by decide)) (by decide) (fun i hi=>by
  have hi':i < 2:=hi
  rcases i with _ | _ | i
  ·exact F0
  ·exact F1
  ·omega)
 obtain ⟨pb',pc',ep,_,hP⟩:=k
 simp only [Value.slice.injEq,Option.some.injEq,Addr.mk.injEq,and_true] at ep
 rw [← ep.1] at hP
 exact ⟨pb,pc,sb,rfl,h1,hat 2 (by decide),hat 3 (by decide),hB.lt,bs,hP,h4,h5,h7⟩
structure P1 (w W:World):Prop where
 mkr:Blk W (w.heap.size + 1) #[.pointer none,.slice none 0 0] 96
 res:Blk W w.heap.size #[.slice none 0 0] 26
 bel:Below w.heap.size w W
theorem P1.go {w W W':World} (h:P1 w W) (hB:Below W.heap.size W W'):P1 w W':=⟨h.mkr.below hB h.mkr.lt,h.res.below hB h.res.lt,below_below h.bel hB⟩
theorem P1.start (w:World):P1 w ((w.alloc (.cells #[.slice none 0 0] 26)).alloc (.cells #[.pointer none,.slice none 0 0] 96)):=
 ⟨by have k:=Blk.new (w.alloc (.cells #[.slice none 0 0] 26)) #[.pointer none,.slice none 0 0] 96;simpa using k,(Blk.new w _ 26).below (below_alloc (Below.refl _ _) _) (by simp),below_alloc (below_alloc (Below.refl _ _) _) _⟩
structure P2 (w:World) (base:Nat) (v x y:Value) (W:World):Prop where
 mkr:Blk W (w.heap.size + 1) #[.pointer none,v] 96
 res:Blk W w.heap.size #[.slice none 0 0] 26
 bel:Below w.heap.size w W
 row:W.ownsRow base 87 2 v 1 [x,y]
 fn:FnR W x y (roundsI0.map insOf) (List.replicate 6 false)
 ge:w.heap.size + 1 < base
 le:base ≤ W.heap.size
 ne:v.ownBlock ≠ some (w.heap.size + 1)
theorem FnR.below {w w':World} {x y:Value} {l:List Ins} {sf:List Bool} (h:FnR w x y l sf) (hB:Below w.heap.size w w'):FnR w' x y l sf:=h.kt (T:=[]) (KT.below hB) (by simp) (by simp)
theorem P2.go {w W W':World} {base:Nat} {v x y:Value} (h:P2 w base v x y W) (hB:Below W.heap.size W W'):P2 w base v x y W':=
 ⟨h.mkr.below hB h.mkr.lt,h.res.below hB h.res.lt,below_below h.bel hB,rowv_below h.row hB,FnR.below h.fn hB,h.ge,Nat.le_trans h.le hB.size,h.ne⟩
theorem P1.put {w W W':World} {lb lc:Nat} {cur:Array Value} {e:Ending} (h:P1 w W) (hl:Blk W lb cur 84) (ht:cur.toList.take (roundsI0.length * 5) = roundsI0.flatMap insC)
  (hp:PutP (w.heap.size + 1) 0 roundsI0.length W.heap.size (.slice none 0 0) (.slice (some ⟨lb,0,none⟩) roundsI0.length lc) [] W e W') :
  e = .returned (.tuple #[]) ∧ ∃ vb vc x y,P2 w W.heap.size (.slice (some ⟨vb,0,none⟩) 1 vc) x y W':=by
 obtain ⟨v',y,rfl,h1,h2,h3,h4,h5,h6,sb,rfl,h7⟩:=put_fn h.mkr (World.ownsRow_nil W W.heap.size 87 2) hl ht hp
 obtain ⟨vb,vc,vcur,rfl,hge,_,_⟩:=row_full h2 (by decide)
 have hO:Only (fun j=>j = w.heap.size + 1) W W':=h5.mono (fun j _ hj=>by rcases hj with hj | hj;exact hj;cases hj)
 exact ⟨rfl,vb,vc,_,_,h1,h.res.only hO (fun (q:w.heap.size = w.heap.size + 1)=>by omega),h.bel.trans (hO.toBelow h.bel.size (fun j hj=>by rw [show j = w.heap.size + 1 from hj];omega)),h2,h3,h.mkr.lt,hO.size,h6⟩
structure P3 (w:World) (pb pc sb:Nat) (W:World):Prop where
 mkr:Blk W (w.heap.size + 1) #[.pointer none,.slice (some ⟨pb,0,none⟩) 2 pc] 96
 res:Blk W w.heap.size #[.slice none 0 0] 26
 bel:Below w.heap.size w W
 at3:W.cell? ⟨pb,3,none⟩ = some (.slice (some ⟨sb,0,none⟩) 3 3)
 lt:pb < W.heap.size
 bs:Blk W sb (bools [false,false,false]) 4
 ge:w.heap.size + 1 < sb
 pr:PrIn (W.setCell ⟨sb,2,none⟩ (.bool true)) pb 0 roundsQ
theorem P2.put {w W W':World} {base lb lc:Nat} {v x y:Value} {cur:Array Value} {e:Ending} (h:P2 w base v x y W) (hl:Blk W lb cur 84) (ht:cur.toList.take (roundsI1.length * 5) = roundsI1.flatMap insC)
  (hp:PutP (w.heap.size + 1) 1 roundsI1.length base v (.slice (some ⟨lb,0,none⟩) roundsI1.length lc) [x,y] W e W') :
  e = .returned (.tuple #[]) ∧ ∃ pb pc sb,P3 w pb pc sb W':=by
 obtain ⟨pb,pc,sb,rfl,h1,h2,h3,h4,h5,h6,h7,h8,h9⟩:=two_fn h.mkr h.row h.fn hl ht hp
 have hv:∀ j,v.ownBlock = some j → base ≤ j:=fun j hj=>(World.ownsRow.lt h.row j hj).1
 have hg:=h.ge
 have hsz:=h.le
 have hres:W'.heap[w.heap.size]? = W.heap[w.heap.size]? ∨ True:=.inr trivial
 refine ⟨rfl,pb,pc,sb,h1,h.res.only h8 (fun q=>?_),h.bel.trans (h8.toBelow h.bel.size (fun j hj=>?_)),h3,h4,h5,by omega,h6⟩
 ·rcases q with q | q
  ·omega
  ·have:=hv _ q;omega
 ·rcases hj with hj | hj
  ·omega
  ·have:=hv _ hj;omega
theorem P3.safe {w W:World} {pb pc sb:Nat} (h:P3 w pb pc sb W):Blk (W.setCell ⟨sb,2,none⟩ (.bool true)) (w.heap.size + 1) #[.pointer none,.slice (some ⟨pb,0,none⟩) 2 pc] 96 ∧ Blk (W.setCell ⟨sb,2,none⟩ (.bool true)) w.heap.size #[.slice none 0 0] 26 ∧ Below w.heap.size w (W.setCell ⟨sb,2,none⟩ (.bool true)):=by
 have hO:Only (fun j=>j = sb) W (W.setCell ⟨sb,2,none⟩ (.bool true)):=Only.set (S:=fun j=>j = sb) (Only.refl _ _) (.inr rfl) 2 _
 have hg:=h.ge
 exact ⟨h.mkr.only hO (fun (q:w.heap.size + 1 = sb)=>by omega),h.res.only hO (fun (q:w.heap.size = sb)=>by omega),h.bel.setCell (show w.heap.size ≤ sb by omega) _⟩
set_option maxHeartbeats 8000000 in
theorem rounds_any (w:World) (hL:Laid w):Calls Tryz.prog 9 #[.int .i64 3] w fun e w'=>∃ pb pc,e = .returned (.tuple #[.agg #[.slice (some ⟨pb,0,none⟩) 2 pc],.int .i64 0]) ∧ PrIn w' pb 0 (roundsQ.map mendF) ∧ Below w.heap.size w w':=by
 have H0:=Lib.hid hL
 have HA:=Lib.hid (P1.start w)
 clear hL
 go_enter Tryz.func9,Tryz.ntmps9
 go_wp2_with (first
  | (go_at_call 35;refine (right_any 3 _ (by decide) (by decide)).mono ?_;rintro e w1 ⟨rfl,rfl⟩)
  | (go_at_call 38;refine (op_any _ _ _).mono ?_;rintro e wa ⟨rfl,hB⟩;have HA:=Lib.hid (HA.out.go hB);clear hB)
  | (go_at_call 37;refine (spawns_any 3 wa.heap.size 0 3 3 [(17,0),(18,0),(14,0)] _ (by decide) rfl (by decide) (by simp) (newL wa ([(17,0),(18,0),(14,0)].flatMap insC) 84)).mono ?_;rintro e wb ⟨v,rfl,hr,hB⟩;obtain ⟨lb,lc,cur,rfl,_,hlb,hlt⟩:=row_full hr (by decide);have HA:=Lib.hid ((HA.out.go (below_alloc (Below.refl _ _) _)).go hB);have HL:=Lib.hid (And.intro hlb hlt);clear hr hB hlb hlt)
  | (go_at_call 36;first
    | (have hh:=H2;refine (put_any (w.heap.size + 1) 1 3 (some ⟨vb,0,none⟩) (some ⟨wa.heap.size,0,none⟩) vc 3 wb.heap.size [x,y] _ (HA.out.go (below_alloc (Below.refl _ _) _)).mkr (HA.out.go (below_alloc (Below.refl _ _) _)).row (HA.out.go (below_alloc (Below.refl _ _) _)).le (by decide) (by decide) HA.out.ne).mono ?_;rintro e wd hp;obtain ⟨rfl,pb,pc,sb,h3⟩:=(HA.out.go (below_alloc (Below.refl _ _) _)).put (Blk.new wa _ 84) (by rfl) hp;have q1:=h3.mkr.cell 1;have q3:=h3.at3;have l3:=h3.lt;have q2:=h3.bs.cell 2;have f2:=h3.bs.free 2;have k1:=h3.safe.1.cell 1;have H3:=Lib.hid h3;simp only [List.getElem?_toArray,List.getElem?_cons_zero,List.getElem?_cons_succ] at q1 k1;clear h3 hp hh)
    | (refine (put_any (w.heap.size + 1) 0 6 none (some ⟨lb,0,none⟩) 0 lc wb.heap.size [] wb HA.out.mkr (World.ownsRow_nil _ _ _ _) (Nat.le_refl _) (by decide) (by decide) (by simp [Value.ownBlock])).mono ?_;rintro e wc hp;obtain ⟨rfl,vb,vc,x,y,h2⟩:=HA.out.put HL.out.1 HL.out.2 hp;have H2:=Lib.hid trivial;have HA:=Lib.hid h2;clear h2 hp))
  | (go_at_call 39;refine (mend_out 2 pb pc roundsQ _ rfl (by decide) (H0.out.below H3.out.safe.2.2) H3.out.pr (by decide) (by decide)).mono ?_;rintro e w7 ⟨qb,qc,rfl,hB7,hP7⟩;have hO7:=H3.out.safe.2.1.below hB7 H3.out.safe.2.1.lt;have z0:=hO7.cell 0;have u0:=hO7.free 0;have H7:=Lib.hid (And.intro hB7 (And.intro hP7 hO7));simp only [List.getElem?_toArray,List.getElem?_cons_zero] at z0;clear hB7 hP7 hO7))
 have K7:KT [26] w7 (w7.setCell ⟨w.heap.size,0,none⟩ (.slice (some ⟨qb,0,none⟩) 2 qc)):=KT.set H7.out.2.2 (by decide) 0 _
 have c0:=(H7.out.2.2.set 0 (.slice (some ⟨qb,0,none⟩) 2 qc)).cell 0
 simp only [List.setIfInBounds_toArray,List.set_cons_zero,List.getElem?_toArray,List.getElem?_cons_zero] at c0
 exact bodyPost_ret (v:=.tuple #[.agg #[.slice (some ⟨qb,0,none⟩) 2 qc],.int .i64 0]) (by simp [results,Tryz.results9,go_sem,c0]) rfl ⟨qb,qc,rfl,H7.out.2.1 _ K7,((H3.out.safe.2.2.trans (H7.out.1.mono H3.out.safe.2.2.size)).setCell (Nat.le_refl _) _)⟩
end Go.Proofs.YtgadhchejmlfjaaGreatDoor.Gnn
