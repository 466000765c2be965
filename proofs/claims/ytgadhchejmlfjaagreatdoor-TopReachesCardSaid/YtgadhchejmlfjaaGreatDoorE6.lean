/- Parts of the proof of TopReaches. -/
import Derived.Test.YtgadhchejmlfjaaGreatDoorK
import Derived.Test.YtgadhchejmlfjaaGreatDoorD3
import Derived.Test.YtgadhchejmlfjaaGreatDoorB7
import Derived.Deep.CutRange
set_option linter.unusedVariables false
set_option maxRecDepth 20000
section
namespace Go.Proofs.YtgadhchejmlfjaaGreatDoor.Mac
open Go.RowKit Go.Esc
def snE (i:Nat):TypeId:=if i = 2 then 50 else if i = 9 then 4 else 3
def snZ (i:Nat):Nat:=if i = 2 then 12 else 1
theorem snE_ne (i:Nat):snE i ≠ 45:=by
 unfold snE
 split
 ·decide
 ·split <;> decide
def up {α:Type} (f:Nat → α) (i:Nat) (x:α):Nat → α:=fun j=>if j = i then x else f j
theorem up_same {α:Type} (f:Nat → α) (i:Nat) (x:α):up f i x i = x:=if_pos rfl
theorem up_other {α:Type} (f:Nat → α) {i j:Nat} (x:α) (h:j ≠ i):up f i x j = f j:=if_neg h
def snC (hv:Int) (v:Nat → Value):Array Value:=#[.int .i64 hv,v 1,v 2,v 3,v 4,.slice none 0 0,v 6,v 7,v 8,v 9,.slice none 0 0]
def snI (i:Nat):Prop:=i = 1 ∨ i = 2 ∨ i = 3 ∨ i = 4 ∨ i = 6 ∨ i = 7 ∨ i = 8 ∨ i = 9
theorem snC_set (hv:Int) (v:Nat → Value) (i:Nat) (x:Value) (hi:snI i):(snC hv v).setIfInBounds i x = snC hv (up v i x):=by
 rcases hi with rfl | rfl | rfl | rfl | rfl | rfl | rfl | rfl <;> simp [snC,up]
theorem snC_at (hv:Int) (v:Nat → Value) (i:Nat) (hi:snI i):(snC hv v)[i]? = some (v i):=by
 rcases hi with rfl | rfl | rfl | rfl | rfl | rfl | rfl | rfl <;> simp [snC]
structure SnS (w0:World) (sb:Nat) (hv:Int) (v:Nat → Value) (n:Nat → Nat) (X:Nat → List Value) (W:World):Prop where
 below:Below w0.heap.size w0 W
 hi:w0.heap.size ≤ sb
 blk:Blk W sb (snC hv v) 45
 row:∀ i,W.ownsRow w0.heap.size (snE i) (snZ i) (v i) (n i) (X i)
 apart:∀ i j b,i ≠ j → (v i).ownBlock = some b → (v j).ownBlock ≠ some b
theorem SnS.out {w0:World} {sb:Nat} {hv:Int} {v:Nat → Value} {n:Nat → Nat} {X:Nat → List Value} {W:World} (h:SnS w0 sb hv v n X W) (i:Nat):(v i).ownBlock ≠ some sb:=fun e=>by
 obtain ⟨cs,hcs⟩:=row_type (h.row i) e
 exact snE_ne i (blk_type hcs h.blk)
theorem SnS.go {w0:World} {sb:Nat} {hv:Int} {v:Nat → Value} {n:Nat → Nat} {X:Nat → List Value} {W W':World} (h:SnS w0 sb hv v n X W) (hB:Below W.heap.size W W'):SnS w0 sb hv v n X W':=
 ⟨h.below.trans (hB.mono h.below.size),h.hi,h.blk.below hB h.blk.lt,fun i=>rowv_below (h.row i) hB,h.apart⟩
theorem SnS.slice {w0:World} {sb:Nat} {hv:Int} {v:Nat → Value} {n:Nat → Nat} {X:Nat → List Value} {W:World} (h:SnS w0 sb hv v n X W) (i:Nat):∃ a c,v i = .slice a (n i) c:=row_slice (h.row i)
theorem SnS.at_ {w0:World} {sb:Nat} {hv:Int} {v:Nat → Value} {n:Nat → Nat} {X:Nat → List Value} {W:World} (h:SnS w0 sb hv v n X W) {i:Nat} (hi:snI i):W.cell? ⟨sb,i,none⟩ = some (v i):=(h.blk.cell i).trans (snC_at hv v i hi)
theorem SnS.mid {w0:World} {sb:Nat} {hv:Int} {v:Nat → Value} {n:Nat → Nat} {X:Nat → List Value} {W w3:World} (h:SnS w0 sb hv v n X W) {i:Nat} {ys:List Value} {v':Value} (hA:AppdV W w0.heap.size (snE i) (snZ i) (v i) (n i) (X i) ys v' w3) :
  Blk w3 sb (snC hv v) 45:=
 h.blk.only (Only.grown (S:=fun j=>(v i).ownBlock = some j) (Only.refl _ W) hA.2.1 (fun j hj=>.inr hj)) (h.out i)
theorem SnS.app {w0:World} {sb:Nat} {hv:Int} {v:Nat → Value} {n:Nat → Nat} {X:Nat → List Value} {W w3:World} (h:SnS w0 sb hv v n X W) {i:Nat} (hi:snI i) {ys:List Value} {v':Value} (hA:AppdV W w0.heap.size (snE i) (snZ i) (v i) (n i) (X i) ys v' w3) :
  SnS w0 sb hv (up v i v') (up n i (n i + 1)) (up X i (X i ++ ys)) (w3.setCell ⟨sb,i,none⟩ v'):=by
 have oG:Only (fun j=>(v i).ownBlock = some j) W w3:=Only.grown (Only.refl _ W) hA.2.1 (fun j hj=>.inr hj)
 have oS:Only (fun j=>j = sb) w3 (w3.setCell ⟨sb,i,none⟩ v'):=Only.set (S:=fun j=>j = sb) (Only.refl _ w3) (.inr rfl) i v'
 have hb3:=h.mid hA
 have hlt:=h.blk.lt
 have hv':v'.ownBlock ≠ some sb:=fun e=>by
  rcases hA.2.2 sb e with h1 | h1
  ·exact h.out i h1
  ·omega
 refine ⟨(below_grown h.below hA.2.1 (fun j hj=>(World.ownsRow.lt (h.row i) j hj).1)).setCell h.hi _,h.hi,?_,fun j=>?_,fun a c b hac ha hc=>?_⟩
 ·rw [← snC_set hv v i v' hi];exact hb3.set i v'
 ·by_cases hj:j = i
  ·subst hj
   rw [up_same,up_same,up_same]
   exact rowv_off hA.1 oS (fun k hk e=>hv' (by rw [hk,show k = sb from e]))
  ·rw [up_other _ _ hj,up_other _ _ hj,up_other _ _ hj]
   exact rowv_off (rowv_off (h.row j) oG (fun k hk e=>h.apart j i k hj hk e)) oS (fun k hk e=>h.out j (by rw [hk,show k = sb from e]))
 ·by_cases h1:a = i
  ·subst h1
   rw [up_same] at ha
   rw [up_other _ _ (Ne.symm hac)] at hc
   rcases hA.2.2 b ha with h2 | h2
   ·exact h.apart a c b hac h2 hc
   ·have:=(World.ownsRow.lt (h.row c) b hc).2;omega
  ·rw [up_other _ _ h1] at ha
   by_cases h2:c = i
   ·subst h2
    rw [up_same] at hc
    rcases hA.2.2 b hc with h3 | h3
    ·exact h.apart a c b hac ha h3
    ·have:=(World.ownsRow.lt (h.row a) b ha).2;omega
   ·rw [up_other _ _ h2] at hc
    exact h.apart a c b hac ha hc
theorem SnS.new (w:World) (hv:Int):SnS w w.heap.size hv (fun _=>.slice none 0 0) (fun _=>0) (fun _=>[]) (w.alloc (.cells (snC hv fun _=>.slice none 0 0) 45)):=
 ⟨below_alloc (Below.refl _ _) _,Nat.le_refl _,Blk.new w _ 45,fun i=>World.ownsRow_nil _ _ _ _,fun i j b _ h=>by cases h⟩
theorem SnS.step {w0:World} {sb:Nat} {hv:Int} {v:Nat → Value} {n:Nat → Nat} {X:Nat → List Value} {W:World} (h:SnS w0 sb hv v n X W) (i:Nat) (e:TypeId) (z:Nat) (hi:snI i) (he:snE i = e) (hz:snZ i = z) :
  ∃ a c,(∀ W',Below W.heap.size W W' → W'.cell? ⟨sb,i,none⟩ = some (.slice a (n i) c)) ∧ (∀ W',Below W.heap.size W W' → W'.ownsRow w0.heap.size e z (.slice a (n i) c) (n i) (X i)) ∧ (∀ W',Below W.heap.size W W' → w0.heap.size ≤ W'.heap.size) ∧
   ∀ (W':World) (ys:List Value) (v':Value) (w3:World),Below W.heap.size W W' → AppdV W' w0.heap.size e z (.slice a (n i) c) (n i) (X i) ys v' w3 →
    (Below w0.heap.size w0 w3 ∧ (∀ W2,Below w3.heap.size w3 W2 → W2.cell? ⟨sb,i,none⟩ = some (.slice a (n i) c)) ∧ (w3.frozen? ⟨sb,i,none⟩ = false)) ∧ SnS w0 sb hv (up v i v') (up n i (n i + 1)) (up X i (X i ++ ys)) (w3.setCell ⟨sb,i,none⟩ v'):=by
 subst he hz
 obtain ⟨a,c,hs⟩:=h.slice i
 refine ⟨a,c,fun W' hB=>?_,fun W' hB=>?_,fun W' hB=>(h.go hB).below.size,fun W' ys v' w3 hB hA=>?_⟩
 ·rw [← hs];exact (h.go hB).at_ hi
 ·rw [← hs];exact (h.go hB).row i
 ·rw [← hs] at hA
  have hm:=(h.go hB).mid hA
  refine ⟨⟨below_grown (h.go hB).below hA.2.1 (fun j hj=>(World.ownsRow.lt (h.row i) j hj).1),fun W2 hW=>?_,hm.free i⟩,(h.go hB).app hi hA⟩
  rw [← hs]
  exact ((hm.below hW hm.lt).cell i).trans (snC_at hv v i hi)
theorem up_le {n:Nat → Nat} {i m:Nat} (h:∀ j,n j ≤ m):∀ j,up n i (n i + 1) j ≤ m + 1:=fun j=>by
 have h1:=h i
 have h2:=h j
 unfold up
 split <;> omega
def thC (x:G):List Value:=[.int .i64 x.fn,.int .i64 x.pc,.int .i64 (rg x 0),.int .i64 (rg x 1),.int .i64 (rg x 2),.int .i64 (rg x 3),.int .i64 (rg x 4),.int .i64 (rg x 5),.int .i64 (rg x 6),.int .i64 (rg x 7),.slice none 0 0,.bool x.done]
def wdC (x:G):List Value:=[.int .i64 x.word]
def SnapP (s:St) (w:World) (e:Ending) (w':World):Prop:=
 ∃ a1 c1 a2 c2 v3 v4 v5 v6 v7 v8 v9 v10,e = .returned (.agg #[.int .i64 s.sc.holder,.slice a1 s.gs.length c1,.slice a2 s.gs.length c2,v3,v4,v5,v6,v7,v8,v9,v10]) ∧
  (∀ v ∈ [v3,v4,v5,v6,v7,v8,v9,v10],∃ a n c,v = Value.slice a n c) ∧ w'.ownsRow w.heap.size 3 1 (.slice a1 s.gs.length c1) s.gs.length (s.gs.flatMap wdC) ∧ w'.ownsRow w.heap.size 50 12 (.slice a2 s.gs.length c2) s.gs.length (s.gs.flatMap thC) ∧ Below w.heap.size w w'
end Go.Proofs.YtgadhchejmlfjaaGreatDoor.Mac
end
section
namespace Go.Proofs.YtgadhchejmlfjaaGreatDoor.Mac
open Go.RowKit Go.Esc
theorem info3:(Tryz.prog.info? 3).map (fun i=>(i.zero,i.size,i.bytes)) = some (some (.int .i64 0),1,8):=by kernel_rfl
theorem info50:(Tryz.prog.info? 50).map (fun i=>(i.zero,i.size,i.bytes)) = some (some (.agg #[.int .i64 0,.int .i64 0,.int .i64 0,.int .i64 0,.int .i64 0,.int .i64 0,.int .i64 0,.int .i64 0,.int .i64 0,.int .i64 0,.slice none 0 0,.bool false]),12,112):=by kernel_rfl
theorem neq_gp (W:World) {gp:Value} {hb:Bool} (h:(hb = false ∧ gp = .pointer none) ∨ (hb = true ∧ ∃ b:Nat,gp = .pointer (some ⟨b,0,none⟩))):(binOp .neq 119 gp (.pointer none)).run Tryz.prog W = .ok (.bool hb) W:=by
 rcases h with ⟨rfl,rfl⟩ | ⟨rfl,b,rfl⟩
 ·kernel_rfl
 ·rfl
theorem neq_gd (W:World) (x y:Operand) {gp:Value} {hb:Bool} (h:(hb = false ∧ gp = .pointer none) ∨ (hb = true ∧ ∃ b:Nat,gp = .pointer (some ⟨b,0,none⟩))):(eqGuard .neq 119 x y gp (.pointer none)).run Tryz.prog W = .ok () W:=by
 rcases h with ⟨rfl,rfl⟩ | ⟨rfl,b,rfl⟩ <;> simp [eqGuard]
theorem newL (w:World) (l:List Value) (t:TypeId):∀ (j:Nat) (u:Value),l[j]? = some u → (w.alloc (.cells l.toArray t)).cell? ((⟨w.heap.size,0,none⟩:Addr).add j) = some u:=by
 have h:=Blk.new w l.toArray t
 intro j u hu
 rw [show ((⟨w.heap.size,0,none⟩:Addr).add j) = ⟨w.heap.size,j,none⟩ from by rw [Go.WideShapes.add_plain,Nat.zero_add]]
 rw [h.cell j,← hu]
 simp
theorem blA {wa W:World} (h:Below wa.heap.size wa W) (o:Obj):Below wa.heap.size wa (W.alloc o):=h.alloc h.size o
theorem SnS.hold {w0:World} {sb:Nat} {hv hv':Int} {v:Nat → Value} {n:Nat → Nat} {X:Nat → List Value} {W:World} (h:SnS w0 sb hv v n X W):SnS w0 sb hv' v n X (W.setCell ⟨sb,0,none⟩ (.int .i64 hv')):=by
 have oS:Only (fun j=>j = sb) W (W.setCell ⟨sb,0,none⟩ (.int .i64 hv')):=Only.set (S:=fun j=>j = sb) (Only.refl _ W) (.inr rfl) 0 _
 exact ⟨h.below.setCell h.hi _,h.hi,h.blk.set 0 (.int .i64 hv'),fun i=>rowv_off (h.row i) oS (fun k hk e=>h.out i (by rw [hk,show k = sb from e])),h.apart⟩
theorem take_flat {α:Type} (l:List α) (f:α → List Value) (k:Nat) (x:α) (h:l[k]? = some x):(l.take (k + 1)).flatMap f = (l.take k).flatMap f ++ f x:=by
 rw [List.take_add_one,h,Option.toList_some,List.flatMap_append,List.flatMap_cons,List.flatMap_nil,List.append_nil]
structure SnL (w:World) (s:St) (g B:Nat) (v:Nat → Value) (n:Nat → Nat) (X:Nat → List Value) (W:World):Prop where
 sn:SnS w w.heap.size s.sc.holder v n X W
 n1:n 1 = g
 n2:n 2 = g
 x1:X 1 = (s.gs.take g).flatMap wdC
 x2:X 2 = (s.gs.take g).flatMap thC
 le:∀ j,n j ≤ B
theorem SnL.three {w:World} {s:St} {g B:Nat} {v v':Nat → Value} {n n1 n2 n3:Nat → Nat} {X X1 X2 X3:Nat → List Value} {W W':World} {i1 i2 i3 m1 m2 m3:Nat} {y1 y2 y3:List Value} (h:SnL w s g B v n X W) (h1:n1 = up n i1 m1 ∧ X1 = up X i1 y1) (h2:n2 = up n1 i2 m2 ∧ X2 = up X1 i2 y2) (h3:n3 = up n2 i3 m3 ∧ X3 = up X2 i3 y3)
  (g1:2 < i1) (g2:2 < i2) (g3:2 < i3) (hs:SnS w w.heap.size s.sc.holder v' n3 X3 W') {B':Nat} (hle:∀ j,n3 j ≤ B'):SnL w s g B' v' n3 X3 W':=by
 obtain ⟨a1,b1⟩:=h1;obtain ⟨a2,b2⟩:=h2;obtain ⟨a3,b3⟩:=h3
 refine ⟨hs,?_,?_,?_,?_,hle⟩
 ·rw [a3,up_other _ _ (by omega),a2,up_other _ _ (by omega),a1,up_other _ _ (by omega)];exact h.n1
 ·rw [a3,up_other _ _ (by omega),a2,up_other _ _ (by omega),a1,up_other _ _ (by omega)];exact h.n2
 ·rw [b3,up_other _ _ (by omega),b2,up_other _ _ (by omega),b1,up_other _ _ (by omega)];exact h.x1
 ·rw [b3,up_other _ _ (by omega),b2,up_other _ _ (by omega),b1,up_other _ _ (by omega)];exact h.x2
theorem snap_set {W:World} {b:Nat} {hv:Int} {v:Nat → Value} {q l:Value} (h:Blk W b (snC hv v) 45):Blk ((W.setCell ⟨b,5,none⟩ q).setCell ⟨b,10,none⟩ l) b #[.int .i64 hv,v 1,v 2,v 3,v 4,q,v 6,v 7,v 8,v 9,l] 45:=(h.set 5 q).set 10 l
theorem snap_only {W:World} {b:Nat} {q l:Value}:Only (fun j=>j = b) W ((W.setCell ⟨b,5,none⟩ q).setCell ⟨b,10,none⟩ l):=Only.set (Only.set (S:=fun j=>j = b) (Only.refl _ W) (.inr rfl) 5 q) (.inr rfl) 10 l
theorem same11 {W:World} {b:Nat} {x0 x1 x2 x3 x4 x5 x6 x7 x8 x9 x10:Value} {t:TypeId} (h:Blk W b #[x0,x1,x2,x3,x4,x5,x6,x7,x8,x9,x10] t):Blk (World.setCell (World.setCell (World.setCell (World.setCell (World.setCell (World.setCell (World.setCell (World.setCell (World.setCell (World.setCell (World.setCell W ⟨b,0,none⟩ x0) ⟨b,1,none⟩ x1) ⟨b,2,none⟩ x2) ⟨b,3,none⟩ x3) ⟨b,4,none⟩ x4) ⟨b,5,none⟩ x5) ⟨b,6,none⟩ x6) ⟨b,7,none⟩ x7) ⟨b,8,none⟩ x8) ⟨b,9,none⟩ x9) ⟨b,10,none⟩ x10) b #[x0,x1,x2,x3,x4,x5,x6,x7,x8,x9,x10] t:=by
 have h1:Blk (World.setCell W ⟨b,0,none⟩ x0) b #[x0,x1,x2,x3,x4,x5,x6,x7,x8,x9,x10] t:=h.set 0 x0
 have h2:Blk (World.setCell (World.setCell W ⟨b,0,none⟩ x0) ⟨b,1,none⟩ x1) b #[x0,x1,x2,x3,x4,x5,x6,x7,x8,x9,x10] t:=h1.set 1 x1
 have h3:Blk (World.setCell (World.setCell (World.setCell W ⟨b,0,none⟩ x0) ⟨b,1,none⟩ x1) ⟨b,2,none⟩ x2) b #[x0,x1,x2,x3,x4,x5,x6,x7,x8,x9,x10] t:=h2.set 2 x2
 have h4:Blk (World.setCell (World.setCell (World.setCell (World.setCell W ⟨b,0,none⟩ x0) ⟨b,1,none⟩ x1) ⟨b,2,none⟩ x2) ⟨b,3,none⟩ x3) b #[x0,x1,x2,x3,x4,x5,x6,x7,x8,x9,x10] t:=h3.set 3 x3
 have h5:Blk (World.setCell (World.setCell (World.setCell (World.setCell (World.setCell W ⟨b,0,none⟩ x0) ⟨b,1,none⟩ x1) ⟨b,2,none⟩ x2) ⟨b,3,none⟩ x3) ⟨b,4,none⟩ x4) b #[x0,x1,x2,x3,x4,x5,x6,x7,x8,x9,x10] t:=h4.set 4 x4
 have h6:Blk (World.setCell (World.setCell (World.setCell (World.setCell (World.setCell (World.setCell W ⟨b,0,none⟩ x0) ⟨b,1,none⟩ x1) ⟨b,2,none⟩ x2) ⟨b,3,none⟩ x3) ⟨b,4,none⟩ x4) ⟨b,5,none⟩ x5) b #[x0,x1,x2,x3,x4,x5,x6,x7,x8,x9,x10] t:=h5.set 5 x5
 have h7:Blk (World.setCell (World.setCell (World.setCell (World.setCell (World.setCell (World.setCell (World.setCell W ⟨b,0,none⟩ x0) ⟨b,1,none⟩ x1) ⟨b,2,none⟩ x2) ⟨b,3,none⟩ x3) ⟨b,4,none⟩ x4) ⟨b,5,none⟩ x5) ⟨b,6,none⟩ x6) b #[x0,x1,x2,x3,x4,x5,x6,x7,x8,x9,x10] t:=h6.set 6 x6
 have h8:Blk (World.setCell (World.setCell (World.setCell (World.setCell (World.setCell (World.setCell (World.setCell (World.setCell W ⟨b,0,none⟩ x0) ⟨b,1,none⟩ x1) ⟨b,2,none⟩ x2) ⟨b,3,none⟩ x3) ⟨b,4,none⟩ x4) ⟨b,5,none⟩ x5) ⟨b,6,none⟩ x6) ⟨b,7,none⟩ x7) b #[x0,x1,x2,x3,x4,x5,x6,x7,x8,x9,x10] t:=h7.set 7 x7
 have h9:Blk (World.setCell (World.setCell (World.setCell (World.setCell (World.setCell (World.setCell (World.setCell (World.setCell (World.setCell W ⟨b,0,none⟩ x0) ⟨b,1,none⟩ x1) ⟨b,2,none⟩ x2) ⟨b,3,none⟩ x3) ⟨b,4,none⟩ x4) ⟨b,5,none⟩ x5) ⟨b,6,none⟩ x6) ⟨b,7,none⟩ x7) ⟨b,8,none⟩ x8) b #[x0,x1,x2,x3,x4,x5,x6,x7,x8,x9,x10] t:=h8.set 8 x8
 have h10:Blk (World.setCell (World.setCell (World.setCell (World.setCell (World.setCell (World.setCell (World.setCell (World.setCell (World.setCell (World.setCell W ⟨b,0,none⟩ x0) ⟨b,1,none⟩ x1) ⟨b,2,none⟩ x2) ⟨b,3,none⟩ x3) ⟨b,4,none⟩ x4) ⟨b,5,none⟩ x5) ⟨b,6,none⟩ x6) ⟨b,7,none⟩ x7) ⟨b,8,none⟩ x8) ⟨b,9,none⟩ x9) b #[x0,x1,x2,x3,x4,x5,x6,x7,x8,x9,x10] t:=h9.set 9 x9
 have h11:Blk (World.setCell (World.setCell (World.setCell (World.setCell (World.setCell (World.setCell (World.setCell (World.setCell (World.setCell (World.setCell (World.setCell W ⟨b,0,none⟩ x0) ⟨b,1,none⟩ x1) ⟨b,2,none⟩ x2) ⟨b,3,none⟩ x3) ⟨b,4,none⟩ x4) ⟨b,5,none⟩ x5) ⟨b,6,none⟩ x6) ⟨b,7,none⟩ x7) ⟨b,8,none⟩ x8) ⟨b,9,none⟩ x9) ⟨b,10,none⟩ x10) b #[x0,x1,x2,x3,x4,x5,x6,x7,x8,x9,x10] t:=h10.set 10 x10
 exact h11
theorem only11 {W:World} {b:Nat} {x0 x1 x2 x3 x4 x5 x6 x7 x8 x9 x10:Value}:Only (fun j=>j = b) W (World.setCell (World.setCell (World.setCell (World.setCell (World.setCell (World.setCell (World.setCell (World.setCell (World.setCell (World.setCell (World.setCell W ⟨b,0,none⟩ x0) ⟨b,1,none⟩ x1) ⟨b,2,none⟩ x2) ⟨b,3,none⟩ x3) ⟨b,4,none⟩ x4) ⟨b,5,none⟩ x5) ⟨b,6,none⟩ x6) ⟨b,7,none⟩ x7) ⟨b,8,none⟩ x8) ⟨b,9,none⟩ x9) ⟨b,10,none⟩ x10):=(Only.set (S:=fun j=>j = b) (Only.set (S:=fun j=>j = b) (Only.set (S:=fun j=>j = b) (Only.set (S:=fun j=>j = b) (Only.set (S:=fun j=>j = b) (Only.set (S:=fun j=>j = b) (Only.set (S:=fun j=>j = b) (Only.set (S:=fun j=>j = b) (Only.set (S:=fun j=>j = b) (Only.set (S:=fun j=>j = b) (Only.set (S:=fun j=>j = b) (Only.refl _ W) (.inr rfl) 0 x0) (.inr rfl) 1 x1) (.inr rfl) 2 x2) (.inr rfl) 3 x3) (.inr rfl) 4 x4) (.inr rfl) 5 x5) (.inr rfl) 6 x6) (.inr rfl) 7 x7) (.inr rfl) 8 x8) (.inr rfl) 9 x9) (.inr rfl) 10 x10)
theorem snap_end {w w7:World} {s:St} {g B:Nat} {v:Nat → Value} {n:Nat → Nat} {X:Nat → List Value} (h:SnL w s g B v n X w7) (hg:s.gs.length = g) (q l:Value) :
  ∃ a1 c1 a2 c2 a3 m3 c3 a4 m4 c4 a6 m6 c6 a7 m7 c7 a8 m8 c8 a9 m9 c9,Blk ((w7.setCell ⟨w.heap.size,5,none⟩ q).setCell ⟨w.heap.size,10,none⟩ l) w.heap.size #[.int .i64 s.sc.holder,.slice a1 g c1,.slice a2 g c2,.slice a3 m3 c3,.slice a4 m4 c4,q,.slice a6 m6 c6,.slice a7 m7 c7,.slice a8 m8 c8,.slice a9 m9 c9,l] 45 ∧
   World.ownsRow ((w7.setCell ⟨w.heap.size,5,none⟩ q).setCell ⟨w.heap.size,10,none⟩ l) w.heap.size 3 1 (.slice a1 g c1) g (s.gs.flatMap wdC) ∧ World.ownsRow ((w7.setCell ⟨w.heap.size,5,none⟩ q).setCell ⟨w.heap.size,10,none⟩ l) w.heap.size 50 12 (.slice a2 g c2) g (s.gs.flatMap thC) ∧
   (∀ j,(Value.slice a1 g c1).ownBlock = some j → j ≠ w.heap.size) ∧ (∀ j,(Value.slice a2 g c2).ownBlock = some j → j ≠ w.heap.size) ∧ Below w.heap.size w ((w7.setCell ⟨w.heap.size,5,none⟩ q).setCell ⟨w.heap.size,10,none⟩ l):=by
 have hb:=snap_set (q:=q) (l:=l) h.sn.blk
 have ho:=snap_only (W:=w7) (b:=w.heap.size) (q:=q) (l:=l)
 have r1:=rowv_off (h.sn.row 1) ho (fun k hk e=>h.sn.out 1 (by rw [hk,show k = w.heap.size from e]))
 have r2:=rowv_off (h.sn.row 2) ho (fun k hk e=>h.sn.out 2 (by rw [hk,show k = w.heap.size from e]))
 have u1:=h.sn.out 1
 have u2:=h.sn.out 2
 obtain ⟨a1,c1,e1⟩:=h.sn.slice 1
 obtain ⟨a2,c2,e2⟩:=h.sn.slice 2
 obtain ⟨a3,c3,e3⟩:=h.sn.slice 3
 obtain ⟨a4,c4,e4⟩:=h.sn.slice 4
 obtain ⟨a6,c6,e6⟩:=h.sn.slice 6
 obtain ⟨a7,c7,e7⟩:=h.sn.slice 7
 obtain ⟨a8,c8,e8⟩:=h.sn.slice 8
 obtain ⟨a9,c9,e9⟩:=h.sn.slice 9
 rw [h.n1] at e1 r1
 rw [h.n2] at e2 r2
 rw [e1] at u1 r1
 rw [e2] at u2 r2
 rw [e1,e2,e3,e4,e6,e7,e8,e9] at hb
 have ht:s.gs.take g = s.gs:=List.take_of_length_le (by omega)
 rw [h.x1,ht] at r1
 rw [h.x2,ht] at r2
 exact ⟨a1,c1,a2,c2,a3,_,c3,a4,_,c4,a6,_,c6,a7,_,c7,a8,_,c8,a9,_,c9,hb,r1,r2,fun j hj e=>u1 (e ▸ hj),fun j hj e=>u2 (e ▸ hj),(h.sn.below.setCell (Nat.le_refl _) _).setCell (Nat.le_refl _) _⟩
theorem sl8 {a3 a4 a5 a6 a7 a8 a9 a10:Option Addr} {m3 m4 m5 m6 m7 m8 m9 m10 c3 c4 c5 c6 c7 c8 c9 c10:Nat}:∀ v ∈ [Value.slice a3 m3 c3,.slice a4 m4 c4,.slice a5 m5 c5,.slice a6 m6 c6,.slice a7 m7 c7,.slice a8 m8 c8,.slice a9 m9 c9,.slice a10 m10 c10],∃ a n c,v = Value.slice a n c:=by
 intro v hv
 simp only [List.mem_cons,List.not_mem_nil,or_false] at hv
 rcases hv with rfl | rfl | rfl | rfl | rfl | rfl | rfl | rfl <;> exact ⟨_,_,_,rfl⟩
theorem snapP_intro {w W:World} {s:St} {k:Nat} {hd:Int} {a1 a2:Option Addr} {c1 c2:Nat} {v3 v4 v5 v6 v7 v8 v9 v10:Value} (hg:s.gs.length = k) (hhd:s.sc.holder = hd) (r1:W.ownsRow w.heap.size 3 1 (.slice a1 k c1) k (s.gs.flatMap wdC)) (r2:W.ownsRow w.heap.size 50 12 (.slice a2 k c2) k (s.gs.flatMap thC)) (hB:Below w.heap.size w W) (hs:∀ v ∈ [v3,v4,v5,v6,v7,v8,v9,v10],∃ a n c,v = Value.slice a n c) :
  SnapP s w (.returned (.agg #[.int .i64 hd,.slice a1 k c1,.slice a2 k c2,v3,v4,v5,v6,v7,v8,v9,v10])) W:=by
 unfold SnapP
 rw [hg,hhd]
 exact ⟨a1,c1,a2,c2,_,_,_,_,_,_,_,_,rfl,hs,r1,r2,hB⟩
section
variable {mb:Nat} {V:Vr} {own:Nat → Nat} {w:World} {s:St}
set_option maxHeartbeats 16000000 in
theorem Rep.snap (h:Rep mb V own w s) (hg:0 < s.gs.length) (hm:0 < s.ms.length) (ha:s.rings.length ≤ s.asked.length) (hall:s.all.length < 1000000):Calls Tryz.prog 12 #[ptr mb] w (SnapP s w):=by
 have HR:Hid (∀ W,Below w.heap.size w W → Rep mb V own W s):=fun W hW=>h.below hW
 have HLim:=Lib.hid h.lim
 have HAll:=Lib.hid hall
 obtain ⟨gg,gcap,hgv,_⟩:=h.grow hg
 have HGr:Hid (∀ (k:Nat) (W:World),k < s.gs.length → Below w.heap.size w W → W.cell? ⟨gg,k,none⟩ = some (ptr (V.gb k)) ∧ gg < W.heap.size):=fun k W hk hW=>by
  obtain ⟨g',c',e,h1,h2,_⟩:=(h.below hW).grow hk
  rw [hgv] at e
  simp only [Value.slice.injEq,Option.some.injEq,Addr.mk.injEq,and_true,true_and] at e
  rw [e.1];exact ⟨h1,h2⟩
 obtain ⟨mg,mcap,hmv,_⟩:=h.mrow hm
 have HMr:Hid (∀ (k:Nat) (W:World),k < s.ms.length → Below w.heap.size w W → W.cell? ⟨mg,k,none⟩ = some (ptr (V.xb k)) ∧ mg < W.heap.size):=fun k W hk hW=>by
  obtain ⟨g',c',e,h1,h2,_⟩:=(h.below hW).mrow hk
  rw [hmv] at e
  simp only [Value.slice.injEq,Option.some.injEq,Addr.mk.injEq,and_true,true_and] at e
  rw [e.1];exact ⟨h1,h2⟩
 obtain ⟨⟨ag,acap,acs,hav,hab,ha1,ha2,ha3,ha4,ha5⟩,_⟩:=h.askr (by decide)
 have HAk:Hid (∀ (k:Nat) (W:World),k < s.asked.length → Below w.heap.size w W → W.cell? ⟨ag,k * 3 + 2,none⟩ = some (.int .i64 (s.asked[k]?.getD p0).count)):=fun k W hk hW=>by
  have hb:=hab.below hW hab.lt
  rw [hb.cell,← Array.getElem?_toList,← List.getElem?_take_of_lt (show k * 3 + 2 < s.asked.length * 3 by omega),ha5]
  exact (askc_at s.asked k hk).2.2
 have HAs:=Lib.hid ha
 have Hgv:=Lib.hid hgv
 have Hmv:=Lib.hid hmv
 have Hav:=Lib.hid hav
 have lm:=h.mlt
 have n0m:¬ w.heap.size = mb:=by omega
 have HH:=Lib.hid h
 have hold:=h.hold
 clear h ha hall hgv hmv hav hab ha1 ha2 ha3 ha4 ha5
 have HGL:=Lib.hid hg
 have HML:=Lib.hid hm
 clear hg hm
 generalize hng:s.gs.length = ng at *
 generalize hnp:s.rings.length = np at *
 generalize hnm:s.ms.length = nm at *
 generalize hna:s.asked.length = na at *
 have HNG:=Lib.hid hng
 have HNP:=Lib.hid hnp
 have HNM:=Lib.hid hnm
 clear hng hnp hnm hna
 have HGp:Hid (∀ yg:Int,0 ≤ yg ∧ yg ≤ ng → ∃ (gp:Value) (hb:Bool),gptr V.gb yg = gp ∧ ((hb = false ∧ gp = .pointer none ∧ yg = 0) ∨ (hb = true ∧ ∃ b:Nat,gp = .pointer (some ⟨b,0,none⟩) ∧ b < w.heap.size ∧ ∀ W,Below w.heap.size w W → W.cell? ⟨b,0,none⟩ = some (.int .i64 yg)))):=fun yg hy=>by
  by_cases h0:yg = 0
  ·exact ⟨.pointer none,false,by rw [gptr,if_pos h0],.inl ⟨rfl,rfl,h0⟩⟩
  ·obtain ⟨gi,hgi⟩:∃ gi:Nat,yg = (gi:Int) + 1:=⟨(yg - 1).toNat,by omega⟩
   have hgl:gi < s.gs.length:=by rw [HNG.out];omega
   refine ⟨.pointer (some ⟨V.gb gi,0,none⟩),true,by rw [gptr,if_neg h0,hgi,show ((gi:Int) + 1 - 1).toNat = gi by omega],.inr ⟨rfl,V.gb gi,rfl,?_,fun W hW=>?_⟩⟩
   ·obtain ⟨_,_,_,hx,_⟩:=HH.out.gs (by decide) gi hgl;exact hx.lt
   ·obtain ⟨_,_,sv0,hBk0,_⟩:=(HR.out W hW).gs (by decide) gi hgl
    rw [hgi];exact gc0 hBk0
 obtain ⟨gp,hb,hgp,hw2⟩:=HGp.out s.sc.holder hold
 have HW2:=Lib.hid hw2
 have hnq:(hb = false ∧ gp = .pointer none) ∨ (hb = true ∧ ∃ b:Nat,gp = .pointer (some ⟨b,0,none⟩)):=by rcases hw2 with ⟨a,b,_⟩ | ⟨a,b,c,_⟩;exact .inl ⟨a,b⟩;exact .inr ⟨a,b,c⟩
 have hne:∀ W,(binOp .neq 119 gp (.pointer none)).run Tryz.prog W = .ok (.bool hb) W:=fun W=>neq_gp W hnq
 have hng:∀ (W:World) (x y:Operand),(eqGuard .neq 119 x y gp (.pointer none)).run Tryz.prog W = .ok () W:=fun W x y=>neq_gd W x y hnq
 clear hnq
 have c20:=(HH.out.alloc (.cells (snC 0 fun _=>.slice none 0 0) 45)).c20
 rw [hgp] at c20
 unfold snC at c20
 dsimp only at c20
 clear hgp hw2 hold
 go_enter Tryz.func12,Tryz.ntmps12
 go_upto_if 16 with fail
 go_cut [15,16] from 17 to 24 (fun c15 c16 wx=>SnS w w.heap.size s.sc.holder (fun _=>.slice none 0 0) (fun _=>0) (fun _=>[]) wx)
 case first=>
  clear hne hng
  rcases HW2.out with ⟨rfl,rfl,h0⟩ | ⟨rfl,b,rfl,hbl,hbc⟩
  ·go_wp2_with fail
   go_meet
   case rel=>rw [h0];exact SnS.new w 0
  ·have n1m:¬ w.heap.size = b:=by omega
   have q0:=hbc (w.alloc (.cells #[.int .i64 0,.slice none 0 0,.slice none 0 0,.slice none 0 0,.slice none 0 0,.slice none 0 0,.slice none 0 0,.slice none 0 0,.slice none 0 0,.slice none 0 0,.slice none 0 0] 45)) (below_alloc (Below.refl _ _) _)
   obtain ⟨hd,hhd⟩:∃ hd,s.sc.holder = hd:=⟨_,rfl⟩
   rw [hhd] at q0
   have HHd:=Lib.hid hhd
   clear hbc hbl hhd
   go_wp2_with fail
   go_meet
   case rel=>rw [HHd.out];exact SnS.new w hd
 case rest=>
  have HS:=Lib.hid hcut
  have c5:=(HR.out wc hcut.below).c5
  rw [Hgv.out] at c5
  clear hcut hne hng c20 HW2
  go_wp2
  have HL0:Hid (SnL w s 0 (2 * 0) _ _ _ _):=Lib.hid ⟨HS.out,rfl,rfl,rfl,rfl,fun _=>Nat.le_refl _⟩
  clear HS
  go_loopw [30] (fun t wr=>∃ (k:Nat) (v:Nat → Value) (n:Nat → Nat) (X:Nat → List Value),k ≤ ng ∧ t = .int .i64 k ∧ SnL w s k (2 * k) v n X wr) (fun t _=>ng - (intOf t).toNat)
  case atStart=>exact ⟨0,_,_,_,Nat.zero_le _,rfl,HL0.out⟩
  case round=>
   obtain ⟨k,v0,n0,X0,hk,rfl,hL⟩:=hrel
   clear HL0
   by_cases hlt:k < ng
   ·have hkn:(k:Int) < (ng:Int):=by omega
    obtain ⟨q0,ql⟩:=HGr.out k wr hlt hL.sn.below
    obtain ⟨x,hx⟩:∃ x,s.gs[k]? = some x:=⟨_,List.getElem?_eq_getElem (by rw [HNG.out];exact hlt)⟩
    have HMc:Hid (∀ W',Below w.heap.size w W' → W'.cell? ⟨V.gb k,1,none⟩ = some (.int .i64 x.word) ∧ W'.cell? ⟨V.gb k,2,none⟩ = some (.int .i64 x.fn) ∧ W'.cell? ⟨V.gb k,3,none⟩ = some (.int .i64 x.pc) ∧ W'.cell? ⟨V.gb k,4,none⟩ = some (.int .i64 (rg x 0)) ∧ W'.cell? ⟨V.gb k,5,none⟩ = some (.int .i64 (rg x 1)) ∧ W'.cell? ⟨V.gb k,6,none⟩ = some (.int .i64 (rg x 2)) ∧ W'.cell? ⟨V.gb k,7,none⟩ = some (.int .i64 (rg x 3)) ∧ W'.cell? ⟨V.gb k,8,none⟩ = some (.int .i64 (rg x 4)) ∧ W'.cell? ⟨V.gb k,9,none⟩ = some (.int .i64 (rg x 5)) ∧ W'.cell? ⟨V.gb k,10,none⟩ = some (.int .i64 (rg x 6)) ∧ W'.cell? ⟨V.gb k,11,none⟩ = some (.int .i64 (rg x 7)) ∧ W'.cell? ⟨V.gb k,12,none⟩ = some (.slice none 0 0) ∧ W'.cell? ⟨V.gb k,13,none⟩ = some (.bool x.done)):=fun W' hW=>by
     obtain ⟨_,_,sv,hB,hst⟩:=(HR.out W' hW).gs (by decide) k (by rw [HNG.out];exact hlt)
     rw [hx] at hB
     simp only [Option.getD_some] at hB
     have e:sv = .slice none 0 0:=hst
     subst e
     exact ⟨hB.cell 1,hB.cell 2,hB.cell 3,hB.cell 4,hB.cell 5,hB.cell 6,hB.cell 7,hB.cell 8,hB.cell 9,hB.cell 10,hB.cell 11,hB.cell 12,hB.cell 13⟩
    generalize V.gb k = b at *
    have HX:=Lib.hid hx
    have HL:=Lib.hid hL
    have HS:=Lib.hid hL.sn
    have HLe:=Lib.hid hL.le
    have HLm:Hid (k < 64):=Lib.hid (show k < 64 by have:=HLim.out;omega)
    clear hx hL hk
    go_wp2
    obtain ⟨a,c,k1,k2,k3,k4⟩:=HS.out.step 1 3 1 (by simp [snI]) rfl rfl
    have hK1:=Lib.hid k1
    have hK2:=Lib.hid k2
    have hK3:=Lib.hid k3
    have hK4:=Lib.hid k4
    clear k1 k2 k3 k4
    have HMx:=(Lib.hid (fun W' hW=>(HMc.out W' hW).1):Hid (∀ W',Below w.heap.size w W' → W'.cell? ⟨b,1,none⟩ = some (.int .i64 x.word)))
    have hSW:Hid (∀ W',Below wr.heap.size wr W' → W'.cell? ⟨w.heap.size,1,none⟩ = some (.slice a (n0 1) c) ∧ W'.cell? ⟨b,1,none⟩ = some (.int .i64 x.word)):=fun W' hW=>⟨hK1.out W' hW,HMx.out W' (HS.out.below.trans (hW.mono HS.out.below.size))⟩
    have hS0:=Lib.hid (hSW.out wr.drew (Below.refl _ _).drew)
    refine wp_region_m 9 (fun W'=>W'.cell? ⟨w.heap.size,1,none⟩ = some (.slice a (n0 1) c) ∧ W'.cell? ⟨b,1,none⟩ = some (.int .i64 x.word)) (by kernel_rfl) ?_
    refine wpAnyM_take0 (i:=0) (v:=?_) rfl (by decide) (by kernel_rfl) (by kernel_rfl) (by kernel_rfl) (fun _ _ _ h=>h) (Or.inl ⟨by kernel_rfl,?_⟩) (fun _=>hS0.out) ?_
    rotate_left
    ·intro w';go_simp;try (with_reducible rfl)
    refine wpAnyM_take0 (i:=2) (v:=?_) rfl (by decide) (by kernel_rfl) (by kernel_rfl) (by kernel_rfl) (fun _ _ _ h=>h) (Or.inl ⟨by kernel_rfl,?_⟩) (fun _=>hS0.out) ?_
    rotate_left
    ·intro w';go_simp;try (with_reducible rfl)
    refine wpAnyM_take0 (i:=3) (v:=?_) rfl (by decide) (by kernel_rfl) (by kernel_rfl) (by kernel_rfl) (fun _ _ _ h=>h) (Or.inl ⟨by kernel_rfl,?_⟩) (fun _=>hS0.out) ?_
    rotate_left
    ·intro w';go_simp;try (with_reducible rfl)
    refine wpAnyM_take0 (i:=4) (v:=?_) rfl (by decide) (by kernel_rfl) (by kernel_rfl) (by kernel_rfl) (fun _ _ _ h=>h) (Or.inl ⟨by kernel_rfl,?_⟩) (fun _=>hS0.out) ?_
    rotate_left
    ·intro w';go_simp;try (with_reducible rfl)
    refine wpAnyM_take (i:=1) (v:=?_) rfl rfl (by kernel_rfl) (by kernel_rfl) (by kernel_rfl) (by kernel_rfl) (by kernel_rfl) (fun _ _ _ h=>h) (Or.inl ⟨by kernel_rfl,?_⟩) (hS0.out) ?_
    rotate_left
    ·intro w' hw';obtain ⟨s0,s1⟩:=hw';go_simp;try (with_reducible rfl)
    refine wpAnyM_take (i:=5) (v:=?_) rfl rfl (by kernel_rfl) (by kernel_rfl) (by kernel_rfl) (by kernel_rfl) (by kernel_rfl) (fun _ _ _ h=>h) (Or.inl ⟨by kernel_rfl,?_⟩) (hS0.out) ?_
    rotate_left
    ·intro w' hw';obtain ⟨s0,s1⟩:=hw';go_simp;try (with_reducible rfl)
    refine wpAnyM_ready (rs:=[6]) (by kernel_rfl) (by simp) ?_
    refine AllReadyM.cons rfl (fun K hK=>?_) AllReadyM.nil
    go_simp
    refine hK _ _ ⟨fun _=>hSW.out _ (blA (Below.refl _ _).drew _),?_⟩
    clear hK K
    refine wpAnyM_ready (rs:=[7]) (by kernel_rfl) (by simp) ?_
    refine AllReadyM.cons rfl (fun K hK=>?_) AllReadyM.nil
    (refine stepV Tryz.underlying22 info3 rfl (by decide) (by decide) w.heap.size _ rfl (.tmp 35) (.tmp 40) rfl (.slice a (n0 1) c) (n0 1) (X0 1) ⟨wr.drew.heap.size,0,none⟩ 1 [.int .i64 x.word] (by simp [Act.eval]) (by rfl) (.inl (hK2.out _ (blA (Below.refl _ _).drew _))) rfl (newL wr.drew [.int .i64 x.word] 3) (by simp [Value.oneCell']) (hK3.out _ (blA (Below.refl _ _).drew _)) (by have:=HLe.out 1;have:=HLm.out;omega) ?_;intro v' w5 hA;obtain ⟨g5,c5,rfl⟩:=hA.some;have HQ:=Lib.hid (hK4.out _ _ _ _ (blA (Below.refl _ _).drew _) hA);have z0:=HQ.out.1.2.1 w5 (Below.refl _ _);have u0:=HQ.out.1.2.2;clear hA)
    refine hK _ _ ⟨fun _=>⟨HQ.out.1.2.1 _ (Below.refl _ _),HMx.out _ HQ.out.1.1⟩,?_⟩
    clear hK K
    refine wpAnyM_take0 (i:=8) (v:=?_) rfl (by decide) (by kernel_rfl) (by kernel_rfl) (by kernel_rfl) (fun _ _ _ h=>h) (Or.inl ⟨by kernel_rfl,?_⟩) (fun _=>⟨HQ.out.1.2.1 _ (Below.refl _ _),HMx.out _ HQ.out.1.1⟩) ?_
    rotate_left
    ·intro w';go_simp;try (with_reducible rfl)
    refine wpAnyM_ready (rs:=[9]) (by kernel_rfl) (by simp) ?_
    refine AllReadyM.cons rfl (fun K hK=>?_) AllReadyM.nil
    go_simp
    refine hK _ _ ⟨(fun h=>absurd (h.symm.trans (show _ = true by kernel_rfl)) Bool.false_ne_true),?_⟩
    clear hK K
    refine wpAnyM_done (by kernel_rfl) ?_ _
    have hS':=HQ.out.2
    obtain ⟨n1,hn1⟩:∃ n',n' = up n0 1 (n0 1 + 1):=⟨_,rfl⟩
    obtain ⟨X1,hX1⟩:∃ X',X' = up X0 1 (X0 1 ++ [.int .i64 x.word]):=⟨_,rfl⟩
    rw [← hn1,← hX1] at hS'
    generalize up v0 1 (Value.slice (some ⟨g5,0,none⟩) (n0 1 + 1) c5) = v1 at hS'
    generalize (w5.setCell ⟨w.heap.size,1,none⟩ (.slice (some ⟨g5,0,none⟩) (n0 1 + 1) c5)) = W2 at hS' ⊢
    have HLe:=Lib.hid (fun q=>(show n1 q ≤ _ by rw [hn1];exact up_le HLe.out q))
    have HS:=Lib.hid hS'
    have Hn1:=Lib.hid (And.intro hn1 hX1)
    clear hS' hn1 hX1 HQ hK1 hK2 hK3 hK4 z0 u0 hSW hS0 HMx
    go_wp2
    obtain ⟨a,c,k1,k2,k3,k4⟩:=HS.out.step 2 50 12 (by simp [snI]) rfl rfl
    have hK1:=Lib.hid k1
    have hK2:=Lib.hid k2
    have hK3:=Lib.hid k3
    have hK4:=Lib.hid k4
    clear k1 k2 k3 k4
    have HMx:=(Lib.hid (fun W' hW=>(HMc.out W' hW).2):Hid (∀ W',Below w.heap.size w W' → W'.cell? ⟨b,2,none⟩ = some (.int .i64 x.fn) ∧ W'.cell? ⟨b,3,none⟩ = some (.int .i64 x.pc) ∧ W'.cell? ⟨b,4,none⟩ = some (.int .i64 (rg x 0)) ∧ W'.cell? ⟨b,5,none⟩ = some (.int .i64 (rg x 1)) ∧ W'.cell? ⟨b,6,none⟩ = some (.int .i64 (rg x 2)) ∧ W'.cell? ⟨b,7,none⟩ = some (.int .i64 (rg x 3)) ∧ W'.cell? ⟨b,8,none⟩ = some (.int .i64 (rg x 4)) ∧ W'.cell? ⟨b,9,none⟩ = some (.int .i64 (rg x 5)) ∧ W'.cell? ⟨b,10,none⟩ = some (.int .i64 (rg x 6)) ∧ W'.cell? ⟨b,11,none⟩ = some (.int .i64 (rg x 7)) ∧ W'.cell? ⟨b,12,none⟩ = some (.slice none 0 0) ∧ W'.cell? ⟨b,13,none⟩ = some (.bool x.done)))
    have hSW:Hid (∀ W',Below W2.heap.size W2 W' → W'.cell? ⟨w.heap.size,2,none⟩ = some (.slice a (n1 2) c) ∧ W'.cell? ⟨b,2,none⟩ = some (.int .i64 x.fn) ∧ W'.cell? ⟨b,3,none⟩ = some (.int .i64 x.pc) ∧ W'.cell? ⟨b,4,none⟩ = some (.int .i64 (rg x 0)) ∧ W'.cell? ⟨b,5,none⟩ = some (.int .i64 (rg x 1)) ∧ W'.cell? ⟨b,6,none⟩ = some (.int .i64 (rg x 2)) ∧ W'.cell? ⟨b,7,none⟩ = some (.int .i64 (rg x 3)) ∧ W'.cell? ⟨b,8,none⟩ = some (.int .i64 (rg x 4)) ∧ W'.cell? ⟨b,9,none⟩ = some (.int .i64 (rg x 5)) ∧ W'.cell? ⟨b,10,none⟩ = some (.int .i64 (rg x 6)) ∧ W'.cell? ⟨b,11,none⟩ = some (.int .i64 (rg x 7)) ∧ W'.cell? ⟨b,12,none⟩ = some (.slice none 0 0) ∧ W'.cell? ⟨b,13,none⟩ = some (.bool x.done)):=fun W' hW=>⟨hK1.out W' hW,HMx.out W' (HS.out.below.trans (hW.mono HS.out.below.size))⟩
    have hS0:=Lib.hid (hSW.out W2.drew (Below.refl _ _).drew)
    refine wp_region_m 10 (fun W'=>W'.cell? ⟨w.heap.size,2,none⟩ = some (.slice a (n1 2) c) ∧ W'.cell? ⟨b,2,none⟩ = some (.int .i64 x.fn) ∧ W'.cell? ⟨b,3,none⟩ = some (.int .i64 x.pc) ∧ W'.cell? ⟨b,4,none⟩ = some (.int .i64 (rg x 0)) ∧ W'.cell? ⟨b,5,none⟩ = some (.int .i64 (rg x 1)) ∧ W'.cell? ⟨b,6,none⟩ = some (.int .i64 (rg x 2)) ∧ W'.cell? ⟨b,7,none⟩ = some (.int .i64 (rg x 3)) ∧ W'.cell? ⟨b,8,none⟩ = some (.int .i64 (rg x 4)) ∧ W'.cell? ⟨b,9,none⟩ = some (.int .i64 (rg x 5)) ∧ W'.cell? ⟨b,10,none⟩ = some (.int .i64 (rg x 6)) ∧ W'.cell? ⟨b,11,none⟩ = some (.int .i64 (rg x 7)) ∧ W'.cell? ⟨b,12,none⟩ = some (.slice none 0 0) ∧ W'.cell? ⟨b,13,none⟩ = some (.bool x.done)) (by kernel_rfl) ?_
    refine wpAnyM_take0 (i:=0) (v:=?_) rfl (by decide) (by kernel_rfl) (by kernel_rfl) (by kernel_rfl) (fun _ _ _ h=>h) (Or.inl ⟨by kernel_rfl,?_⟩) (fun _=>hS0.out) ?_
    rotate_left
    ·intro w';go_simp;try (with_reducible rfl)
    refine wpAnyM_take0 (i:=2) (v:=?_) rfl (by decide) (by kernel_rfl) (by kernel_rfl) (by kernel_rfl) (fun _ _ _ h=>h) (Or.inl ⟨by kernel_rfl,?_⟩) (fun _=>hS0.out) ?_
    rotate_left
    ·intro w';go_simp;try (with_reducible rfl)
    refine wpAnyM_take0 (i:=3) (v:=?_) rfl (by decide) (by kernel_rfl) (by kernel_rfl) (by kernel_rfl) (fun _ _ _ h=>h) (Or.inl ⟨by kernel_rfl,?_⟩) (fun _=>hS0.out) ?_
    rotate_left
    ·intro w';go_simp;try (with_reducible rfl)
    refine wpAnyM_take0 (i:=4) (v:=?_) rfl (by decide) (by kernel_rfl) (by kernel_rfl) (by kernel_rfl) (fun _ _ _ h=>h) (Or.inl ⟨by kernel_rfl,?_⟩) (fun _=>hS0.out) ?_
    rotate_left
    ·intro w';go_simp;try (with_reducible rfl)
    refine wpAnyM_take (i:=1) (v:=?_) rfl rfl (by kernel_rfl) (by kernel_rfl) (by kernel_rfl) (by kernel_rfl) (by kernel_rfl) (fun _ _ _ h=>h) (Or.inl ⟨by kernel_rfl,?_⟩) (hS0.out) ?_
    rotate_left
    ·intro w' hw';obtain ⟨s0,s1,s2,s3,s4,s5,s6,s7,s8,s9,s10,s11,s12⟩:=hw';go_simp;try (with_reducible rfl)
    refine wpAnyM_take (i:=5) (v:=?_) rfl rfl (by kernel_rfl) (by kernel_rfl) (by kernel_rfl) (by kernel_rfl) (by kernel_rfl) (fun _ _ _ h=>h) (Or.inl ⟨by kernel_rfl,?_⟩) (hS0.out) ?_
    rotate_left
    ·intro w' hw';obtain ⟨s0,s1,s2,s3,s4,s5,s6,s7,s8,s9,s10,s11,s12⟩:=hw';go_simp;try (with_reducible rfl)
    refine wpAnyM_ready (rs:=[6]) (by kernel_rfl) (by simp) ?_
    refine AllReadyM.cons rfl (fun K hK=>?_) AllReadyM.nil
    go_simp
    go_wp2_with (go_at_call 56;refine (Vm.tclone_nil _ _ _ _ _ _ _ _ _ _ _ _).mono ?_;rintro e w6 ⟨rfl,hB⟩;have HB6:Hid (Below W2.heap.size W2 w6):=Lib.hid ((Below.refl W2.heap.size W2).drew.trans hB);clear hB)
    refine ⟨fun _=>hSW.out _ HB6.out,?_⟩
    refine wpAnyM_ready (rs:=[7]) (by kernel_rfl) (by simp) ?_
    refine AllReadyM.cons rfl (fun K hK=>?_) AllReadyM.nil
    go_simp
    refine hK _ _ ⟨fun _=>hSW.out _ (blA HB6.out _),?_⟩
    clear hK K
    refine wpAnyM_ready (rs:=[8]) (by kernel_rfl) (by simp) ?_
    refine AllReadyM.cons rfl (fun K hK=>?_) AllReadyM.nil
    (refine stepV Tryz.underlying41 info50 rfl (by decide) (by decide) w.heap.size _ rfl (.tmp 44) (.tmp 50) rfl (.slice a (n1 2) c) (n1 2) (X1 2) ⟨w6.heap.size,0,none⟩ 1 [.int .i64 x.fn,.int .i64 x.pc,.int .i64 (rg x 0),.int .i64 (rg x 1),.int .i64 (rg x 2),.int .i64 (rg x 3),.int .i64 (rg x 4),.int .i64 (rg x 5),.int .i64 (rg x 6),.int .i64 (rg x 7),.slice none 0 0,.bool x.done] (by simp [Act.eval]) (by rfl) (.inl (hK2.out _ (blA HB6.out _))) rfl (newL w6 [.int .i64 x.fn,.int .i64 x.pc,.int .i64 (rg x 0),.int .i64 (rg x 1),.int .i64 (rg x 2),.int .i64 (rg x 3),.int .i64 (rg x 4),.int .i64 (rg x 5),.int .i64 (rg x 6),.int .i64 (rg x 7),.slice none 0 0,.bool x.done] 50) (by simp [Value.oneCell']) (hK3.out _ (blA HB6.out _)) (by have:=HLe.out 2;have:=HLm.out;omega) ?_;intro v' w5 hA;obtain ⟨g5,c5,rfl⟩:=hA.some;have HQ:=Lib.hid (hK4.out _ _ _ _ (blA HB6.out _) hA);have z0:=HQ.out.1.2.1 w5 (Below.refl _ _);have u0:=HQ.out.1.2.2;clear hA)
    refine hK _ _ ⟨fun _=>⟨HQ.out.1.2.1 _ (Below.refl _ _),HMx.out _ HQ.out.1.1⟩,?_⟩
    clear hK K
    refine wpAnyM_take0 (i:=9) (v:=?_) rfl (by decide) (by kernel_rfl) (by kernel_rfl) (by kernel_rfl) (fun _ _ _ h=>h) (Or.inl ⟨by kernel_rfl,?_⟩) (fun _=>⟨HQ.out.1.2.1 _ (Below.refl _ _),HMx.out _ HQ.out.1.1⟩) ?_
    rotate_left
    ·intro w';go_simp;try (with_reducible rfl)
    refine wpAnyM_ready (rs:=[10]) (by kernel_rfl) (by simp) ?_
    refine AllReadyM.cons rfl (fun K hK=>?_) AllReadyM.nil
    go_simp
    refine hK _ _ ⟨(fun h=>absurd (h.symm.trans (show _ = true by kernel_rfl)) Bool.false_ne_true),?_⟩
    clear hK K
    refine wpAnyM_done (by kernel_rfl) ?_ _
    have hS':=HQ.out.2
    obtain ⟨n2,hn2⟩:∃ n',n' = up n1 2 (n1 2 + 1):=⟨_,rfl⟩
    obtain ⟨X2,hX2⟩:∃ X',X' = up X1 2 (X1 2 ++ [.int .i64 x.fn,.int .i64 x.pc,.int .i64 (rg x 0),.int .i64 (rg x 1),.int .i64 (rg x 2),.int .i64 (rg x 3),.int .i64 (rg x 4),.int .i64 (rg x 5),.int .i64 (rg x 6),.int .i64 (rg x 7),.slice none 0 0,.bool x.done]):=⟨_,rfl⟩
    rw [← hn2,← hX2] at hS'
    generalize up v1 2 (Value.slice (some ⟨g5,0,none⟩) (n1 2 + 1) c5) = v2 at hS'
    generalize (w5.setCell ⟨w.heap.size,2,none⟩ (.slice (some ⟨g5,0,none⟩) (n1 2 + 1) c5)) = W3 at hS' ⊢
    have HLe:=Lib.hid (fun q=>(show n2 q ≤ _ by rw [hn2];exact up_le HLe.out q))
    have HS:=Lib.hid hS'
    have Hn2:=Lib.hid (And.intro hn2 hX2)
    clear hS' hn2 hX2 HQ hK1 hK2 hK3 hK4 z0 u0 hSW hS0 HMx HB6
    go_wp2
    have hw:wrap64 ((k:Int) + 1) = ((k + 1:Nat):Int):=by have:=HLm.out;unfold wrap64;omega
    rw [hw]
    refine ⟨⟨k + 1,v2,n2,X2,by omega,rfl,HS.out,?_,?_,?_,?_,fun j=>by have:=HLe.out j;omega⟩,by simp [intOf];omega⟩
    ·rw [Hn2.out.1,up_other _ _ (by decide),Hn1.out.1,up_same,HL.out.n1]
    ·rw [Hn2.out.1,up_same,Hn1.out.1,up_other _ _ (by decide),HL.out.n2]
    ·rw [Hn2.out.2,up_other _ _ (by decide),Hn1.out.2,up_same,HL.out.x1];exact (take_flat s.gs wdC k x HX.out).symm
    ·rw [Hn2.out.2,up_same,Hn1.out.2,up_other _ _ (by decide),HL.out.x2];exact (take_flat s.gs thC k x HX.out).symm
   ·obtain rfl:k = ng:=by omega
    have HL:=Lib.hid hL
    have c0:=(HR.out wr hL.sn.below).c0
    clear hL hk hlt
    go_wp2_with (go_at_call 57;refine ((HR.out _ HL.out.sn.below).prlen).mono ?_;rintro e w6 ⟨rfl,rfl⟩;rw [HNP.out])
    go_loopw [59] (fun t wr=>∃ (i:Nat) (v:Nat → Value) (n:Nat → Nat) (X:Nat → List Value),i ≤ np ∧ t = .int .i64 i ∧ SnL w s k (2 * k + 3 * i) v n X wr) (fun t _=>np - (intOf t).toNat)
    case atStart=>exact ⟨0,_,_,_,Nat.zero_le _,rfl,HL.out⟩
    case round=>
     obtain ⟨i,v0,n0,X0,hi,rfl,hL⟩:=hrel
     clear HL c0
     by_cases hlt:i < np
     ·have hin:(i:Int) < (np:Int):=by omega
      have hia:i < na:=by have:=HAs.out;omega
      have hian:(i:Int) < (na:Int):=by omega
      obtain ⟨cn,hcn⟩:∃ cn,(s.asked[i]?.getD p0).count = cn:=⟨_,rfl⟩
      have HMa:Hid (∀ W',Below w.heap.size w W' → W'.cell? ⟨mb,7,none⟩ = some (.slice (some ⟨ag,0,none⟩) na acap) ∧ W'.cell? ⟨ag,i * 3 + 2,none⟩ = some (.int .i64 cn)):=fun W' hW=>⟨by rw [← Hav.out];exact (HR.out W' hW).c7,by rw [← hcn];exact HAk.out i W' hia hW⟩
      have HM8:Hid (∀ W',Below w.heap.size w W' → W'.cell? ⟨mb,8,none⟩ = some (ptr V.stat)):=fun W' hW=>(HR.out W' hW).c8
      have HL:=Lib.hid hL
      have HS:=Lib.hid hL.sn
      have HLe:=Lib.hid hL.le
      have HLm:Hid (k ≤ 64 ∧ i < np ∧ np ≤ 256):=Lib.hid (by have:=HLim.out;omega)
      clear hL hi hcn hia
      go_wp2
      obtain ⟨a,c,k1,k2,k3,k4⟩:=HS.out.step 3 3 1 (by simp [snI]) rfl rfl
      have hK1:=Lib.hid k1
      have hK2:=Lib.hid k2
      have hK3:=Lib.hid k3
      have hK4:=Lib.hid k4
      clear k1 k2 k3 k4
      have HMx:=HM8
      have hSW:Hid (∀ W',Below wr.heap.size wr W' → W'.cell? ⟨w.heap.size,3,none⟩ = some (.slice a (n0 3) c) ∧ W'.cell? ⟨mb,8,none⟩ = some (ptr V.stat)):=fun W' hW=>⟨hK1.out W' hW,HMx.out W' (HS.out.below.trans (hW.mono HS.out.below.size))⟩
      have hS0:=Lib.hid (hSW.out wr.drew (Below.refl _ _).drew)
      refine wp_region_m 11 (fun W'=>W'.cell? ⟨w.heap.size,3,none⟩ = some (.slice a (n0 3) c) ∧ W'.cell? ⟨mb,8,none⟩ = some (ptr V.stat)) (by kernel_rfl) ?_
      refine wpAnyM_take0 (i:=0) (v:=?_) rfl (by decide) (by kernel_rfl) (by kernel_rfl) (by kernel_rfl) (fun _ _ _ h=>h) (Or.inl ⟨by kernel_rfl,?_⟩) (fun _=>hS0.out) ?_
      rotate_left
      ·intro w';go_simp;try (with_reducible rfl)
      refine wpAnyM_take0 (i:=2) (v:=?_) rfl (by decide) (by kernel_rfl) (by kernel_rfl) (by kernel_rfl) (fun _ _ _ h=>h) (Or.inl ⟨by kernel_rfl,?_⟩) (fun _=>hS0.out) ?_
      rotate_left
      ·intro w';go_simp;try (with_reducible rfl)
      refine wpAnyM_take0 (i:=3) (v:=?_) rfl (by decide) (by kernel_rfl) (by kernel_rfl) (by kernel_rfl) (fun _ _ _ h=>h) (Or.inl ⟨by kernel_rfl,?_⟩) (fun _=>hS0.out) ?_
      rotate_left
      ·intro w';go_simp;try (with_reducible rfl)
      refine wpAnyM_take0 (i:=4) (v:=?_) rfl (by decide) (by kernel_rfl) (by kernel_rfl) (by kernel_rfl) (fun _ _ _ h=>h) (Or.inl ⟨by kernel_rfl,?_⟩) (fun _=>hS0.out) ?_
      rotate_left
      ·intro w';go_simp;try (with_reducible rfl)
      refine wpAnyM_take0 (i:=6) (v:=?_) rfl (by decide) (by kernel_rfl) (by kernel_rfl) (by kernel_rfl) (fun _ _ _ h=>h) (Or.inl ⟨by kernel_rfl,?_⟩) (fun _=>hS0.out) ?_
      rotate_left
      ·intro w';go_simp;try (with_reducible rfl)
      refine wpAnyM_take (i:=1) (v:=?_) rfl rfl (by kernel_rfl) (by kernel_rfl) (by kernel_rfl) (by kernel_rfl) (by kernel_rfl) (fun _ _ _ h=>h) (Or.inl ⟨by kernel_rfl,?_⟩) (hS0.out) ?_
      rotate_left
      ·intro w' hw';obtain ⟨s0,s1⟩:=hw';go_simp;try (with_reducible rfl)
      refine wpAnyM_take (i:=5) (v:=?_) rfl rfl (by kernel_rfl) (by kernel_rfl) (by kernel_rfl) (by kernel_rfl) (by kernel_rfl) (fun _ _ _ h=>h) (Or.inl ⟨by kernel_rfl,?_⟩) (hS0.out) ?_
      rotate_left
      ·intro w' hw';obtain ⟨s0,s1⟩:=hw';go_simp;try (with_reducible rfl)
      refine wpAnyM_ready (rs:=[7]) (by kernel_rfl) (by simp) ?_
      refine AllReadyM.cons rfl (fun K hK=>?_) AllReadyM.nil
      go_simp
      go_wp2_with (go_at_call 58;refine ((HR.out _ HS.out.below.drew).sget i).mono ?_;rintro e w6 ⟨rfl,rfl⟩)
      refine ⟨fun _=>hS0.out,?_⟩
      refine wpAnyM_ready (rs:=[8]) (by kernel_rfl) (by simp) ?_
      refine AllReadyM.cons rfl (fun K hK=>?_) AllReadyM.nil
      go_simp
      refine hK _ _ ⟨fun _=>hSW.out _ (blA (Below.refl _ _).drew _),?_⟩
      clear hK K
      refine wpAnyM_ready (rs:=[9]) (by kernel_rfl) (by simp) ?_
      refine AllReadyM.cons rfl (fun K hK=>?_) AllReadyM.nil
      (refine stepV Tryz.underlying22 info3 rfl (by decide) (by decide) w.heap.size _ rfl (.tmp 63) (.tmp 70) rfl (.slice a (n0 3) c) (n0 3) (X0 3) ⟨wr.drew.heap.size,0,none⟩ 1 [.int .i64 (Pstat.getL s.stat i)] (by simp [Act.eval]) (by rfl) (.inl (hK2.out _ (blA (Below.refl _ _).drew _))) rfl (newL wr.drew [.int .i64 (Pstat.getL s.stat i)] 3) (by simp [Value.oneCell']) (hK3.out _ (blA (Below.refl _ _).drew _)) (by have:=HLe.out 3;have:=HLm.out;omega) ?_;intro v' w5 hA;obtain ⟨g5,c5,rfl⟩:=hA.some;have HQ:=Lib.hid (hK4.out _ _ _ _ (blA (Below.refl _ _).drew _) hA);have z0:=HQ.out.1.2.1 w5 (Below.refl _ _);have u0:=HQ.out.1.2.2;clear hA)
      refine hK _ _ ⟨fun _=>⟨HQ.out.1.2.1 _ (Below.refl _ _),HMx.out _ HQ.out.1.1⟩,?_⟩
      clear hK K
      refine wpAnyM_take0 (i:=10) (v:=?_) rfl (by decide) (by kernel_rfl) (by kernel_rfl) (by kernel_rfl) (fun _ _ _ h=>h) (Or.inl ⟨by kernel_rfl,?_⟩) (fun _=>⟨HQ.out.1.2.1 _ (Below.refl _ _),HMx.out _ HQ.out.1.1⟩) ?_
      rotate_left
      ·intro w';go_simp;try (with_reducible rfl)
      refine wpAnyM_ready (rs:=[11]) (by kernel_rfl) (by simp) ?_
      refine AllReadyM.cons rfl (fun K hK=>?_) AllReadyM.nil
      go_simp
      refine hK _ _ ⟨(fun h=>absurd (h.symm.trans (show _ = true by kernel_rfl)) Bool.false_ne_true),?_⟩
      clear hK K
      refine wpAnyM_done (by kernel_rfl) ?_ _
      have hS':=HQ.out.2
      obtain ⟨n1,hn1⟩:∃ n',n' = up n0 3 (n0 3 + 1):=⟨_,rfl⟩
      obtain ⟨X1,hX1⟩:∃ X',X' = up X0 3 (X0 3 ++ [.int .i64 (Pstat.getL s.stat i)]):=⟨_,rfl⟩
      rw [← hn1,← hX1] at hS'
      generalize up v0 3 (Value.slice (some ⟨g5,0,none⟩) (n0 3 + 1) c5) = v1 at hS'
      generalize (w5.setCell ⟨w.heap.size,3,none⟩ (.slice (some ⟨g5,0,none⟩) (n0 3 + 1) c5)) = W2 at hS' ⊢
      have HLe:=Lib.hid (fun q=>(show n1 q ≤ _ by rw [hn1];exact up_le HLe.out q))
      have HS:=Lib.hid hS'
      have Hn1:=Lib.hid (And.intro hn1 hX1)
      clear hS' hn1 hX1 HQ hK1 hK2 hK3 hK4 z0 u0 hSW hS0 HMx
      go_wp2
      obtain ⟨a,c,k1,k2,k3,k4⟩:=HS.out.step 4 3 1 (by simp [snI]) rfl rfl
      have hK1:=Lib.hid k1
      have hK2:=Lib.hid k2
      have hK3:=Lib.hid k3
      have hK4:=Lib.hid k4
      clear k1 k2 k3 k4
      have HMx:=HM8
      have hSW:Hid (∀ W',Below W2.heap.size W2 W' → W'.cell? ⟨w.heap.size,4,none⟩ = some (.slice a (n1 4) c) ∧ W'.cell? ⟨mb,8,none⟩ = some (ptr V.stat)):=fun W' hW=>⟨hK1.out W' hW,HMx.out W' (HS.out.below.trans (hW.mono HS.out.below.size))⟩
      have hS0:=Lib.hid (hSW.out W2.drew (Below.refl _ _).drew)
      refine wp_region_m 11 (fun W'=>W'.cell? ⟨w.heap.size,4,none⟩ = some (.slice a (n1 4) c) ∧ W'.cell? ⟨mb,8,none⟩ = some (ptr V.stat)) (by kernel_rfl) ?_
      refine wpAnyM_take0 (i:=0) (v:=?_) rfl (by decide) (by kernel_rfl) (by kernel_rfl) (by kernel_rfl) (fun _ _ _ h=>h) (Or.inl ⟨by kernel_rfl,?_⟩) (fun _=>hS0.out) ?_
      rotate_left
      ·intro w';go_simp;try (with_reducible rfl)
      refine wpAnyM_take0 (i:=2) (v:=?_) rfl (by decide) (by kernel_rfl) (by kernel_rfl) (by kernel_rfl) (fun _ _ _ h=>h) (Or.inl ⟨by kernel_rfl,?_⟩) (fun _=>hS0.out) ?_
      rotate_left
      ·intro w';go_simp;try (with_reducible rfl)
      refine wpAnyM_take0 (i:=3) (v:=?_) rfl (by decide) (by kernel_rfl) (by kernel_rfl) (by kernel_rfl) (fun _ _ _ h=>h) (Or.inl ⟨by kernel_rfl,?_⟩) (fun _=>hS0.out) ?_
      rotate_left
      ·intro w';go_simp;try (with_reducible rfl)
      refine wpAnyM_take0 (i:=4) (v:=?_) rfl (by decide) (by kernel_rfl) (by kernel_rfl) (by kernel_rfl) (fun _ _ _ h=>h) (Or.inl ⟨by kernel_rfl,?_⟩) (fun _=>hS0.out) ?_
      rotate_left
      ·intro w';go_simp;try (with_reducible rfl)
      refine wpAnyM_take0 (i:=6) (v:=?_) rfl (by decide) (by kernel_rfl) (by kernel_rfl) (by kernel_rfl) (fun _ _ _ h=>h) (Or.inl ⟨by kernel_rfl,?_⟩) (fun _=>hS0.out) ?_
      rotate_left
      ·intro w';go_simp;try (with_reducible rfl)
      refine wpAnyM_take (i:=1) (v:=?_) rfl rfl (by kernel_rfl) (by kernel_rfl) (by kernel_rfl) (by kernel_rfl) (by kernel_rfl) (fun _ _ _ h=>h) (Or.inl ⟨by kernel_rfl,?_⟩) (hS0.out) ?_
      rotate_left
      ·intro w' hw';obtain ⟨s0,s1⟩:=hw';go_simp;try (with_reducible rfl)
      refine wpAnyM_take (i:=5) (v:=?_) rfl rfl (by kernel_rfl) (by kernel_rfl) (by kernel_rfl) (by kernel_rfl) (by kernel_rfl) (fun _ _ _ h=>h) (Or.inl ⟨by kernel_rfl,?_⟩) (hS0.out) ?_
      rotate_left
      ·intro w' hw';obtain ⟨s0,s1⟩:=hw';go_simp;try (with_reducible rfl)
      refine wpAnyM_ready (rs:=[7]) (by kernel_rfl) (by simp) ?_
      refine AllReadyM.cons rfl (fun K hK=>?_) AllReadyM.nil
      go_simp
      go_wp2_with (go_at_call 59;refine ((HR.out _ HS.out.below.drew).swho i).mono ?_;rintro e w6 ⟨rfl,rfl⟩)
      refine ⟨fun _=>hS0.out,?_⟩
      refine wpAnyM_ready (rs:=[8]) (by kernel_rfl) (by simp) ?_
      refine AllReadyM.cons rfl (fun K hK=>?_) AllReadyM.nil
      go_simp
      refine hK _ _ ⟨fun _=>hSW.out _ (blA (Below.refl _ _).drew _),?_⟩
      clear hK K
      refine wpAnyM_ready (rs:=[9]) (by kernel_rfl) (by simp) ?_
      refine AllReadyM.cons rfl (fun K hK=>?_) AllReadyM.nil
      (refine stepV Tryz.underlying22 info3 rfl (by decide) (by decide) w.heap.size _ rfl (.tmp 74) (.tmp 81) rfl (.slice a (n1 4) c) (n1 4) (X1 4) ⟨W2.drew.heap.size,0,none⟩ 1 [.int .i64 (Pstat.whoL s.stat i)] (by simp [Act.eval]) (by rfl) (.inl (hK2.out _ (blA (Below.refl _ _).drew _))) rfl (newL W2.drew [.int .i64 (Pstat.whoL s.stat i)] 3) (by simp [Value.oneCell']) (hK3.out _ (blA (Below.refl _ _).drew _)) (by have:=HLe.out 4;have:=HLm.out;omega) ?_;intro v' w5 hA;obtain ⟨g5,c5,rfl⟩:=hA.some;have HQ:=Lib.hid (hK4.out _ _ _ _ (blA (Below.refl _ _).drew _) hA);have z0:=HQ.out.1.2.1 w5 (Below.refl _ _);have u0:=HQ.out.1.2.2;clear hA)
      refine hK _ _ ⟨fun _=>⟨HQ.out.1.2.1 _ (Below.refl _ _),HMx.out _ HQ.out.1.1⟩,?_⟩
      clear hK K
      refine wpAnyM_take0 (i:=10) (v:=?_) rfl (by decide) (by kernel_rfl) (by kernel_rfl) (by kernel_rfl) (fun _ _ _ h=>h) (Or.inl ⟨by kernel_rfl,?_⟩) (fun _=>⟨HQ.out.1.2.1 _ (Below.refl _ _),HMx.out _ HQ.out.1.1⟩) ?_
      rotate_left
      ·intro w';go_simp;try (with_reducible rfl)
      refine wpAnyM_ready (rs:=[11]) (by kernel_rfl) (by simp) ?_
      refine AllReadyM.cons rfl (fun K hK=>?_) AllReadyM.nil
      go_simp
      refine hK _ _ ⟨(fun h=>absurd (h.symm.trans (show _ = true by kernel_rfl)) Bool.false_ne_true),?_⟩
      clear hK K
      refine wpAnyM_done (by kernel_rfl) ?_ _
      have hS':=HQ.out.2
      obtain ⟨n2,hn2⟩:∃ n',n' = up n1 4 (n1 4 + 1):=⟨_,rfl⟩
      obtain ⟨X2,hX2⟩:∃ X',X' = up X1 4 (X1 4 ++ [.int .i64 (Pstat.whoL s.stat i)]):=⟨_,rfl⟩
      rw [← hn2,← hX2] at hS'
      generalize up v1 4 (Value.slice (some ⟨g5,0,none⟩) (n1 4 + 1) c5) = v2 at hS'
      generalize (w5.setCell ⟨w.heap.size,4,none⟩ (.slice (some ⟨g5,0,none⟩) (n1 4 + 1) c5)) = W3 at hS' ⊢
      have HLe:=Lib.hid (fun q=>(show n2 q ≤ _ by rw [hn2];exact up_le HLe.out q))
      have HS:=Lib.hid hS'
      have Hn2:=Lib.hid (And.intro hn2 hX2)
      clear hS' hn2 hX2 HQ hK1 hK2 hK3 hK4 z0 u0 hSW hS0 HMx
      go_wp2
      obtain ⟨a,c,k1,k2,k3,k4⟩:=HS.out.step 6 3 1 (by simp [snI]) rfl rfl
      have hK1:=Lib.hid k1
      have hK2:=Lib.hid k2
      have hK3:=Lib.hid k3
      have hK4:=Lib.hid k4
      clear k1 k2 k3 k4
      have HMx:=HMa
      have hSW:Hid (∀ W',Below W3.heap.size W3 W' → W'.cell? ⟨w.heap.size,6,none⟩ = some (.slice a (n2 6) c) ∧ W'.cell? ⟨mb,7,none⟩ = some (.slice (some ⟨ag,0,none⟩) na acap) ∧ W'.cell? ⟨ag,i * 3 + 2,none⟩ = some (.int .i64 cn)):=fun W' hW=>⟨hK1.out W' hW,HMx.out W' (HS.out.below.trans (hW.mono HS.out.below.size))⟩
      have hS0:=Lib.hid (hSW.out W3.drew (Below.refl _ _).drew)
      refine wp_region_m 13 (fun W'=>W'.cell? ⟨w.heap.size,6,none⟩ = some (.slice a (n2 6) c) ∧ W'.cell? ⟨mb,7,none⟩ = some (.slice (some ⟨ag,0,none⟩) na acap) ∧ W'.cell? ⟨ag,i * 3 + 2,none⟩ = some (.int .i64 cn)) (by kernel_rfl) ?_
      refine wpAnyM_take0 (i:=0) (v:=?_) rfl (by decide) (by kernel_rfl) (by kernel_rfl) (by kernel_rfl) (fun _ _ _ h=>h) (Or.inl ⟨by kernel_rfl,?_⟩) (fun _=>hS0.out) ?_
      rotate_left
      ·intro w';go_simp;try (with_reducible rfl)
      refine wpAnyM_take0 (i:=2) (v:=?_) rfl (by decide) (by kernel_rfl) (by kernel_rfl) (by kernel_rfl) (fun _ _ _ h=>h) (Or.inl ⟨by kernel_rfl,?_⟩) (fun _=>hS0.out) ?_
      rotate_left
      ·intro w';go_simp;try (with_reducible rfl)
      refine wpAnyM_take0 (i:=3) (v:=?_) rfl (by decide) (by kernel_rfl) (by kernel_rfl) (by kernel_rfl) (fun _ _ _ h=>h) (Or.inl ⟨by kernel_rfl,?_⟩) (fun _=>hS0.out) ?_
      rotate_left
      ·intro w';go_simp;try (with_reducible rfl)
      refine wpAnyM_take0 (i:=4) (v:=?_) rfl (by decide) (by kernel_rfl) (by kernel_rfl) (by kernel_rfl) (fun _ _ _ h=>h) (Or.inl ⟨by kernel_rfl,?_⟩) (fun _=>hS0.out) ?_
      rotate_left
      ·intro w';go_simp;try (with_reducible rfl)
      refine wpAnyM_take0 (i:=6) (v:=?_) rfl (by decide) (by kernel_rfl) (by kernel_rfl) (by kernel_rfl) (fun _ _ _ h=>h) (Or.inl ⟨by kernel_rfl,?_⟩) (fun _=>hS0.out) ?_
      rotate_left
      ·intro w';go_simp;try (with_reducible rfl)
      refine wpAnyM_take (i:=1) (v:=?_) rfl rfl (by kernel_rfl) (by kernel_rfl) (by kernel_rfl) (by kernel_rfl) (by kernel_rfl) (fun _ _ _ h=>h) (Or.inl ⟨by kernel_rfl,?_⟩) (hS0.out) ?_
      rotate_left
      ·intro w' hw';obtain ⟨s0,s1,s2⟩:=hw';go_simp;try (with_reducible rfl)
      refine wpAnyM_take (i:=5) (v:=?_) rfl rfl (by kernel_rfl) (by kernel_rfl) (by kernel_rfl) (by kernel_rfl) (by kernel_rfl) (fun _ _ _ h=>h) (Or.inl ⟨by kernel_rfl,?_⟩) (hS0.out) ?_
      rotate_left
      ·intro w' hw';obtain ⟨s0,s1,s2⟩:=hw';go_simp;try (with_reducible rfl)
      refine wpAnyM_take0 (i:=7) (v:=?_) rfl (by decide) (by kernel_rfl) (by kernel_rfl) (by kernel_rfl) (fun _ _ _ h=>h) (Or.inl ⟨by kernel_rfl,?_⟩) (fun _=>hS0.out) ?_
      rotate_left
      ·intro w';go_simp;try (with_reducible rfl)
      refine wpAnyM_take0 (i:=8) (v:=?_) rfl (by decide) (by kernel_rfl) (by kernel_rfl) (by kernel_rfl) (fun _ _ _ h=>h) (Or.inl ⟨by kernel_rfl,?_⟩) (fun _=>hS0.out) ?_
      rotate_left
      ·intro w';go_simp;try (with_reducible rfl)
      refine wpAnyM_take (i:=9) (v:=?_) rfl rfl (by kernel_rfl) (by kernel_rfl) (by kernel_rfl) (by kernel_rfl) (by kernel_rfl) (fun _ _ _ h=>h) (Or.inl ⟨by kernel_rfl,?_⟩) (hS0.out) ?_
      rotate_left
      ·intro w' hw';obtain ⟨s0,s1,s2⟩:=hw';go_simp;try (with_reducible rfl)
      refine wpAnyM_ready (rs:=[10]) (by kernel_rfl) (by simp) ?_
      refine AllReadyM.cons rfl (fun K hK=>?_) AllReadyM.nil
      go_simp
      refine hK _ _ ⟨fun _=>hSW.out _ (blA (Below.refl _ _).drew _),?_⟩
      clear hK K
      refine wpAnyM_ready (rs:=[11]) (by kernel_rfl) (by simp) ?_
      refine AllReadyM.cons rfl (fun K hK=>?_) AllReadyM.nil
      (refine stepV Tryz.underlying22 info3 rfl (by decide) (by decide) w.heap.size _ rfl (.tmp 85) (.tmp 94) rfl (.slice a (n2 6) c) (n2 6) (X2 6) ⟨W3.drew.heap.size,0,none⟩ 1 [.int .i64 cn] (by simp [Act.eval]) (by rfl) (.inl (hK2.out _ (blA (Below.refl _ _).drew _))) rfl (newL W3.drew [.int .i64 cn] 3) (by simp [Value.oneCell']) (hK3.out _ (blA (Below.refl _ _).drew _)) (by have:=HLe.out 6;have:=HLm.out;omega) ?_;intro v' w5 hA;obtain ⟨g5,c5,rfl⟩:=hA.some;have HQ:=Lib.hid (hK4.out _ _ _ _ (blA (Below.refl _ _).drew _) hA);have z0:=HQ.out.1.2.1 w5 (Below.refl _ _);have u0:=HQ.out.1.2.2;clear hA)
      refine hK _ _ ⟨fun _=>⟨HQ.out.1.2.1 _ (Below.refl _ _),HMx.out _ HQ.out.1.1⟩,?_⟩
      clear hK K
      refine wpAnyM_take0 (i:=12) (v:=?_) rfl (by decide) (by kernel_rfl) (by kernel_rfl) (by kernel_rfl) (fun _ _ _ h=>h) (Or.inl ⟨by kernel_rfl,?_⟩) (fun _=>⟨HQ.out.1.2.1 _ (Below.refl _ _),HMx.out _ HQ.out.1.1⟩) ?_
      rotate_left
      ·intro w';go_simp;try (with_reducible rfl)
      refine wpAnyM_ready (rs:=[13]) (by kernel_rfl) (by simp) ?_
      refine AllReadyM.cons rfl (fun K hK=>?_) AllReadyM.nil
      go_simp
      refine hK _ _ ⟨(fun h=>absurd (h.symm.trans (show _ = true by kernel_rfl)) Bool.false_ne_true),?_⟩
      clear hK K
      refine wpAnyM_done (by kernel_rfl) ?_ _
      have hS':=HQ.out.2
      obtain ⟨n3,hn3⟩:∃ n',n' = up n2 6 (n2 6 + 1):=⟨_,rfl⟩
      obtain ⟨X3,hX3⟩:∃ X',X' = up X2 6 (X2 6 ++ [.int .i64 cn]):=⟨_,rfl⟩
      rw [← hn3,← hX3] at hS'
      generalize up v2 6 (Value.slice (some ⟨g5,0,none⟩) (n2 6 + 1) c5) = v3 at hS'
      generalize (w5.setCell ⟨w.heap.size,6,none⟩ (.slice (some ⟨g5,0,none⟩) (n2 6 + 1) c5)) = W4 at hS' ⊢
      have HLe:=Lib.hid (fun q=>(show n3 q ≤ _ by rw [hn3];exact up_le HLe.out q))
      have HS:=Lib.hid hS'
      have Hn3:=Lib.hid (And.intro hn3 hX3)
      clear hS' hn3 hX3 HQ hK1 hK2 hK3 hK4 z0 u0 hSW hS0 HMx
      go_wp2
      have hw:wrap64 ((i:Int) + 1) = ((i + 1:Nat):Int):=by have:=HLm.out;unfold wrap64;omega
      rw [hw]
      exact ⟨⟨i + 1,v3,n3,X3,by omega,rfl,SnL.three HL.out Hn1.out Hn2.out Hn3.out (by decide) (by decide) (by decide) HS.out (fun j=>by have:=HLe.out j;omega)⟩,by simp [intOf];omega⟩
     ·obtain rfl:i = np:=by omega
      have HL:=Lib.hid hL
      have c6:=(HR.out wr hL.sn.below).c6
      rw [Hmv.out] at c6
      clear hL hi hlt
      go_wp2
      go_loopw [103] (fun t wr=>∃ (j:Nat) (v:Nat → Value) (n:Nat → Nat) (X:Nat → List Value),j ≤ nm ∧ t = .int .i64 j ∧ SnL w s k (2 * k + 3 * i + 3 * j) v n X wr) (fun t _=>nm - (intOf t).toNat)
      case atStart=>exact ⟨0,_,_,_,Nat.zero_le _,rfl,HL.out⟩
      case round=>
       obtain ⟨j,v0,n0,X0,hj,rfl,hL⟩:=hrel
       clear HL c6
       by_cases hlt:j < nm
       ·have hjn:(j:Int) < (nm:Int):=by omega
        obtain ⟨q0,ql⟩:=HMr.out j wr hlt hL.sn.below
        obtain ⟨y,hy⟩:∃ y,s.ms[j]? = some y:=⟨_,List.getElem?_eq_getElem (by rw [HNM.out];exact hlt)⟩
        have hyg:0 ≤ y.g ∧ y.g ≤ k:=by have q:=(HR.out w (Below.refl _ _)).mg j (by rw [HNM.out];exact hlt);rw [hy,HNG.out] at q;exact q
        have HMy:Hid (∀ W',Below w.heap.size w W' → W'.cell? ⟨V.xb j,1,none⟩ = some (.int .i64 y.p) ∧ W'.cell? ⟨V.xb j,2,none⟩ = some (gptr V.gb y.g) ∧ W'.cell? ⟨V.xb j,3,none⟩ = some (.int .i64 y.phase)):=fun W' hW=>by
         have hB:=(HR.out W' hW).ms (by decide) j (by rw [HNM.out];exact hlt)
         rw [hy] at hB
         exact ⟨hB.cell 1,hB.cell 2,hB.cell 3⟩
        obtain ⟨yp,hyp⟩:∃ yp,y.p = yp:=⟨_,rfl⟩
        obtain ⟨yh,hyh⟩:∃ yh,y.phase = yh:=⟨_,rfl⟩
        obtain ⟨yg,hgg⟩:∃ yg,y.g = yg:=⟨_,rfl⟩
        rw [hyp,hyh,hgg] at HMy
        rw [hgg] at hyg
        generalize V.xb j = xb at *
        have x2:=(HMy.out wr hL.sn.below).2.1
        have HM1:Hid (∀ W',Below w.heap.size w W' → W'.cell? ⟨xb,1,none⟩ = some (.int .i64 yp)):=fun W' hW=>(HMy.out W' hW).1
        have HM3:Hid (∀ W',Below w.heap.size w W' → W'.cell? ⟨xb,3,none⟩ = some (.int .i64 yh)):=fun W' hW=>(HMy.out W' hW).2.2
        have HL:=Lib.hid hL
        have HS:=Lib.hid hL.sn
        have HLe:=Lib.hid hL.le
        have HLm:Hid (k ≤ 64 ∧ i ≤ 256 ∧ j < nm ∧ nm ≤ 64):=Lib.hid (by have:=HLim.out;omega)
        clear hL hj hy hyp hyh hgg
        obtain ⟨gp2,hb2,hgp2,hw2⟩:=HGp.out yg hyg
        have HW2:=Lib.hid hw2
        have hnq:(hb2 = false ∧ gp2 = .pointer none) ∨ (hb2 = true ∧ ∃ b:Nat,gp2 = .pointer (some ⟨b,0,none⟩)):=by rcases hw2 with ⟨a,b,_⟩ | ⟨a,b,c,_⟩;exact .inl ⟨a,b⟩;exact .inr ⟨a,b,c⟩
        have hne:∀ W,(binOp .neq 119 gp2 (.pointer none)).run Tryz.prog W = .ok (.bool hb2) W:=fun W=>neq_gp W hnq
        have hng:∀ (W:World) (x y:Operand),(eqGuard .neq 119 x y gp2 (.pointer none)).run Tryz.prog W = .ok () W:=fun W x y=>neq_gd W x y hnq
        clear hnq
        rw [hgp2] at x2
        clear hgp2 hw2 hyg
        go_upto_if 111 with fail
        go_cut [8,110,111] from 112 to 118 (fun c8 c110 c111 wx=>(∃ idv:Int,c8 = .int .i64 idv) ∧ wr = wx)
        case first=>
         clear hne hng
         rcases HW2.out with ⟨rfl,rfl,h0⟩ | ⟨rfl,b,rfl,hbl,hbc⟩
         ·go_wp2_with fail
          go_meet
          case rel=>exact ⟨⟨0,rfl⟩,rfl⟩
         ·have q1:=hbc wr HS.out.below
          clear hbc hbl
          go_wp2_with fail
          go_meet
          case rel=>exact ⟨⟨yg,rfl⟩,rfl⟩
        case rest=>
         obtain ⟨⟨idv,rfl⟩,rfl⟩:=hcut
         clear hne hng HW2 x2
         go_wp2
         obtain ⟨a,c,k1,k2,k3,k4⟩:=HS.out.step 7 3 1 (by simp [snI]) rfl rfl
         have hK1:=Lib.hid k1
         have hK2:=Lib.hid k2
         have hK3:=Lib.hid k3
         have hK4:=Lib.hid k4
         clear k1 k2 k3 k4
         have HMx:=HM1
         have hSW:Hid (∀ W',Below wr.heap.size wr W' → W'.cell? ⟨w.heap.size,7,none⟩ = some (.slice a (n0 7) c) ∧ W'.cell? ⟨xb,1,none⟩ = some (.int .i64 yp)):=fun W' hW=>⟨hK1.out W' hW,HMx.out W' (HS.out.below.trans (hW.mono HS.out.below.size))⟩
         have hS0:=Lib.hid (hSW.out wr.drew (Below.refl _ _).drew)
         refine wp_region_m 9 (fun W'=>W'.cell? ⟨w.heap.size,7,none⟩ = some (.slice a (n0 7) c) ∧ W'.cell? ⟨xb,1,none⟩ = some (.int .i64 yp)) (by kernel_rfl) ?_
         refine wpAnyM_take0 (i:=0) (v:=?_) rfl (by decide) (by kernel_rfl) (by kernel_rfl) (by kernel_rfl) (fun _ _ _ h=>h) (Or.inl ⟨by kernel_rfl,?_⟩) (fun _=>hS0.out) ?_
         rotate_left
         ·intro w';go_simp;try (with_reducible rfl)
         refine wpAnyM_take0 (i:=2) (v:=?_) rfl (by decide) (by kernel_rfl) (by kernel_rfl) (by kernel_rfl) (fun _ _ _ h=>h) (Or.inl ⟨by kernel_rfl,?_⟩) (fun _=>hS0.out) ?_
         rotate_left
         ·intro w';go_simp;try (with_reducible rfl)
         refine wpAnyM_take0 (i:=3) (v:=?_) rfl (by decide) (by kernel_rfl) (by kernel_rfl) (by kernel_rfl) (fun _ _ _ h=>h) (Or.inl ⟨by kernel_rfl,?_⟩) (fun _=>hS0.out) ?_
         rotate_left
         ·intro w';go_simp;try (with_reducible rfl)
         refine wpAnyM_take0 (i:=4) (v:=?_) rfl (by decide) (by kernel_rfl) (by kernel_rfl) (by kernel_rfl) (fun _ _ _ h=>h) (Or.inl ⟨by kernel_rfl,?_⟩) (fun _=>hS0.out) ?_
         rotate_left
         ·intro w';go_simp;try (with_reducible rfl)
         refine wpAnyM_take (i:=1) (v:=?_) rfl rfl (by kernel_rfl) (by kernel_rfl) (by kernel_rfl) (by kernel_rfl) (by kernel_rfl) (fun _ _ _ h=>h) (Or.inl ⟨by kernel_rfl,?_⟩) (hS0.out) ?_
         rotate_left
         ·intro w' hw';obtain ⟨s0,s1⟩:=hw';go_simp;try (with_reducible rfl)
         refine wpAnyM_take (i:=5) (v:=?_) rfl rfl (by kernel_rfl) (by kernel_rfl) (by kernel_rfl) (by kernel_rfl) (by kernel_rfl) (fun _ _ _ h=>h) (Or.inl ⟨by kernel_rfl,?_⟩) (hS0.out) ?_
         rotate_left
         ·intro w' hw';obtain ⟨s0,s1⟩:=hw';go_simp;try (with_reducible rfl)
         refine wpAnyM_ready (rs:=[6]) (by kernel_rfl) (by simp) ?_
         refine AllReadyM.cons rfl (fun K hK=>?_) AllReadyM.nil
         go_simp
         refine hK _ _ ⟨fun _=>hSW.out _ (blA (Below.refl _ _).drew _),?_⟩
         clear hK K
         refine wpAnyM_ready (rs:=[7]) (by kernel_rfl) (by simp) ?_
         refine AllReadyM.cons rfl (fun K hK=>?_) AllReadyM.nil
         (refine stepV Tryz.underlying22 info3 rfl (by decide) (by decide) w.heap.size _ rfl (.tmp 120) (.tmp 125) rfl (.slice a (n0 7) c) (n0 7) (X0 7) ⟨wr.drew.heap.size,0,none⟩ 1 [.int .i64 yp] (by simp [Act.eval]) (by rfl) (.inl (hK2.out _ (blA (Below.refl _ _).drew _))) rfl (newL wr.drew [.int .i64 yp] 3) (by simp [Value.oneCell']) (hK3.out _ (blA (Below.refl _ _).drew _)) (by have:=HLe.out 7;have:=HLm.out;omega) ?_;intro v' w5 hA;obtain ⟨g5,c5,rfl⟩:=hA.some;have HQ:=Lib.hid (hK4.out _ _ _ _ (blA (Below.refl _ _).drew _) hA);have z0:=HQ.out.1.2.1 w5 (Below.refl _ _);have u0:=HQ.out.1.2.2;clear hA)
         refine hK _ _ ⟨fun _=>⟨HQ.out.1.2.1 _ (Below.refl _ _),HMx.out _ HQ.out.1.1⟩,?_⟩
         clear hK K
         refine wpAnyM_take0 (i:=8) (v:=?_) rfl (by decide) (by kernel_rfl) (by kernel_rfl) (by kernel_rfl) (fun _ _ _ h=>h) (Or.inl ⟨by kernel_rfl,?_⟩) (fun _=>⟨HQ.out.1.2.1 _ (Below.refl _ _),HMx.out _ HQ.out.1.1⟩) ?_
         rotate_left
         ·intro w';go_simp;try (with_reducible rfl)
         refine wpAnyM_ready (rs:=[9]) (by kernel_rfl) (by simp) ?_
         refine AllReadyM.cons rfl (fun K hK=>?_) AllReadyM.nil
         go_simp
         refine hK _ _ ⟨(fun h=>absurd (h.symm.trans (show _ = true by kernel_rfl)) Bool.false_ne_true),?_⟩
         clear hK K
         refine wpAnyM_done (by kernel_rfl) ?_ _
         have hS':=HQ.out.2
         obtain ⟨n1,hn1⟩:∃ n',n' = up n0 7 (n0 7 + 1):=⟨_,rfl⟩
         obtain ⟨X1,hX1⟩:∃ X',X' = up X0 7 (X0 7 ++ [.int .i64 yp]):=⟨_,rfl⟩
         rw [← hn1,← hX1] at hS'
         generalize up v0 7 (Value.slice (some ⟨g5,0,none⟩) (n0 7 + 1) c5) = v1 at hS'
         generalize (w5.setCell ⟨w.heap.size,7,none⟩ (.slice (some ⟨g5,0,none⟩) (n0 7 + 1) c5)) = W2 at hS' ⊢
         have HLe:=Lib.hid (fun q=>(show n1 q ≤ _ by rw [hn1];exact up_le HLe.out q))
         have HS:=Lib.hid hS'
         have Hn1:=Lib.hid (And.intro hn1 hX1)
         clear hS' hn1 hX1 HQ hK1 hK2 hK3 hK4 z0 u0 hSW hS0 HMx
         obtain ⟨a,c,k1,k2,k3,k4⟩:=HS.out.step 8 3 1 (by simp [snI]) rfl rfl
         have hK1:=Lib.hid k1
         have hK2:=Lib.hid k2
         have hK3:=Lib.hid k3
         have hK4:=Lib.hid k4
         clear k1 k2 k3 k4
         have z8:=hK1.out W2 (Below.refl _ _)
         go_wp2_with (at_builtin;refine appV Tryz.underlying22 info3 rfl (by decide) (by decide) w.heap.size _ rfl _ _ rfl (.slice a (n1 8) c) (n1 8) (X1 8) ⟨W2.heap.size,0,none⟩ 1 [.int .i64 idv] rfl rfl (.inl (hK2.out _ (blA (Below.refl _ _) _))) rfl (newL W2 [.int .i64 idv] 3) (by simp [Value.oneCell']) (hK3.out _ (blA (Below.refl _ _) _)) (by have:=HLe.out 8;have:=HLm.out;omega) ?_;intro v' w5 hA;obtain ⟨g5,c5,rfl⟩:=hA.some;have HQ:=Lib.hid (hK4.out _ _ _ _ (blA (Below.refl _ _) _) hA);have z0:=HQ.out.1.2.1 w5 (Below.refl _ _);have u0:=HQ.out.1.2.2;clear hA)
         have hS':=HQ.out.2
         obtain ⟨n2,hn2⟩:∃ n',n' = up n1 8 (n1 8 + 1):=⟨_,rfl⟩
         obtain ⟨X2,hX2⟩:∃ X',X' = up X1 8 (X1 8 ++ [.int .i64 idv]):=⟨_,rfl⟩
         rw [← hn2,← hX2] at hS'
         generalize up v1 8 (Value.slice (some ⟨g5,0,none⟩) (n1 8 + 1) c5) = v2 at hS'
         generalize (w5.setCell ⟨w.heap.size,8,none⟩ (.slice (some ⟨g5,0,none⟩) (n1 8 + 1) c5)) = W3 at hS' ⊢
         have HLe:=Lib.hid (fun q=>(show n2 q ≤ _ by rw [hn2];exact up_le HLe.out q))
         have HS:=Lib.hid hS'
         have Hn2:=Lib.hid (And.intro hn2 hX2)
         clear hS' hn2 hX2 HQ hK1 hK2 hK3 hK4 z0 u0 z8
         obtain ⟨a,c,k1,k2,k3,k4⟩:=HS.out.step 9 4 1 (by simp [snI]) rfl rfl
         have hK1:=Lib.hid k1
         have hK2:=Lib.hid k2
         have hK3:=Lib.hid k3
         have hK4:=Lib.hid k4
         clear k1 k2 k3 k4
         have HMx:=HM3
         have hSW:Hid (∀ W',Below W3.heap.size W3 W' → W'.cell? ⟨w.heap.size,9,none⟩ = some (.slice a (n2 9) c) ∧ W'.cell? ⟨xb,3,none⟩ = some (.int .i64 yh)):=fun W' hW=>⟨hK1.out W' hW,HMx.out W' (HS.out.below.trans (hW.mono HS.out.below.size))⟩
         have hS0:=Lib.hid (hSW.out W3.drew (Below.refl _ _).drew)
         refine wp_region_m 10 (fun W'=>W'.cell? ⟨w.heap.size,9,none⟩ = some (.slice a (n2 9) c) ∧ W'.cell? ⟨xb,3,none⟩ = some (.int .i64 yh)) (by kernel_rfl) ?_
         refine wpAnyM_take0 (i:=0) (v:=?_) rfl (by decide) (by kernel_rfl) (by kernel_rfl) (by kernel_rfl) (fun _ _ _ h=>h) (Or.inl ⟨by kernel_rfl,?_⟩) (fun _=>hS0.out) ?_
         rotate_left
         ·intro w';go_simp;try (with_reducible rfl)
         refine wpAnyM_take0 (i:=2) (v:=?_) rfl (by decide) (by kernel_rfl) (by kernel_rfl) (by kernel_rfl) (fun _ _ _ h=>h) (Or.inl ⟨by kernel_rfl,?_⟩) (fun _=>hS0.out) ?_
         rotate_left
         ·intro w';go_simp;try (with_reducible rfl)
         refine wpAnyM_take0 (i:=3) (v:=?_) rfl (by decide) (by kernel_rfl) (by kernel_rfl) (by kernel_rfl) (fun _ _ _ h=>h) (Or.inl ⟨by kernel_rfl,?_⟩) (fun _=>hS0.out) ?_
         rotate_left
         ·intro w';go_simp;try (with_reducible rfl)
         refine wpAnyM_take0 (i:=4) (v:=?_) rfl (by decide) (by kernel_rfl) (by kernel_rfl) (by kernel_rfl) (fun _ _ _ h=>h) (Or.inl ⟨by kernel_rfl,?_⟩) (fun _=>hS0.out) ?_
         rotate_left
         ·intro w';go_simp;try (with_reducible rfl)
         refine wpAnyM_take (i:=1) (v:=?_) rfl rfl (by kernel_rfl) (by kernel_rfl) (by kernel_rfl) (by kernel_rfl) (by kernel_rfl) (fun _ _ _ h=>h) (Or.inl ⟨by kernel_rfl,?_⟩) (hS0.out) ?_
         rotate_left
         ·intro w' hw';obtain ⟨s0,s1⟩:=hw';go_simp;try (with_reducible rfl)
         refine wpAnyM_take (i:=5) (v:=?_) rfl rfl (by kernel_rfl) (by kernel_rfl) (by kernel_rfl) (by kernel_rfl) (by kernel_rfl) (fun _ _ _ h=>h) (Or.inl ⟨by kernel_rfl,?_⟩) (hS0.out) ?_
         rotate_left
         ·intro w' hw';obtain ⟨s0,s1⟩:=hw';go_simp;try (with_reducible rfl)
         refine wpAnyM_take0 (i:=6) (v:=?_) rfl (by decide) (by kernel_rfl) (by kernel_rfl) (by kernel_rfl) (fun _ _ _ h=>h) (Or.inl ⟨by kernel_rfl,?_⟩) (fun _=>hS0.out) ?_
         rotate_left
         ·intro w';go_simp;try (with_reducible rfl)
         refine wpAnyM_ready (rs:=[7]) (by kernel_rfl) (by simp) ?_
         refine AllReadyM.cons rfl (fun K hK=>?_) AllReadyM.nil
         go_simp
         refine hK _ _ ⟨fun _=>hSW.out _ (blA (Below.refl _ _).drew _),?_⟩
         clear hK K
         refine wpAnyM_ready (rs:=[8]) (by kernel_rfl) (by simp) ?_
         refine AllReadyM.cons rfl (fun K hK=>?_) AllReadyM.nil
         (refine stepV Tryz.underlying43 Gnn.info4 rfl (by decide) (by decide) w.heap.size _ rfl (.tmp 135) (.tmp 141) rfl (.slice a (n2 9) c) (n2 9) (X2 9) ⟨W3.drew.heap.size,0,none⟩ 1 [.bool (decide (yh = 0))] (by simp [Act.eval]) (by rfl) (.inl (hK2.out _ (blA (Below.refl _ _).drew _))) rfl (newL W3.drew [.bool (decide (yh = 0))] 4) (by simp [Value.oneCell']) (hK3.out _ (blA (Below.refl _ _).drew _)) (by have:=HLe.out 9;have:=HLm.out;omega) ?_;intro v' w5 hA;obtain ⟨g5,c5,rfl⟩:=hA.some;have HQ:=Lib.hid (hK4.out _ _ _ _ (blA (Below.refl _ _).drew _) hA);have z0:=HQ.out.1.2.1 w5 (Below.refl _ _);have u0:=HQ.out.1.2.2;clear hA)
         refine hK _ _ ⟨fun _=>⟨HQ.out.1.2.1 _ (Below.refl _ _),HMx.out _ HQ.out.1.1⟩,?_⟩
         clear hK K
         refine wpAnyM_take0 (i:=9) (v:=?_) rfl (by decide) (by kernel_rfl) (by kernel_rfl) (by kernel_rfl) (fun _ _ _ h=>h) (Or.inl ⟨by kernel_rfl,?_⟩) (fun _=>⟨HQ.out.1.2.1 _ (Below.refl _ _),HMx.out _ HQ.out.1.1⟩) ?_
         rotate_left
         ·intro w';go_simp;try (with_reducible rfl)
         refine wpAnyM_ready (rs:=[10]) (by kernel_rfl) (by simp) ?_
         refine AllReadyM.cons rfl (fun K hK=>?_) AllReadyM.nil
         go_simp
         refine hK _ _ ⟨(fun h=>absurd (h.symm.trans (show _ = true by kernel_rfl)) Bool.false_ne_true),?_⟩
         clear hK K
         refine wpAnyM_done (by kernel_rfl) ?_ _
         have hS':=HQ.out.2
         obtain ⟨n3,hn3⟩:∃ n',n' = up n2 9 (n2 9 + 1):=⟨_,rfl⟩
         obtain ⟨X3,hX3⟩:∃ X',X' = up X2 9 (X2 9 ++ [.bool (decide (yh = 0))]):=⟨_,rfl⟩
         rw [← hn3,← hX3] at hS'
         generalize up v2 9 (Value.slice (some ⟨g5,0,none⟩) (n2 9 + 1) c5) = v3 at hS'
         generalize (w5.setCell ⟨w.heap.size,9,none⟩ (.slice (some ⟨g5,0,none⟩) (n2 9 + 1) c5)) = W4 at hS' ⊢
         have HLe:=Lib.hid (fun q=>(show n3 q ≤ _ by rw [hn3];exact up_le HLe.out q))
         have HS:=Lib.hid hS'
         have Hn3:=Lib.hid (And.intro hn3 hX3)
         clear hS' hn3 hX3 HQ hK1 hK2 hK3 hK4 z0 u0 hSW hS0 HMx
         go_wp2
         have hw:wrap64 ((j:Int) + 1) = ((j + 1:Nat):Int):=by have:=HLm.out;unfold wrap64;omega
         rw [hw]
         exact ⟨⟨j + 1,v3,n3,X3,by omega,rfl,SnL.three HL.out Hn1.out Hn2.out Hn3.out (by decide) (by decide) (by decide) HS.out (fun j=>by have:=HLe.out j;omega)⟩,by simp [intOf];omega⟩
       ·obtain rfl:j = nm:=by omega
        have HS:=Lib.hid hL.sn
        have HL:=Lib.hid hL
        clear hL hj hlt
        have hSW:Hid (∀ W',Below w.heap.size w W' → W'.cell? ⟨mb,0,none⟩ = some (ptr V.procs) ∧ W'.cell? ⟨mb,9,none⟩ = some (ptr V.all)):=fun W' hW=>⟨(HR.out W' hW).c0,(HR.out W' hW).c9⟩
        have hS0:=Lib.hid (hSW.out wr.drew HS.out.below.drew)
        go_wp2
        refine wp_region_m 13 (fun W'=>W'.cell? ⟨mb,0,none⟩ = some (ptr V.procs) ∧ W'.cell? ⟨mb,9,none⟩ = some (ptr V.all)) (by kernel_rfl) ?_
        refine wpAnyM_take0 (i:=0) (v:=?_) rfl (by decide) (by kernel_rfl) (by kernel_rfl) (by kernel_rfl) (fun _ _ _ h=>h) (Or.inl ⟨by kernel_rfl,?_⟩) (fun _=>hS0.out) ?_
        rotate_left
        ·intro w';go_simp;try (with_reducible rfl)
        refine wpAnyM_take0 (i:=1) (v:=?_) rfl (by decide) (by kernel_rfl) (by kernel_rfl) (by kernel_rfl) (fun _ _ _ h=>h) (Or.inl ⟨by kernel_rfl,?_⟩) (fun _=>hS0.out) ?_
        rotate_left
        ·intro w';go_simp;try (with_reducible rfl)
        refine wpAnyM_take0 (i:=2) (v:=?_) rfl (by decide) (by kernel_rfl) (by kernel_rfl) (by kernel_rfl) (fun _ _ _ h=>h) (Or.inl ⟨by kernel_rfl,?_⟩) (fun _=>hS0.out) ?_
        rotate_left
        ·intro w';go_simp;try (with_reducible rfl)
        refine wpAnyM_take0 (i:=5) (v:=?_) rfl (by decide) (by kernel_rfl) (by kernel_rfl) (by kernel_rfl) (fun _ _ _ h=>h) (Or.inl ⟨by kernel_rfl,?_⟩) (fun _=>hS0.out) ?_
        rotate_left
        ·intro w';go_simp;try (with_reducible rfl)
        refine wpAnyM_take0 (i:=6) (v:=?_) rfl (by decide) (by kernel_rfl) (by kernel_rfl) (by kernel_rfl) (fun _ _ _ h=>h) (Or.inl ⟨by kernel_rfl,?_⟩) (fun _=>hS0.out) ?_
        rotate_left
        ·intro w';go_simp;try (with_reducible rfl)
        refine wpAnyM_take0 (i:=7) (v:=?_) rfl (by decide) (by kernel_rfl) (by kernel_rfl) (by kernel_rfl) (fun _ _ _ h=>h) (Or.inl ⟨by kernel_rfl,?_⟩) (fun _=>hS0.out) ?_
        rotate_left
        ·intro w';go_simp;try (with_reducible rfl)
        refine wpAnyM_take (i:=3) (v:=?_) rfl rfl (by kernel_rfl) (by kernel_rfl) (by kernel_rfl) (by kernel_rfl) (by kernel_rfl) (fun _ _ _ h=>h) (Or.inl ⟨by kernel_rfl,?_⟩) (hS0.out) ?_
        rotate_left
        ·intro w' hw';obtain ⟨s0,s1⟩:=hw';go_simp;try (with_reducible rfl)
        refine wpAnyM_take (i:=8) (v:=?_) rfl rfl (by kernel_rfl) (by kernel_rfl) (by kernel_rfl) (by kernel_rfl) (by kernel_rfl) (fun _ _ _ h=>h) (Or.inl ⟨by kernel_rfl,?_⟩) (hS0.out) ?_
        rotate_left
        ·intro w' hw';obtain ⟨s0,s1⟩:=hw';go_simp;try (with_reducible rfl)
        refine wpAnyM_ready (rs:=[4]) (by kernel_rfl) (by simp) ?_
        refine AllReadyM.cons rfl (fun K hK=>?_) AllReadyM.nil
        go_simp
        go_wp2_with (go_at_call 60;refine ((HR.out _ HS.out.below.drew).queues).mono ?_;rintro e w6 ⟨qv,rfl,⟨vs,hqv⟩,hB⟩;obtain ⟨qa,qc,rfl⟩:=row_slice hqv.1;have HS6:=Lib.hid (HS.out.go ((Below.refl wr.heap.size wr).drew.trans hB));clear hqv hB)
        refine ⟨fun _=>hSW.out _ HS6.out.below,?_⟩
        refine wpAnyM_take0 (i:=10) (v:=?_) rfl (by decide) (by kernel_rfl) (by kernel_rfl) (by kernel_rfl) (fun _ _ _ h=>h) (Or.inl ⟨by kernel_rfl,?_⟩) (fun _=>hSW.out _ HS6.out.below) ?_
        rotate_left
        ·intro w';go_simp;try (with_reducible rfl)
        refine wpAnyM_ready (rs:=[9]) (by kernel_rfl) (by simp) ?_
        refine AllReadyM.cons rfl (fun K hK=>?_) AllReadyM.nil
        go_simp
        go_wp2_with (go_at_call 61;refine ((HR.out _ HS6.out.below).alist (by have:=HAll.out;omega)).mono ?_;rintro e w7 ⟨av,rfl,hav,hB⟩;obtain ⟨la,lc,rfl⟩:=Glob.own_len hav;have HS7:=Lib.hid (HS6.out.go hB);have z5:=HS7.out.blk.cell 5;have u5:=HS7.out.blk.free 5;have z10:=HS7.out.blk.cell 10;have u10:=HS7.out.blk.free 10;simp only [snC,List.getElem?_toArray,List.getElem?_cons_zero,List.getElem?_cons_succ] at z5 z10;clear hav hB)
        refine ⟨fun _=>hSW.out _ HS7.out.below,?_⟩
        refine wpAnyM_ready (rs:=[11]) (by kernel_rfl) (by simp) ?_
        refine AllReadyM.cons rfl (fun K hK=>?_) AllReadyM.nil
        go_simp
        refine hK _ _ ⟨fun _=>hSW.out _ (HS7.out.below.setCell (Nat.le_refl _) _),?_⟩
        clear hK K
        refine wpAnyM_take0 (i:=12) (v:=?_) rfl (by decide) (by kernel_rfl) (by kernel_rfl) (by kernel_rfl) (fun _ _ _ h=>h) (Or.inl ⟨by kernel_rfl,?_⟩) (fun _=>hSW.out _ (HS7.out.below.setCell (Nat.le_refl _) _)) ?_
        rotate_left
        ·intro w';go_simp;try (with_reducible rfl)
        refine wpAnyM_ready (rs:=[13]) (by kernel_rfl) (by simp) ?_
        refine AllReadyM.cons rfl (fun K hK=>?_) AllReadyM.nil
        go_simp
        refine hK _ _ ⟨(fun h=>absurd (h.symm.trans (show _ = true by kernel_rfl)) Bool.false_ne_true),?_⟩
        clear hK K
        refine wpAnyM_done (by kernel_rfl) ?_ _
        have HL7:=Lib.hid (snap_end ⟨HS7.out,HL.out.n1,HL.out.n2,HL.out.x1,HL.out.x2,HL.out.le⟩ HNG.out (.slice qa (qsM s.rings).length qc) (.slice la s.all.length lc))
        clear HL HS HS6 HS7 z5 z10 u5 u10 hSW hS0
        generalize (qsM s.rings).length = ql at *
        generalize s.all.length = ll at *
        generalize ((w7.setCell ⟨w.heap.size,5,none⟩ (.slice qa ql qc)).setCell ⟨w.heap.size,10,none⟩ (.slice la ll lc)) = W9 at *
        obtain ⟨a1,c1,a2,c2,a3,m3,c3,a4,m4,c4,a6,m6,c6,a7,m7,c7,a8,m8,c8,a9,m9,c9,hb9,hr1,hr2,hu1,hu2,hB9⟩:=HL7.out
        clear HL7
        obtain ⟨hd,hhd⟩:∃ hd,s.sc.holder = hd:=⟨_,rfl⟩
        rw [hhd] at hb9
        have k0:=hb9.cell 0
        have k1:=hb9.cell 1
        have k2:=hb9.cell 2
        have k3:=hb9.cell 3
        have k4:=hb9.cell 4
        have k5:=hb9.cell 5
        have k6:=hb9.cell 6
        have k7:=hb9.cell 7
        have k8:=hb9.cell 8
        have k9:=hb9.cell 9
        have k10:=hb9.cell 10
        have f0:=hb9.free 0
        have f1:=hb9.free 1
        have f2:=hb9.free 2
        have f3:=hb9.free 3
        have f4:=hb9.free 4
        have f5:=hb9.free 5
        have f6:=hb9.free 6
        have f7:=hb9.free 7
        have f8:=hb9.free 8
        have f9:=hb9.free 9
        have f10:=hb9.free 10
        simp only [List.getElem?_toArray,List.getElem?_cons_zero,List.getElem?_cons_succ] at k0 k1 k2 k3 k4 k5 k6 k7 k8 k9 k10
        have H9:=Lib.hid (And.intro hb9 (And.intro hr1 (And.intro hr2 (And.intro hu1 (And.intro hu2 (And.intro hB9 hhd))))))
        clear hb9 hr1 hr2 hu1 hu2 hB9 hhd
        go_wp2
        have hbz:=same11 H9.out.1
        have hoz:=only11 (W:=W9) (b:=w.heap.size) (x0:=.int .i64 hd) (x1:=.slice a1 k c1) (x2:=.slice a2 k c2) (x3:=.slice a3 m3 c3) (x4:=.slice a4 m4 c4) (x5:=.slice qa ql qc) (x6:=.slice a6 m6 c6) (x7:=.slice a7 m7 c7) (x8:=.slice a8 m8 c8) (x9:=.slice a9 m9 c9) (x10:=.slice la ll lc)
        clear k0 f0 k1 f1 k2 f2 k3 f3 k4 f4 k5 f5 k6 f6 k7 f7 k8 f8 k9 f9 k10 f10
        have k0:=hbz.cell 0
        have k1:=hbz.cell 1
        have k2:=hbz.cell 2
        have k3:=hbz.cell 3
        have k4:=hbz.cell 4
        have k5:=hbz.cell 5
        have k6:=hbz.cell 6
        have k7:=hbz.cell 7
        have k8:=hbz.cell 8
        have k9:=hbz.cell 9
        have k10:=hbz.cell 10
        simp only [List.getElem?_toArray,List.getElem?_cons_zero,List.getElem?_cons_succ] at k0 k1 k2 k3 k4 k5 k6 k7 k8 k9 k10
        obtain ⟨_,hr1,hr2,hu1,hu2,hB9,hhd⟩:=H9.out
        have hq:=snapP_intro (v3:=.slice a3 m3 c3) (v4:=.slice a4 m4 c4) (v5:=.slice qa ql qc) (v6:=.slice a6 m6 c6) (v7:=.slice a7 m7 c7) (v8:=.slice a8 m8 c8) (v9:=.slice a9 m9 c9) (v10:=.slice la ll lc) HNG.out hhd (rowv_off hr1 hoz (fun j hj e=>hu1 j hj e)) (rowv_off hr2 hoz (fun j hj e=>hu2 j hj e)) (hB9.trans (hoz.toBelow hB9.size (fun j hj=>by rw [show j = w.heap.size from hj];exact Nat.le_refl _))) sl8
        exact bodyPost_ret (by simp [results,Tryz.results12,go_sem,k0,k1,k2,k3,k4,k5,k6,k7,k8,k9,k10]) rfl hq
end
end Go.Proofs.YtgadhchejmlfjaaGreatDoor.Mac
end
