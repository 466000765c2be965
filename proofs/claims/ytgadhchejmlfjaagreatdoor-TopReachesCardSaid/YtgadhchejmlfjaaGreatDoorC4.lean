/- Parts of the proof of TopReaches. -/
import Derived.Test.YtgadhchejmlfjaaGreatDoorC3
import Derived.Test.YtgadhchejmlfjaaGreatDoorB7
import Derived.Test.YtgadhchejmlfjaaGreatDoorK
set_option linter.unusedVariables false
set_option maxRecDepth 20000
section
namespace Go.Proofs.YtgadhchejmlfjaaGreatDoor.Txt
open Go.RowKit Go.Esc
open Go.Proofs.YtgadhchejmlfjaaGreatDoor.Isa (row rows Laid noRow)
open Go.Proofs.YtgadhchejmlfjaaGreatDoor.Vm (Ins)
open Go.Proofs.YtgadhchejmlfjaaGreatDoor.Gnn (info84 info4 new5')
def insV (i:Ins):List Value:=[.int .i64 i.op,.int .i64 i.a,.int .i64 i.b,.int .i64 i.c,.int .i64 i.n]
def insC' (l:List Ins):List Value:=l.flatMap insV
def boolC (l:List Bool):List Value:=l.map Value.bool
theorem insC'_snoc (l:List Ins) (i:Ins):insC' (l ++ [i]) = insC' l ++ insV i:=by simp [insC']
theorem boolC_snoc (l:List Bool) (i:Bool):boolC (l ++ [i]) = boolC l ++ [.bool i]:=by simp [boolC]
structure FnS (w0:World) (g:Nat) (cv sv:Value) (l:List Ins) (sf:List Bool) (w:World):Prop where
 below:Below w0.heap.size w0 w
 fn:∃ cur,Blk w g cur 87 ∧ cur[0]? = some cv ∧ cur[1]? = some sv
 ge:w0.heap.size ≤ g
 code:w.ownsRow w0.heap.size 84 5 cv l.length (insC' l)
 safe:w.ownsRow w0.heap.size 4 1 sv sf.length (boolC sf)
theorem row_type {w:World} {base:Nat} {e:TypeId} {size:Nat} {v:Value} {n:Nat} {xs:List Value} (h:w.ownsRow base e size v n xs) {j:Nat} (hj:v.ownBlock = some j):∃ cs,Blk w j cs e:=by
 obtain ⟨_,⟨rfl,_⟩ | ⟨g,cap,cur,rfl,_,hb,_⟩⟩:=h
 ·cases hj
 ·cases hj;exact ⟨cur,hb⟩
theorem blk_type {w:World} {j:Nat} {a b:Array Value} {s t:TypeId} (h1:Blk w j a s) (h2:Blk w j b t):s = t:=by
 unfold Blk at h1 h2
 rw [h1] at h2
 cases h2
 rfl
theorem FnS.go {w0 w w':World} {g:Nat} {cv sv:Value} {l:List Ins} {sf:List Bool} (h:FnS w0 g cv sv l sf w) (hB:Below w.heap.size w w'):FnS w0 g cv sv l sf w':=by
 obtain ⟨cur,h1,h2,h3⟩:=h.fn
 exact ⟨h.below.trans (hB.mono h.below.size),⟨cur,h1.below hB h1.lt,h2,h3⟩,h.ge,rowv_below h.code hB,rowv_below h.safe hB⟩
theorem FnS.cg {w0 w:World} {g:Nat} {cv sv:Value} {l:List Ins} {sf:List Bool} (h:FnS w0 g cv sv l sf w):cv.ownBlock ≠ some g:=fun e=>by
 obtain ⟨cs,hc⟩:=row_type h.code e
 obtain ⟨cur,h1,_⟩:=h.fn
 exact absurd (blk_type hc h1) (by decide)
theorem FnS.sg {w0 w:World} {g:Nat} {cv sv:Value} {l:List Ins} {sf:List Bool} (h:FnS w0 g cv sv l sf w):sv.ownBlock ≠ some g:=fun e=>by
 obtain ⟨cs,hc⟩:=row_type h.safe e
 obtain ⟨cur,h1,_⟩:=h.fn
 exact absurd (blk_type hc h1) (by decide)
theorem FnS.app {w0 w W3 W5:World} {g:Nat} {cv sv cv' sv':Value} {l:List Ins} {sf:List Bool} {i:Ins} {s:Bool} {Wa Wb:World} (h:FnS w0 g cv sv l sf w) (ha:Below w.heap.size w Wa) (hA:AppdV Wa w0.heap.size 84 5 cv l.length (insC' l) (insV i) cv' W3)
  (hb:Below W3.heap.size W3 Wb) (hB:AppdV Wb w0.heap.size 4 1 sv sf.length (boolC sf) [.bool s] sv' W5) :
  FnS w0 g cv' sv' (l ++ [i]) (sf ++ [s]) ((W5.setCell ⟨g,0,none⟩ cv').setCell ⟨g,1,none⟩ sv'):=by
 obtain ⟨cur,h1,h2,h3⟩:=h.fn
 have ha':=h.go ha
 obtain ⟨cura,k1,k2,k3⟩:=ha'.fn
 have hg3:Blk W3 g cura 87:=k1.kept hA.2.1 (fun e=>ha'.cg e.symm)
 have hg5:Blk W5 g cura 87:=(hg3.below hb hg3.lt).kept hB.2.1 (fun e=>ha'.sg e.symm)
 have hc5:W5.ownsRow w0.heap.size 84 5 cv' (l ++ [i]).length (insC' (l ++ [i])):=by
  rw [insC'_snoc,List.length_append]
  refine (rowv_below hA.1 hb).kept hB.2.1 ?_
  by_cases e:cv'.ownBlock = none
  ·exact .inl e
  ·right
   intro e2
   obtain ⟨j,hj⟩:=Option.ne_none_iff_exists'.1 e
   obtain ⟨cs,q1⟩:=row_type (rowv_below hA.1 hb) hj
   rw [hj] at e2
   obtain ⟨cs2,q2⟩:=row_type ha'.safe e2.symm
   have q3:Blk W3 j cs2 4:=q2.kept hA.2.1 (fun e3=>by
    obtain ⟨cs4,q4⟩:=row_type ha'.code e3.symm
    exact absurd (blk_type q2 q4) (by decide))
   exact absurd (blk_type q1 (q3.below hb q3.lt)) (by decide)
 have hs5:W5.ownsRow w0.heap.size 4 1 sv' (sf ++ [s]).length (boolC (sf ++ [s])):=by
  rw [boolC_snoc,List.length_append];exact hB.1
 have hcg:cv'.ownBlock ≠ some g:=fun e=>by
  obtain ⟨cs,q⟩:=row_type hc5 e
  exact absurd (blk_type q hg5) (by decide)
 have hsg:sv'.ownBlock ≠ some g:=fun e=>by
  obtain ⟨cs,q⟩:=row_type hs5 e
  exact absurd (blk_type q hg5) (by decide)
 have o2:Only (fun j=>j = g) W5 ((W5.setCell ⟨g,0,none⟩ cv').setCell ⟨g,1,none⟩ sv'):=(Only.set (S:=fun j=>j = g) (Only.refl _ _) (.inr rfl) _ _).set (.inr rfl) _ _
 have hz:2 ≤ cura.size:=by have:=(Array.getElem?_eq_some_iff.1 k3).1;omega
 refine ⟨?_,⟨(cura.setIfInBounds 0 cv').setIfInBounds 1 sv',(hg5.set 0 cv').set 1 sv',?_,?_⟩,h.ge,rowv_off hc5 o2 (fun j hj e=>hcg (by rw [hj,show j = g from e])),rowv_off hs5 o2 (fun j hj e=>hsg (by rw [hj,show j = g from e]))⟩
 ·have e1:=below_grown (ha'.below) hA.2.1 (fun j hj=>(World.ownsRow.lt ha'.code j hj).1)
  have e2:=e1.trans (hb.mono e1.size)
  have e3:=below_grown e2 hB.2.1 (fun j hj=>(World.ownsRow.lt ha'.safe j hj).1)
  exact (e3.setCell h.ge _).setCell h.ge _
 ·simp [show 0 < cura.size by omega]
 ·simp [show 1 < cura.size by omega]
def InsGo (w0:World) (i:Ins) (s:Bool):Prop:=∀ W,Below w0.heap.size w0 W → Calls Tryz.prog 272 #[.string ⟨(lineI i s).toArray⟩] W fun e w'=>e = .returned (.tuple #[.agg #[.int .i64 i.op,.int .i64 i.a,.int .i64 i.b,.int .i64 i.c,.int .i64 i.n],.bool s,.bool true]) ∧ Below W.heap.size W w'
def restT (l:List Ins) (sf:List Bool) (k:Nat):List UInt8:=(List.range (l.length - k)).flatMap fun j=>lineI (l[k + j]?.getD ⟨0,0,0,0,0⟩) (sf[k + j]?.getD false) ++ [10]
theorem restT_step (l:List Ins) (sf:List Bool) (k:Nat) (h:k < l.length):restT l sf k = lineI (l[k]?.getD ⟨0,0,0,0,0⟩) (sf[k]?.getD false) ++ 10 :: restT l sf (k + 1):=by
 unfold restT
 obtain ⟨m,hm⟩:∃ m,l.length - k = m + 1:=⟨l.length - k - 1,by omega⟩
 rw [hm,show l.length - (k + 1) = m by omega,List.range_succ_eq_map,List.flatMap_cons,List.flatMap_map]
 simp only [Nat.add_zero,List.append_assoc,List.singleton_append]
 congr 2
 congr 1
 funext j
 rw [show k + Nat.succ j = k + 1 + j by omega]
theorem restT_len (l:List Ins) (sf:List Bool) (h:∀ i ∈ l,insB i = true):∀ n k,l.length - k = n → (restT l sf k).length ≤ n * 2101
 | 0,k,e=>by unfold restT;rw [e];simp
 | n + 1,k,e=>by
  have hk:k < l.length:=by omega
  rw [restT_step l sf k hk,List.length_append,List.length_cons]
  have h1:=restT_len l sf h n (k + 1) (by omega)
  have h2:=lineI_len (l[k]?.getD ⟨0,0,0,0,0⟩) (sf[k]?.getD false) (by rw [List.getElem?_eq_getElem hk];exact h _ (List.getElem_mem hk))
  omega
theorem take_succ' {α:Type} (l:List α) (k:Nat) (d:α) (h:k < l.length):l.take (k + 1) = l.take k ++ [l[k]?.getD d]:=by
 rw [List.take_add_one,List.getElem?_eq_getElem h];rfl
theorem restT_zero (l:List Ins) (sf:List Bool):restT l sf 0 = codeT l sf l.length:=by simp [restT,codeT]
theorem restT_end (l:List Ins) (sf:List Bool):restT l sf l.length = []:=by simp [restT]
theorem cut_line (a b:List UInt8) (w:World) (h:(10:UInt8) ∉ a) (hl:(a ++ 10 :: b).length ≤ 1000000) (hm:Mx w):Calls Tryz.prog 271 #[.string ⟨(a ++ 10 :: b).toArray⟩,.string ⟨#[10]⟩] w fun e w'=>e = .returned (.tuple #[.string ⟨a.toArray⟩,.string ⟨b.toArray⟩,.bool true]) ∧ Below w.heap.size w w':=by
 obtain ⟨m,hm⟩:=hm
 refine (Shf.cut ⟨(a ++ 10 :: b).toArray⟩ ⟨#[10]⟩ m w (by show (a ++ 10 :: b).toArray.size < _;simp only [List.size_toArray];omega) hm).mono ?_
 rintro e w' ⟨rfl,n,rfl⟩
 rw [show (⟨(a ++ 10 :: b).toArray⟩:ByteArray).data.toList = a ++ 10 :: b by simp,show (⟨#[10]⟩:ByteArray).data.toList = [10] from rfl,cut_mid 10 a b h]
 exact ⟨rfl,below_drewN (Below.refl _ _) n⟩
theorem new2c (w:World) (x y:Value) (t:TypeId):∀ (j:Nat) (u:Value),[x,y][j]? = some u → (w.alloc (.cells #[x,y] t)).cell? ((⟨w.heap.size,0,none⟩:Addr).add j) = some u:=by
 have h:=Blk.new w #[x,y] t
 intro j u hu
 rw [show ((⟨w.heap.size,0,none⟩:Addr).add j) = ⟨w.heap.size,j,none⟩ from by rw [Go.WideShapes.add_plain,Nat.zero_add]]
 rw [h.cell j,← hu]
 simp
theorem FnS.start {w0 W w3:World} {v':Value} (hB:Below w0.heap.size w0 W) (hA:AppdV W w0.heap.size 87 2 (.slice none 0 0) 0 [] [.slice none 0 0,.slice none 0 0] v' w3):∃ g cap,v' = .slice (some ⟨g,0,none⟩) 1 cap ∧ FnS w0 g (.slice none 0 0) (.slice none 0 0) [] [] w3 ∧ W.heap.size ≤ g:=by
 have h:=hA.1
 obtain ⟨_,⟨_,h0⟩ | ⟨g,cap,cur,rfl,hge,hb,hn,hm,hc,ht⟩⟩:=h
 ·cases h0
 ·have hbl:Blk w3 g cur 87:=hb
  have hsz:cur.toList.take 2 = [.slice none 0 0,.slice none 0 0]:=ht
  have h2:2 ≤ cur.toList.length:=by
   have:=congrArg List.length hsz
   rw [List.length_take] at this
   simp only [List.length_cons,List.length_nil] at this
   omega
  refine ⟨g,cap,rfl,⟨below_grown hB hA.2.1 (fun j hj=>by cases hj),⟨cur,hbl,?_,?_⟩,hge,World.ownsRow_nil _ _ _ _,World.ownsRow_nil _ _ _ _⟩,?_⟩
  ·rw [← Array.getElem?_toList,← List.getElem?_take_of_lt (show 0 < 2 by decide),hsz];rfl
  ·rw [← Array.getElem?_toList,← List.getElem?_take_of_lt (show 1 < 2 by decide),hsz];rfl
  ·rcases hA.2.2 g rfl with e | e
   ·cases e
   ·exact e
theorem FnS.mid {w0 W W3:World} {g:Nat} {cv sv cv':Value} {l:List Ins} {sf:List Bool} {ys:List Value} (h:FnS w0 g cv sv l sf W) (hA:AppdV W w0.heap.size 84 5 cv l.length (insC' l) ys cv' W3) :
  W3.ownsRow w0.heap.size 4 1 sv sf.length (boolC sf) ∧ ∃ cur,Blk W3 g cur 87 ∧ cur[0]? = some cv ∧ cur[1]? = some sv:=by
 obtain ⟨cur,h1,h2,h3⟩:=h.fn
 refine ⟨h.safe.kept hA.2.1 ?_,cur,h1.kept hA.2.1 (fun e=>h.cg e.symm),h2,h3⟩
 by_cases e:sv.ownBlock = none
 ·exact .inl e
 ·right
  intro e2
  obtain ⟨j,hj⟩:=Option.ne_none_iff_exists'.1 e
  obtain ⟨cs,q1⟩:=row_type h.safe hj
  rw [hj] at e2
  obtain ⟨cs2,q2⟩:=row_type h.code e2.symm
  exact absurd (blk_type q1 q2) (by decide)
theorem FnS.appP {w0 w W3 W5 Wa Wb:World} {g pb:Nat} {cv sv cv' sv':Value} {l:List Ins} {sf:List Bool} {ys zs:List Value} {cs:Array Value} (h:FnS w0 g cv sv l sf w) (hp:Blk w pb cs 26) (ha:Below w.heap.size w Wa) (hA:AppdV Wa w0.heap.size 84 5 cv l.length (insC' l) ys cv' W3)
  (hb:Below W3.heap.size W3 Wb) (hB:AppdV Wb w0.heap.size 4 1 sv sf.length (boolC sf) zs sv' W5):Blk ((W5.setCell ⟨g,0,none⟩ cv').setCell ⟨g,1,none⟩ sv') pb cs 26 ∧ ∃ cur,Blk W5 g cur 87 ∧ cur[0]? = some cv ∧ cur[1]? = some sv:=by
 have ha':=h.go ha
 have p0:=hp.below ha hp.lt
 obtain ⟨m1,cur,m2,m3,m4⟩:=ha'.mid hA
 have p3:Blk W3 pb cs 26:=p0.kept hA.2.1 (fun e=>by obtain ⟨c2,q⟩:=row_type ha'.code e.symm;exact absurd (blk_type q p0) (by decide))
 have p4:=p3.below hb p3.lt
 have m1b:=rowv_below m1 hb
 have p5:Blk W5 pb cs 26:=p4.kept hB.2.1 (fun e=>by obtain ⟨c2,q⟩:=row_type m1b e.symm;exact absurd (blk_type q p4) (by decide))
 have m2b:=m2.below hb m2.lt
 have m5:Blk W5 g cur 87:=m2b.kept hB.2.1 (fun e=>by obtain ⟨c2,q⟩:=row_type m1b e.symm;exact absurd (blk_type q m2b) (by decide))
 have hne:pb ≠ g:=fun e=>by subst e;exact absurd (blk_type p5 m5) (by decide)
 exact ⟨(p5.setOther hne _).setOther hne _,cur,m5,m3,m4⟩
theorem pairA {W Wa w3:World} {base:Nat} {e:TypeId} {size:Nat} {v v':Value} {n:Nat} {xs ys:List Value} (hA:AppdV Wa base e size v n xs ys v' w3) (ha:Below W.heap.size W Wa):Below W.heap.size W Wa ∧ AppdV Wa base e size v n xs ys v' w3:=⟨ha,hA⟩
theorem FnS.setP {w0 w:World} {g pb:Nat} {cv sv:Value} {l:List Ins} {sf:List Bool} {cs:Array Value} (h:FnS w0 g cv sv l sf w) (hp:Blk w pb cs 26) (hge:w0.heap.size ≤ pb) (i:Nat) (u:Value):FnS w0 g cv sv l sf (w.setCell ⟨pb,i,none⟩ u):=by
 obtain ⟨cur,h1,h2,h3⟩:=h.fn
 have o:Only (fun j=>j = pb) w (w.setCell ⟨pb,i,none⟩ u):=Only.set (S:=fun j=>j = pb) (Only.refl _ _) (.inr rfl) _ _
 have hne:g ≠ pb:=fun e=>by subst e;exact absurd (blk_type h1 hp) (by decide)
 refine ⟨h.below.setCell hge _,⟨cur,h1.setOther hne _,h2,h3⟩,h.ge,rowv_off h.code o (fun j hj e=>?_),rowv_off h.safe o (fun j hj e=>?_)⟩
 ·obtain ⟨c2,q⟩:=row_type h.code hj
  rw [show j = pb from e] at q
  exact absurd (blk_type q hp) (by decide)
 ·obtain ⟨c2,q⟩:=row_type h.safe hj
  rw [show j = pb from e] at q
  exact absurd (blk_type q hp) (by decide)
theorem news_of_blk {W:World} {b:Nat} {ys:List Value} {t:TypeId} (h:Blk W b ys.toArray t):∀ (j:Nat) (u:Value),ys[j]? = some u → W.cell? ((⟨b,0,none⟩:Addr).add j) = some u:=by
 intro j u hu
 rw [show ((⟨b,0,none⟩:Addr).add j) = ⟨b,j,none⟩ from by rw [Go.WideShapes.add_plain,Nat.zero_add],h.cell j]
 simpa using hu
theorem Blk.new1' (w:World) (o:Obj) (cs:Array Value) (t:TypeId):Blk ((w.alloc o).alloc (.cells cs t)) (w.heap.size + 1) cs t:=by
 have:=Blk.new (w.alloc o) cs t
 simpa using this
def PaS (g ib:Nat) (cv sv:Value) (i:Ins) (w:World):Prop:=w.cell? ⟨g,0,none⟩ = some cv ∧ w.cell? ⟨g,1,none⟩ = some sv ∧ w.cell? ⟨ib,0,none⟩ = some (.int .i64 i.op) ∧ w.cell? ⟨ib,1,none⟩ = some (.int .i64 i.a) ∧ w.cell? ⟨ib,2,none⟩ = some (.int .i64 i.b) ∧ w.cell? ⟨ib,3,none⟩ = some (.int .i64 i.c) ∧ w.cell? ⟨ib,4,none⟩ = some (.int .i64 i.n)
theorem PaS.of {g ib:Nat} {cv sv:Value} {i:Ins} {w:World} {cur:Array Value} (h1:Blk w g cur 87) (h2:cur[0]? = some cv) (h3:cur[1]? = some sv) (h4:Blk w ib (insV i).toArray 84):PaS g ib cv sv i w:=
 ⟨(h1.cell 0).trans h2,(h1.cell 1).trans h3,h4.cell 0,h4.cell 1,h4.cell 2,h4.cell 3,h4.cell 4⟩
theorem PaS.below {g ib:Nat} {cv sv:Value} {i:Ins} {w w':World} (h:PaS g ib cv sv i w) (hg:g < w.heap.size) (hi:ib < w.heap.size) (hB:Below w.heap.size w w'):PaS g ib cv sv i w':=by
 obtain ⟨a,b,c,d,e,f,k⟩:=h
 exact ⟨(hB.cell hg).trans a,(hB.cell hg).trans b,(hB.cell hi).trans c,(hB.cell hi).trans d,(hB.cell hi).trans e,(hB.cell hi).trans f,(hB.cell hi).trans k⟩
theorem PaS.mid {w0 W Wa W3:World} {g ib:Nat} {cv sv cv':Value} {l:List Ins} {sf:List Bool} {ys:List Value} {i:Ins} (h:FnS w0 g cv sv l sf W) (hi:Blk W ib (insV i).toArray 84) (hne:∀ j,cv.ownBlock = some j → j < ib) (ha:Below W.heap.size W Wa) (hA:AppdV Wa w0.heap.size 84 5 cv l.length (insC' l) ys cv' W3) :
  PaS g ib cv sv i W3 ∧ Blk W3 ib (insV i).toArray 84 ∧ g < W3.heap.size:=by
 obtain ⟨m1,cur,m2,m3,m4⟩:=(h.go ha).mid hA
 have h3:Blk W3 ib (insV i).toArray 84:=(hi.below ha hi.lt).kept hA.2.1 (fun e=>by have:=hne _ e.symm;omega)
 exact ⟨PaS.of m2 m3 m4 h3,h3,m2.lt⟩
theorem PaS.end {w0 W Wa W3 Wb W5:World} {g ib:Nat} {cv sv cv' sv':Value} {l:List Ins} {sf:List Bool} {ys zs:List Value} {i:Ins} {cs:Array Value} {pb:Nat} (h:FnS w0 g cv sv l sf W) (hp:Blk W pb cs 26) (hi:Blk W ib (insV i).toArray 84) (hne:∀ j,cv.ownBlock = some j → j < ib) (ha:Below W.heap.size W Wa) (hA:AppdV Wa w0.heap.size 84 5 cv l.length (insC' l) ys cv' W3)
  (hb:Below W3.heap.size W3 Wb) (hB:AppdV Wb w0.heap.size 4 1 sv sf.length (boolC sf) zs sv' W5):PaS g ib cv sv i W5:=by
 obtain ⟨_,cur,n1,n2,n3⟩:=h.appP hp ha hA hb hB
 obtain ⟨_,h3,_⟩:=PaS.mid h hi hne ha hA
 have h4:=h3.below hb h3.lt
 have m1:=rowv_below ((h.go ha).mid hA).1 hb
 exact PaS.of n1 n2 n3 (h4.kept hB.2.1 (fun e=>by obtain ⟨c2,q⟩:=row_type m1 e.symm;exact absurd (blk_type q h4) (by decide)))
def PaI (w:World) (l:List Ins) (sf:List Bool) (pb:Nat) (v0 v3:Value) (wr:World):Prop:=
 (v0 = .string ⟨(headT ++ codeT l sf l.length).toArray⟩ ∧ v3 = .int .i64 1 ∧ Blk wr pb #[.slice none 0 0] 26 ∧ Below w.heap.size w wr) ∨
 ∃ (k g cap:Nat) (cv sv:Value),k ≤ l.length ∧ v0 = .string ⟨(restT l sf k).toArray⟩ ∧ v3 = .int .i64 ((k:Int) + 2) ∧ Blk wr pb #[.slice (some ⟨g,0,none⟩) 1 cap] 26 ∧ g ≠ pb ∧ FnS w g cv sv (l.take k) (sf.take k) wr
set_option maxHeartbeats 4000000 in
theorem pparse_any (l:List Ins) (sf:List Bool) (w:World) (hlen:sf.length = l.length) (h64:l.length ≤ 64) (hm:Mx w) (hok:∀ i ∈ l,insB i = true) (hgo:∀ k,k < l.length → InsGo w (l[k]?.getD ⟨0,0,0,0,0⟩) (sf[k]?.getD false)) (h10:∀ k,k < l.length → (10:UInt8) ∉ lineI (l[k]?.getD ⟨0,0,0,0,0⟩) (sf[k]?.getD false)) (hhd:∀ k,k < l.length → (lineI (l[k]?.getD ⟨0,0,0,0,0⟩) (sf[k]?.getD false) == [102,117,110,99]) = false) :
  Calls Tryz.prog 207 #[.string ⟨(headT ++ codeT l sf l.length).toArray⟩] w fun e w'=>∃ g cap cv sv,e = .returned (.tuple #[.agg #[.slice (some ⟨g,0,none⟩) 1 cap],.int .i64 0,.int .i64 0]) ∧ FnS w g cv sv l sf w':=by
 have H0:=Lib.hid (And.intro hlen (And.intro h64 (And.intro hm (And.intro hok (And.intro hgo (And.intro h10 hhd))))))
 have hb:=Blk.new w #[.slice none 0 0] 26
 clear hlen h64 hm hok hgo h10 hhd
 go_enter Tryz.func207,Tryz.ntmps207
 go_wp2
 go_step3
 go_wp2
 go_step3
 go_wp2
 have HB0:=Lib.hid hb
 clear hb
 go_loopw [0,3] (fun v0 v3 wr=>PaI w l sf w.heap.size v0 v3 wr) (fun _ t _=>l.length + 2 - (intOf t).toNat)
 case atStart=>exact .inl ⟨rfl,rfl,HB0.out,below_alloc (Below.refl _ _) _⟩
 case round=>
  rcases hrel with ⟨rfl,rfl,hP,hB⟩ | ⟨k,g,cap,cv,sv,hk,rfl,rfl,hP,hgp,hF⟩
  ·have hcl:=codeT_len l sf H0.out.2.2.2.1 l.length (Nat.le_refl _)
   have h6:l.length * 2101 ≤ 64 * 2101:=Nat.mul_le_mul_right _ H0.out.2.1
   have HC:=Lib.hid (cut_line [102,117,110,99] (codeT l sf l.length) wr (by decide) (by simp only [List.length_append,List.length_cons,List.length_nil];omega) (H0.out.2.2.1.below hB))
   rw [show headT ++ codeT l sf l.length = [102,117,110,99] ++ 10 :: codeT l sf l.length from rfl]
   have HPB:=Lib.hid (And.intro hP hB)
   have HRt:Hid (restT l sf 0 = codeT l sf l.length):=restT_zero l sf
   clear hcl h6 hP hB
   generalize codeT l sf l.length = ct at *
   go_wp2_with (first
    | (go_at_call 271;refine HC.out.mono ?_;rintro e w1 ⟨rfl,hB1⟩;have h1:=HPB.out.1.below hB1 HPB.out.1.lt;have HP1:=Lib.hid (And.intro h1 (HPB.out.2.trans (hB1.mono HPB.out.2.size)));have q0:=h1.cell 0;have hpl:=h1.lt;simp only [List.getElem?_toArray,List.getElem?_cons_zero] at q0;clear hB1 h1)
    | (at_builtin;refine appV Tryz.underlying24 Gnn.info87 rfl (by decide) (by decide) w.heap.size _ rfl _ _ rfl (.slice none 0 0) 0 [] ⟨w1.heap.size,0,none⟩ 1 [.slice none 0 0,.slice none 0 0] rfl rfl (.inl (World.ownsRow_nil _ _ _ _)) rfl (new2c w1 _ _ 87) (by simp [Value.oneCell']) (by have:=HP1.out.2.size;simp;omega) (by decide) ?_;intro v' w3 hA;obtain ⟨g,cap,rfl,hF,hgg⟩:=FnS.start (below_alloc HP1.out.2 _) hA;have h3:=(HP1.out.1.below (below_alloc (Below.refl w1.heap.size w1) (.cells #[.slice none 0 0,.slice none 0 0] 87)) HP1.out.1.lt).kept hA.2.1 (by simp [Value.ownBlock]);have HF:=Lib.hid (And.intro hF (And.intro hgg h3));have q1:=h3.cell 0;have f1:=h3.free 0;simp only [List.getElem?_toArray,List.getElem?_cons_zero] at q1;clear hA hF hgg h3))
   refine ⟨.inr ⟨0,g,cap,.slice none 0 0,.slice none 0 0,Nat.zero_le _,by rw [HRt.out],by go_num,HF.out.2.2.set 0 _,?_,?_⟩,by simp [intOf]⟩
   ·have h1:=HF.out.2.1
    have h2:=hpl
    rw [show (w1.alloc (.cells #[.slice none 0 0,.slice none 0 0] 87)).heap.size = w1.heap.size + 1 by simp] at h1
    omega
   ·exact HF.out.1.setP HF.out.2.2 (Nat.le_refl _) 0 _
  ·by_cases hlt:k < l.length
   ·have hcl:=codeT_len l sf H0.out.2.2.2.1 l.length (Nat.le_refl _)
    have hrl:(restT l sf k).length ≤ 64 * 2101:=by
     have q1:=restT_len l sf H0.out.2.2.2.1 _ k rfl
     have q2:=H0.out.2.1
     omega
    have HC:=cut_line (lineI (l[k]?.getD ⟨0,0,0,0,0⟩) (sf[k]?.getD false)) (restT l sf (k + 1)) wr (H0.out.2.2.2.2.2.1 k hlt) (by rw [← restT_step l sf k hlt];omega) (H0.out.2.2.1.below hF.below)
    have HIn:=H0.out.2.2.2.2.1 k hlt
    have hne:=H0.out.2.2.2.2.2.2 k hlt
    rw [restT_step l sf k hlt]
    obtain ⟨i,hi⟩:∃ i,l[k]?.getD ⟨0,0,0,0,0⟩ = i:=⟨_,rfl⟩
    obtain ⟨s,hs⟩:∃ s,sf[k]?.getD false = s:=⟨_,rfl⟩
    rw [hi,hs] at HC HIn hne ⊢
    unfold InsGo at HIn
    obtain ⟨L,hL⟩:∃ L,l.take k = L:=⟨_,rfl⟩
    obtain ⟨F,hFF⟩:∃ F,sf.take k = F:=⟨_,rfl⟩
    rw [hL,hFF] at hF
    have HX:=Lib.hid (And.intro hi (And.intro hs (And.intro hL (And.intro hFF hlt))))
    have HTk:Hid (l.take (k + 1) = L ++ [i] ∧ sf.take (k + 1) = F ++ [s]):=by
     refine ⟨?_,?_⟩
     ·rw [take_succ' l k ⟨0,0,0,0,0⟩ hlt,hL,hi]
     ·rw [take_succ' sf k false (by rw [H0.out.1];exact hlt),hFF,hs]
    have HGp:=Lib.hid hgp
    obtain ⟨rt,hrt⟩:∃ rt,rt = restT l sf (k + 1):=⟨_,rfl⟩
    rw [← hrt] at HC ⊢
    have HRt:=Lib.hid hrt
    clear hrt
    have HC:=Lib.hid HC
    have HIn:=Lib.hid HIn
    have HS:=Lib.hid (And.intro hF (And.intro hP hgp))
    have hkl:Hid (k < 64):=by have:=H0.out.2.1;show k < 64;omega
    generalize lineI i s = ln at *
    have hnE:(ln ++ 10 :: rt).isEmpty = false:=by cases ln <;> rfl
    clear hcl hrl hi hs hL hFF hF hP hgp hlt hk
    go_wp2_with (first
     | (go_at_call 271;refine HC.out.mono ?_;rintro e w1 ⟨rfl,hB1⟩;have h1:=HS.out.1.go hB1;have h2:=HS.out.2.1.below hB1 HS.out.2.1.lt;have HS1:=Lib.hid (And.intro h1 h2);clear hB1 h1 h2)
     | (go_at_call 272;refine (HIn.out _ HS1.out.1.below).mono ?_;rintro e w2 ⟨rfl,hB2⟩;have h1:=(HS1.out.1.go hB2).go (below_alloc (Below.refl w2.heap.size w2) (.cells #[.int .i64 i.op,.int .i64 i.a,.int .i64 i.b,.int .i64 i.c,.int .i64 i.n] 84));have h2:=(HS1.out.2.below hB2 HS1.out.2.lt).below (below_alloc (Below.refl w2.heap.size w2) (.cells #[.int .i64 i.op,.int .i64 i.a,.int .i64 i.b,.int .i64 i.c,.int .i64 i.n] 84)) (HS1.out.2.below hB2 HS1.out.2.lt).lt;have HS2:=Lib.hid (And.intro h1 (And.intro h2 (And.intro (Blk.new w2 #[.int .i64 i.op,.int .i64 i.a,.int .i64 i.b,.int .i64 i.c,.int .i64 i.n] 84) (fun j hj=>(World.ownsRow.lt (HS1.out.1.go hB2).code j hj).2))));have q0:=h2.cell 0;simp only [List.getElem?_toArray,List.getElem?_cons_zero] at q0;clear hB2 h1 h2))
    have hS2:=HS2.out
    clear q0 HS2
    generalize (w2.alloc (.cells #[.int .i64 i.op,.int .i64 i.a,.int .i64 i.b,.int .i64 i.c,.int .i64 i.n] 84)) = W at *
    generalize w2.heap.size = ib at *
    obtain ⟨hS,hPb,hIb,hIn⟩:=hS2
    obtain ⟨a2,c2,rfl⟩:=row_slice hS.code
    obtain ⟨a3,c3,rfl⟩:=row_slice hS.safe
    obtain ⟨cur,hg,g0,g1⟩:=hS.fn
    have x0:=(hg.cell 0).trans g0
    have x1:=(hg.cell 1).trans g1
    have y0:=hIb.cell 0
    have y1:=hIb.cell 1
    have y2:=hIb.cell 2
    have y3:=hIb.cell 3
    have y4:=hIb.cell 4
    simp only [List.getElem?_toArray,List.getElem?_cons_zero,List.getElem?_cons_succ] at y0 y1 y2 y3 y4
    have hgl:=hg.lt
    have hil:=hIb.lt
    have HLl:Hid (L.length ≤ 64 ∧ F.length ≤ 64):=by
     have h1:=HX.out.2.2.1
     have h2:=HX.out.2.2.2.1
     have h3:=hkl.out
     show L.length ≤ 64 ∧ F.length ≤ 64
     rw [← h1,← h2,List.length_take,List.length_take]
     omega
    have HS:=Lib.hid (And.intro hS (And.intro hPb (And.intro (fun j hj=>(World.ownsRow.lt hS.code j hj).2) hS.below.size)))
    have HIb:=Lib.hid (And.intro hIb hIn)
    clear hS hPb hIb hg g0 g1 hIn HC HIn hne hnE
    have hSW:Hid (∀ W',Below W.heap.size W W' → PaS g ib (.slice a2 L.length c2) (.slice a3 F.length c3) i W'):=fun W' hB=>(PaS.below ⟨x0,x1,y0,y1,y2,y3,y4⟩ hgl hil hB)
    have hS0:Hid (PaS g ib (.slice a2 L.length c2) (.slice a3 F.length c3) i W.drew):=hSW.out _ (Below.refl _ _).drew
    refine wp_region_m 18 (PaS g ib (.slice a2 L.length c2) (.slice a3 F.length c3) i) (by kernel_rfl) ?_
    refine wpAnyM_take0 (i:=0) (v:=?_) rfl (by decide) (by kernel_rfl) (by kernel_rfl) (by kernel_rfl) (fun _ _ _ h=>h) (Or.inl ⟨by kernel_rfl,?_⟩) (fun _=>hS0.out) ?_
    rotate_left
    ·intro w';go_simp;try (with_reducible rfl)
    refine wpAnyM_take0 (i:=1) (v:=?_) rfl (by decide) (by kernel_rfl) (by kernel_rfl) (by kernel_rfl) (fun _ _ _ h=>h) (Or.inl ⟨by kernel_rfl,?_⟩) (fun _=>hS0.out) ?_
    rotate_left
    ·intro w';go_simp;try (with_reducible rfl)
    refine wpAnyM_take0 (i:=2) (v:=?_) rfl (by decide) (by kernel_rfl) (by kernel_rfl) (by kernel_rfl) (fun _ _ _ h=>h) (Or.inl ⟨by kernel_rfl,?_⟩) (fun _=>hS0.out) ?_
    rotate_left
    ·intro w';go_simp;try (with_reducible rfl)
    refine wpAnyM_take0 (i:=3) (v:=?_) rfl (by decide) (by kernel_rfl) (by kernel_rfl) (by kernel_rfl) (fun _ _ _ h=>h) (Or.inl ⟨by kernel_rfl,?_⟩) (fun _=>hS0.out) ?_
    rotate_left
    ·intro w';go_simp;try (with_reducible rfl)
    refine wpAnyM_take0 (i:=4) (v:=?_) rfl (by decide) (by kernel_rfl) (by kernel_rfl) (by kernel_rfl) (fun _ _ _ h=>h) (Or.inl ⟨by kernel_rfl,?_⟩) (fun _=>hS0.out) ?_
    rotate_left
    ·intro w';go_simp;try (with_reducible rfl)
    refine wpAnyM_take (i:=5) (v:=?_) rfl rfl (by kernel_rfl) (by kernel_rfl) (by kernel_rfl) (by kernel_rfl) (by kernel_rfl) (fun _ _ _ h=>h) (Or.inl ⟨by kernel_rfl,?_⟩) hS0.out ?_
    rotate_left
    ·intro w' hw';obtain ⟨s0,s1,s2,s3,s4,s5,s6⟩:=hw';go_simp;try (with_reducible rfl)
    refine wpAnyM_take (i:=6) (v:=?_) rfl rfl (by kernel_rfl) (by kernel_rfl) (by kernel_rfl) (by kernel_rfl) (by kernel_rfl) (fun _ _ _ h=>h) (Or.inl ⟨by kernel_rfl,?_⟩) hS0.out ?_
    rotate_left
    ·intro w' hw';obtain ⟨s0,s1,s2,s3,s4,s5,s6⟩:=hw';go_simp;try (with_reducible rfl)
    refine wpAnyM_take0 (i:=9) (v:=?_) rfl (by decide) (by kernel_rfl) (by kernel_rfl) (by kernel_rfl) (fun _ _ _ h=>h) (Or.inl ⟨by kernel_rfl,?_⟩) (fun _=>hS0.out) ?_
    rotate_left
    ·intro w';go_simp;try (with_reducible rfl)
    refine wpAnyM_take0 (i:=10) (v:=?_) rfl (by decide) (by kernel_rfl) (by kernel_rfl) (by kernel_rfl) (fun _ _ _ h=>h) (Or.inl ⟨by kernel_rfl,?_⟩) (fun _=>hS0.out) ?_
    rotate_left
    ·intro w';go_simp;try (with_reducible rfl)
    refine wpAnyM_take0 (i:=11) (v:=?_) rfl (by decide) (by kernel_rfl) (by kernel_rfl) (by kernel_rfl) (fun _ _ _ h=>h) (Or.inl ⟨by kernel_rfl,?_⟩) (fun _=>hS0.out) ?_
    rotate_left
    ·intro w';go_simp;try (with_reducible rfl)
    refine wpAnyM_take (i:=12) (v:=?_) rfl rfl (by kernel_rfl) (by kernel_rfl) (by kernel_rfl) (by kernel_rfl) (by kernel_rfl) (fun _ _ _ h=>h) (Or.inl ⟨by kernel_rfl,?_⟩) hS0.out ?_
    rotate_left
    ·intro w' hw';obtain ⟨s0,s1,s2,s3,s4,s5,s6⟩:=hw';go_simp;try (with_reducible rfl)
    refine wpAnyM_take0 (i:=13) (v:=?_) rfl (by decide) (by kernel_rfl) (by kernel_rfl) (by kernel_rfl) (fun _ _ _ h=>h) (Or.inl ⟨by kernel_rfl,?_⟩) (fun _=>hS0.out) ?_
    rotate_left
    ·intro w';go_simp;try (with_reducible rfl)
    clear x0 x1 y0 y1 y2 y3 y4
    refine wpAnyM_ready (rs:=[7,14]) (by kernel_rfl) (by simp) ?_
    refine AllReadyM.cons rfl (fun K hK=>?_) ?_
    ·go_simp
     refine hK _ _ ⟨fun _=>hSW.out _ (by (repeat (first | exact Below.refl _ _ | refine Below.drew ?_ | refine below_alloc ?_ _))),?_⟩
     clear hK K
     refine wpAnyM_ready (rs:=[8,14]) (by kernel_rfl) (by simp) ?_
     refine AllReadyM.cons rfl (fun K hK=>?_) ?_
     ·(refine stepV Tryz.underlying85 info84 rfl (by decide) (by decide) w.heap.size _ rfl (.tmp 66) (.tmp 68) rfl (.slice a2 L.length c2) L.length (insC' L) _ 1 (insV i) (by rfl) (by rfl) (.inl (HS.out.1.go (by (repeat (first | exact Below.refl _ _ | refine Below.drew ?_ | refine below_alloc ?_ _)))).code) rfl (news_of_blk (by first | exact Blk.new _ _ _ | exact (Blk.new _ _ _).drew | exact (Blk.new _ _ _).alloc _ | exact ((Blk.new _ _ _).alloc _).drew | exact Blk.new1' _ _ _ _ | exact (Blk.new1' _ _ _ _).drew)) (by simp [insV,Value.oneCell']) (by have:=HS.out.2.2.2;simp;omega) (by have:=HLl.out;omega) ?_;intro cv' w3 hA;obtain ⟨g4,p4,rfl⟩:=hA.some;obtain ⟨m1,cur3,m2,m3,m4⟩:=(HS.out.1.go (by (repeat (first | exact Below.refl _ _ | refine Below.drew ?_ | refine below_alloc ?_ _)))).mid hA;have x1:=(m2.cell 1).trans m4;have hgl:=m2.lt;have HA:=Lib.hid (pairA (W:=W) hA (by (repeat (first | exact Below.refl _ _ | refine Below.drew ?_ | refine below_alloc ?_ _))));have HM:=Lib.hid m1;have hws3:Hid (w.heap.size ≤ w3.heap.size):=Nat.le_trans HS.out.2.2.2 (Nat.le_trans HA.out.1.size hA.2.1.size);(first | (have hSb:Blk w3 W.heap.size #[.bool s] 4:=Blk.kept (show Blk _ W.heap.size #[.bool s] 4 from by first | exact (Blk.new _ _ _).alloc _ | exact ((Blk.new _ _ _).alloc _).drew) hA.2.1 (fun e=>by have:=HS.out.2.2.1 _ e.symm;omega)) | (have hSb:Blk w3 (W.heap.size + 1) #[.bool s] 4:=Blk.kept (show Blk _ (W.heap.size + 1) #[.bool s] 4 from by first | exact Blk.new1' _ _ _ _ | exact (Blk.new1' _ _ _ _).drew) hA.2.1 (fun e=>by have:=HS.out.2.2.1 _ e.symm;omega)) | skip);clear hA m1 m2 m3 m4;have hS3:Hid (∀ W',Below w3.heap.size w3 W' → PaS g ib (.slice a2 L.length c2) (.slice a3 F.length c3) i W'):=(fun W' hB=>(by obtain ⟨q1,q2,q3⟩:=PaS.mid HS.out.1 HIb.out.1 HIb.out.2 HA.out.1 HA.out.2;exact q1.below q3 q2.lt hB)))
      refine hK _ _ ⟨fun _=>hS3.out _ (Below.refl _ _),?_⟩
      clear hK K
      refine wpAnyM_ready (rs:=[14]) (by kernel_rfl) (by simp) ?_
      refine AllReadyM.cons rfl (fun K hK=>?_) AllReadyM.nil
      go_simp
      refine hK _ _ ⟨fun _=>hS3.out _ (by (repeat (first | exact Below.refl _ _ | refine Below.drew ?_ | refine below_alloc ?_ _))),?_⟩
      clear hK K
      refine wpAnyM_ready (rs:=[15]) (by kernel_rfl) (by simp) ?_
      refine AllReadyM.cons rfl (fun K hK=>?_) AllReadyM.nil
      (refine stepV Tryz.underlying43 info4 rfl (by decide) (by decide) w.heap.size _ rfl (.tmp 73) (.tmp 75) rfl (.slice a3 F.length c3) F.length (boolC F) _ 1 [.bool s] (by rfl) (by rfl) (.inl (rowv_below HM.out (by (repeat (first | exact Below.refl _ _ | refine Below.drew ?_ | refine below_alloc ?_ _))))) rfl (news_of_blk (by first | exact hSb | exact hSb.drew | exact Blk.new _ _ _ | exact (Blk.new _ _ _).drew)) (by simp [Value.oneCell']) (by have:=hws3.out;first | omega | (simp;omega)) (by have:=HLl.out;omega) ?_;intro sv' w5 hB;obtain ⟨g5,c5,rfl⟩:=hB.some;obtain ⟨p5,cur5,n1,n2,n3⟩:=HS.out.1.appP HS.out.2.1 HA.out.1 HA.out.2 (by (repeat (first | exact Below.refl _ _ | refine Below.drew ?_ | refine below_alloc ?_ _))) hB;have hS5:Hid (PaS g ib (.slice a2 L.length c2) (.slice a3 F.length c3) i w5):=PaS.end HS.out.1 HS.out.2.1 HIb.out.1 HIb.out.2 HA.out.1 HA.out.2 (by (repeat (first | exact Below.refl _ _ | refine Below.drew ?_ | refine below_alloc ?_ _))) hB;have HE:=Lib.hid (And.intro (HS.out.1.app HA.out.1 HA.out.2 (by (repeat (first | exact Below.refl _ _ | refine Below.drew ?_ | refine below_alloc ?_ _))) hB) p5);have z0:=(n1.cell 0).trans n2;have z1:=(n1.cell 1).trans n3;have u0:=n1.free 0;have u1:=n1.free 1;clear hB p5 n1 n2 n3)
      refine hK _ _ ⟨fun _=>hS5.out,?_⟩
      clear hK K
      refine wpAnyM_take0 (i:=16) (v:=?_) rfl (by decide) (by kernel_rfl) (by kernel_rfl) (by kernel_rfl) (fun _ _ _ h=>h) (Or.inl ⟨by kernel_rfl,?_⟩) (fun _=>hS5.out) ?_
      rotate_left
      ·intro w';go_simp;try (with_reducible rfl)
      refine wpAnyM_take0 (i:=17) (v:=?_) rfl (by decide) (by kernel_rfl) (by kernel_rfl) (by kernel_rfl) (fun _ _ _ h=>h) (Or.inl ⟨by kernel_rfl,?_⟩) (fun _=>hS5.out) ?_
      rotate_left
      ·intro w';go_simp;try (with_reducible rfl)
      refine wpAnyM_ready (rs:=[18]) (by kernel_rfl) (by simp) ?_
      refine AllReadyM.cons rfl (fun K hK=>?_) AllReadyM.nil
      go_simp
      refine hK _ _ ⟨(fun h=>absurd (h.symm.trans (show _ = true by kernel_rfl)) Bool.false_ne_true),?_⟩
      clear hK K
      refine wpAnyM_take0 (i:=19) (v:=?_) rfl (by decide) (by kernel_rfl) (by kernel_rfl) (by kernel_rfl) (fun _ _ _ h=>h) (Or.inl ⟨by kernel_rfl,?_⟩) (fun h=>absurd (h.symm.trans (show _ = true by kernel_rfl)) Bool.false_ne_true) ?_
      rotate_left
      ·intro w';go_simp;try (with_reducible rfl)
      refine wpAnyM_take0 (i:=20) (v:=?_) rfl (by decide) (by kernel_rfl) (by kernel_rfl) (by kernel_rfl) (fun _ _ _ h=>h) (Or.inl ⟨by kernel_rfl,?_⟩) (fun h=>absurd (h.symm.trans (show _ = true by kernel_rfl)) Bool.false_ne_true) ?_
      rotate_left
      ·intro w';go_simp;try (with_reducible rfl)
      refine wpAnyM_ready (rs:=[21]) (by kernel_rfl) (by simp) ?_
      refine AllReadyM.cons rfl (fun K hK=>?_) AllReadyM.nil
      go_simp
      refine hK _ _ ⟨(fun h=>absurd (h.symm.trans (show _ = true by kernel_rfl)) Bool.false_ne_true),?_⟩
      clear hK K
      refine wpAnyM_done (by kernel_rfl) ?_ _
      go_wp2
      have hE:=HE.out
      have hlt:=HX.out.2.2.2.2
      have hw:wrap64 ((k:Int) + 2 + 1) = ((k + 1:Nat):Int) + 2:=by have:=hkl.out;unfold wrap64;omega
      rw [hw]
      refine ⟨.inr ⟨k + 1,g,cap,.slice (some ⟨g4,0,none⟩) (L.length + 1) p4,.slice (some ⟨g5,0,none⟩) (F.length + 1) c5,hlt,by rw [HRt.out],rfl,hE.2,HGp.out,?_⟩,by simp [intOf];omega⟩
      rw [HTk.out.1,HTk.out.2]
      exact hE.1
     refine AllReadyM.cons rfl (fun K hK=>?_) AllReadyM.nil
     go_simp
     refine hK _ _ ⟨fun _=>hSW.out _ (by (repeat (first | exact Below.refl _ _ | refine Below.drew ?_ | refine below_alloc ?_ _))),?_⟩
     clear hK K
     refine wpAnyM_ready (rs:=[8]) (by kernel_rfl) (by simp) ?_
     refine AllReadyM.cons rfl (fun K hK=>?_) AllReadyM.nil
     (refine stepV Tryz.underlying85 info84 rfl (by decide) (by decide) w.heap.size _ rfl (.tmp 66) (.tmp 68) rfl (.slice a2 L.length c2) L.length (insC' L) _ 1 (insV i) (by rfl) (by rfl) (.inl (HS.out.1.go (by (repeat (first | exact Below.refl _ _ | refine Below.drew ?_ | refine below_alloc ?_ _)))).code) rfl (news_of_blk (by first | exact Blk.new _ _ _ | exact (Blk.new _ _ _).drew | exact (Blk.new _ _ _).alloc _ | exact ((Blk.new _ _ _).alloc _).drew | exact Blk.new1' _ _ _ _ | exact (Blk.new1' _ _ _ _).drew)) (by simp [insV,Value.oneCell']) (by have:=HS.out.2.2.2;simp;omega) (by have:=HLl.out;omega) ?_;intro cv' w3 hA;obtain ⟨g4,p4,rfl⟩:=hA.some;obtain ⟨m1,cur3,m2,m3,m4⟩:=(HS.out.1.go (by (repeat (first | exact Below.refl _ _ | refine Below.drew ?_ | refine below_alloc ?_ _)))).mid hA;have x1:=(m2.cell 1).trans m4;have hgl:=m2.lt;have HA:=Lib.hid (pairA (W:=W) hA (by (repeat (first | exact Below.refl _ _ | refine Below.drew ?_ | refine below_alloc ?_ _))));have HM:=Lib.hid m1;have hws3:Hid (w.heap.size ≤ w3.heap.size):=Nat.le_trans HS.out.2.2.2 (Nat.le_trans HA.out.1.size hA.2.1.size);(first | (have hSb:Blk w3 W.heap.size #[.bool s] 4:=Blk.kept (show Blk _ W.heap.size #[.bool s] 4 from by first | exact (Blk.new _ _ _).alloc _ | exact ((Blk.new _ _ _).alloc _).drew) hA.2.1 (fun e=>by have:=HS.out.2.2.1 _ e.symm;omega)) | (have hSb:Blk w3 (W.heap.size + 1) #[.bool s] 4:=Blk.kept (show Blk _ (W.heap.size + 1) #[.bool s] 4 from by first | exact Blk.new1' _ _ _ _ | exact (Blk.new1' _ _ _ _).drew) hA.2.1 (fun e=>by have:=HS.out.2.2.1 _ e.symm;omega)) | skip);clear hA m1 m2 m3 m4;have hS3:Hid (∀ W',Below w3.heap.size w3 W' → PaS g ib (.slice a2 L.length c2) (.slice a3 F.length c3) i W'):=(fun W' hB=>(by obtain ⟨q1,q2,q3⟩:=PaS.mid HS.out.1 HIb.out.1 HIb.out.2 HA.out.1 HA.out.2;exact q1.below q3 q2.lt hB)))
     refine hK _ _ ⟨fun _=>hS3.out _ (Below.refl _ _),?_⟩
     clear hK K
     refine wpAnyM_ready (rs:=[15]) (by kernel_rfl) (by simp) ?_
     refine AllReadyM.cons rfl (fun K hK=>?_) AllReadyM.nil
     (refine stepV Tryz.underlying43 info4 rfl (by decide) (by decide) w.heap.size _ rfl (.tmp 73) (.tmp 75) rfl (.slice a3 F.length c3) F.length (boolC F) _ 1 [.bool s] (by rfl) (by rfl) (.inl (rowv_below HM.out (by (repeat (first | exact Below.refl _ _ | refine Below.drew ?_ | refine below_alloc ?_ _))))) rfl (news_of_blk (by first | exact hSb | exact hSb.drew | exact Blk.new _ _ _ | exact (Blk.new _ _ _).drew)) (by simp [Value.oneCell']) (by have:=hws3.out;first | omega | (simp;omega)) (by have:=HLl.out;omega) ?_;intro sv' w5 hB;obtain ⟨g5,c5,rfl⟩:=hB.some;obtain ⟨p5,cur5,n1,n2,n3⟩:=HS.out.1.appP HS.out.2.1 HA.out.1 HA.out.2 (by (repeat (first | exact Below.refl _ _ | refine Below.drew ?_ | refine below_alloc ?_ _))) hB;have hS5:Hid (PaS g ib (.slice a2 L.length c2) (.slice a3 F.length c3) i w5):=PaS.end HS.out.1 HS.out.2.1 HIb.out.1 HIb.out.2 HA.out.1 HA.out.2 (by (repeat (first | exact Below.refl _ _ | refine Below.drew ?_ | refine below_alloc ?_ _))) hB;have HE:=Lib.hid (And.intro (HS.out.1.app HA.out.1 HA.out.2 (by (repeat (first | exact Below.refl _ _ | refine Below.drew ?_ | refine below_alloc ?_ _))) hB) p5);have z0:=(n1.cell 0).trans n2;have z1:=(n1.cell 1).trans n3;have u0:=n1.free 0;have u1:=n1.free 1;clear hB p5 n1 n2 n3)
     refine hK _ _ ⟨fun _=>hS5.out,?_⟩
     clear hK K
     refine wpAnyM_take0 (i:=16) (v:=?_) rfl (by decide) (by kernel_rfl) (by kernel_rfl) (by kernel_rfl) (fun _ _ _ h=>h) (Or.inl ⟨by kernel_rfl,?_⟩) (fun _=>hS5.out) ?_
     rotate_left
     ·intro w';go_simp;try (with_reducible rfl)
     refine wpAnyM_take0 (i:=17) (v:=?_) rfl (by decide) (by kernel_rfl) (by kernel_rfl) (by kernel_rfl) (fun _ _ _ h=>h) (Or.inl ⟨by kernel_rfl,?_⟩) (fun _=>hS5.out) ?_
     rotate_left
     ·intro w';go_simp;try (with_reducible rfl)
     refine wpAnyM_ready (rs:=[18]) (by kernel_rfl) (by simp) ?_
     refine AllReadyM.cons rfl (fun K hK=>?_) AllReadyM.nil
     go_simp
     refine hK _ _ ⟨(fun h=>absurd (h.symm.trans (show _ = true by kernel_rfl)) Bool.false_ne_true),?_⟩
     clear hK K
     refine wpAnyM_take0 (i:=19) (v:=?_) rfl (by decide) (by kernel_rfl) (by kernel_rfl) (by kernel_rfl) (fun _ _ _ h=>h) (Or.inl ⟨by kernel_rfl,?_⟩) (fun h=>absurd (h.symm.trans (show _ = true by kernel_rfl)) Bool.false_ne_true) ?_
     rotate_left
     ·intro w';go_simp;try (with_reducible rfl)
     refine wpAnyM_take0 (i:=20) (v:=?_) rfl (by decide) (by kernel_rfl) (by kernel_rfl) (by kernel_rfl) (fun _ _ _ h=>h) (Or.inl ⟨by kernel_rfl,?_⟩) (fun h=>absurd (h.symm.trans (show _ = true by kernel_rfl)) Bool.false_ne_true) ?_
     rotate_left
     ·intro w';go_simp;try (with_reducible rfl)
     refine wpAnyM_ready (rs:=[21]) (by kernel_rfl) (by simp) ?_
     refine AllReadyM.cons rfl (fun K hK=>?_) AllReadyM.nil
     go_simp
     refine hK _ _ ⟨(fun h=>absurd (h.symm.trans (show _ = true by kernel_rfl)) Bool.false_ne_true),?_⟩
     clear hK K
     refine wpAnyM_done (by kernel_rfl) ?_ _
     go_wp2
     have hE:=HE.out
     have hlt:=HX.out.2.2.2.2
     have hw:wrap64 ((k:Int) + 2 + 1) = ((k + 1:Nat):Int) + 2:=by have:=hkl.out;unfold wrap64;omega
     rw [hw]
     refine ⟨.inr ⟨k + 1,g,cap,.slice (some ⟨g4,0,none⟩) (L.length + 1) p4,.slice (some ⟨g5,0,none⟩) (F.length + 1) c5,hlt,by rw [HRt.out],rfl,hE.2,HGp.out,?_⟩,by simp [intOf];omega⟩
     rw [HTk.out.1,HTk.out.2]
     exact hE.1
    refine AllReadyM.cons rfl (fun K hK=>?_) AllReadyM.nil
    go_simp
    refine hK _ _ ⟨fun _=>hSW.out _ (by (repeat (first | exact Below.refl _ _ | refine Below.drew ?_ | refine below_alloc ?_ _))),?_⟩
    clear hK K
    refine wpAnyM_ready (rs:=[7]) (by kernel_rfl) (by simp) ?_
    refine AllReadyM.cons rfl (fun K hK=>?_) AllReadyM.nil
    go_simp
    refine hK _ _ ⟨fun _=>hSW.out _ (by (repeat (first | exact Below.refl _ _ | refine Below.drew ?_ | refine below_alloc ?_ _))),?_⟩
    clear hK K
    refine wpAnyM_ready (rs:=[8]) (by kernel_rfl) (by simp) ?_
    refine AllReadyM.cons rfl (fun K hK=>?_) AllReadyM.nil
    (refine stepV Tryz.underlying85 info84 rfl (by decide) (by decide) w.heap.size _ rfl (.tmp 66) (.tmp 68) rfl (.slice a2 L.length c2) L.length (insC' L) _ 1 (insV i) (by rfl) (by rfl) (.inl (HS.out.1.go (by (repeat (first | exact Below.refl _ _ | refine Below.drew ?_ | refine below_alloc ?_ _)))).code) rfl (news_of_blk (by first | exact Blk.new _ _ _ | exact (Blk.new _ _ _).drew | exact (Blk.new _ _ _).alloc _ | exact ((Blk.new _ _ _).alloc _).drew | exact Blk.new1' _ _ _ _ | exact (Blk.new1' _ _ _ _).drew)) (by simp [insV,Value.oneCell']) (by have:=HS.out.2.2.2;simp;omega) (by have:=HLl.out;omega) ?_;intro cv' w3 hA;obtain ⟨g4,p4,rfl⟩:=hA.some;obtain ⟨m1,cur3,m2,m3,m4⟩:=(HS.out.1.go (by (repeat (first | exact Below.refl _ _ | refine Below.drew ?_ | refine below_alloc ?_ _)))).mid hA;have x1:=(m2.cell 1).trans m4;have hgl:=m2.lt;have HA:=Lib.hid (pairA (W:=W) hA (by (repeat (first | exact Below.refl _ _ | refine Below.drew ?_ | refine below_alloc ?_ _))));have HM:=Lib.hid m1;have hws3:Hid (w.heap.size ≤ w3.heap.size):=Nat.le_trans HS.out.2.2.2 (Nat.le_trans HA.out.1.size hA.2.1.size);(first | (have hSb:Blk w3 W.heap.size #[.bool s] 4:=Blk.kept (show Blk _ W.heap.size #[.bool s] 4 from by first | exact (Blk.new _ _ _).alloc _ | exact ((Blk.new _ _ _).alloc _).drew) hA.2.1 (fun e=>by have:=HS.out.2.2.1 _ e.symm;omega)) | (have hSb:Blk w3 (W.heap.size + 1) #[.bool s] 4:=Blk.kept (show Blk _ (W.heap.size + 1) #[.bool s] 4 from by first | exact Blk.new1' _ _ _ _ | exact (Blk.new1' _ _ _ _).drew) hA.2.1 (fun e=>by have:=HS.out.2.2.1 _ e.symm;omega)) | skip);clear hA m1 m2 m3 m4;have hS3:Hid (∀ W',Below w3.heap.size w3 W' → PaS g ib (.slice a2 L.length c2) (.slice a3 F.length c3) i W'):=(fun W' hB=>(by obtain ⟨q1,q2,q3⟩:=PaS.mid HS.out.1 HIb.out.1 HIb.out.2 HA.out.1 HA.out.2;exact q1.below q3 q2.lt hB)))
    refine hK _ _ ⟨fun _=>hS3.out _ (Below.refl _ _),?_⟩
    clear hK K
    refine wpAnyM_ready (rs:=[15]) (by kernel_rfl) (by simp) ?_
    refine AllReadyM.cons rfl (fun K hK=>?_) AllReadyM.nil
    (refine stepV Tryz.underlying43 info4 rfl (by decide) (by decide) w.heap.size _ rfl (.tmp 73) (.tmp 75) rfl (.slice a3 F.length c3) F.length (boolC F) _ 1 [.bool s] (by rfl) (by rfl) (.inl (rowv_below HM.out (by (repeat (first | exact Below.refl _ _ | refine Below.drew ?_ | refine below_alloc ?_ _))))) rfl (news_of_blk (by first | exact hSb | exact hSb.drew | exact Blk.new _ _ _ | exact (Blk.new _ _ _).drew)) (by simp [Value.oneCell']) (by have:=hws3.out;first | omega | (simp;omega)) (by have:=HLl.out;omega) ?_;intro sv' w5 hB;obtain ⟨g5,c5,rfl⟩:=hB.some;obtain ⟨p5,cur5,n1,n2,n3⟩:=HS.out.1.appP HS.out.2.1 HA.out.1 HA.out.2 (by (repeat (first | exact Below.refl _ _ | refine Below.drew ?_ | refine below_alloc ?_ _))) hB;have hS5:Hid (PaS g ib (.slice a2 L.length c2) (.slice a3 F.length c3) i w5):=PaS.end HS.out.1 HS.out.2.1 HIb.out.1 HIb.out.2 HA.out.1 HA.out.2 (by (repeat (first | exact Below.refl _ _ | refine Below.drew ?_ | refine below_alloc ?_ _))) hB;have HE:=Lib.hid (And.intro (HS.out.1.app HA.out.1 HA.out.2 (by (repeat (first | exact Below.refl _ _ | refine Below.drew ?_ | refine below_alloc ?_ _))) hB) p5);have z0:=(n1.cell 0).trans n2;have z1:=(n1.cell 1).trans n3;have u0:=n1.free 0;have u1:=n1.free 1;clear hB p5 n1 n2 n3)
    refine hK _ _ ⟨fun _=>hS5.out,?_⟩
    clear hK K
    refine wpAnyM_take0 (i:=16) (v:=?_) rfl (by decide) (by kernel_rfl) (by kernel_rfl) (by kernel_rfl) (fun _ _ _ h=>h) (Or.inl ⟨by kernel_rfl,?_⟩) (fun _=>hS5.out) ?_
    rotate_left
    ·intro w';go_simp;try (with_reducible rfl)
    refine wpAnyM_take0 (i:=17) (v:=?_) rfl (by decide) (by kernel_rfl) (by kernel_rfl) (by kernel_rfl) (fun _ _ _ h=>h) (Or.inl ⟨by kernel_rfl,?_⟩) (fun _=>hS5.out) ?_
    rotate_left
    ·intro w';go_simp;try (with_reducible rfl)
    refine wpAnyM_ready (rs:=[18]) (by kernel_rfl) (by simp) ?_
    refine AllReadyM.cons rfl (fun K hK=>?_) AllReadyM.nil
    go_simp
    refine hK _ _ ⟨(fun h=>absurd (h.symm.trans (show _ = true by kernel_rfl)) Bool.false_ne_true),?_⟩
    clear hK K
    refine wpAnyM_take0 (i:=19) (v:=?_) rfl (by decide) (by kernel_rfl) (by kernel_rfl) (by kernel_rfl) (fun _ _ _ h=>h) (Or.inl ⟨by kernel_rfl,?_⟩) (fun h=>absurd (h.symm.trans (show _ = true by kernel_rfl)) Bool.false_ne_true) ?_
    rotate_left
    ·intro w';go_simp;try (with_reducible rfl)
    refine wpAnyM_take0 (i:=20) (v:=?_) rfl (by decide) (by kernel_rfl) (by kernel_rfl) (by kernel_rfl) (fun _ _ _ h=>h) (Or.inl ⟨by kernel_rfl,?_⟩) (fun h=>absurd (h.symm.trans (show _ = true by kernel_rfl)) Bool.false_ne_true) ?_
    rotate_left
    ·intro w';go_simp;try (with_reducible rfl)
    refine wpAnyM_ready (rs:=[21]) (by kernel_rfl) (by simp) ?_
    refine AllReadyM.cons rfl (fun K hK=>?_) AllReadyM.nil
    go_simp
    refine hK _ _ ⟨(fun h=>absurd (h.symm.trans (show _ = true by kernel_rfl)) Bool.false_ne_true),?_⟩
    clear hK K
    refine wpAnyM_done (by kernel_rfl) ?_ _
    go_wp2
    have hE:=HE.out
    have hlt:=HX.out.2.2.2.2
    have hw:wrap64 ((k:Int) + 2 + 1) = ((k + 1:Nat):Int) + 2:=by have:=hkl.out;unfold wrap64;omega
    rw [hw]
    refine ⟨.inr ⟨k + 1,g,cap,.slice (some ⟨g4,0,none⟩) (L.length + 1) p4,.slice (some ⟨g5,0,none⟩) (F.length + 1) c5,hlt,by rw [HRt.out],rfl,hE.2,HGp.out,?_⟩,by simp [intOf];omega⟩
    rw [HTk.out.1,HTk.out.2]
    exact hE.1
   ·obtain rfl:k = l.length:=by omega
    rw [restT_end]
    have hl1:l.take l.length = l:=List.take_length
    have hl2:sf.take l.length = sf:=by rw [← H0.out.1];exact List.take_length
    rw [hl1,hl2] at hF
    have q0:=hP.cell 0
    have f0:=hP.free 0
    simp only [List.getElem?_toArray,List.getElem?_cons_zero] at q0
    have HS:=Lib.hid (And.intro hF hP)
    clear hl1 hl2 hF hP hgp hlt hk
    go_wp2
    rw [Exit.noGoto_ret]
    have hS:=HS.out.1.setP HS.out.2 (Nat.le_refl _) 0 (.slice (some ⟨g,0,none⟩) 1 cap)
    have c0:=(HS.out.2.set 0 (.slice (some ⟨g,0,none⟩) 1 cap)).cell 0
    simp only [List.setIfInBounds_toArray,List.set_cons_zero,List.getElem?_toArray,List.getElem?_cons_zero] at c0
    exact bodyPost_ret (v:=.tuple #[.agg #[.slice (some ⟨g,0,none⟩) 1 cap],.int .i64 0,.int .i64 0]) (by simp [results,Tryz.results207,go_sem,c0]) rfl ⟨g,cap,cv,sv,rfl,hS⟩
end Go.Proofs.YtgadhchejmlfjaaGreatDoor.Txt
end
section
namespace Go.Proofs.YtgadhchejmlfjaaGreatDoor.Txt
open Go.RowKit Go.Esc
open Go.Proofs.YtgadhchejmlfjaaGreatDoor.Isa (row rows Laid noRow)
open Go.Proofs.YtgadhchejmlfjaaGreatDoor.Vm (Ins)
def guardL:List Ins:=[⟨1,0,0,0,1⟩,⟨17,0,0,0,0⟩,⟨15,0,0,0,0⟩,⟨18,0,0,0,0⟩,⟨14,0,0,0,0⟩]
def guardS:List Bool:=[false,true,true,false,false]
theorem five {P:Nat → Prop} (h:P 0 ∧ P 1 ∧ P 2 ∧ P 3 ∧ P 4):∀ k,k < 5 → P k:=by
 intro k hk
 rcases (show k = 0 ∨ k = 1 ∨ k = 2 ∨ k = 3 ∨ k = 4 by omega) with rfl | rfl | rfl | rfl | rfl
 ·exact h.1
 ·exact h.2.1
 ·exact h.2.2.1
 ·exact h.2.2.2.1
 ·exact h.2.2.2.2
theorem guard_ok:∀ i ∈ guardL,insB i = true:=List.all_eq_true.1 (show guardL.all insB = true by kernel_rfl)
theorem guard10:∀ k,k < 5 → (10:UInt8) ∉ lineI (guardL[k]?.getD ⟨0,0,0,0,0⟩) (guardS[k]?.getD false):=by
 intro k hk e
 have h:((List.range 5).all fun k=>!(lineI (guardL[k]?.getD ⟨0,0,0,0,0⟩) (guardS[k]?.getD false)).contains 10) = true:=by kernel_rfl
 have:=List.all_eq_true.1 h k (List.mem_range.2 hk)
 simp only [Bool.not_eq_true',List.contains_eq_mem,decide_eq_false_iff_not] at this
 exact this e
theorem guardHd:∀ k,k < 5 → (lineI (guardL[k]?.getD ⟨0,0,0,0,0⟩) (guardS[k]?.getD false) == [102,117,110,99]) = false:=five ⟨by kernel_rfl,by kernel_rfl,by kernel_rfl,by kernel_rfl,by kernel_rfl⟩
theorem guardGo (w:World) (hL:Laid w) (hm:Mx w):∀ k,k < 5 → InsGo w (guardL[k]?.getD ⟨0,0,0,0,0⟩) (guardS[k]?.getD false):=by
 refine five ⟨fun W hB=>?_,fun W hB=>?_,fun W hB=>?_,fun W hB=>?_,fun W hB=>?_⟩
 ·have h:=instr_C 1 1 [99,111,110,115,116] [49] W (hL.below (hB.mono (Nat.le_refl _))) (hm.below hB) (by decide) (by kernel_rfl) (by kernel_rfl) (by kernel_rfl) (by kernel_rfl) (by decide) (by decide) (by kernel_rfl) (by kernel_rfl) (by decide) (by decide)
  rw [show joinC 32 [[99,111,110,115,116],[114,48],[49]] = lineI (guardL[0]?.getD ⟨0,0,0,0,0⟩) (guardS[0]?.getD false) by kernel_rfl] at h
  exact h
 ·have h:=instr_S 17 0 [115,116,111,112] [48] W (hL.below hB) (hm.below hB) (by decide) (by kernel_rfl) (by kernel_rfl) (by kernel_rfl) (by kernel_rfl) (by decide) (by decide) (by kernel_rfl) (by kernel_rfl) (by decide) (by decide)
  rw [show joinC 32 [[42],[115,116,111,112]] = lineI (guardL[1]?.getD ⟨0,0,0,0,0⟩) (guardS[1]?.getD false) by kernel_rfl] at h
  exact h
 ·have h:=instr_V 15 0 [101,109,105,116] [48] W (hL.below hB) (hm.below hB) (by decide) (by kernel_rfl) (by kernel_rfl) (by kernel_rfl) (by kernel_rfl) (by decide) (by decide) (by kernel_rfl) (by kernel_rfl) (by decide) (by decide)
  rw [show joinC 32 [[42],[101,109,105,116],[114,48]] = lineI (guardL[2]?.getD ⟨0,0,0,0,0⟩) (guardS[2]?.getD false) by kernel_rfl] at h
  exact h
 ·have h:=instr_T 18 0 [115,116,97,114,116] [48] W (hL.below hB) (hm.below hB) (by decide) (by kernel_rfl) (by kernel_rfl) (by kernel_rfl) (by kernel_rfl) (by decide) (by decide) (by kernel_rfl) (by kernel_rfl) (by decide) (by decide)
  rw [show joinC 32 [[115,116,97,114,116]] = lineI (guardL[3]?.getD ⟨0,0,0,0,0⟩) (guardS[3]?.getD false) by kernel_rfl] at h
  exact h
 ·have h:=instr_T 14 0 [101,120,105,116] [48] W (hL.below hB) (hm.below hB) (by decide) (by kernel_rfl) (by kernel_rfl) (by kernel_rfl) (by kernel_rfl) (by decide) (by decide) (by kernel_rfl) (by kernel_rfl) (by decide) (by decide)
  rw [show joinC 32 [[101,120,105,116]] = lineI (guardL[4]?.getD ⟨0,0,0,0,0⟩) (guardS[4]?.getD false) by kernel_rfl] at h
  exact h
def guardT:List UInt8:=headT ++ codeT guardL guardS guardL.length
theorem guard_parse (w:World) (hL:Laid w) (hm:Mx w):Calls Tryz.prog 207 #[.string ⟨guardT.toArray⟩] w fun e w'=>∃ g cap cv sv,e = .returned (.tuple #[.agg #[.slice (some ⟨g,0,none⟩) 1 cap],.int .i64 0,.int .i64 0]) ∧ FnS w g cv sv guardL guardS w':=
 pparse_any guardL guardS w rfl (by decide) hm guard_ok (guardGo w hL hm) guard10 guardHd
theorem guard_print (pb po pc:Nat) (w:World) (hL:Laid w) (hp:Shf.Pow w) (hP:Val.PrIn w pb po [(guardL,guardS)]) :
  Calls Tryz.prog 18 #[.agg #[.slice (some ⟨pb,po,none⟩) 1 pc]] w fun e w'=>e = .returned (.tuple #[.string ⟨guardT.toArray⟩,.int .i64 0]) ∧ Below w.heap.size w w':=
 pprint_any guardL guardS pb po pc w hL hp hP rfl (by decide) guard_ok
theorem insC'_at:∀ (l:List Ins) (i r:Nat),i < l.length → r < 5 → (insC' l)[i * 5 + r]? = (insV (l[i]?.getD ⟨0,0,0,0,0⟩))[r]?
 | [],_,_,h,_=>absurd h (Nat.not_lt_zero _)
 | x :: l,0,r,_,hr=>by
  show (insV x ++ insC' l)[0 * 5 + r]? = _
  rw [Nat.zero_mul,Nat.zero_add,List.getElem?_append_left (by simpa [insV] using hr)]
  rfl
 | x :: l,i + 1,r,h,hr=>by
  show (insV x ++ insC' l)[(i + 1) * 5 + r]? = _
  rw [List.getElem?_append_right (by simp [insV];omega),show (i + 1) * 5 + r - (insV x).length = i * 5 + r by simp [insV];omega]
  exact insC'_at l i r (by simpa using h) hr
theorem FnS.prInK {T:List TypeId} {w0 wi w:World} {g:Nat} {cv sv:Value} {l:List Ins} {sf:List Bool} (h:FnS w0 g cv sv l sf wi) (K:KT T wi w) (t1:87 ∉ T) (t2:84 ∉ T) (t3:4 ∉ T) (hl:0 < l.length) (hs:0 < sf.length):Val.PrIn w g 0 [(l,sf)]:=by
 obtain ⟨cur,h1',h2,h3⟩:=h.fn
 have h1:=K.keep h1' t1
 obtain ⟨cb,cc,ccur,rfl,hcb,hc,hct⟩:=row_full (K.row h.code t2) hl
 obtain ⟨sb,sc,scur,rfl,hsb,hs',hst⟩:=row_full (K.row h.safe t3) hs
 refine ⟨h1.lt,fun k hk=>?_⟩
 obtain rfl:k = 0:=by simp at hk;omega
 refine ⟨cb,0,cc,sb,0,sc,(h1.cell 0).trans h2,(h1.cell 1).trans h3,⟨hc.lt,fun i hi=>?_⟩,⟨sb,0,sc,rfl,hs'.lt,fun i hi=>?_⟩⟩
 ·have hat:∀ r,r < 5 → w.cell? ⟨cb,i * 5 + r,none⟩ = (insV (l[i]?.getD ⟨0,0,0,0,0⟩))[r]?:=fun r hr=>by
   have hi':i < l.length:=hi
   rw [hc.cell,← Array.getElem?_toList,← List.getElem?_take_of_lt (show i * 5 + r < l.length * 5 by omega),hct]
   exact insC'_at l i r hi' hr
  simp only [Nat.zero_add]
  exact ⟨hat 0 (by decide),hat 1 (by decide),hat 2 (by decide),hat 3 (by decide),hat 4 (by decide)⟩
 ·have hi':i < sf.length:=hi
  rw [Nat.zero_add,hs'.cell,← Array.getElem?_toList,← List.getElem?_take_of_lt (show i < sf.length * 1 by omega),hst]
  simp [boolC,hi']
theorem FnS.prIn {w0 w:World} {g:Nat} {cv sv:Value} {l:List Ins} {sf:List Bool} (h:FnS w0 g cv sv l sf w) (hl:0 < l.length) (hs:0 < sf.length):Val.PrIn w g 0 [(l,sf)]:=h.prInK (KT.refl [] w) (by decide) (by decide) (by decide) hl hs
end Go.Proofs.YtgadhchejmlfjaaGreatDoor.Txt
end
