/- Parts of the proof of TopReaches. -/
import Derived.Test.YtgadhchejmlfjaaGreatDoorB4
import Derived.Test.YtgadhchejmlfjaaGreatDoorB7
import Derived.Test.YtgadhchejmlfjaaGreatDoorK
import Derived.Laws.CopyOwn
import Derived.Deep.CutRange
import Derived.Deep.RegionHeld3
set_option linter.unusedVariables false
set_option maxRecDepth 20000
section
namespace Go.Proofs.YtgadhchejmlfjaaGreatDoor.Val
open Go.RowKit Go.Esc
open Go.Proofs.YtgadhchejmlfjaaGreatDoor.Isa (row rows Laid)
open Go.Proofs.YtgadhchejmlfjaaGreatDoor.Vm (Ins)
open Go.Proofs.YtgadhchejmlfjaaGreatDoor.Gnn (info84 info4 info87 makeBools clone_any)
theorem bel_next {a b c:World} (h:Below a.heap.size a b) (k:Below b.heap.size b c):Below a.heap.size a c:=h.trans (k.mono h.size)
theorem blk_ne {w:World} {a b:Nat} {x y:Array Value} {s t:TypeId} (h1:Blk w a x s) (h2:Blk w b y t) (hst:s ≠ t):a ≠ b:=fun e=>by subst e;exact hst (blk_type h1 h2)
def i0:Ins:=⟨0,0,0,0,0⟩
def insW (i:Ins):List Value:=[.int .i64 i.op,.int .i64 i.a,.int .i64 i.b,.int .i64 i.c,.int .i64 i.n]
def insWs (l:List Ins):List Value:=l.flatMap insW
theorem insWs_len (l:List Ins):(insWs l).length = l.length * 5:=by
 induction l with
 | nil=>rfl
 | cons x l ih=>simp only [insWs,List.flatMap_cons,List.length_append,insW,List.length_cons,List.length_nil] at ih ⊢;omega
theorem insWs_at:∀ (l:List Ins) (i r:Nat),i < l.length → r < 5 → (insWs l)[i * 5 + r]? = (insW (l[i]?.getD i0))[r]?
 | [],_,_,h,_=>absurd h (Nat.not_lt_zero _)
 | x :: l,0,r,_,hr=>by
  show (insW x ++ insWs l)[0 * 5 + r]? = _
  rw [Nat.zero_mul,Nat.zero_add,List.getElem?_append_left (by simpa [insW] using hr)]
  rfl
 | x :: l,i + 1,r,h,hr=>by
  show (insW x ++ insWs l)[(i + 1) * 5 + r]? = _
  rw [List.getElem?_append_right (by simp [insW];omega),show (i + 1) * 5 + r - (insW x).length = i * 5 + r by simp [insW];omega]
  exact insWs_at l i r (by simpa using h) hr
theorem code_news {w:World} {cb co:Nat} {l:List Ins} (h:CodeIn w cb co l):∀ (j:Nat) (x:Value),(insWs l)[j]? = some x → w.cell? ⟨cb,co + j,none⟩ = some x:=by
 intro j x hx
 have hj:j < l.length * 5:=by rw [← insWs_len];exact (List.getElem?_eq_some_iff.1 hx).1
 have hd:=Nat.div_add_mod j 5
 have hi:j / 5 < l.length:=by omega
 obtain ⟨a0,a1,a2,a3,a4⟩:=h.2 (j / 5) hi
 have hat:=insWs_at l (j / 5) (j % 5) hi (Nat.mod_lt _ (by decide))
 rw [show j / 5 * 5 + j % 5 = j by omega,hx] at hat
 rcases (show j % 5 = 0 ∨ j % 5 = 1 ∨ j % 5 = 2 ∨ j % 5 = 3 ∨ j % 5 = 4 by omega) with e | e | e | e | e
 ·rw [e] at hat;rw [show co + j = co + j / 5 * 5 by omega,a0];exact hat.symm
 ·rw [e] at hat;rw [show co + j = co + j / 5 * 5 + 1 by omega,a1];exact hat.symm
 ·rw [e] at hat;rw [show co + j = co + j / 5 * 5 + 2 by omega,a2];exact hat.symm
 ·rw [e] at hat;rw [show co + j = co + j / 5 * 5 + 3 by omega,a3];exact hat.symm
 ·rw [e] at hat;rw [show co + j = co + j / 5 * 5 + 4 by omega,a4];exact hat.symm
def mendB (l:List Ins) (sf:List Bool) (k:Nat):Bool:=sf[k]?.getD false || (row (l[k]?.getD i0).op).waits || (decide (0 < k) && (row (l[k - 1]?.getD i0).op).waits)
def mendL (l:List Ins) (sf:List Bool):List Bool:=(List.range sf.length).map (mendB l sf)
def mendF (f:List Ins × List Bool):List Ins × List Bool:=(f.1,mendL f.1 f.2)
def bools (l:List Bool):Array Value:=(l.map Value.bool).toArray
structure FnO (w:World) (base:Nat) (x y:Value) (l:List Ins) (sf:List Bool):Prop where
 code:∃ cb cc cur,x = .slice (some ⟨cb,0,none⟩) l.length cc ∧ Blk w cb cur 84 ∧ base ≤ cb ∧ cur.toList.take (l.length * 5) = insWs l
 safe:∃ sb,y = .slice (some ⟨sb,0,none⟩) sf.length sf.length ∧ Blk w sb (bools sf) 4 ∧ base ≤ sb
theorem FnO.kt {T:List TypeId} {w w':World} {base:Nat} {x y:Value} {l:List Ins} {sf:List Bool} (h:FnO w base x y l sf) (k:KT T w w') (h1:84 ∉ T) (h2:4 ∉ T):FnO w' base x y l sf:=by
 obtain ⟨⟨cb,cc,cur,e1,b1,g1,t1⟩,⟨sb,e2,b2,g2⟩⟩:=h
 exact ⟨⟨cb,cc,cur,e1,k.keep b1 h1,g1,t1⟩,⟨sb,e2,k.keep b2 h2,g2⟩⟩
def MdC (wF:World) (m:Nat) (l:List Ins) (s5:Value) (W:World):Prop:=
 ∃ X S cb cc cur,s5 = .pointer (some ⟨X,0,none⟩) ∧ Blk W X #[.slice (some ⟨cb,0,none⟩) m cc,.slice (some ⟨S,0,none⟩) m m] 87 ∧ Blk W S (madeCells #[.bool false] m) 4 ∧ Blk W cb cur 84 ∧ cur.toList.take (m * 5) = insWs l ∧ Below wF.heap.size wF W ∧ wF.heap.size ≤ S ∧ wF.heap.size ≤ cb ∧ wF.heap.size ≤ X
structure MdS (w:World) (p:List (List Ins × List Bool)) (k:Nat) (v:Value) (xs:List Value) (wr:World):Prop where
 below:Below w.heap.size w wr
 out:Blk wr (w.heap.size + 1) #[v] 26
 row:wr.ownsRow w.heap.size 87 2 v k xs
 fns:∀ i,i < k → FnO wr w.heap.size (xs[i * 2]?.getD undef) (xs[i * 2 + 1]?.getD undef) (mendF (p[i]?.getD ([],[]))).1 (mendF (p[i]?.getD ([],[]))).2
theorem MdS.set {w wr:World} {p:List (List Ins × List Bool)} {k:Nat} {v:Value} {xs:List Value} (h:MdS w p k v xs wr):MdS w p k v xs (wr.setCell ⟨w.heap.size + 1,0,none⟩ v):=
 have K:KT [26] wr (wr.setCell ⟨w.heap.size + 1,0,none⟩ v):=KT.set h.out (by decide) 0 v
 ⟨h.below.setCell (Nat.le_succ _) _,h.out.set 0 v,K.row h.row (by decide),fun i hi=>(h.fns i hi).kt K (by decide) (by decide)⟩
theorem copyB (W:World) {ops:Array Oper} {rest:List Oper} {o:Oper} {a:Act} {Q:Exit → Act → World → Prop} (hgd:o.guard = none) (d s:Operand) (ho:o.op = .call { callee:=.builtin .copy,args:=#[d,s],argTypes:=#[43,43] })
  (S m sb so sc:Nat) (sf:List Bool) (hd:a.eval d = .slice (some ⟨S,0,none⟩) m m) (hs:a.eval s = .slice (some ⟨sb,so,none⟩) m sc) (hS:Blk W S (madeCells #[.bool false] m) 4) (hl:sf.length = m)
  (hsrc:∀ i,i < m → W.cell? ⟨sb,so + i,none⟩ = some (.bool (sf[i]?.getD false))) (h:∀ W5,Blk W5 S (bools sf) 4 → Only (fun j=>j = S) W W5 → wpList Tryz.prog ops Q rest (a.put o.dst (.int .i64 m)) W5):wpList Tryz.prog ops Q (o :: rest) a W:=by
 have hcl:(sf.map Value.bool).length = m:=by rw [List.length_map,hl]
 have hml:(madeCells #[.bool false] m).toList.length = m:=by rw [Array.length_toList,size_madeCells]
 refine wpList_copy_own hgd d s 43 43 ho 4 Tryz.underlying43 (by kernel_rfl) S 0 m m ⟨sb,so,none⟩ m sc hd hs (madeCells #[.bool false] m) 4 hS (sf.map Value.bool) ?_ ?_ ?_ ?_ ?_
 ·rw [hcl];exact (Nat.min_self m).symm
 ·intro j v hj
  have hjl:j < sf.length:=by have:=(List.getElem?_eq_some_iff.1 hj).1;simpa using this
  rw [Go.WideShapes.add_plain,hsrc j (by omega),← hj,List.getElem?_map,List.getElem?_eq_getElem hjl]
  rfl
 ·rw [hcl,size_madeCells];omega
 ·intro v hv
  obtain ⟨b,_,rfl⟩:=List.mem_map.1 hv
  rfl
 ·rw [hcl]
  have e:((madeCells #[.bool false] m).toList.take 0 ++ (sf.map Value.bool ++ (madeCells #[.bool false] m).toList.drop (0 + m))).toArray = bools sf:=by
   rw [List.take_zero,List.nil_append,Nat.zero_add,List.drop_of_length_le (by rw [hml];exact Nat.le_refl _),List.append_nil]
   rfl
  rw [e]
  refine h _ (setRow_heap W S _ _ 4 (0,0) hS) ⟨rfl,rfl,rfl,by simp [World.setRow],fun k hk hne=>setRow_other W S k _ hne⟩
def mixL (l:List Ins) (sf:List Bool) (j:Nat):List Bool:=(mendL l sf).take j ++ sf.drop j
theorem mendL_len (l:List Ins) (sf:List Bool):(mendL l sf).length = sf.length:=by simp [mendL]
theorem mix_zero (l:List Ins) (sf:List Bool):mixL l sf 0 = sf:=by simp [mixL]
theorem mix_end (l:List Ins) (sf:List Bool):mixL l sf sf.length = mendL l sf:=by
 rw [mixL,List.drop_length,List.append_nil,← mendL_len l sf,List.take_length]
theorem mix_succ (l:List Ins) (sf:List Bool) (j:Nat) (h:j < sf.length):mixL l sf (j + 1) = (mixL l sf j).set j (mendB l sf j):=by
 have h1:(mendL l sf).take (j + 1) = (mendL l sf).take j ++ [mendB l sf j]:=by
  rw [List.take_add_one]
  congr 1
  simp [mendL,h]
 have h2:sf.drop j = sf[j] :: sf.drop (j + 1):=List.drop_eq_getElem_cons h
 have h3:((mendL l sf).take j).length = j:=by rw [List.length_take,mendL_len];omega
 unfold mixL
 rw [h1,h2,List.set_append_right _ _ (by omega),h3,Nat.sub_self,List.set_cons_zero,List.append_assoc]
 rfl
theorem mix_same (l:List Ins) (sf:List Bool) (j:Nat) (h:j < sf.length) (hb:mendB l sf j = sf[j]?.getD false):mixL l sf (j + 1) = mixL l sf j:=by
 have h2:sf.drop j = sf[j] :: sf.drop (j + 1):=List.drop_eq_getElem_cons h
 have h3:((mendL l sf).take j).length = j:=by rw [List.length_take,mendL_len];omega
 rw [List.getElem?_eq_getElem h] at hb
 rw [mix_succ l sf j h,hb]
 unfold mixL
 rw [h2,List.set_append_right _ _ (by omega),h3,Nat.sub_self,List.set_cons_zero]
 rfl
theorem bools_set (L:List Bool) (j:Nat) (b:Bool):(bools L).setIfInBounds j (.bool b) = bools (L.set j b):=by
 unfold bools
 rw [List.setIfInBounds_toArray,List.map_set]
theorem bools_at (L:List Bool) (j:Nat) (h:j < L.length):(bools L)[j]? = some (.bool (L[j]?.getD false)):=by
 unfold bools
 rw [List.getElem?_toArray,List.getElem?_map,List.getElem?_eq_getElem h]
 rfl
theorem mixL_len (l:List Ins) (sf:List Bool) (j:Nat) (h:j ≤ sf.length):(mixL l sf j).length = sf.length:=by
 rw [mixL,List.length_append,List.length_take,mendL_len,List.length_drop];omega
theorem new2m (w:World) (x y:Value) (t:TypeId):∀ (j:Nat) (u:Value),[x,y][j]? = some u → (w.alloc (.cells #[x,y] t)).cell? ((⟨w.heap.size,0,none⟩:Addr).add j) = some u:=by
 have h:=Blk.new w #[x,y] t
 intro j u hu
 rw [show ((⟨w.heap.size,0,none⟩:Addr).add j) = ⟨w.heap.size,j,none⟩ from by rw [Go.WideShapes.add_plain,Nat.zero_add]]
 rw [h.cell j,← hu]
 simp
set_option maxHeartbeats 8000000 in
theorem mend_any (pb po pc:Nat) (p:List (List Ins × List Bool)) (w:World) (hL:Laid w) (hP:PrIn w pb po p) (hlen:∀ f ∈ p,f.2.length = f.1.length ∧ 0 < f.1.length ∧ f.1.length ≤ 1000) (hn:p.length ≤ 100) :
  Calls Tryz.prog 39 #[.agg #[.slice (some ⟨pb,po,none⟩) p.length pc]] w fun e w'=>∃ v xs,e = .returned (.agg #[v]) ∧ MdS w p p.length v xs w':=by
 have H0:=Lib.hid (And.intro hL (And.intro hP (And.intro hlen hn)))
 clear hL hP hlen hn
 go_enter Tryz.func39,Tryz.ntmps39
 go_wp2
 generalize hpl:p.length = np at *
 have HNP:=Lib.hid hpl
 clear hpl
 go_loopw [11] (fun t wr=>∃ (k:Nat) (v:Value) (xs:List Value),k ≤ np ∧ t = .int .i64 k ∧ MdS w p k v xs wr) (fun t _=>np - (intOf t).toNat)
 case atStart=>
  refine ⟨0,.slice none 0 0,[],Nat.zero_le _,rfl,below_alloc (below_alloc (Below.refl _ _) _) _,?_,World.ownsRow_nil _ _ _ _,fun i hi=>absurd hi (Nat.not_lt_zero _)⟩
  have:=Blk.new (w.alloc (.cells #[.slice (some ⟨pb,po,none⟩) np pc] 26)) #[.slice none 0 0] 26
  simpa using this
 case round=>
  obtain ⟨k,v,xs,hk,rfl,hS⟩:=hrel
  obtain ⟨w1,rfl⟩:∃ w1,w1 = wr:=⟨wr,rfl⟩
  by_cases hlt:k < np
  ·have hkn:(k:Int) < (np:Int):=by omega
   obtain ⟨cb,co,cc,sb,so,sc,a1,a2,a3,b,off,cap,e4,a5,a6⟩:=H0.out.2.1.2 k (by rw [HNP.out];exact hlt)
   cases e4
   obtain ⟨f,hf⟩:∃ f,p[k]?.getD ([],[]) = f:=⟨_,rfl⟩
   have hfm:f ∈ p:=by
    have hk':k < p.length:=by rw [HNP.out];exact hlt
    rw [List.getElem?_eq_getElem hk'] at hf
    rw [← hf]
    exact List.getElem_mem hk'
   have hfl:=H0.out.2.2.1 f hfm
   rw [hf] at a1 a2 a3 a6
   obtain ⟨l,sf⟩:=f
   simp only at a1 a2 a3 a6 hfl
   obtain ⟨m,hm⟩:∃ m,l.length = m:=⟨_,rfl⟩
   rw [hfl.1,hm] at a2
   rw [hm] at a1
   have hpw:=H0.out.2.1.1
   have hpr:pb < w1.heap.size:=Nat.lt_of_lt_of_le hpw hS.below.size
   have p0:=(hS.below.cell (p:=⟨pb,po + k * 2,none⟩) hpw).trans a1
   have p1:=(hS.below.cell (p:=⟨pb,po + k * 2 + 1,none⟩) hpw).trans a2
   obtain ⟨wF,hwF⟩:∃ wF,w1.alloc (.cells #[.slice (some ⟨cb,co,none⟩) m cc,.slice (some ⟨sb,so,none⟩) m sc] 87) = wF:=⟨_,rfl⟩
   have hal:Below w1.heap.size w1 wF:=by rw [← hwF];exact below_alloc (Below.refl _ _) _
   have hFb:Blk wF w1.heap.size #[.slice (some ⟨cb,co,none⟩) m cc,.slice (some ⟨sb,so,none⟩) m sc] 87:=by rw [← hwF];exact Blk.new w1 _ 87
   have HFb:=Lib.hid (And.intro hal hFb)
   have b0:=hFb.cell 0
   have b1:=hFb.cell 1
   have lfb:=hFb.lt
   have nf0:¬ wF.heap.size = w1.heap.size:=by omega
   have nf1:¬ wF.heap.size + 1 = w1.heap.size:=by omega
   have nf2:¬ w1.heap.size = wF.heap.size:=by omega
   have nf3:¬ w1.heap.size = wF.heap.size + 1:=by omega
   simp only [List.getElem?_toArray,List.getElem?_cons_zero,List.getElem?_cons_succ] at b0 b1
   have HSrc:Hid (∀ W,Below wF.heap.size wF W → cb < W.heap.size ∧ ∀ (j:Nat) (x:Value),(insWs l)[j]? = some x → W.cell? ⟨cb,co + j,none⟩ = some x):=fun W hW=>by
    have hB:=hS.below.trans ((hal.trans (hW.mono hal.size)).mono hS.below.size)
    exact ⟨Nat.lt_of_lt_of_le a3.1 hB.size,fun j x hx=>(hB.cell (p:=⟨cb,co + j,none⟩) a3.1).trans (code_news a3 j x hx)⟩
   have HM:Hid (0 < m ∧ m ≤ 1000 ∧ (insWs l).length = m * 5 ∧ sf.length = m):=by
    show _ ∧ _
    rw [insWs_len,← hm]
    exact ⟨hfl.2.1,hfl.2.2,rfl,hfl.1⟩
   have HF:=Lib.hid (And.intro hf (And.intro hm (And.intro a3 (And.intro a5 a6))))
   have HS:=Lib.hid hS
   clear hf hfm hfl hm a1 a2 a3 a5 a6 hS hal hFb hpw hk
   go_upto_region 4 with fail
   go_cut [5] from 13 to 58 (fun s5 W=>MdC wF m l s5 W)
   case first=>
    have hMB:=fun w=>makeBools m (by have:=HM.out;omega) w
    go_region_held3 (fun w'=>w'.cell? ⟨w1.heap.size,0,none⟩ = some (.slice (some ⟨cb,co,none⟩) m cc)) (go_keep) (first | (go_at_call 102;refine (clone_any cb co m cc (insWs l) _ HM.out.1 HM.out.2.1 (HSrc.out _ (by (repeat (first | exact Below.refl _ _ | refine Below.drew ?_ | refine below_alloc ?_ _)))).1 HM.out.2.2.1 (HSrc.out _ (by (repeat (first | exact Below.refl _ _ | refine Below.drew ?_ | refine below_alloc ?_ _)))).2).mono ?_;rintro e w2 ⟨vc,rfl,hR,hB⟩;obtain ⟨g2,cap2,cur2,rfl,hg2,hb2,ht2⟩:=row_full hR HM.out.1;have hBW:Below wF.heap.size wF w2:=bel_next (by (repeat (first | exact Below.refl _ _ | refine Below.drew ?_ | refine below_alloc ?_ _))) hB;have c0:=(hBW.cell (p:=⟨w1.heap.size,0,none⟩) lfb).trans b0;have hg3:wF.heap.size ≤ g2:=(Nat.le_trans (by first | (simp;done) | (simp;omega)) hg2);(try (have hX2:Blk w2 wF.heap.size #[.slice none 0 0,.slice none 0 0] 87:=Blk.below (by first | exact (Blk.new wF _ 87).drew | exact ((Blk.new wF _ 87).alloc _).drew) hB (by first | (simp;done) | (simp;omega));have xa:=hX2.cell 0;have xb:=hX2.cell 1;have xc:=hX2.free 0;have xd:=hX2.free 1;have xl:=hX2.lt;have xm:¬ wF.heap.size = w2.heap.size:=(by omega);simp only [List.getElem?_toArray,List.getElem?_cons_zero,List.getElem?_cons_succ] at xa xb));(try (have hX3:Blk w2 (wF.heap.size + 1) #[.slice none 0 0,.slice none 0 0] 87:=Blk.below (by first | exact (Blk.new' _ _ (by simp)).drew | fail) hB (by first | (simp;done) | (simp;omega));have xa:=hX3.cell 0;have xb:=hX3.cell 1;have xc:=hX3.free 0;have xd:=hX3.free 1;have xl:=hX3.lt;have xm:¬ wF.heap.size + 1 = w2.heap.size:=(by omega);simp only [List.getElem?_toArray,List.getElem?_cons_zero,List.getElem?_cons_succ] at xa xb));(try have hS2:Blk w2 wF.heap.size (madeCells #[.bool false] m) 4:=Blk.below (by first | exact (Blk.new wF _ 4).drew | exact ((Blk.new wF _ 4).alloc _).drew) hB (by first | (simp;done) | (simp;omega)));(try have hS3:Blk w2 (wF.heap.size + 1) (madeCells #[.bool false] m) 4:=Blk.below (by first | exact (Blk.new' _ _ (by simp)).drew | fail) hB (by first | (simp;done) | (simp;omega)));have HC2:=Lib.hid (And.intro hBW (And.intro hg3 (And.intro hb2 ht2)));clear hR hB hg2 hb2 ht2 hBW hg3))
    all_goals
     go_wp2_with fail
     go_meet
     have hc:=HC2.out
     refine ⟨_,?_,g2,cap2,cur2,rfl,?_,?_,?_,hc.2.2.2,?_,?_,hc.2.1,?_⟩
     rotate_left
     ·first
       | (have h9:=Blk.new' (w:=w2.alloc (.cells (madeCells #[.bool false] m) 4)) (b:=w2.heap.size + 1) #[.slice (some ⟨g2,0,none⟩) m cap2,.slice (some ⟨w2.heap.size,0,none⟩) m m] 87 (by simp);exact h9)
       | exact Blk.new w2 #[.slice (some ⟨g2,0,none⟩) m cap2,.slice (some ⟨wF.heap.size,0,none⟩) m m] 87
       | exact (Blk.new w2 #[.slice (some ⟨g2,0,none⟩) m cap2,.slice (some ⟨w2.heap.size + 1,0,none⟩) m m] 87).alloc _
       | exact ((hX2.set 0 _).set 1 _).alloc _
       | exact (hX2.set 0 _).set 1 _
       | exact (hX3.set 0 _).set 1 _
     ·first
       | exact (Blk.new _ _ _).alloc _
       | exact hS2.alloc _
       | exact (hS3.setOther (by omega) _).setOther (by omega) _
       | exact (hS2.setOther (by omega) _).setOther (by omega) _
       | exact Blk.new' _ _ (by simp [World.setCell])
     ·first
       | exact (hc.2.2.1.alloc _).alloc _
       | exact hc.2.2.1.alloc _
       | exact ((hc.2.2.1.setOther (blk_ne hc.2.2.1 hX2 (by decide)) _).setOther (blk_ne hc.2.2.1 hX2 (by decide)) _).alloc _
       | exact (hc.2.2.1.setOther (blk_ne hc.2.2.1 hX2 (by decide)) _).setOther (blk_ne hc.2.2.1 hX2 (by decide)) _
       | exact (hc.2.2.1.setOther (blk_ne hc.2.2.1 hX3 (by decide)) _).setOther (blk_ne hc.2.2.1 hX3 (by decide)) _
     ·first
       | exact below_alloc (below_alloc hc.1 _) _
       | exact below_alloc hc.1 _
       | exact below_alloc ((hc.1.setCell (Nat.le_refl _) _).setCell (Nat.le_refl _) _) _
       | exact (hc.1.setCell (Nat.le_refl _) _).setCell (Nat.le_refl _) _
       | exact (hc.1.setCell (Nat.le_succ _) _).setCell (Nat.le_succ _) _
     ·have:=hc.1.size;omega
     ·have:=hc.1.size;omega
   case rest=>
    obtain ⟨X,S,cb2,cc2,cur2,rfl,hX,hSb,hCd,hTk,hB,g1,g2,g3⟩:=hcut
    have xa:=hX.cell 0
    have xb:=hX.cell 1
    have f1:=(HFb.out.2.below hB HFb.out.2.lt).cell 1
    simp only [List.getElem?_toArray,List.getElem?_cons_zero,List.getElem?_cons_succ] at xa xb f1
    have hBw:Hid (Below w.heap.size w wc):=HS.out.below.trans ((HFb.out.1.trans (hB.mono HFb.out.1.size)).mono HS.out.below.size)
    have hsr:Hid (∀ i,i < m → wc.cell? ⟨sb,so + i,none⟩ = some (.bool (sf[i]?.getD false))):=fun i hi=>(hBw.out.cell (p:=⟨sb,so + i,none⟩) HF.out.2.2.2.1).trans (HF.out.2.2.2.2 i (by have:=HM.out.2.2.2;omega))
    have HC:=Lib.hid (And.intro hX (And.intro hSb (And.intro hCd (And.intro hTk (And.intro hB (And.intro g1 (And.intro g2 g3)))))))
    have nXS:Hid (X ≠ S):=blk_ne hX hSb (by decide)
    have nCS:Hid (cb2 ≠ S):=blk_ne hCd hSb (by decide)
    have lfw:=hB.size
    clear hX hSb hCd hTk hB g1 g2 g3 hwF nf0 nf1 nf2 nf3 b0 b1 p0 p1 hpr
    go_wp2_with ((refine copyB wc rfl _ _ rfl S m sb so sc sf rfl rfl HC.out.2.1 HM.out.2.2.2 hsr.out ?_;intro W5 hS5 hO5;have xb5:=(HC.out.1.only hO5 nXS.out).cell 1;have HW5:=Lib.hid (And.intro hS5 hO5);simp only [List.getElem?_toArray,List.getElem?_cons_zero,List.getElem?_cons_succ] at xb5;clear hS5 hO5))
    have HA:Hid (∀ W,Only (fun b=>b = S) W5 W → ∀ i,i < m → Calls Tryz.prog 103 #[.int .i64 (i:Nat),.pointer (some ⟨w1.heap.size,0,none⟩)] W fun e w'=>e = .returned (.bool (row (l[i]?.getD i0).op).waits) ∧ Below W.heap.size W w'):=fun W hO i hi=>by
     have hOw:Only (fun b=>b = S) wc W:=HW5.out.2.andThen hO (fun _ _ h=>h)
     have hge:=HC.out.2.2.2.2.2.1
     have hBW:Below w.heap.size w W:=hBw.out.trans (hOw.toBelow hBw.out.size (fun j hj=>by
      have e:j = S:=hj
      have h1:=HS.out.below.size
      have h2:=HFb.out.1.size
      omega))
     have hfb:Blk W w1.heap.size #[.slice (some ⟨cb,co,none⟩) m cc,.slice (some ⟨sb,so,none⟩) m sc] 87:=(HFb.out.2.below HC.out.2.2.2.2.1 HFb.out.2.lt).only hOw (fun e=>by have e':w1.heap.size = S:=e;omega)
     have hci:=((HF.out.2.2.1.below (hBW.mono (Nat.le_refl _))).2 i (by rw [HF.out.2.1];exact hi)).1
     exact mwaits_any w1.heap.size cb co m cc i _ _ W hfb hci hi (H0.out.1.below hBW)
    have hX5:Hid (∀ W,Only (fun b=>b = S) W5 W → W.cell? ⟨X,1,none⟩ = some (.slice (some ⟨S,0,none⟩) m m)):=fun W hO=>((HC.out.1.only HW5.out.2 nXS.out).only hO nXS.out).cell 1
    clear xa xb xb5 f1 lfw
    go_loopw [32] (fun t wr=>∃ j:Nat,j ≤ m ∧ t = .int .i64 j ∧ Blk wr S (bools (mixL l sf j)) 4 ∧ Only (fun b=>b = S) W5 wr) (fun t _=>m - (intOf t).toNat)
    case atStart=>exact ⟨0,Nat.zero_le _,rfl,by rw [mix_zero];exact HW5.out.1,Only.refl _ _⟩
    case round=>
     obtain ⟨j,hj,rfl,hSj,hOj⟩:=hrel
     by_cases hjm:j < m
     ·have hjmi:(j:Int) < (m:Int):=by omega
      have hjs:Hid (j < sf.length):=by show j < sf.length;rw [HM.out.2.2.2];exact hjm
      have HJ:=Lib.hid (And.intro hSj hOj)
      have c1:=HA.out wr hOj j hjm
      have hw:wrap64 ((j:Int) + 1) = ((j + 1:Nat):Int):=by have:=HM.out.2.1;unfold wrap64;omega
      have hSx:Hid (∀ W,Only (fun b=>b = S) wr W → Blk W S (bools (mixL l sf j)) 4 → W.cell? ⟨X,1,none⟩ = some (.slice (some ⟨S,0,none⟩) m m) ∧ W.frozen? ⟨S,j,none⟩ = false ∧ W.cell? ⟨S,j,none⟩ = some (.bool ((mixL l sf j)[j]?.getD false))):=fun W hO hb=>⟨hX5.out W (HJ.out.2.andThen hO (fun _ _ h=>h)),hb.free j,(hb.cell j).trans (bools_at _ _ (by rw [mixL_len _ _ _ (Nat.le_of_lt hjs.out)];exact hjs.out))⟩
      have hEnd:Hid (∀ W,Only (fun b=>b = S) wr W → Blk W S (bools (mixL l sf j)) 4 → (mendB l sf j = true → Blk (W.setCell ⟨S,j,none⟩ (.bool true)) S (bools (mixL l sf (j + 1))) 4 ∧ Only (fun b=>b = S) W5 (W.setCell ⟨S,j,none⟩ (.bool true))) ∧ (mendB l sf j = sf[j]?.getD false → Blk W S (bools (mixL l sf (j + 1))) 4 ∧ Only (fun b=>b = S) W5 W)):=fun W hO hb=>⟨fun h=>⟨by
        have:=hb.set j (.bool true)
        have e:=mix_succ l sf j hjs.out
        rw [h] at e
        rw [bools_set,← e] at this
        exact this,(HJ.out.2.andThen hO (fun _ _ h=>h)).set (.inr rfl) _ _⟩,fun h=>⟨by rw [mix_same l sf j hjs.out h];exact hb,HJ.out.2.andThen hO (fun _ _ h=>h)⟩⟩
      cases hw1:(row (l[j]?.getD i0).op).waits
      ·rw [hw1] at c1
       have C1:=Lib.hid c1
       by_cases hj0:j = 0
       ·have hmb:Hid (mendB l sf j = sf[j]?.getD false):=by show _ = _;unfold mendB;rw [hw1,hj0];simp
        clear c1 hSj hOj hj hw1 hjm hjmi
        subst hj0
        have hjmi:(0:Int) < (m:Int):=by have:=HM.out.1;omega
        go_wp2_with (go_at_call 103;go_loud (refine C1.out.mono ?_;rintro e w3 ⟨rfl,hB3⟩;have hO3:Only (fun b=>b = S) wr w3:=(Only.refl _ _).below hB3;have hS3:=HJ.out.1.below hB3 HJ.out.1.lt;have HE:=Lib.hid ((hEnd.out w3 hO3 hS3).2 hmb.out);clear hB3 hO3 hS3))
        have hm0:=HM.out.1
        exact ⟨⟨1,hm0,rfl,HE.out.1,HE.out.2⟩,by simp [intOf];omega⟩
       ·have hd0:(0:Int) < (j:Int):=by omega
        have e2:IntKind.i64.wrap ((j:Int) - 1) = ((j - 1:Nat):Int):=by have:=HM.out.2.1;rw [IntKind.wrap_i64];omega
        have hj1:Hid (j - 1 < m):=by show j - 1 < m;omega
        cases hw2:(row (l[j - 1]?.getD i0).op).waits
        ·have hmb:Hid (mendB l sf j = sf[j]?.getD false):=by show _ = _;unfold mendB;rw [hw1,hw2];simp
         have HW2:=Lib.hid hw2
         clear c1 hSj hOj hj hw1 hw2 hj0
         go_wp2_with (go_at_call 103;first
          | (have hh:=HE1;refine (HA.out _ (HJ.out.2.andThen HE1.out.1 (fun _ _ h=>h)) (j - 1) hj1.out).mono ?_;rintro e w4 ⟨rfl,hB4⟩;rw [HW2.out];have hO4:Only (fun b=>b = S) wr w4:=HE1.out.1.below hB4;have HE:=Lib.hid ((hEnd.out w4 hO4 (HE1.out.2.below hB4 HE1.out.2.lt)).2 hmb.out);clear hB4 hO4 hh)
          | (refine C1.out.mono ?_;rintro e w3 ⟨rfl,hB3⟩;have hO3:Only (fun b=>b = S) wr w3:=(Only.refl _ _).below hB3;have hS3:=HJ.out.1.below hB3 HJ.out.1.lt;have HE1:=Lib.hid (And.intro hO3 hS3);clear hB3 hO3 hS3))
         rw [hw]
         exact ⟨⟨j + 1,by omega,rfl,HE.out.1,HE.out.2⟩,by simp [intOf];omega⟩
        ·have hmb:Hid (mendB l sf j = true):=by show _ = _;unfold mendB;rw [hw2];have h0j:0 < j:=(by omega);simp [h0j]
         have HW2:=Lib.hid hw2
         clear c1 hSj hOj hj hw1 hw2 hj0
         go_wp2_with (go_at_call 103;first
          | (have hh:=HE1;refine (HA.out _ (HJ.out.2.andThen HE1.out.1 (fun _ _ h=>h)) (j - 1) hj1.out).mono ?_;rintro e w4 ⟨rfl,hB4⟩;rw [HW2.out];have hO4:Only (fun b=>b = S) wr w4:=HE1.out.1.below hB4;have hS4:=HE1.out.2.below hB4 HE1.out.2.lt;obtain ⟨y1,y2,y3⟩:=hSx.out w4 hO4 hS4;have HE:=Lib.hid ((hEnd.out w4 hO4 hS4).1 hmb.out);clear hB4 hO4 hS4 hh)
          | (refine C1.out.mono ?_;rintro e w3 ⟨rfl,hB3⟩;have hO3:Only (fun b=>b = S) wr w3:=(Only.refl _ _).below hB3;have hS3:=HJ.out.1.below hB3 HJ.out.1.lt;have HE1:=Lib.hid (And.intro hO3 hS3);clear hB3 hO3 hS3))
         rw [hw]
         exact ⟨⟨j + 1,by omega,rfl,HE.out.1,HE.out.2⟩,by simp [intOf];omega⟩
      ·rw [hw1] at c1
       have C1:=Lib.hid c1
       have hmb:Hid (mendB l sf j = true):=by show _ = _;unfold mendB;rw [hw1];simp
       clear c1 hSj hOj hj hw1
       go_wp2_with (go_at_call 103;go_loud (refine C1.out.mono ?_;rintro e w3 ⟨rfl,hB3⟩;have hO3:Only (fun b=>b = S) wr w3:=(Only.refl _ _).below hB3;have hS3:=HJ.out.1.below hB3 HJ.out.1.lt;obtain ⟨y1,y2,y3⟩:=hSx.out w3 hO3 hS3;have HE:=Lib.hid ((hEnd.out w3 hO3 hS3).1 hmb.out);clear hB3 hO3 hS3))
       rw [hw]
       exact ⟨⟨j + 1,by omega,rfl,HE.out.1,HE.out.2⟩,by simp [intOf];omega⟩
     ·obtain rfl:j = m:=by omega
      have hjsf:j = sf.length:=HM.out.2.2.2.symm
      rw [hjsf,mix_end] at hSj
      clear hjsf
      have hOw:Only (fun b=>b = S) wc wr:=HW5.out.2.andThen hOj (fun _ _ h=>h)
      have hge:=HC.out.2.2.2.2.2.1
      have hBr:Below w1.heap.size w1 wr:=(HFb.out.1.trans (HC.out.2.2.2.2.1.mono HFb.out.1.size)).trans (hOw.toBelow (Nat.le_trans HFb.out.1.size HC.out.2.2.2.2.1.size) (fun b hb=>by
       have e:b = S:=hb
       have h2:=HFb.out.1.size
       omega))
      have hBW:Below w.heap.size w wr:=HS.out.below.trans (hBr.mono HS.out.below.size)
      have hXw:=HC.out.1.only hOw nXS.out
      have hCw:=HC.out.2.2.1.only hOw nCS.out
      have hOut:Blk wr (w.heap.size + 1) #[v] 26:=HS.out.out.below hBr HS.out.out.lt
      have hRow:=rowv_below HS.out.row hBr
      obtain ⟨ra,rc,rfl⟩:=row_slice hRow
      have x0:=hXw.cell 0
      have x1:=hXw.cell 1
      have z0:=hOut.cell 0
      have zl:=hOut.lt
      simp only [List.getElem?_toArray,List.getElem?_cons_zero,List.getElem?_cons_succ] at x0 x1 z0
      have HG:=Lib.hid (And.intro hBr (And.intro hBW (And.intro hCw (And.intro hSj (And.intro hOut hRow)))))
      clear hSj hOj hOw hge hBr hBW hXw hCw hOut hRow hjm hj
      go_wp2_with (at_builtin;go_loud (refine appV Tryz.underlying24 info87 rfl (by decide) (by decide) w.heap.size _ rfl _ _ rfl (.slice ra k rc) k xs ⟨wr.heap.size,0,none⟩ 1 [.slice (some ⟨cb2,0,none⟩) j cc2,.slice (some ⟨S,0,none⟩) j j] rfl rfl (.inl (rowv_below HG.out.2.2.2.2.2 (below_alloc (Below.refl _ _) _))) rfl (new2m wr _ _ 87) (by simp [Value.oneCell']) (by have:=HG.out.2.1.size;simp;omega) (by have:=H0.out.2.2.2;omega) ?_;intro v' w5 hA;obtain ⟨g5,c5,rfl⟩:=hA.some;have ho5:Blk w5 (w.heap.size + 1) #[.slice ra k rc] 26:=(KT.grown (T:=[87]) (rowv_below HG.out.2.2.2.2.2 (below_alloc (Below.refl _ _) _)) hA.2.1 (by decide)).keep (HG.out.2.2.2.2.1.alloc _) (by decide);have z5:=ho5.cell 0;have zf:=ho5.free 0;have HA5:=Lib.hid (And.intro hA ho5);simp only [List.getElem?_toArray,List.getElem?_cons_zero] at z5;clear hA ho5))
      have hw:wrap64 ((k:Int) + 1) = ((k + 1:Nat):Int):=by have:=H0.out.2.2.2;unfold wrap64;omega
      rw [hw]
      have hg:=HG.out
      have hA:=HA5.out.1
      have K:KT [87,26] wr (w5.setCell ⟨w.heap.size + 1,0,none⟩ (.slice (some ⟨g5,0,none⟩) (k + 1) c5)):=((KT.below (below_alloc (Below.refl _ _) _)).trans (KT.grown (rowv_below hg.2.2.2.2.2 (below_alloc (Below.refl _ _) _)) hA.2.1 (by decide))).trans (KT.set HA5.out.2 (by decide) 0 _)
      have hxl:xs.length = k * 2:=hg.2.2.2.2.2.1
      have s1:=HS.out.below.size
      have s2:=HFb.out.1.size
      refine ⟨⟨k + 1,.slice (some ⟨g5,0,none⟩) (k + 1) c5,xs ++ [.slice (some ⟨cb2,0,none⟩) j cc2,.slice (some ⟨S,0,none⟩) j j],hlt,rfl,⟨(below_grown (below_alloc hg.2.1 _) hA.2.1 (fun b hb=>(World.ownsRow.lt hg.2.2.2.2.2 b hb).1)).setCell (Nat.le_succ _) _,HA5.out.2.set 0 _,(KT.set (T:=[26]) HA5.out.2 (by decide) 0 _).row hA.1 (by decide),fun i hi=>?_⟩⟩,by simp [intOf];omega⟩
      by_cases hik:i < k
      ·have e1:(xs ++ [.slice (some ⟨cb2,0,none⟩) j cc2,.slice (some ⟨S,0,none⟩) j j]:List Value)[i * 2]? = xs[i * 2]?:=List.getElem?_append_left (by omega)
       have e2:(xs ++ [.slice (some ⟨cb2,0,none⟩) j cc2,.slice (some ⟨S,0,none⟩) j j]:List Value)[i * 2 + 1]? = xs[i * 2 + 1]?:=List.getElem?_append_left (by omega)
       rw [e1,e2]
       exact ((HS.out.fns i hik).kt (KT.below (T:=[]) hg.1) (by decide) (by decide)).kt K (by decide) (by decide)
      ·obtain rfl:i = k:=by omega
       have e1:(xs ++ [.slice (some ⟨cb2,0,none⟩) j cc2,.slice (some ⟨S,0,none⟩) j j]:List Value)[i * 2]? = some (.slice (some ⟨cb2,0,none⟩) j cc2):=by rw [List.getElem?_append_right (by omega),hxl,Nat.sub_self];rfl
       have e2:(xs ++ [.slice (some ⟨cb2,0,none⟩) j cc2,.slice (some ⟨S,0,none⟩) j j]:List Value)[i * 2 + 1]? = some (.slice (some ⟨S,0,none⟩) j j):=by rw [List.getElem?_append_right (by omega),hxl,Nat.add_sub_cancel_left];rfl
       have e3:(mendL l sf).length = j:=by rw [mendL_len];exact HM.out.2.2.2
       rw [e1,e2,HF.out.1]
       refine ⟨⟨cb2,cc2,cur2,?_,K.keep hg.2.2.1 (by decide),by have:=HC.out.2.2.2.2.2.2.1;omega,?_⟩,⟨S,?_,K.keep hg.2.2.2.1 (by decide),by have:=HC.out.2.2.2.2.2.1;omega⟩⟩
       ·show _ = Value.slice _ l.length cc2
        rw [HF.out.2.1]
        rfl
       ·show cur2.toList.take (l.length * 5) = insWs l
        rw [HF.out.2.1]
        exact HC.out.2.2.2.1
       ·show _ = Value.slice _ (mendL l sf).length (mendL l sf).length
        rw [e3]
        rfl
  ·obtain rfl:k = np:=by omega
   obtain ⟨ra,rc,rfl⟩:=row_slice hS.row
   have z0:=hS.out.cell 0
   have zf:=hS.out.free 0
   simp only [List.getElem?_toArray,List.getElem?_cons_zero] at z0
   have HF:=Lib.hid hS
   clear hS hlt hk
   go_wp2
   have c0:=(HF.out.out.set 0 (.slice ra k rc)).cell 0
   simp only [List.setIfInBounds_toArray,List.set_cons_zero,List.getElem?_toArray,List.getElem?_cons_zero] at c0
   exact bodyPost_ret (v:=.agg #[.slice ra k rc]) (by simp [results,Tryz.results39,go_sem,c0]) rfl ⟨_,xs,rfl,by rw [HNP.out];exact HF.out.set⟩
end Go.Proofs.YtgadhchejmlfjaaGreatDoor.Val
end
section
namespace Go.Proofs.YtgadhchejmlfjaaGreatDoor.Val
open Go.RowKit Go.Esc
open Go.Proofs.YtgadhchejmlfjaaGreatDoor.Isa (row rows Laid)
open Go.Proofs.YtgadhchejmlfjaaGreatDoor.Vm (Ins)
open Go.Proofs.YtgadhchejmlfjaaGreatDoor.Gnn (insC PutP put_any)
theorem code_row {w:World} {cb:Nat} {cur:Array Value} {l:List Ins} (hB:Blk w cb cur 84) (ht:cur.toList.take (l.length * 5) = insWs l):CodeIn w cb 0 l:=by
 refine ⟨hB.lt,fun i hi=>?_⟩
 have hat:∀ r,r < 5 → w.cell? ⟨cb,i * 5 + r,none⟩ = (insW (l[i]?.getD i0))[r]?:=fun r hr=>by
  rw [hB.cell,← Array.getElem?_toList,← List.getElem?_take_of_lt (show i * 5 + r < l.length * 5 by omega),ht]
  exact insWs_at l i r hi hr
 simp only [Nat.zero_add]
 exact ⟨hat 0 (by decide),hat 1 (by decide),hat 2 (by decide),hat 3 (by decide),hat 4 (by decide)⟩
theorem bs_row {w:World} {sb sc:Nat} {cur:Array Value} {sf:List Bool} (hB:Blk w sb cur 4) (ht:cur.toList.take sf.length = sf.map Value.bool):Dec.Bs w (.slice (some ⟨sb,0,none⟩) sf.length sc) sf:=by
 refine ⟨sb,0,sc,rfl,hB.lt,fun i hi=>?_⟩
 rw [Nat.zero_add,hB.cell,← Array.getElem?_toList,← List.getElem?_take_of_lt hi,ht]
 simp [hi]
theorem bools_bs {w:World} {sb sc:Nat} {sf:List Bool} (hB:Blk w sb (bools sf) 4):Dec.Bs w (.slice (some ⟨sb,0,none⟩) sf.length sc) sf:=
 bs_row hB (by rw [bools];exact List.take_of_length_le (by simp))
structure FnR (w:World) (x y:Value) (l:List Ins) (sf:List Bool):Prop where
 code:∃ cb cc,x = .slice (some ⟨cb,0,none⟩) l.length cc ∧ ∃ cur,Blk w cb cur 84 ∧ cur.toList.take (l.length * 5) = insWs l
 safe:∃ sb,y = .slice (some ⟨sb,0,none⟩) sf.length sf.length ∧ Blk w sb (bools sf) 4
theorem FnR.kt {T:List TypeId} {w w':World} {x y:Value} {l:List Ins} {sf:List Bool} (h:FnR w x y l sf) (k:KT T w w') (h1:84 ∉ T) (h2:4 ∉ T):FnR w' x y l sf:=by
 obtain ⟨⟨cb,cc,e1,cur,b1,t1⟩,⟨sb,e2,b2⟩⟩:=h
 exact ⟨⟨cb,cc,e1,cur,k.keep b1 h1,t1⟩,⟨sb,e2,k.keep b2 h2⟩⟩
theorem prIn_rows {wr:World} {base:Nat} {p:List (List Ins × List Bool)} {v:Value} {xs:List Value} (hr:wr.ownsRow base 87 2 v p.length xs) (hn:0 < p.length)
  (hf:∀ i,i < p.length → FnR wr (xs[i * 2]?.getD undef) (xs[i * 2 + 1]?.getD undef) (p[i]?.getD ([],[])).1 (p[i]?.getD ([],[])).2):∃ pb pc,v = .slice (some ⟨pb,0,none⟩) p.length pc ∧ base ≤ pb ∧ PrIn wr pb 0 p:=by
 obtain ⟨pb,pc,cur,hv,hge,hB,ht⟩:=row_full hr hn
 have hat:∀ j,j < p.length * 2 → wr.cell? ⟨pb,j,none⟩ = xs[j]?:=fun j hj=>by
  rw [hB.cell,← Array.getElem?_toList,← List.getElem?_take_of_lt hj,ht]
 have hxl:xs.length = p.length * 2:=hr.1
 refine ⟨pb,pc,hv,hge,hB.lt,fun k hk=>?_⟩
 obtain ⟨⟨cb,cc,e1,ccur,b1,t1⟩,⟨sb,e2,b2⟩⟩:=hf k hk
 have s1:xs[k * 2]? = some (xs[k * 2]?.getD undef):=by rw [List.getElem?_eq_getElem (by omega)];rfl
 have s2:xs[k * 2 + 1]? = some (xs[k * 2 + 1]?.getD undef):=by rw [List.getElem?_eq_getElem (by omega)];rfl
 refine ⟨cb,0,cc,sb,0,(p[k]?.getD ([],[])).2.length,?_,?_,code_row b1 t1,bools_bs b2⟩
 · rw [Nat.zero_add,hat _ (by omega),s1,e1]
 · rw [Nat.zero_add,hat _ (by omega),s2,e2]
theorem MdS.prIn {w wr W:World} {p:List (List Ins × List Bool)} {v:Value} {xs:List Value} (h:MdS w p p.length v xs wr) (hn:0 < p.length) (K:KT [26] wr W):∃ pb pc,v = .slice (some ⟨pb,0,none⟩) p.length pc ∧ w.heap.size ≤ pb ∧ PrIn W pb 0 (p.map mendF):=by
 have hl:(p.map mendF).length = p.length:=List.length_map _
 have k:=prIn_rows (wr:=W) (base:=w.heap.size) (v:=v) (xs:=xs) (p:=p.map mendF) (by rw [hl];exact K.row h.row (by decide)) (by omega) (fun i hi=>by
  have hi':i < p.length:=by omega
  have hmk:(p.map mendF)[i]?.getD ([],[]) = mendF (p[i]?.getD ([],[])):=by simp [hi']
  rw [hmk]
  obtain ⟨⟨cb,cc,ccur,e1,b1,g1,t1⟩,⟨sb,e2,b2,g2⟩⟩:=(h.fns i hi').kt K (by decide) (by decide)
  exact ⟨⟨cb,cc,e1,ccur,b1,t1⟩,⟨sb,e2,b2⟩⟩)
 rw [hl] at k
 exact k
def insOf (x:Int × Int):Ins:=⟨x.1,0,0,0,x.2⟩
theorem insWs_of:∀ l:List (Int × Int),insWs (l.map insOf) = l.flatMap insC
 | []=>rfl
 | x :: l=>by
  rw [List.map_cons,List.flatMap_cons]
  show insW (insOf x) ++ insWs (l.map insOf) = _
  rw [insWs_of l]
  rfl
theorem KT.only {S:Nat → Prop} {T:List TypeId} {w w':World} (o:Only S w w') (h:∀ j,S j → ∃ cs t,Blk w j cs t ∧ t ∈ T):KT T w w':=
 ⟨o.size,fun hb ht=>hb.only o (fun hs=>by
  obtain ⟨cs,t,h1,h2⟩:=h _ hs
  exact ht (blk_type hb h1 ▸ h2))⟩
theorem made_bools (m:Nat):madeCells #[.bool false] m = bools (List.replicate m false):=by
 apply Array.ext'
 rw [bools,madeCells,Array.toList_map,Array.toList_range]
 refine List.ext_getElem? fun j=>?_
 rw [List.getElem?_map,List.map_replicate,List.getElem?_replicate]
 rcases Nat.lt_or_ge j m with hj | hj
 ·rw [if_pos hj,List.getElem?_range hj]
  show some ((#[Value.bool false]:Array Value)[j % 1]!) = _
  rw [Nat.mod_one]
  rfl
 ·rw [if_neg (by omega),List.getElem?_eq_none (by simpa using hj)]
  rfl
theorem put_fn {mk n base lb lc:Nat} {v:Value} {l:List (Int × Int)} {xs:List Value} {cur:Array Value} {w w':World} {e:Ending} (hM:Blk w mk #[.pointer none,v] 96) (hO:w.ownsRow base 87 2 v n xs) (hl:Blk w lb cur 84) (ht:cur.toList.take (l.length * 5) = l.flatMap insC)
  (h:PutP mk n l.length base v (.slice (some ⟨lb,0,none⟩) l.length lc) xs w e w') :
  ∃ v' y,e = .returned (.tuple #[]) ∧ Blk w' mk #[.pointer none,v'] 96 ∧ w'.ownsRow base 87 2 v' (n + 1) (xs ++ [.slice (some ⟨lb,0,none⟩) l.length lc,y]) ∧ FnR w' (.slice (some ⟨lb,0,none⟩) l.length lc) y (l.map insOf) (List.replicate l.length false) ∧
   KT [96,87] w w' ∧ Only (fun j=>j = mk ∨ v.ownBlock = some j) w w' ∧ v'.ownBlock ≠ some mk ∧ ∃ sb,y = .slice (some ⟨sb,0,none⟩) l.length l.length ∧ w.heap.size ≤ sb:=by
 obtain ⟨rfl,v',sb,h1,h2,h3,h4,h5,h6⟩:=h
 have K:KT [96,87] w w':=KT.only h5 (fun j hj=>by
  rcases hj with rfl | hj
  · exact ⟨_,96,hM,by decide⟩
  · obtain ⟨cs,hcs⟩:=row_type hO hj
    exact ⟨cs,87,hcs,by decide⟩)
 refine ⟨v',_,rfl,h1,h2,⟨⟨lb,lc,by rw [List.length_map],cur,K.keep hl (by decide),by rw [List.length_map,insWs_of];exact ht⟩,⟨sb,by rw [List.length_replicate],by rw [← made_bools];exact h4⟩⟩,K,h5,h6,sb,rfl,h3⟩
end Go.Proofs.YtgadhchejmlfjaaGreatDoor.Val
end
section
namespace Go.Proofs.YtgadhchejmlfjaaGreatDoor.Gnn
open Go.RowKit Go.Esc
open Go.Proofs.YtgadhchejmlfjaaGreatDoor.Isa (Laid)
open Go.Proofs.YtgadhchejmlfjaaGreatDoor.Vm (Ins)
open Go.Proofs.YtgadhchejmlfjaaGreatDoor.Val
theorem newL (w:World) (l:List Value) (t:TypeId):∀ (j:Nat) (u:Value),l[j]? = some u → (w.alloc (.cells l.toArray t)).cell? ((⟨w.heap.size,0,none⟩:Addr).add j) = some u:=by
 have h:=Blk.new w l.toArray t
 intro j u hu
 rw [show ((⟨w.heap.size,0,none⟩:Addr).add j) = ⟨w.heap.size,j,none⟩ from by rw [Go.WideShapes.add_plain,Nat.zero_add]]
 rw [h.cell j,← hu]
 simp
def gl:Nat → List (Int × Int)
 | 0=>[(1,1)]
 | _=>[(1,1),(17,0),(15,0),(18,0)]
structure GuI (w:World) (k:Nat) (t:Value) (wr:World):Prop where
 below:Below w.heap.size w wr
 out:Blk wr w.heap.size #[.slice none 0 0] 26
 row:wr.ownsRow w.heap.size 84 5 t (1 + 3 * k) ((gl k).flatMap insC)
theorem GuI.go {w:World} {k:Nat} {t:Value} {wr W:World} (h:GuI w k t wr) (hB:Below wr.heap.size wr W):GuI w k t W:=⟨h.below.trans (hB.mono h.below.size),h.out.below hB h.out.lt,rowv_below h.row hB⟩
theorem GuI.app {w wr w':World} {v v':Value} {n m:Nat} {xs ys:List Value} (ho:Blk wr w.heap.size #[.slice none 0 0] 26) (hB:Below w.heap.size w wr) (hr:wr.ownsRow w.heap.size 84 5 v n xs) (hA:AppdN wr w.heap.size 84 5 v n xs m ys v' w') :
  Below w.heap.size w w' ∧ Blk w' w.heap.size #[.slice none 0 0] 26 ∧ w'.ownsRow w.heap.size 84 5 v' (n + m) (xs ++ ys):=
 ⟨below_grown hB hA.2 (fun j hj=>(World.ownsRow.lt hr j hj).1),(KT.grown (T:=[84]) hr hA.2 (by decide)).keep ho (by decide),hA.1⟩
def guardI:List (Int × Int):=[(1,1),(17,0),(15,0),(18,0),(14,0)]
def guardQ:List (List Ins × List Bool):=[(guardI.map insOf,List.replicate 5 false)]
theorem one_fn {w w':World} {mk lb lc:Nat} {l:List (Int × Int)} {cur:Array Value} {e:Ending} (hM:Blk w mk #[.pointer none,.slice none 0 0] 96) (hl:Blk w lb cur 84) (ht:cur.toList.take (l.length * 5) = l.flatMap insC) (h:PutP mk 0 l.length w.heap.size (.slice none 0 0) (.slice (some ⟨lb,0,none⟩) l.length lc) [] w e w') :
  ∃ pb pc,e = .returned (.tuple #[]) ∧ Blk w' mk #[.pointer none,.slice (some ⟨pb,0,none⟩) 1 pc] 96 ∧ PrIn w' pb 0 [(l.map insOf,List.replicate l.length false)] ∧ KT [96,87] w w' ∧ Only (fun j=>j = mk) w w':=by
 obtain ⟨v',y,rfl,h1,h2,h3,h4,h5,h6,sb,rfl,h7⟩:=put_fn hM (World.ownsRow_nil w w.heap.size 87 2) hl ht h
 have k:=prIn_rows (p:=[(l.map insOf,List.replicate l.length false)]) h2 Nat.one_pos (fun i hi=>by
  obtain rfl:i = 0:=by simp at hi;omega
  exact h3)
 obtain ⟨pb,pc,rfl,_,hP⟩:=k
 exact ⟨pb,pc,rfl,h1,hP,h4,h5.mono (fun j _ hj=>by rcases hj with hj | hj;exact hj;cases hj)⟩
theorem mend_out (n pb pc:Nat) (p:List (List Ins × List Bool)) (w:World) (hn:p.length = n) (h0:0 < n) (hL:Laid w) (hP:PrIn w pb 0 p) (hlen:∀ f ∈ p,f.2.length = f.1.length ∧ 0 < f.1.length ∧ f.1.length ≤ 1000) (hm:n ≤ 100) :
  Calls Tryz.prog 39 #[.agg #[.slice (some ⟨pb,0,none⟩) n pc]] w fun e w'=>∃ qb qc,e = .returned (.agg #[.slice (some ⟨qb,0,none⟩) n qc]) ∧ Below w.heap.size w w' ∧ ∀ W,KT [26] w' W → PrIn W qb 0 (p.map mendF):=by
 subst hn
 refine (mend_any pb 0 pc p w hL hP hlen hm).mono ?_
 rintro e w' ⟨v,xs,rfl,hS⟩
 obtain ⟨qb,qc,rfl,_,_⟩:=hS.prIn h0 (KT.refl _ _)
 refine ⟨qb,qc,rfl,hS.below,fun W K=>?_⟩
 obtain ⟨rb,rc,e7,_,hP7⟩:=hS.prIn h0 K
 simp only [Value.slice.injEq,Option.some.injEq,Addr.mk.injEq,and_true,true_and] at e7
 rw [e7.1];exact hP7
set_option maxHeartbeats 8000000 in
theorem guard_any (w:World) (hL:Laid w):Calls Tryz.prog 32 #[.int .i64 1] w fun e w'=>∃ pb pc,e = .returned (.tuple #[.agg #[.slice (some ⟨pb,0,none⟩) 1 pc],.int .i64 0]) ∧ PrIn w' pb 0 (guardQ.map mendF) ∧ Below w.heap.size w w':=by
 have H0:=Lib.hid hL
 clear hL
 go_enter Tryz.func32,Tryz.ntmps32
 go_wp2_with (go_at_call 35;refine (right_any 1 _ (by decide) (by decide)).mono ?_;rintro e w1 ⟨rfl,rfl⟩)
 have HI0:Hid (GuI w 0 (.slice (some ⟨w.heap.size + 1,0,none⟩) 1 1) ((w.alloc (.cells #[.slice none 0 0] 26)).alloc (.cells #[.int .i64 1,.int .i64 0,.int .i64 0,.int .i64 0,.int .i64 1] 84))):=
  ⟨below_alloc (below_alloc (Below.refl _ _) _) _,(Blk.new w _ 26).below (below_alloc (Below.refl _ _) _) (by simp),by
   have k:=row_blk (w:=(w.alloc (.cells #[.slice none 0 0] 26)).alloc (.cells #[.int .i64 1,.int .i64 0,.int .i64 0,.int .i64 0,.int .i64 1] 84)) (base:=w.heap.size) (n:=1) (size:=5) (Blk.new (w.alloc (.cells #[.slice none 0 0] 26)) #[.int .i64 1,.int .i64 0,.int .i64 0,.int .i64 0,.int .i64 1] 84) (by simp) rfl (by decide)
   show World.ownsRow _ _ _ _ _ 1 [.int .i64 1,.int .i64 0,.int .i64 0,.int .i64 0,.int .i64 1]
   simpa using k⟩
 go_loopw [4,19] (fun t4 t19 wr=>∃ k:Nat,k ≤ 1 ∧ t19 = .int .i64 k ∧ GuI w k t4 wr) (fun _ t _=>1 - (intOf t).toNat)
 case atStart=>exact ⟨0,by decide,rfl,HI0.out⟩
 case round=>
  obtain ⟨k,hk,rfl,hI⟩:=hrel
  clear HI0
  obtain ⟨a,c,rfl⟩:=row_slice hI.row
  have HI:=Lib.hid hI
  have HB:=Lib.hid (Below.refl wr.heap.size wr)
  clear hI
  by_cases hk0:k = 0
  ·subst hk0
   clear hk
   go_wp2_with (first
    | (go_at_call 38;refine (op_any _ _ _).mono ?_;rintro e w1 ⟨rfl,hB⟩;have HB:=Lib.hid (HB.out.trans (hB.mono HB.out.size));clear hB)
    | (at_builtin;refine appVn Tryz.underlying85 info84 rfl (by decide) (by decide) w.heap.size _ rfl _ _ rfl _ 1 ((gl 0).flatMap insC) ⟨w1.heap.size,0,none⟩ 3 3 ([(17,0),(15,0),(18,0)].flatMap insC) rfl rfl (rowv_below HI.out.row (HB.out.alloc HB.out.size _)) rfl (newL w1 ([(17,0),(15,0),(18,0)].flatMap insC) 84) (insC_one _) (by have:=HI.out.below.size;have:=HB.out.size;simp;omega) (by decide) ?_;intro v' w5 hA;have HA:=Lib.hid (GuI.app (HI.out.out.below (HB.out.alloc HB.out.size _) HI.out.out.lt) (HI.out.below.trans ((HB.out.alloc HB.out.size _).mono HI.out.below.size)) (rowv_below HI.out.row (HB.out.alloc HB.out.size _)) hA);clear hA))
   go_roundw
   case rel=>exact ⟨1,by decide,by go_num,HA.out.1,HA.out.2.1,HA.out.2.2⟩
   case measure=>simp [intOf]
  ·obtain rfl:k = 1:=by omega
   clear hk hk0
   have hM:Blk (wr.alloc (.cells #[.pointer none,.slice none 0 0] 96)) wr.heap.size #[.pointer none,.slice none 0 0] 96:=Blk.new wr _ 96
   have HM:=Lib.hid hM
   clear hM
   go_wp2_with (first
    | (go_at_call 38;refine (op_any _ _ _).mono ?_;rintro e w1 ⟨rfl,hB⟩;have HB1:=Lib.hid (below_below (HI.out.below.alloc HI.out.below.size _) hB);have HB1':=Lib.hid ((below_alloc (Below.refl wr.heap.size wr) _).trans (hB.mono (by simp)));have HM:=Lib.hid (HM.out.below hB HM.out.lt);clear hB)
    | (at_builtin;refine appVn Tryz.underlying85 info84 rfl (by decide) (by decide) w.heap.size _ rfl _ _ rfl _ (1 + 3 * 1) ((gl 1).flatMap insC) ⟨w1.heap.size,0,none⟩ 1 1 ([(14,0)].flatMap insC) rfl rfl (rowv_below HI.out.row (HB1'.out.alloc HB1'.out.size _)) rfl (newL w1 ([(14,0)].flatMap insC) 84) (insC_one _) (by have:=HB1.out.size;simp;omega) (by decide) ?_;intro v' w5 hA;have hr:=rowv_below HI.out.row (HB1'.out.alloc HB1'.out.size (.cells #[.int .i64 14,.int .i64 0,.int .i64 0,.int .i64 0,.int .i64 0] 84));have K5:=KT.grown (T:=[84]) hr hA.2 (by decide);have hM5:=K5.keep (HM.out.below (below_alloc (Below.refl _ _) _) HM.out.lt) (by decide);have hO5:=K5.keep ((HI.out.out.below HB1'.out HI.out.out.lt).below (below_alloc (Below.refl _ _) _) ((HI.out.out.below HB1'.out HI.out.out.lt)).lt) (by decide);have hB5:=below_grown (HB1.out.alloc HB1.out.size _) hA.2 (fun j hj=>(World.ownsRow.lt hr j hj).1);obtain ⟨lb,lc,cur,rfl,_,hlb,hlt⟩:=row_full hA.1 (by decide);have H5:=Lib.hid (And.intro hM5 (And.intro hO5 (And.intro hB5 (And.intro hlb hlt))));clear hA hr K5 hM5 hO5 hB5 hlb hlt)
    | (go_at_call 36;refine (put_any wr.heap.size 0 5 none (some ⟨lb,0,none⟩) 0 lc w5.heap.size [] w5 H5.out.1 (World.ownsRow_nil _ _ _ _) (Nat.le_refl _) (by decide) (by decide) (by simp [Value.ownBlock])).mono ?_;rintro e w6 hp;obtain ⟨pb,pc,rfl,hM6,hP6,K6,O6⟩:=one_fn (l:=guardI) H5.out.1 H5.out.2.2.2.1 H5.out.2.2.2.2 hp;have hB6:=H5.out.2.2.1.trans (O6.toBelow H5.out.2.2.1.size (fun j hj=>by rw [show j = wr.heap.size from hj];exact HI.out.below.size));have hO6:=K6.keep H5.out.2.1 (by decide);have q1:=hM6.cell 1;have H6:=Lib.hid (And.intro hP6 (And.intro hB6 hO6));simp only [List.getElem?_toArray,List.getElem?_cons_zero,List.getElem?_cons_succ] at q1;clear hp hM6 hP6 K6 O6 hB6 hO6)
    | (go_at_call 39;refine (mend_out 1 pb pc guardQ w6 rfl (by decide) (H0.out.below H6.out.2.1) H6.out.1 (by decide) (by decide)).mono ?_;rintro e w7 ⟨qb,qc,rfl,hB7,hP7⟩;have hO7:=H6.out.2.2.below hB7 H6.out.2.2.lt;have z0:=hO7.cell 0;have u0:=hO7.free 0;have H7:=Lib.hid (And.intro hB7 (And.intro hP7 hO7));simp only [List.getElem?_toArray,List.getElem?_cons_zero] at z0;clear hB7 hP7 hO7))
   have K7:KT [26] w7 (w7.setCell ⟨w.heap.size,0,none⟩ (.slice (some ⟨qb,0,none⟩) 1 qc)):=KT.set H7.out.2.2 (by decide) 0 _
   have c0:=(H7.out.2.2.set 0 (.slice (some ⟨qb,0,none⟩) 1 qc)).cell 0
   simp only [List.setIfInBounds_toArray,List.set_cons_zero,List.getElem?_toArray,List.getElem?_cons_zero] at c0
   exact bodyPost_ret (v:=.tuple #[.agg #[.slice (some ⟨qb,0,none⟩) 1 qc],.int .i64 0]) (by simp [results,Tryz.results32,go_sem,c0]) rfl ⟨qb,qc,rfl,H7.out.2.1 _ K7,((H6.out.2.1.trans (H7.out.1.mono H6.out.2.1.size)).setCell (Nat.le_refl _) _)⟩
end Go.Proofs.YtgadhchejmlfjaaGreatDoor.Gnn
end
