/- Parts of the proof of TopReaches. -/
import Derived.Test.YtgadhchejmlfjaaGreatDoorB2
import Derived.Test.YtgadhchejmlfjaaGreatDoorA8
import Derived.Test.YtgadhchejmlfjaaGreatDoorB6
import Derived.ArgAppend
set_option linter.unusedVariables false
set_option maxRecDepth 20000
section
namespace Go.Proofs.YtgadhchejmlfjaaGreatDoor.Gnn
open Go.RowKit Go.Esc
set_option maxHeartbeats 2000000 in
theorem right_any (n:Int) (w:World) (h1:1 ≤ n) (h2:n ≤ 61):Calls Tryz.prog 35 #[.int .i64 n] w fun e w'=>e = .returned (.bool true) ∧ w = w':=by
 have d1:decide (1 ≤ n) = true:=by simpa using h1
 have d2:decide (n ≤ 61) = true:=by simpa using h2
 clear h1 h2
 go_enter Tryz.func35,Tryz.ntmps35
 go_wp2
 go_ret
 exact ⟨rfl,rfl⟩
set_option maxHeartbeats 2000000 in
theorem op_any (o a:Int) (w:World):Calls Tryz.prog 38 #[.int .i64 o,.int .i64 a] w fun e w'=>e = .returned (.agg #[.int .i64 o,.int .i64 a,.int .i64 0,.int .i64 0,.int .i64 0]) ∧ Below w.heap.size w w':=by
 go_enter Tryz.func38,Tryz.ntmps38
 go_wp2
 exact bodyPost_ret (v:=.agg #[.int .i64 o,.int .i64 a,.int .i64 0,.int .i64 0,.int .i64 0]) (by simp [results,Tryz.results38,go_sem]) rfl ⟨rfl,below_alloc (Below.refl _ _) _⟩
end Go.Proofs.YtgadhchejmlfjaaGreatDoor.Gnn
end
section
namespace Go.Proofs.YtgadhchejmlfjaaGreatDoor.Gnn
open Go.RowKit Go.Esc
def AppdN (W:World) (base:Nat) (e:TypeId) (size:Nat) (v:Value) (n:Nat) (xs:List Value) (m:Nat) (ys:List Value) (v':Value) (w':World):Prop:=
 w'.ownsRow base e size v' (n + m) (xs ++ ys) ∧ W.grownBy w' v.ownBlock
section
variable {P:Program} {t e:TypeId} {size bytes:Nat} {z:Value} (ht:P.underlying t = some (.slice e)) (hinfo:(P.info? e).map (fun i=>(i.zero,i.size,i.bytes)) = some (some z,size,bytes)) (hzs:z.cells.size = size) (hsz:0 < size) (hby:bytes ≤ 1000)
include ht hinfo hzs hsz hby
theorem appVn (base:Nat) (W:World) {ops:Array Oper} {rest:List Oper} {o:Oper} {a:Act} {Q:Exit → Act → World → Prop} (hgd:o.guard = none) (s y:Operand)
  (ho:o.op = .call { callee:=.builtin .append,args:=#[s,y],argTypes:=#[t,t] }) (v:Value) (n:Nat) (xs:List Value) (ad:Addr) (m c:Nat) (ys:List Value) (hs:a.eval s = v) (hy:a.eval y = .slice (some ad) m c)
  (hown:W.ownsRow base e size v n xs) (hyl:ys.length = m * size) (hnews:∀ (j:Nat) (x:Value),ys[j]? = some x → W.cell? (ad.add j) = some x) (hone:∀ x ∈ ys,x.oneCell' = true) (hbase:base ≤ W.heap.size) (hlen:n + m < 100000000)
  (h:∀ v' w',AppdN W base e size v n xs m ys v' w' → wpList P ops Q rest (a.put o.dst v') w') :
  wpList P ops Q (o :: rest) a W:=by
 refine wpList_plain hgd fun K hK=>?_
 obtain ⟨i0,hi,hz0,hz1,hz2⟩:∃ i,P.info? e = some i ∧ i.zero = some z ∧ i.size = size ∧ i.bytes = bytes:=by
  obtain ⟨i,hi,hh⟩:=Option.map_eq_some_iff.1 hinfo
  simp only [Prod.mk.injEq] at hh
  exact ⟨i,hi,hh.1,hh.2.1,hh.2.2⟩
 have hbyt:(n + m) * bytes ≤ 140737488355328:=by
  have:=Nat.mul_le_mul (show n + m ≤ 100000000 by omega) hby
  omega
 have h63:n + m ≤ maxLen:=by unfold maxLen;omega
 obtain ⟨v',w',hr,h1,h2,_⟩:=run_append_own (P:=P) W base t o.type e i0 z size bytes ht hi hz0 hz1 hz2 hzs hsz v n xs hown ad m c ys hyl hnews hone h63 hbyt hbase
 unfold Oper.wp
 simp [execOp,ho,resolve,invoke,builtin,hs,hy,hr,Result.andThen]
 exact hK _ _ (h v' w' ⟨h1,h2⟩)
end
theorem info84:(Tryz.prog.info? 84).map (fun i=>(i.zero,i.size,i.bytes)) = some (some (.agg #[.int .i64 0,.int .i64 0,.int .i64 0,.int .i64 0,.int .i64 0]),5,40):=by kernel_rfl
def insC (i:Int × Int):List Value:=[.int .i64 i.1,.int .i64 0,.int .i64 0,.int .i64 0,.int .i64 i.2]
theorem insC_one (l:List (Int × Int)):∀ x ∈ l.flatMap insC,x.oneCell' = true:=by
 intro x hx
 obtain ⟨i,_,hi⟩:=List.mem_flatMap.1 hx
 simp [insC] at hi
 rcases hi with rfl | rfl | rfl <;> rfl
theorem insC_len (l:List (Int × Int)):(l.flatMap insC).length = l.length * 5:=by
 induction l with
 | nil=>rfl
 | cons x l ih=>simp [insC,ih];omega
end Go.Proofs.YtgadhchejmlfjaaGreatDoor.Gnn
end
section
namespace Go.Proofs.YtgadhchejmlfjaaGreatDoor.Gnn
open Go.RowKit Go.Esc
theorem new5' (w:World) (a b c d e:Value) (t:TypeId):∀ (j:Nat) (u:Value),[a,b,c,d,e][j]? = some u → (w.alloc (.cells #[a,b,c,d,e] t)).cell? ((⟨w.heap.size,0,none⟩:Addr).add j) = some u:=by
 have h:=Blk.new w #[a,b,c,d,e] t
 intro j u hu
 rw [show ((⟨w.heap.size,0,none⟩:Addr).add j) = ⟨w.heap.size,j,none⟩ from by rw [Go.WideShapes.add_plain,Nat.zero_add]]
 rw [h.cell j,← hu]
 simp
theorem rep_snoc (k:Nat):(List.replicate (k + 1) ((10,1):Int × Int)).flatMap insC = (List.replicate k ((10,1):Int × Int)).flatMap insC ++ [.int .i64 10,.int .i64 0,.int .i64 0,.int .i64 0,.int .i64 1]:=by
 rw [List.replicate_succ',List.flatMap_append]
 simp [insC]
set_option maxHeartbeats 2000000 in
theorem spawns_any (n:Nat) (bb bo m c:Nat) (bl:List (Int × Int)) (w:World) (hn:n ≤ 61) (hm:bl.length = m) (hm64:m ≤ 1000) (hbb:bb < w.heap.size)
  (hnews:∀ (j:Nat) (x:Value),(bl.flatMap insC)[j]? = some x → w.cell? ((⟨bb,bo,none⟩:Addr).add j) = some x) :
  Calls Tryz.prog 37 #[.int .i64 n,.slice (some ⟨bb,bo,none⟩) m c] w fun e w'=>∃ v,e = .returned v ∧ w'.ownsRow w.heap.size 84 5 v (n + m) ((List.replicate n ((10,1):Int × Int) ++ bl).flatMap insC) ∧ Below w.heap.size w w':=by
 have HN:=Lib.hid (And.intro hnews (And.intro hm hbb))
 clear hnews hm hbb
 go_enter Tryz.func37,Tryz.ntmps37
 go_wp2
 go_loopw [4,6] (fun t4 t6 wr=>∃ k:Nat,k ≤ n ∧ t6 = .int .i64 k ∧ wr.ownsRow w.heap.size 84 5 t4 k ((List.replicate k ((10,1):Int × Int)).flatMap insC) ∧ Below w.heap.size w wr) (fun _ t _=>n - (intOf t).toNat)
 case atStart=>exact ⟨0,Nat.zero_le _,rfl,World.ownsRow_nil w w.heap.size 84 5,Below.refl _ _⟩
 case round=>
  obtain ⟨k,hk,rfl,hO,hB⟩:=hrel
  have HO:=Lib.hid hO
  have HB:=Lib.hid hB
  clear hB
  by_cases hlt:k < n
  ·have hd:(k:Int) < (n:Int):=by omega
   have HOwn:Hid (Rdv (wr.alloc (.cells #[.int .i64 10,.int .i64 0,.int .i64 0,.int .i64 0,.int .i64 1] 84)) w.heap.size 84 5 _ k ((List.replicate k ((10,1):Int × Int)).flatMap insC)):=.inl (rowv_below hO (below_alloc (Below.refl _ _) _))
   clear hO
   go_wp2_with (at_builtin;refine appV Tryz.underlying85 info84 rfl (by decide) (by decide) w.heap.size _ rfl _ _ rfl _ _ _ ⟨wr.heap.size,0,none⟩ 1 [.int .i64 10,.int .i64 0,.int .i64 0,.int .i64 0,.int .i64 1] rfl rfl HOwn.out rfl (new5' wr _ _ _ _ _ 84) (by have q:=insC_one [(10,1)];simpa [insC] using q) (by have:=HB.out.size;simp;omega) (by omega) ?_;intro v' w' hA;have HA:=Lib.hid hA;clear hA)
   go_roundw
   case rel=>
    refine ⟨k + 1,by omega,by go_num,?_,?_⟩
    ·rw [rep_snoc];exact HA.out.1
    ·exact below_grown (below_alloc HB.out _) HA.out.2.1 (fun j hj=>(World.ownsRow.lt HO.out j hj).1)
   case measure=>simp [intOf];omega
  ·obtain rfl:k = n:=by omega
   clear hO hlt
   have HNw:Hid (∀ (j:Nat) (x:Value),(bl.flatMap insC)[j]? = some x → wr.cell? ((⟨bb,bo,none⟩:Addr).add j) = some x):=fun j x hj=>by
    have q:=HN.out.1 j x hj
    rw [Go.WideShapes.add_plain] at q ⊢
    exact (HB.out.cell (p:=⟨bb,bo + j,none⟩) HN.out.2.2).trans q
   go_wp2_with (at_builtin;refine appVn Tryz.underlying85 info84 rfl (by decide) (by decide) w.heap.size _ rfl _ _ rfl _ _ _ ⟨bb,bo,none⟩ m c (bl.flatMap insC) rfl rfl HO.out (by rw [insC_len,HN.out.2.1]) HNw.out (insC_one bl) HB.out.size (by omega) ?_;intro v' w' hA;have HA:=Lib.hid hA;clear hA)
   go_ret
   refine ⟨_,rfl,?_,below_grown HB.out HA.out.2 (fun j hj=>(World.ownsRow.lt HO.out j hj).1)⟩
   rw [List.flatMap_append]
   exact HA.out.1
end Go.Proofs.YtgadhchejmlfjaaGreatDoor.Gnn
end
section
namespace Go.Proofs.YtgadhchejmlfjaaGreatDoor.Gnn
open Go.RowKit Go.Esc
theorem info87:(Tryz.prog.info? 87).map (fun i=>(i.zero,i.size,i.bytes)) = some (some (.agg #[.slice none 0 0,.slice none 0 0]),2,48):=by kernel_rfl
theorem info4:(Tryz.prog.info? 4).map (fun i=>(i.zero,i.size,i.bytes)) = some (some (.bool false),1,1):=by kernel_rfl
theorem makeBools (m:Nat) (hm:m ≤ 100000) (w:World):(Instr.makeSlice 43 (.int .i64 (m:Int)) (.int .i64 (m:Int))).run Tryz.prog w = .ok (.slice (some ⟨w.heap.size,0,none⟩) m m) (w.alloc (.cells (madeCells #[.bool false] m) 4)):=
 run_make_row' 43 4 (.bool false) 1 Tryz.underlying43 info4 rfl .i64 .i64 m (by omega) (by omega) w
def PutP (mk n m base:Nat) (v la:Value) (xs:List Value) (w:World) (e:Ending) (w':World):Prop:=
 e = .returned (.tuple #[]) ∧ ∃ v' sb,Blk w' mk #[.pointer none,v'] 96 ∧ w'.ownsRow base 87 2 v' (n + 1) (xs ++ [la,.slice (some ⟨sb,0,none⟩) m m]) ∧ w.heap.size ≤ sb ∧ Blk w' sb (madeCells #[.bool false] m) 4 ∧ Only (fun j=>j = mk ∨ v.ownBlock = some j) w w' ∧ v'.ownBlock ≠ some mk
theorem put_mid {mk n base:Nat} {v v':Value} {xs ys:List Value} {w W w3:World} (hM:Blk w mk #[.pointer none,v] 96) (hne:v.ownBlock ≠ some mk) (hB:Below w.heap.size w W) (hA:AppdV W base 87 2 v n xs ys v' w3):Blk w3 mk #[.pointer none,v] 96:=
 (hM.below hB hM.lt).only (Only.grown (S:=fun j=>v.ownBlock = some j) (Only.refl _ W) hA.2.1 (fun j hj=>.inr hj)) hne
theorem put_end {mk n m base:Nat} {v la v':Value} {xs:List Value} {w W w3:World} (hM:Blk w mk #[.pointer none,v] 96) (hne:v.ownBlock ≠ some mk) (hB:Below w.heap.size w W) (hS:Blk W w.heap.size (madeCells #[.bool false] m) 4) (hvs:∀ j,v.ownBlock = some j → j < w.heap.size)
  (hA:AppdV W base 87 2 v n xs [la,.slice (some ⟨w.heap.size,0,none⟩) m m] v' w3):PutP mk n m base v la xs w (.returned (.tuple #[])) (w3.setCell ⟨mk,1,none⟩ v'):=by
 have hml:=hM.lt
 have oG:Only (fun j=>j = mk ∨ v.ownBlock = some j) W w3:=Only.grown (Only.refl _ W) hA.2.1 (fun j hj=>.inr (.inr hj))
 have oT:Only (fun j=>j = mk ∨ v.ownBlock = some j) w w3:=((Only.refl _ w).below hB).andThen oG (fun _ _ h=>h)
 have hM3:Blk w3 mk #[.pointer none,v] 96:=(hM.below hB hml).only (Only.grown (S:=fun j=>v.ownBlock = some j) (Only.refl _ W) hA.2.1 (fun j hj=>.inr hj)) hne
 have hv':v'.ownBlock ≠ some mk:=fun e=>by
  rcases hA.2.2 mk e with h1 | h1
  ·exact hne h1
  ·have:=hB.size;omega
 have hS3:Blk w3 w.heap.size (madeCells #[.bool false] m) 4:=hS.only (Only.grown (S:=fun j=>v.ownBlock = some j) (Only.refl _ W) hA.2.1 (fun j hj=>.inr hj)) (fun e=>by have:=hvs _ e;omega)
 refine ⟨rfl,v',w.heap.size,hM3.set 1 v',rowv_off hA.1 (Only.set (S:=fun j=>j = mk) (Only.refl _ w3) (.inr rfl) 1 v') (fun j hj e=>hv' (by rw [hj,show j = mk from e])),Nat.le_refl _,hS3.only (Only.set (S:=fun j=>j = mk) (Only.refl _ w3) (.inr rfl) 1 v') (fun e=>by have e2:w.heap.size = mk:=e;omega),oT.set (.inr (.inl rfl)) 1 v',hv'⟩
set_option maxHeartbeats 4000000 in
theorem put_any (mk n m:Nat) (a la:Option Addr) (cap lc base:Nat) (xs:List Value) (w:World) (hM:Blk w mk #[.pointer none,.slice a n cap] 96) (hO:w.ownsRow base 87 2 (.slice a n cap) n xs) (hb:base ≤ w.heap.size) (hm:m ≤ 1000) (hn:n ≤ 1000) (hne:(Value.slice a n cap).ownBlock ≠ some mk) :
  Calls Tryz.prog 36 #[.pointer (some ⟨mk,0,none⟩),.slice la m lc] w (PutP mk n m base (.slice a n cap) (.slice la m lc) xs w):=by
 have q1:=hM.cell 1
 have f1:=hM.free 1
 simp only [List.getElem?_toArray,List.getElem?_cons_zero,List.getElem?_cons_succ] at q1
 have hMB:=fun w=>makeBools m (by omega) w
 have hml:=hM.lt
 have n1:¬ mk = w.heap.size:=by omega
 have n2:¬ mk = w.heap.size + 1:=by omega
 have HRow:Hid (∀ W,Below w.heap.size w W → W.ownsRow base 87 2 (.slice a n cap) n xs):=fun W hW=>rowv_below hO hW
 have HM:=Lib.hid (And.intro hM (And.intro hne (fun j hj=>(World.ownsRow.lt hO j hj).2)))
 have HN:=Lib.hid (And.intro hb hn)
 have e2:mk < w.heap.size + 1:=by omega
 clear hM hO hb hn hne
 go_enter Tryz.func36,Tryz.ntmps36
 go_wp2
 go_region_law (refine stepV Tryz.underlying24 info87 rfl (by decide) (by decide) base _ rfl (.tmp 9) (.tmp 15) rfl (.slice a n cap) n xs ⟨w.heap.size + 1,0,none⟩ 1 [.slice la m lc,.slice (some ⟨w.heap.size,0,none⟩) m m] (by simp [Act.eval]) (by simp [Act.eval]) (.inl (HRow.out _ (by (repeat (first | exact Below.refl _ _ | refine Below.drew ?_ | refine below_alloc ?_ _))))) rfl (Sig.new2' (w:=w.drew.alloc (.cells (madeCells #[.bool false] m) 4)) _ _ 87 (by simp)) (by simp [Value.oneCell']) (by have:=HN.out.1;simp;omega) (by have:=HN.out.2;omega) ?_;intro v' w3 hA;obtain ⟨g',cap',rfl⟩:=hA.some;have hM3:=put_mid HM.out.1 HM.out.2.1 (by (repeat (first | exact Below.refl _ _ | refine Below.drew ?_ | refine below_alloc ?_ _))) hA;have q3:=hM3.cell 1;have f3:=hM3.free 1;have HE:=Lib.hid (put_end HM.out.1 HM.out.2.1 (by (repeat (first | exact Below.refl _ _ | refine Below.drew ?_ | refine below_alloc ?_ _))) (by exact ((Blk.new w.drew (madeCells #[.bool false] m) 4).below (below_alloc (Below.refl _ _) _) (by simp)):Blk ((w.drew.alloc (.cells (madeCells #[.bool false] m) 4)).alloc (.cells #[.slice la m lc,.slice (some ⟨w.heap.size,0,none⟩) m m] 87)) w.heap.size (madeCells #[.bool false] m) 4) HM.out.2.2 hA);simp only [List.getElem?_toArray,List.getElem?_cons_zero,List.getElem?_cons_succ] at q3;clear hA hM3)
 all_goals
  go_wp2
  go_end0
  exact HE.out
end Go.Proofs.YtgadhchejmlfjaaGreatDoor.Gnn
end
section
namespace Go.Proofs.YtgadhchejmlfjaaGreatDoor.Gnn
open Go.RowKit Go.Esc
section
variable {P:Program} {t e:TypeId} {size bytes:Nat} {z:Value} (ht:P.underlying t = some (.slice e)) (hinfo:(P.info? e).map (fun i=>(i.zero,i.size,i.bytes)) = some (some z,size,bytes)) (hzs:z.cells.size = size) (hsz:0 < size) (hby:bytes ≤ 1000)
include ht hinfo hzs hsz hby
theorem appClone (W:World) {ops:Array Oper} {rest:List Oper} {o:Oper} {a:Act} {Q:Exit → Act → World → Prop} (hgd:o.guard = none) (s y:Operand)
  (ho:o.op = .call { callee:=.builtin .append,args:=#[s,y],argTypes:=#[t,t] }) (b:Addr) (ad:Addr) (m c:Nat) (ys:List Value) (hs:a.eval s = .slice (some b) 0 0) (hy:a.eval y = .slice (some ad) m c)
  (hm:0 < m) (hyl:ys.length = m * size) (hnews:∀ (j:Nat) (x:Value),ys[j]? = some x → W.cell? (ad.add j) = some x) (hlen:m < 100000000)
  (h:∀ v' w',w'.ownsRow W.heap.size e size v' m ys → W.grownBy w' none → wpList P ops Q rest (a.put o.dst v') w') :
  wpList P ops Q (o :: rest) a W:=by
 refine wpList_plain hgd fun K hK=>?_
 obtain ⟨i0,hi,hz0,hz1,hz2⟩:∃ i,P.info? e = some i ∧ i.zero = some z ∧ i.size = size ∧ i.bytes = bytes:=by
  obtain ⟨i,hi,hh⟩:=Option.map_eq_some_iff.1 hinfo
  simp only [Prod.mk.injEq] at hh
  exact ⟨i,hi,hh.1,hh.2.1,hh.2.2⟩
 have hbyt:(0 + m) * bytes ≤ 140737488355328:=by
  have:=Nat.mul_le_mul (show 0 + m ≤ 100000000 by omega) hby
  omega
 have h63:0 + m ≤ maxLen:=by unfold maxLen;omega
 obtain ⟨v',w',hr,h1,h2⟩:=run_append_arg_grows (P:=P) W t o.type e i0 z size bytes ht hi hz0 hz1 hz2 hzs hsz b 0 0 [] (by simp) (fun j u hj=>by simp at hj) ad m c ys hyl hnews (by omega) h63 hbyt
 rw [Nat.zero_add,List.nil_append] at h1
 unfold Oper.wp
 simp [execOp,ho,resolve,invoke,builtin,hs,hy,hr,Result.andThen]
 exact hK _ _ (h v' w' h1 h2)
end
set_option maxHeartbeats 2000000 in
theorem clone_any (bb bo m c:Nat) (ys:List Value) (w:World) (hm:0 < m) (hm2:m ≤ 1000) (hbb:bb < w.heap.size) (hyl:ys.length = m * 5) (hnews:∀ (j:Nat) (x:Value),ys[j]? = some x → w.cell? ⟨bb,bo + j,none⟩ = some x) :
  Calls Tryz.prog 102 #[.slice (some ⟨bb,bo,none⟩) m c] w fun e w'=>∃ v,e = .returned v ∧ w'.ownsRow w.heap.size 84 5 v m ys ∧ Below w.heap.size w w':=by
 have hnil:=fun (w:World) (a:Option Addr) (n c n' c':Nat)=>Lib.run_eql_slice_nil (P:=Tryz.prog) w 85 84 a n c n' c' Tryz.underlying85
 have HN:=Lib.hid (And.intro hnews (And.intro hyl hbb))
 clear hnews hyl hbb
 go_enter Tryz.func102,Tryz.ntmps102
 go_wp2_with (at_builtin;refine appClone Tryz.underlying85 info84 rfl (by decide) (by decide) _ rfl _ _ rfl ⟨w.heap.size,0,none⟩ ⟨bb,bo,none⟩ m c ys rfl rfl hm HN.out.2.1 (fun j x hj=>by rw [Go.WideShapes.add_plain];exact ((below_alloc (Below.refl w.heap.size w) _).cell (p:=⟨bb,bo + j,none⟩) HN.out.2.2).trans (HN.out.1 j x hj)) (by omega) ?_;intro v' w' hA hG;have HA:=Lib.hid hA;have HG:=Lib.hid hG;clear hA hG)
 go_ret
 exact ⟨_,rfl,rowv_mono HA.out (by simp),below_grown (below_alloc (Below.refl _ _) _) HG.out (fun j hj=>by cases hj)⟩
end Go.Proofs.YtgadhchejmlfjaaGreatDoor.Gnn
end
