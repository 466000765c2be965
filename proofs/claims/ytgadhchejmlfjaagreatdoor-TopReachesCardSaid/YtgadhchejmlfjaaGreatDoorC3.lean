/- Parts of the proof of TopReaches. -/
import Derived.Test.YtgadhchejmlfjaaGreatDoorC2
import Derived.Test.YtgadhchejmlfjaaGreatDoorB4
import Derived.Test.YtgadhchejmlfjaaGreatDoorA4
import Derived.Deep.RegionHeld3
import Derived.StillTailTactics
set_option linter.unusedVariables false
set_option maxRecDepth 20000
section
namespace Go.Proofs.YtgadhchejmlfjaaGreatDoor.Txt
open Go.RowKit Go.Esc
open Go.Proofs.YtgadhchejmlfjaaGreatDoor.Isa (row rows Laid)
open Go.Proofs.YtgadhchejmlfjaaGreatDoor.Vm (Ins)
open Go.Proofs.YtgadhchejmlfjaaGreatDoor.Val (PrIn FnIn CodeIn)
def insB (i:Ins):Bool:=decide (i.a = 0 ∧ i.b = 0 ∧ i.c = 0 ∧ (row i.op).target = 0 ∧ 0 ≤ (row i.op).regs ∧ (row i.op).regs ≤ 1 ∧ 0 ≤ i.n ∧ i.n < 100 ∧ (row i.op).name.length ≤ 20) && Val.isaB i.op i.n 1 1
def lineI (i:Ins) (sf:Bool):List UInt8:=joinC 32 (wordsL i.op i.n.toNat sf)
theorem lineI_any (i:Ins) (sf:Bool) (w:World) (hL:Laid w) (hp:Shf.Pow w) (h:insB i = true) :
  Calls Tryz.prog 71 #[.agg #[.int .i64 i.op,.int .i64 i.a,.int .i64 i.b,.int .i64 i.c,.int .i64 i.n],.bool sf] w fun e w'=>e = .returned (.tuple #[.string ⟨(lineI i sf).toArray⟩,.int .i64 0]) ∧ Below w.heap.size w w':=by
 unfold insB at h
 simp only [Bool.and_eq_true,decide_eq_true_eq] at h
 obtain ⟨⟨h1,h2,h3,h4,h5,h6,h7,h8,h9⟩,h10⟩:=h
 obtain ⟨op,a,b,c,n⟩:=i
 simp only at h1 h2 h3 h4 h5 h6 h7 h8 h9 h10 ⊢
 subst h1 h2 h3
 obtain ⟨m,rfl⟩:∃ m:Nat,n = m:=⟨n.toNat,by omega⟩
 obtain ⟨r,hr⟩:∃ r:Nat,(row op).regs = r:=⟨(row op).regs.toNat,by omega⟩
 exact line_walk op m r sf _ w hL hp h10 h4 hr (by omega) (by omega) rfl h9
theorem lineI_len (i:Ins) (sf:Bool) (h:insB i = true):(lineI i sf).length ≤ 2100:=by
 unfold insB at h
 simp only [Bool.and_eq_true,decide_eq_true_eq] at h
 obtain ⟨⟨h1,h2,h3,h4,h5,h6,h7,h8,h9⟩,h10⟩:=h
 exact (short_len i.op i.n.toNat sf (by omega) h9 h6).2
def codeT (l:List Ins) (sf:List Bool) (k:Nat):List UInt8:=(List.range k).flatMap fun i=>lineI (l[i]?.getD ⟨0,0,0,0,0⟩) (sf[i]?.getD false) ++ [10]
theorem codeT_succ (l:List Ins) (sf:List Bool) (k:Nat):codeT l sf (k + 1) = codeT l sf k ++ (lineI (l[k]?.getD ⟨0,0,0,0,0⟩) (sf[k]?.getD false) ++ [10]):=by simp [codeT,List.range_succ]
theorem codeT_len (l:List Ins) (sf:List Bool) (h:∀ i ∈ l,insB i = true):∀ k,k ≤ l.length → (codeT l sf k).length ≤ k * 2101
 | 0,_=>by simp [codeT]
 | k + 1,hk=>by
  have ih:=codeT_len l sf h k (by omega)
  rw [codeT_succ,List.length_append,List.length_append]
  have:=lineI_len (l[k]?.getD ⟨0,0,0,0,0⟩) (sf[k]?.getD false) (by rw [List.getElem?_eq_getElem (by omega)];exact h _ (List.getElem_mem (by omega)))
  simp only [List.length_cons,List.length_nil]
  omega
def headT:List UInt8:=[102,117,110,99,10]
set_option maxHeartbeats 4000000 in
theorem pprint_any (l:List Ins) (sf:List Bool) (pb po pc:Nat) (w:World) (hL:Laid w) (hp:Shf.Pow w) (hP:PrIn w pb po [(l,sf)]) (hlen:sf.length = l.length) (h64:l.length ≤ 64) (hok:∀ i ∈ l,insB i = true) :
  Calls Tryz.prog 18 #[.agg #[.slice (some ⟨pb,po,none⟩) 1 pc]] w fun e w'=>e = .returned (.tuple #[.string ⟨(headT ++ codeT l sf l.length).toArray⟩,.int .i64 0]) ∧ Below w.heap.size w w':=by
 obtain ⟨hpb,hfn⟩:=hP
 obtain ⟨cb,co,cc,sb,so,sc',a1,a2,a3,b,off,cap,e4,a5,a6⟩:=hfn 0 (by simp)
 cases e4
 simp only [List.getElem?_cons_zero,Option.getD_some,Nat.zero_mul,Nat.add_zero] at a1 a2 a3 a5 a6
 rw [hlen] at a2 a6
 have H0:=Lib.hid (And.intro hL (And.intro hp (And.intro a3 (And.intro a6 (And.intro hok h64)))))
 clear hL hp a3 a6 hok h64
 have HA:=Lib.hid (And.intro a1 (And.intro a2 (And.intro a5 hpb)))
 have hb:=Blk.new w #[.slice (some ⟨pb,po,none⟩) 1 pc] 26
 have q0:=hb.cell 0
 simp only [List.getElem?_toArray,List.getElem?_cons_zero] at q0
 clear a1 a2 a5 hpb hb
 go_enter Tryz.func18,Tryz.ntmps18
 go_wp2
 go_loopw [14] (fun t wr=>(t = .int .i64 0 ∧ Lib.IsBuilderF 152 5 (w.heap.size + 1) (w.heap.size + 1) (Lib.byteCells []) wr ∨ t = .int .i64 1 ∧ Lib.IsBuilderF 152 5 (w.heap.size + 1) (w.heap.size + 1) (Lib.byteCells (headT ++ codeT l sf l.length)) wr) ∧ Below w.heap.size w wr ∧ w.heap.size + 2 ≤ wr.heap.size) (fun t _=>1 - (intOf t).toNat)
 case atStart=>
  refine ⟨.inl ⟨rfl,?_⟩,below_alloc (below_alloc (Below.refl _ _) _) _,by simp⟩
  have:=Lib.IsBuilderF.of (isb_new (w.alloc (.cells #[.slice (some ⟨pb,po,none⟩) 1 pc] 26)) 152 5)
  simpa [Lib.byteCells] using this
 case round=>
  obtain ⟨hk,hB,hsz⟩:=hrel
  rcases hk with ⟨rfl,hI⟩ | ⟨rfl,hI⟩
  ·have hpl:pb < wr.heap.size:=Nat.lt_of_lt_of_le HA.out.2.2.2 hB.size
   have p0:=(hB.cell (p:=⟨pb,po,none⟩) HA.out.2.2.2).trans HA.out.1
   have p1:=(hB.cell (p:=⟨pb,po + 1,none⟩) HA.out.2.2.2).trans HA.out.2.1
   have hal:=below_alloc (Below.refl wr.heap.size wr) (.cells #[.slice (some ⟨cb,co,none⟩) l.length cc,.slice (some ⟨sb,so,none⟩) l.length sc'] 87)
   have HB:=Lib.hid (And.intro (hB.trans (hal.mono hB.size)) (And.intro (Shf.isbF_below hI hal) (And.intro (Blk.new wr #[.slice (some ⟨cb,co,none⟩) l.length cc,.slice (some ⟨sb,so,none⟩) l.length sc'] 87) hsz)))
   clear hB hI hal
   go_wp2_with (go_at_call 70;refine (Shf.wstrK _ _ _ _ _ HB.out.2.1 (by decide) (by have:=HB.out.2.2.2;simp;omega)).mono ?_;rintro e w2 ⟨rfl,hI2,hB2,hO2⟩;have hf2:=Shf.others_blk hO2 HB.out.2.2.1 (by have:=HB.out.2.2.2;omega) (by decide);have HB2:=Lib.hid (And.intro (HB.out.1.trans (hB2.mono (Nat.le_succ _))) (And.intro hI2 hf2));have f0:=hf2.cell 0;have f1:=hf2.cell 1;simp only [List.getElem?_toArray,List.getElem?_cons_zero,List.getElem?_cons_succ] at f0 f1;clear hI2 hB2 hO2 hf2)
   clear p0 p1 f0 f1 hpl
   have hsz2:Hid (w.heap.size + 2 ≤ wr.heap.size):=hsz
   clear HB hsz
   generalize wr.heap.size = fb at *
   go_loopw [29] (fun t ws=>∃ k:Nat,k ≤ l.length ∧ t = .int .i64 k ∧ Lib.IsBuilderF 152 5 (w.heap.size + 1) (w.heap.size + 1) (Lib.byteCells (headT ++ codeT l sf k)) ws ∧ Below w.heap.size w ws ∧ Blk ws fb #[.slice (some ⟨cb,co,none⟩) l.length cc,.slice (some ⟨sb,so,none⟩) l.length sc'] 87) (fun t _=>l.length - (intOf t).toNat)
   case atStart=>exact ⟨0,Nat.zero_le _,rfl,.inr (by simpa [headT,codeT,Lib.byteCells,Lib.strCells] using HB2.out.2.1),HB2.out.1,HB2.out.2.2⟩
   case round=>
    obtain ⟨k,hk,rfl,hI,hB,hF⟩:=hrel
    by_cases hlt:k < l.length
    ·have hkn:(k:Int) < (l.length:Int):=by omega
     have HOk0:insB (l[k]?.getD ⟨0,0,0,0,0⟩) = true:=by rw [List.getElem?_eq_getElem hlt];exact H0.out.2.2.2.2.1 _ (List.getElem_mem hlt)
     obtain ⟨i,hi⟩:∃ i,l[k]?.getD ⟨0,0,0,0,0⟩ = i:=⟨_,rfl⟩
     obtain ⟨sv,hsv⟩:∃ sv,sf[k]?.getD false = sv:=⟨_,rfl⟩
     obtain ⟨c0,c1,c2,c3,c4⟩:=H0.out.2.2.1.2 k hlt
     have c5:=H0.out.2.2.2.1 k hlt
     rw [hi] at c0 c1 c2 c3 c4
     rw [hsv] at c5
     rw [hi] at HOk0
     have HOk:=Lib.hid HOk0
     clear HOk0
     have hcb:=H0.out.2.2.1.1
     have hal:=below_alloc (Below.refl wr.heap.size wr) (.cells #[.int .i64 i.op,.int .i64 i.a,.int .i64 i.b,.int .i64 i.c,.int .i64 i.n] 84)
     have hin:=Blk.new wr #[.int .i64 i.op,.int .i64 i.a,.int .i64 i.b,.int .i64 i.c,.int .i64 i.n] 84
     have HW:=Lib.hid (And.intro (Shf.isbF_below hI hal) (And.intro (hB.trans (hal.mono hB.size)) (And.intro (hF.below hal hF.lt) hin)))
     rw [← hB.cell (p:=⟨cb,co + k * 5,none⟩) hcb] at c0
     rw [← hB.cell (p:=⟨cb,co + k * 5 + 1,none⟩) hcb] at c1
     rw [← hB.cell (p:=⟨cb,co + k * 5 + 2,none⟩) hcb] at c2
     rw [← hB.cell (p:=⟨cb,co + k * 5 + 3,none⟩) hcb] at c3
     rw [← hB.cell (p:=⟨cb,co + k * 5 + 4,none⟩) hcb] at c4
     have hcl:cb < wr.heap.size:=Nat.lt_of_lt_of_le hcb hB.size
     have HX:=Lib.hid (And.intro hi (And.intro hsv (And.intro hk hB)))
     have hfl:=hF.lt
     have hib2:Hid (fb < wr.heap.size):=hfl
     clear hI hF hal hin hi hsv hk hB hcb hfl
     go_wp2
     clear c0 c1 c2 c3 c4 hcl
     have hW2:=HW.out
     have HS5:=Lib.hid c5
     clear c5 HW
     generalize (wr.alloc (.cells #[.int .i64 i.op,.int .i64 i.a,.int .i64 i.b,.int .i64 i.c,.int .i64 i.n] 84)) = W at *
     generalize wr.heap.size = ib at *
     have HW:=Lib.hid hW2
     have k0:=hW2.2.2.2.cell 0
     have k1:=hW2.2.2.2.cell 1
     have k2:=hW2.2.2.2.cell 2
     have k3:=hW2.2.2.2.cell 3
     have k4:=hW2.2.2.2.cell 4
     have k5:=hW2.2.2.1.cell 1
     have k6:=(hW2.2.1.cell (p:=⟨sb,so + k,none⟩) HA.out.2.2.1).trans HS5.out
     simp only [List.getElem?_toArray,List.getElem?_cons_zero,List.getElem?_cons_succ] at k0 k1 k2 k3 k4 k5
     have hib3:=hW2.2.2.2.lt
     clear hW2
     go_region_held3 (fun w'=>w'.cell? ⟨ib,0,none⟩ = some (.int .i64 i.op) ∧ w'.cell? ⟨ib,1,none⟩ = some (.int .i64 i.a) ∧ w'.cell? ⟨ib,2,none⟩ = some (.int .i64 i.b) ∧ w'.cell? ⟨ib,3,none⟩ = some (.int .i64 i.c) ∧ w'.cell? ⟨ib,4,none⟩ = some (.int .i64 i.n) ∧ w'.cell? ⟨fb,1,none⟩ = some (.slice (some ⟨sb,so,none⟩) l.length sc') ∧ w'.cell? ⟨sb,so + k,none⟩ = some (.bool sv)) (go_keep) (first | (go_at_call 71;refine (lineI_any i sv _ (H0.out.1.below HW.out.2.1.drew) (Pow.below H0.out.2.1 HW.out.2.1.drew) HOk.out).mono ?_;rintro e w3 ⟨rfl,hB3⟩;have hB4:Below W.heap.size W w3:=((Below.refl W.heap.size W).drew).trans hB3;have h1:=Shf.isbF_below HW.out.1 hB4;have h2:=HW.out.2.1.trans (hB4.mono HW.out.2.1.size);have h3:=HW.out.2.2.1.below hB4 HW.out.2.2.1.lt;have h4:=HW.out.2.2.2.below hB4 HW.out.2.2.2.lt;have HW3:=Lib.hid (And.intro h1 (And.intro h2 h3));have k0:=h4.cell 0;have k1:=h4.cell 1;have k2:=h4.cell 2;have k3:=h4.cell 3;have k4:=h4.cell 4;have k5:=h3.cell 1;have k6:=(h2.cell (p:=⟨sb,so + k,none⟩) HA.out.2.2.1).trans HS5.out;simp only [List.getElem?_toArray,List.getElem?_cons_zero,List.getElem?_cons_succ] at k0 k1 k2 k3 k4 k5;clear h1 h2 h3 h4 hB3 hB4))
     clear k0 k1 k2 k3 k4 k5 k6
     have hL1:=lineI_len i sv HOk.out
     have nl:¬ 9223372036854775807 < (lineI i sv).length + 1:=by omega
     have hcl:=codeT_len l sf H0.out.2.2.2.2.1 k (by omega)
     have HLen:Hid ((Lib.byteCells (headT ++ codeT l sf k)).length + ((⟨(lineI i sv).toArray⟩:ByteArray) ++ ⟨#[10]⟩).size ≤ 140737488355328):=by
      have h64:=H0.out.2.2.2.2.2
      have:k * 2101 ≤ 64 * 2101:=Nat.mul_le_mul_right _ (by omega)
      rw [show (⟨#[10]⟩:ByteArray) = ⟨([10]:List UInt8).toArray⟩ from rfl,bytes_append]
      show (Lib.byteCells (headT ++ codeT l sf k)).length + ((lineI i sv ++ [10]).toArray).size ≤ _
      simp only [Lib.byteCells,headT,List.length_map,List.size_toArray,List.length_append,List.length_cons,List.length_nil]
      omega
     clear hL1 hcl
     go_wp2_with (go_at_call 70;refine (Shf.wstrK _ _ _ _ _ HW3.out.1 HLen.out (by have:=hsz2.out;have:=HW3.out.2.2.lt;omega)).mono ?_;rintro e w4 ⟨rfl,hI4,hB4,hO4⟩;have hf4:=Shf.others_blk hO4 HW3.out.2.2 (by have:=hsz2.out;omega) (by decide);have HW4:=Lib.hid (And.intro hI4 (And.intro (HW3.out.2.1.trans (hB4.mono (Nat.le_succ _))) hf4));clear hI4 hB4 hO4 hf4)
     have hw:wrap64 ((k:Int) + 1) = ((k + 1:Nat):Int):=by have:=H0.out.2.2.2.2.2;unfold wrap64;omega
     rw [hw]
     refine ⟨⟨k + 1,by omega,rfl,.inr ?_,HW4.out.2.1,HW4.out.2.2⟩,by simp [intOf];omega⟩
     have q:=HW4.out.1
     rw [show (⟨#[10]⟩:ByteArray) = ⟨([10]:List UInt8).toArray⟩ from rfl,bytes_append,Lib.strCells_eq,← byte_cells_append] at q
     rw [codeT_succ,HX.out.1,HX.out.2.1,← List.append_assoc]
     exact q
    ·obtain rfl:k = l.length:=by omega
     have HW:=Lib.hid (And.intro hI hB)
     have hz:w.heap.size + 2 ≤ wr.heap.size:=by have:=hsz2.out;have:=hF.lt;omega
     have HZ:=Lib.hid hz
     clear hI hB hF hlt hk hz
     go_wp2
     refine ⟨⟨.inr ⟨rfl,HW.out.1⟩,HW.out.2,HZ.out⟩,by simp [intOf]⟩
  ·have HS:=Lib.hid (Shf.bstrK _ _ _ _ hI (by omega))
   have HB:=Lib.hid hB
   clear hI hB hsz
   go_wp2_with (go_at_call 72;refine HS.out.mono ?_;rintro e w2 ⟨rfl,hB2⟩;have HB2:=Lib.hid (HB.out.trans (hB2.mono (Nat.le_succ _)));clear hB2)
   go_ret2
   exact ⟨rfl,HB2.out⟩
end Go.Proofs.YtgadhchejmlfjaaGreatDoor.Txt
end
section
namespace Go.Proofs.YtgadhchejmlfjaaGreatDoor.Txt
open Go.RowKit Go.Esc
open Go.Proofs.YtgadhchejmlfjaaGreatDoor.Isa (row rows Laid noRow)
theorem split_words (ws:List (List UInt8)) (w:World) (h0:ws ≠ []) (h:∀ a ∈ ws,(32:UInt8) ∉ a) (hl:(joinC 32 ws).length ≤ 2100) (hm:Mx w) (n:Nat) (hn:ws.length = n):Calls Tryz.prog 322 #[.string ⟨(joinC 32 ws).toArray⟩,.string ⟨#[32]⟩] w fun e w'=>e = .returned (.slice (some ⟨w.heap.size,0,none⟩) n n) ∧
  (∀ i,i < ws.length → w'.cell? ⟨w.heap.size,i,none⟩ = some (.string ⟨(ws[i]?.getD []).toArray⟩)) ∧ w.heap.size < w'.heap.size ∧ Below w.heap.size w w':=by
 obtain ⟨m,hm⟩:=hm
 have hs:=splitB_join 32 ws h0 h
 refine (Shf.split ⟨(joinC 32 ws).toArray⟩ ⟨#[32]⟩ m w (by show (joinC 32 ws).toArray.size < _;simp;omega) hm (by decide)).mono ?_
 rintro e w' ⟨rfl,rfl⟩
 have hp:0 < ws.length:=List.length_pos_iff.2 h0
 rw [hs.1,hs.2,show ws.length - 1 + 1 = n by omega]
 refine ⟨rfl,fun i hi=>?_,by simp,below_alloc (Below.refl _ _) _⟩
 rw [(Blk.new w _ 9).cell i]
 simp [hi]
structure IS (w0:World) (wb:Nat) (ws:List (List UInt8)) (j:Nat) (cs:Array Value) (W:World):Prop where
 wd:Wd W wb (w0.heap.size + 1) ws j
 ins:Blk W w0.heap.size cs 84
 below:Below w0.heap.size w0 W
 lt:w0.heap.size + 1 < wb
theorem IS.go {w0 W W':World} {wb:Nat} {ws:List (List UInt8)} {j:Nat} {cs:Array Value} (h:IS w0 wb ws j cs W) (hB:Below W.heap.size W W'):IS w0 wb ws j cs W':=
 ⟨h.wd.below hB,h.ins.below hB h.ins.lt,h.below.trans (hB.mono h.below.size),h.lt⟩
theorem IS.next {w0 W W':World} {wb:Nat} {ws:List (List UInt8)} {j j':Nat} {cs:Array Value} (h:IS w0 wb ws j cs W) (hw:Wd W' wb (w0.heap.size + 1) ws j') (hO:Only (fun k=>k = wb) W W'):IS w0 wb ws j' cs W':=
 ⟨hw,h.ins.only hO (fun e=>by have:=h.lt;omega),h.below.trans ((hO.toBelow (B:=w0.heap.size) h.below.size (fun k hk=>by have:=h.lt;omega))),h.lt⟩
theorem IS.set {w0 W:World} {wb:Nat} {ws:List (List UInt8)} {j:Nat} {cs:Array Value} (h:IS w0 wb ws j cs W) (i:Nat) (u:Value):IS w0 wb ws j (cs.setIfInBounds i u) (W.setCell ⟨w0.heap.size,i,none⟩ u):=
 ⟨h.wd.only (S:=fun k=>k = w0.heap.size) (Only.set (S:=fun k=>k = w0.heap.size) (Only.refl _ _) (.inr rfl) _ _) (fun e=>by have:=h.lt;omega) (fun e=>by omega),h.ins.set i u,h.below.setCell (Nat.le_refl _) _,h.lt⟩
theorem IS.start {w w1:World} {ws:List (List UInt8)} (n:Nat) (hn:ws.length = n) (hS:∀ i,i < ws.length → w1.cell? ⟨w.heap.size + 1,i,none⟩ = some (.string ⟨(ws[i]?.getD []).toArray⟩)) (hlt:w.heap.size + 1 < w1.heap.size) (hB:Below (w.heap.size + 1) (w.alloc (.cells #[.int .i64 0,.int .i64 0,.int .i64 0,.int .i64 0,.int .i64 0] 84)) w1) :
  IS w w1.heap.size ws 0 #[.int .i64 0,.int .i64 0,.int .i64 0,.int .i64 0,.int .i64 0] (w1.alloc (.cells #[.slice (some ⟨w.heap.size + 1,0,none⟩) n n,.bool true] 391)):=by
 have hal:=below_alloc (Below.refl w1.heap.size w1) (.cells #[.slice (some ⟨w.heap.size + 1,0,none⟩) n n,.bool true] 391)
 refine ⟨⟨⟨0,fun _=>rfl,?_⟩,fun i hi=>(hal.cell (p:=⟨w.heap.size + 1,i,none⟩) hlt).trans (hS i hi),?_,by omega⟩,?_,?_,hlt⟩
 ·rw [Nat.sub_zero,hn];exact Blk.new w1 _ 391
 ·simp;omega
 ·exact (((Blk.new w _ 84).below hB (by omega)).below hal (by omega))
 ·exact (below_alloc (Below.refl _ _) _).trans ((hB.mono (by omega)).trans (hal.mono (by omega)))
theorem IS.store5 {w0 W:World} {wb:Nat} {ws:List (List UInt8)} {j:Nat} {a b:Int} (h:IS w0 wb ws j #[.int .i64 a,.int .i64 0,.int .i64 0,.int .i64 0,.int .i64 b] W):IS w0 wb ws j #[.int .i64 a,.int .i64 0,.int .i64 0,.int .i64 0,.int .i64 b] (((((W.setCell ⟨w0.heap.size,0,none⟩ (.int .i64 a)).setCell ⟨w0.heap.size,1,none⟩ (.int .i64 0)).setCell ⟨w0.heap.size,2,none⟩ (.int .i64 0)).setCell ⟨w0.heap.size,3,none⟩ (.int .i64 0)).setCell ⟨w0.heap.size,4,none⟩ (.int .i64 b)):=by
 have:=((((h.set 0 (.int .i64 a)).set 1 (.int .i64 0)).set 2 (.int .i64 0)).set 3 (.int .i64 0)).set 4 (.int .i64 b)
 simpa using this
theorem IS.held {w0 W:World} {wb o n j:Nat} {ws:List (List UInt8)} {a b:Int} (h:IS w0 wb ws j #[.int .i64 a,.int .i64 0,.int .i64 0,.int .i64 0,.int .i64 b] W) (hb:Blk W wb #[.slice (some ⟨w0.heap.size + 1,o,none⟩) 0 0,.bool true] 391) :
  W.cell? ⟨w0.heap.size,0,none⟩ = some (.int .i64 a) ∧ W.cell? ⟨w0.heap.size,1,none⟩ = some (.int .i64 0) ∧ W.cell? ⟨w0.heap.size,2,none⟩ = some (.int .i64 0) ∧ W.cell? ⟨w0.heap.size,3,none⟩ = some (.int .i64 0) ∧ W.cell? ⟨w0.heap.size,4,none⟩ = some (.int .i64 b) ∧ W.cell? ⟨wb,0,none⟩ = some (.slice (some ⟨w0.heap.size + 1,o,none⟩) 0 0) ∧ W.cell? ⟨wb,1,none⟩ = some (.bool true):=
 ⟨h.ins.cell 0,h.ins.cell 1,h.ins.cell 2,h.ins.cell 3,h.ins.cell 4,hb.cell 0,hb.cell 1⟩
theorem IS.wb5 {w0 W:World} {wb:Nat} {ws:List (List UInt8)} {j:Nat} {cs cs2:Array Value} {a b c d e:Value} (h:IS w0 wb ws j cs W) (hb:Blk W wb cs2 391):Blk (((((W.setCell ⟨w0.heap.size,0,none⟩ a).setCell ⟨w0.heap.size,1,none⟩ b).setCell ⟨w0.heap.size,2,none⟩ c).setCell ⟨w0.heap.size,3,none⟩ d).setCell ⟨w0.heap.size,4,none⟩ e) wb cs2 391:=by
 have hne:wb ≠ w0.heap.size:=by have:=h.lt;omega
 exact ((((hb.setOther hne _).setOther hne _).setOther hne _).setOther hne _).setOther hne _
theorem IS.setOk {w0 W:World} {wb:Nat} {ws:List (List UInt8)} {j:Nat} {cs:Array Value} (h:IS w0 wb ws j cs W):IS w0 wb ws j cs (W.setCell ⟨wb,1,none⟩ (.bool true)):=by
 have hO:Only (fun k=>k = wb) W (W.setCell ⟨wb,1,none⟩ (.bool true)):=Only.set (S:=fun k=>k = wb) (Only.refl _ _) (.inr rfl) _ _
 refine h.next (j':=j) ⟨?_,fun i hi=>(World.cell?_of_block (hO.block _ h.wd.lt h.wd.ne)).trans (h.wd.str i hi),by have:=h.wd.lt;simpa using this,h.wd.ne⟩ hO
 obtain ⟨o,a,b⟩:=h.wd.blk
 exact ⟨o,a,b.set 1 (.bool true)⟩
set_option maxHeartbeats 4000000 in
theorem instr_T (op n:Nat) (nm dg:List UInt8) (w:World) (hL:Laid w) (hm:Mx w) (ho:op < 24) (hnm:(row (op:Nat)).name = nm) (hr:(row (op:Nat)).regs = 0) (ht:(row (op:Nat)).target = 0) (hnum:(row (op:Nat)).number = false)
  (hstar:nm ≠ [42]) (hsp:(32:UInt8) ∉ nm) (hdg:numOk dg = true) (hdn:numB dg = n) (hd32:(32:UInt8) ∉ dg) (hlen:(joinC 32 [nm]).length ≤ 2100) :
  Calls Tryz.prog 272 #[.string ⟨(joinC 32 [nm]).toArray⟩] w fun e w'=>e = .returned (.tuple #[.agg #[.int .i64 op,.int .i64 0,.int .i64 0,.int .i64 0,.int .i64 0],.bool false,.bool true]) ∧ Below w.heap.size w w':=by
 have hst:(nm == [42]) = false:=by simpa using hstar
 have HD:=Lib.hid (And.intro hdg hdn)
 have HL:=Lib.hid (And.intro hL hm)
 have HOp:=Lib.hid (And.intro ho (And.intro hnm (And.intro hr (And.intro hnum ht))))
 have hb0:=Blk.new w #[.int .i64 0,.int .i64 0,.int .i64 0,.int .i64 0,.int .i64 0] 84
 have hB0:=below_alloc (Below.refl w.heap.size w) (.cells #[.int .i64 0,.int .i64 0,.int .i64 0,.int .i64 0,.int .i64 0] 84)
 have hsp0:=split_words [nm] (w.alloc (.cells #[.int .i64 0,.int .i64 0,.int .i64 0,.int .i64 0,.int .i64 0] 84)) (by simp) (List.forall_mem_cons.2 ⟨hsp,List.forall_mem_nil _⟩) hlen (hm.below hB0) 1 rfl
 rw [show (w.alloc (.cells #[.int .i64 0,.int .i64 0,.int .i64 0,.int .i64 0,.int .i64 0] 84)).heap.size = w.heap.size + 1 by simp] at hsp0
 have HSp:=Lib.hid hsp0
 clear hL hm hb0 hB0 hsp0 ho hnm hr ht hnum hstar hsp hdg hdn hd32 hlen
 generalize joinC 32 [nm] = txt at *
 go_enter Tryz.func272,Tryz.ntmps272
 go_wp2_with (first
  | (go_at_call 322;refine HSp.out.mono ?_;rintro e w1 ⟨rfl,hS,hlt,hB⟩;have g0:=(below_alloc (Below.refl w1.heap.size w1) (.cells #[.slice (some ⟨w.heap.size + 1,0,none⟩) 1 1,.bool true] 391)).cell (p:=⟨w.heap.size + 1,0,none⟩) hlt;rw [hS 0 (by simp)] at g0;simp only [List.getElem?_cons_zero,Option.getD_some] at g0;have HA:=Lib.hid (IS.start 1 rfl hS hlt hB);have z0:=(Blk.new w1 #[.slice (some ⟨w.heap.size + 1,0,none⟩) 1 1,.bool true] 391).cell 0;simp only [List.getElem?_toArray,List.getElem?_cons_zero] at z0;clear hS hlt hB)
  | (go_at_call 323;refine (next_any _ _ [nm] 0 _ HA.out.wd (by simp) (by simp)).mono ?_;rintro e w3 ⟨rfl,hW,hO⟩;have HC:=Lib.hid (HA.out.next hW hO);clear hW hO)
  | (go_at_call 324;refine (Asm.op_any op nm _ (HL.out.1.below HC.out.below) HOp.out.1 HOp.out.2.1).mono ?_;rintro e w4 ⟨rfl,hB⟩;have hE:=HC.out.go hB;have HE:=Lib.hid (hE.set 0 (.int .i64 op));have e0:=hE.ins.cell 0;have e1:=hE.ins.free 0;have e2:=HE.out.ins.cell 0;simp only [List.getElem?_toArray,List.getElem?_cons_zero] at e0;simp only [List.setIfInBounds_toArray,List.set_cons_zero,List.getElem?_toArray,List.getElem?_cons_zero] at e2;clear hB hE)
  | (go_at_call 133;refine (Isa.regs_any op _ (HL.out.1.below HE.out.below)).mono ?_;rintro e w5 ⟨rfl,hB⟩;rw [HOp.out.2.2.1];have HF:Hid (IS w _ [nm] _ #[.int .i64 op,.int .i64 0,.int .i64 0,.int .i64 0,.int .i64 0] w5):=HE.out.go hB;clear hB))
 clear HC e0 e1 e2 z0 g0 HSp hst
 try clear HA
 try clear HB
 clear HE
 have HF2:=HF
 clear HF
 generalize w1.heap.size = wb at *
 go_loopw [47] (fun t wr=>t = .int .i64 0 ∧ IS w wb [nm] 1 #[.int .i64 op,.int .i64 0,.int .i64 0,.int .i64 0,.int .i64 0] wr) (fun _ _=>0)
 case atStart=>exact ⟨rfl,HF2.out⟩
 case round=>
  obtain ⟨rfl,hI⟩:=hrel
  have HI:=Lib.hid hI
  have c0:=hI.ins.cell 0
  simp only [List.getElem?_toArray,List.getElem?_cons_zero] at c0
  clear hI
  go_wp2_with (go_at_call 135;refine (long_at op _ (HL.out.1.below HI.out.below) HOp.out.2.2.2.2).mono ?_;rintro e wr2 ⟨rfl,hB⟩;rw [HOp.out.2.2.2.1];have HG:=Lib.hid (HI.out.go hB);clear hB)
  clear c0
  have hE:=HG.out
  obtain ⟨o,_,hw⟩:=hE.wd.blk
  have hw:Blk wr2 wb #[.slice (some ⟨w.heap.size + 1,o,none⟩) 0 0,.bool true] 391:=hw
  have c0:=hE.ins.cell 0
  have c1:=hE.ins.cell 1
  have c2:=hE.ins.cell 2
  have c3:=hE.ins.cell 3
  have c4:=hE.ins.cell 4
  have f0:=hE.ins.free 0
  have f1:=hE.ins.free 1
  have f2:=hE.ins.free 2
  have f3:=hE.ins.free 3
  have f4:=hE.ins.free 4
  have o0:=hw.cell 0
  have o1:=hw.cell 1
  simp only [List.getElem?_toArray,List.getElem?_cons_zero,List.getElem?_cons_succ] at c0 c1 c2 c3 c4 o0 o1
  have hw5:=hE.wb5 (a:=.int .i64 op) (b:=.int .i64 0) (c:=.int .i64 0) (d:=.int .i64 0) (e:=.int .i64 0) hw
  have HW:=Lib.hid (And.intro hE.store5 hw5)
  have HS5:=Lib.hid (IS.held (n:=0) (hE.store5.go (Below.refl _ _).drew) hw5.drew)
  obtain ⟨l0,l1,l2,l3,l4,l5,l6⟩:=HS5.out
  clear hE hw hw5 HS5
  go_region_held3 (fun w'=>w'.cell? ⟨w.heap.size,0,none⟩ = some (.int .i64 op) ∧ w'.cell? ⟨w.heap.size,1,none⟩ = some (.int .i64 0) ∧ w'.cell? ⟨w.heap.size,2,none⟩ = some (.int .i64 0) ∧ w'.cell? ⟨w.heap.size,3,none⟩ = some (.int .i64 0) ∧ w'.cell? ⟨w.heap.size,4,none⟩ = some (.int .i64 0) ∧ w'.cell? ⟨wb,0,none⟩ = some (.slice (some ⟨w.heap.size + 1,o,none⟩) 0 0) ∧ w'.cell? ⟨wb,1,none⟩ = some (.bool true)) (first | go_keep | with_reducible assumption | (refine ⟨?_,?_,?_,?_,?_,?_,?_⟩ <;> with_reducible assumption)) (fail)
  rename_i hh
  clear hh l0 l1 l2 l3 l4 l5 l6 f0 f1 f2 f3 f4 c0 c1 c2 c3 c4 o0 o1
  have hI5:=HW.out.1.go (Below.refl _ _).drew
  clear HW
  generalize (((((wr2.setCell ⟨w.heap.size,0,none⟩ (.int .i64 op)).setCell ⟨w.heap.size,1,none⟩ (.int .i64 0)).setCell ⟨w.heap.size,2,none⟩ (.int .i64 0)).setCell ⟨w.heap.size,3,none⟩ (.int .i64 0)).setCell ⟨w.heap.size,4,none⟩ (.int .i64 0)).drew = WD at hI5 ⊢
  have c0:=hI5.ins.cell 0
  have c1:=hI5.ins.cell 1
  have c2:=hI5.ins.cell 2
  have c3:=hI5.ins.cell 3
  have c4:=hI5.ins.cell 4
  have HB5:=Lib.hid hI5.below
  simp only [List.getElem?_toArray,List.getElem?_cons_zero,List.getElem?_cons_succ] at c0 c1 c2 c3 c4
  clear hI5
  go_wp2
  exact bodyPost_ret (v:=.tuple #[.agg #[.int .i64 op,.int .i64 0,.int .i64 0,.int .i64 0,.int .i64 0],.bool false,.bool true]) (by simp [results,Tryz.results272,go_sem,c0,c1,c2,c3,c4]) rfl ⟨rfl,HB5.out⟩
set_option maxHeartbeats 4000000 in
theorem instr_S (op n:Nat) (nm dg:List UInt8) (w:World) (hL:Laid w) (hm:Mx w) (ho:op < 24) (hnm:(row (op:Nat)).name = nm) (hr:(row (op:Nat)).regs = 0) (ht:(row (op:Nat)).target = 0) (hnum:(row (op:Nat)).number = false)
  (hstar:nm ≠ [42]) (hsp:(32:UInt8) ∉ nm) (hdg:numOk dg = true) (hdn:numB dg = n) (hd32:(32:UInt8) ∉ dg) (hlen:(joinC 32 [[42],nm]).length ≤ 2100) :
  Calls Tryz.prog 272 #[.string ⟨(joinC 32 [[42],nm]).toArray⟩] w fun e w'=>e = .returned (.tuple #[.agg #[.int .i64 op,.int .i64 0,.int .i64 0,.int .i64 0,.int .i64 0],.bool true,.bool true]) ∧ Below w.heap.size w w':=by
 have hst:(nm == [42]) = false:=by simpa using hstar
 have HD:=Lib.hid (And.intro hdg hdn)
 have HL:=Lib.hid (And.intro hL hm)
 have HOp:=Lib.hid (And.intro ho (And.intro hnm (And.intro hr (And.intro hnum ht))))
 have hb0:=Blk.new w #[.int .i64 0,.int .i64 0,.int .i64 0,.int .i64 0,.int .i64 0] 84
 have hB0:=below_alloc (Below.refl w.heap.size w) (.cells #[.int .i64 0,.int .i64 0,.int .i64 0,.int .i64 0,.int .i64 0] 84)
 have hsp0:=split_words [[42],nm] (w.alloc (.cells #[.int .i64 0,.int .i64 0,.int .i64 0,.int .i64 0,.int .i64 0] 84)) (by simp) (List.forall_mem_cons.2 ⟨by decide,List.forall_mem_cons.2 ⟨hsp,List.forall_mem_nil _⟩⟩) hlen (hm.below hB0) 2 rfl
 rw [show (w.alloc (.cells #[.int .i64 0,.int .i64 0,.int .i64 0,.int .i64 0,.int .i64 0] 84)).heap.size = w.heap.size + 1 by simp] at hsp0
 have HSp:=Lib.hid hsp0
 clear hL hm hb0 hB0 hsp0 ho hnm hr ht hnum hstar hsp hdg hdn hd32 hlen
 generalize joinC 32 [[42],nm] = txt at *
 go_enter Tryz.func272,Tryz.ntmps272
 go_wp2_with (first
  | (go_at_call 322;refine HSp.out.mono ?_;rintro e w1 ⟨rfl,hS,hlt,hB⟩;have g0:=(below_alloc (Below.refl w1.heap.size w1) (.cells #[.slice (some ⟨w.heap.size + 1,0,none⟩) 2 2,.bool true] 391)).cell (p:=⟨w.heap.size + 1,0,none⟩) hlt;rw [hS 0 (by simp)] at g0;simp only [List.getElem?_cons_zero,Option.getD_some] at g0;have HA:=Lib.hid (IS.start 2 rfl hS hlt hB);have z0:=(Blk.new w1 #[.slice (some ⟨w.heap.size + 1,0,none⟩) 2 2,.bool true] 391).cell 0;simp only [List.getElem?_toArray,List.getElem?_cons_zero] at z0;clear hS hlt hB)
  | (go_at_call 323;first
   | (have hh:=HB;refine (next_any _ _ [[42],nm] 1 _ HB.out.wd (by simp) (by simp)).mono ?_;rintro e w3 ⟨rfl,hW,hO⟩;have HC:=Lib.hid (HB.out.next hW hO);clear hW hO hh)
   | (refine (next_any _ _ [[42],nm] 0 _ HA.out.wd (by simp) (by simp)).mono ?_;rintro e w2 ⟨rfl,hW,hO⟩;have HB:=Lib.hid (HA.out.next hW hO);clear hW hO))
  | (go_at_call 324;refine (Asm.op_any op nm _ (HL.out.1.below HC.out.below) HOp.out.1 HOp.out.2.1).mono ?_;rintro e w4 ⟨rfl,hB⟩;have hE:=HC.out.go hB;have HE:=Lib.hid (hE.set 0 (.int .i64 op));have e0:=hE.ins.cell 0;have e1:=hE.ins.free 0;have e2:=HE.out.ins.cell 0;simp only [List.getElem?_toArray,List.getElem?_cons_zero] at e0;simp only [List.setIfInBounds_toArray,List.set_cons_zero,List.getElem?_toArray,List.getElem?_cons_zero] at e2;clear hB hE)
  | (go_at_call 133;refine (Isa.regs_any op _ (HL.out.1.below HE.out.below)).mono ?_;rintro e w5 ⟨rfl,hB⟩;rw [HOp.out.2.2.1];have HF:Hid (IS w _ [[42],nm] _ #[.int .i64 op,.int .i64 0,.int .i64 0,.int .i64 0,.int .i64 0] w5):=HE.out.go hB;clear hB))
 clear HC e0 e1 e2 z0 g0 HSp hst
 try clear HA
 try clear HB
 clear HE
 have HF2:=HF
 clear HF
 generalize w1.heap.size = wb at *
 go_loopw [47] (fun t wr=>t = .int .i64 0 ∧ IS w wb [[42],nm] 2 #[.int .i64 op,.int .i64 0,.int .i64 0,.int .i64 0,.int .i64 0] wr) (fun _ _=>0)
 case atStart=>exact ⟨rfl,HF2.out⟩
 case round=>
  obtain ⟨rfl,hI⟩:=hrel
  have HI:=Lib.hid hI
  have c0:=hI.ins.cell 0
  simp only [List.getElem?_toArray,List.getElem?_cons_zero] at c0
  clear hI
  go_wp2_with (go_at_call 135;refine (long_at op _ (HL.out.1.below HI.out.below) HOp.out.2.2.2.2).mono ?_;rintro e wr2 ⟨rfl,hB⟩;rw [HOp.out.2.2.2.1];have HG:=Lib.hid (HI.out.go hB);clear hB)
  clear c0
  have hE:=HG.out
  obtain ⟨o,_,hw⟩:=hE.wd.blk
  have hw:Blk wr2 wb #[.slice (some ⟨w.heap.size + 1,o,none⟩) 0 0,.bool true] 391:=hw
  have c0:=hE.ins.cell 0
  have c1:=hE.ins.cell 1
  have c2:=hE.ins.cell 2
  have c3:=hE.ins.cell 3
  have c4:=hE.ins.cell 4
  have f0:=hE.ins.free 0
  have f1:=hE.ins.free 1
  have f2:=hE.ins.free 2
  have f3:=hE.ins.free 3
  have f4:=hE.ins.free 4
  have o0:=hw.cell 0
  have o1:=hw.cell 1
  simp only [List.getElem?_toArray,List.getElem?_cons_zero,List.getElem?_cons_succ] at c0 c1 c2 c3 c4 o0 o1
  have hw5:=hE.wb5 (a:=.int .i64 op) (b:=.int .i64 0) (c:=.int .i64 0) (d:=.int .i64 0) (e:=.int .i64 0) hw
  have HW:=Lib.hid (And.intro hE.store5 hw5)
  have HS5:=Lib.hid (IS.held (n:=0) (hE.store5.go (Below.refl _ _).drew) hw5.drew)
  obtain ⟨l0,l1,l2,l3,l4,l5,l6⟩:=HS5.out
  clear hE hw hw5 HS5
  go_region_held3 (fun w'=>w'.cell? ⟨w.heap.size,0,none⟩ = some (.int .i64 op) ∧ w'.cell? ⟨w.heap.size,1,none⟩ = some (.int .i64 0) ∧ w'.cell? ⟨w.heap.size,2,none⟩ = some (.int .i64 0) ∧ w'.cell? ⟨w.heap.size,3,none⟩ = some (.int .i64 0) ∧ w'.cell? ⟨w.heap.size,4,none⟩ = some (.int .i64 0) ∧ w'.cell? ⟨wb,0,none⟩ = some (.slice (some ⟨w.heap.size + 1,o,none⟩) 0 0) ∧ w'.cell? ⟨wb,1,none⟩ = some (.bool true)) (first | go_keep | with_reducible assumption | (refine ⟨?_,?_,?_,?_,?_,?_,?_⟩ <;> with_reducible assumption)) (fail)
  rename_i hh
  clear hh l0 l1 l2 l3 l4 l5 l6 f0 f1 f2 f3 f4 c0 c1 c2 c3 c4 o0 o1
  have hI5:=HW.out.1.go (Below.refl _ _).drew
  clear HW
  generalize (((((wr2.setCell ⟨w.heap.size,0,none⟩ (.int .i64 op)).setCell ⟨w.heap.size,1,none⟩ (.int .i64 0)).setCell ⟨w.heap.size,2,none⟩ (.int .i64 0)).setCell ⟨w.heap.size,3,none⟩ (.int .i64 0)).setCell ⟨w.heap.size,4,none⟩ (.int .i64 0)).drew = WD at hI5 ⊢
  have c0:=hI5.ins.cell 0
  have c1:=hI5.ins.cell 1
  have c2:=hI5.ins.cell 2
  have c3:=hI5.ins.cell 3
  have c4:=hI5.ins.cell 4
  have HB5:=Lib.hid hI5.below
  simp only [List.getElem?_toArray,List.getElem?_cons_zero,List.getElem?_cons_succ] at c0 c1 c2 c3 c4
  clear hI5
  go_wp2
  exact bodyPost_ret (v:=.tuple #[.agg #[.int .i64 op,.int .i64 0,.int .i64 0,.int .i64 0,.int .i64 0],.bool true,.bool true]) (by simp [results,Tryz.results272,go_sem,c0,c1,c2,c3,c4]) rfl ⟨rfl,HB5.out⟩
set_option maxHeartbeats 4000000 in
theorem instr_C (op n:Nat) (nm dg:List UInt8) (w:World) (hL:Laid w) (hm:Mx w) (ho:op < 24) (hnm:(row (op:Nat)).name = nm) (hr:(row (op:Nat)).regs = 1) (ht:(row (op:Nat)).target = 0) (hnum:(row (op:Nat)).number = true)
  (hstar:nm ≠ [42]) (hsp:(32:UInt8) ∉ nm) (hdg:numOk dg = true) (hdn:numB dg = n) (hd32:(32:UInt8) ∉ dg) (hlen:(joinC 32 [nm,[114,48],dg]).length ≤ 2100) :
  Calls Tryz.prog 272 #[.string ⟨(joinC 32 [nm,[114,48],dg]).toArray⟩] w fun e w'=>e = .returned (.tuple #[.agg #[.int .i64 op,.int .i64 0,.int .i64 0,.int .i64 0,.int .i64 n],.bool false,.bool true]) ∧ Below w.heap.size w w':=by
 have hst:(nm == [42]) = false:=by simpa using hstar
 have HD:=Lib.hid (And.intro hdg hdn)
 have HL:=Lib.hid (And.intro hL hm)
 have HOp:=Lib.hid (And.intro ho (And.intro hnm (And.intro hr (And.intro hnum ht))))
 have hb0:=Blk.new w #[.int .i64 0,.int .i64 0,.int .i64 0,.int .i64 0,.int .i64 0] 84
 have hB0:=below_alloc (Below.refl w.heap.size w) (.cells #[.int .i64 0,.int .i64 0,.int .i64 0,.int .i64 0,.int .i64 0] 84)
 have hsp0:=split_words [nm,[114,48],dg] (w.alloc (.cells #[.int .i64 0,.int .i64 0,.int .i64 0,.int .i64 0,.int .i64 0] 84)) (by simp) (List.forall_mem_cons.2 ⟨hsp,List.forall_mem_cons.2 ⟨by decide,List.forall_mem_cons.2 ⟨hd32,List.forall_mem_nil _⟩⟩⟩) hlen (hm.below hB0) 3 rfl
 rw [show (w.alloc (.cells #[.int .i64 0,.int .i64 0,.int .i64 0,.int .i64 0,.int .i64 0] 84)).heap.size = w.heap.size + 1 by simp] at hsp0
 have HSp:=Lib.hid hsp0
 clear hL hm hb0 hB0 hsp0 ho hnm hr ht hnum hstar hsp hdg hdn hd32 hlen
 generalize joinC 32 [nm,[114,48],dg] = txt at *
 go_enter Tryz.func272,Tryz.ntmps272
 go_wp2_with (first
  | (go_at_call 322;refine HSp.out.mono ?_;rintro e w1 ⟨rfl,hS,hlt,hB⟩;have g0:=(below_alloc (Below.refl w1.heap.size w1) (.cells #[.slice (some ⟨w.heap.size + 1,0,none⟩) 3 3,.bool true] 391)).cell (p:=⟨w.heap.size + 1,0,none⟩) hlt;rw [hS 0 (by simp)] at g0;simp only [List.getElem?_cons_zero,Option.getD_some] at g0;have HA:=Lib.hid (IS.start 3 rfl hS hlt hB);have z0:=(Blk.new w1 #[.slice (some ⟨w.heap.size + 1,0,none⟩) 3 3,.bool true] 391).cell 0;simp only [List.getElem?_toArray,List.getElem?_cons_zero] at z0;clear hS hlt hB)
  | (go_at_call 323;refine (next_any _ _ [nm,[114,48],dg] 0 _ HA.out.wd (by simp) (by simp)).mono ?_;rintro e w3 ⟨rfl,hW,hO⟩;have HC:=Lib.hid (HA.out.next hW hO);clear hW hO)
  | (go_at_call 324;refine (Asm.op_any op nm _ (HL.out.1.below HC.out.below) HOp.out.1 HOp.out.2.1).mono ?_;rintro e w4 ⟨rfl,hB⟩;have hE:=HC.out.go hB;have HE:=Lib.hid (hE.set 0 (.int .i64 op));have e0:=hE.ins.cell 0;have e1:=hE.ins.free 0;have e2:=HE.out.ins.cell 0;simp only [List.getElem?_toArray,List.getElem?_cons_zero] at e0;simp only [List.setIfInBounds_toArray,List.set_cons_zero,List.getElem?_toArray,List.getElem?_cons_zero] at e2;clear hB hE)
  | (go_at_call 133;refine (Isa.regs_any op _ (HL.out.1.below HE.out.below)).mono ?_;rintro e w5 ⟨rfl,hB⟩;rw [HOp.out.2.2.1];have HF:Hid (IS w _ [nm,[114,48],dg] _ #[.int .i64 op,.int .i64 0,.int .i64 0,.int .i64 0,.int .i64 0] w5):=HE.out.go hB;clear hB))
 clear HC e0 e1 e2 z0 g0 HSp hst
 try clear HA
 try clear HB
 clear HE
 have HF2:=HF
 clear HF
 generalize w1.heap.size = wb at *
 have i0:∀ W,(Instr.index 344 (.agg #[.pointer (some ⟨w.heap.size,1,none⟩),.pointer (some ⟨w.heap.size,2,none⟩),.pointer (some ⟨w.heap.size,3,none⟩)]) (.int .i64 0)).run Tryz.prog W = .ok (.pointer (some ⟨w.heap.size,1,none⟩)) W:=fun _=>by kernel_rfl
 go_loopw [47] (fun t wr=>(t = .int .i64 0 ∧ IS w wb [nm,[114,48],dg] 1 #[.int .i64 op,.int .i64 0,.int .i64 0,.int .i64 0,.int .i64 0] wr) ∨ (t = .int .i64 1 ∧ IS w wb [nm,[114,48],dg] 2 #[.int .i64 op,.int .i64 0,.int .i64 0,.int .i64 0,.int .i64 0] wr)) (fun t _=>1 - (intOf t).toNat)
 case atStart=>exact .inl ⟨rfl,HF2.out⟩
 case round=>
  rcases hrel with ⟨rfl,hI⟩ | ⟨rfl,hI⟩
  ·have HI:=Lib.hid (hI.go (Below.refl _ _).drew)
   have c1:=hI.ins.cell 1
   have hwl:=hI.ins.lt
   simp only [List.getElem?_toArray,List.getElem?_cons_zero,List.getElem?_cons_succ] at c1
   clear hI
   go_wp2
   go_region_held3 (fun w'=>w'.cell? ⟨w.heap.size,1,none⟩ = some (.int .i64 0)) (first | go_keep | with_reducible assumption) (first | (go_at_call 325;refine (reg_any wb _ [nm,[114,48],dg] 1 _ HI.out.wd rfl (by simp)).mono ?_;rintro e w7 ⟨rfl,hW,hO⟩;have hE7:=HI.out.next hW hO;have f1:=hE7.ins.free 1;have c1:=hE7.ins.cell 1;have l1:=(hE7.set 1 (.int .i64 0)).ins.cell 1;have l2:=((hE7.set 1 (.int .i64 0)).go (Below.refl _ _).drew).ins.cell 1;simp only [List.getElem?_toArray,List.getElem?_cons_zero,List.getElem?_cons_succ] at c1;simp only [List.setIfInBounds_toArray,List.set_cons_zero,List.set_cons_succ,List.getElem?_toArray,List.getElem?_cons_zero,List.getElem?_cons_succ] at l1 l2;have HE7:=Lib.hid hE7;clear hW hO hE7))
   all_goals
    go_wp2
    exact ⟨.inr ⟨rfl,by have:=HE7.out.set 1 (.int .i64 0);simpa using this⟩,by simp [intOf]⟩
  ·have HI:=Lib.hid hI
   have c0:=hI.ins.cell 0
   simp only [List.getElem?_toArray,List.getElem?_cons_zero] at c0
   clear hI
   go_wp2_with (first
    | (go_at_call 135;refine (long_at op _ (HL.out.1.below HI.out.below) HOp.out.2.2.2.2).mono ?_;rintro e w6 ⟨rfl,hB⟩;rw [HOp.out.2.2.2.1];have HG:=Lib.hid (HI.out.go hB);clear hB)
    | (go_at_call 323;refine (next_any _ _ [nm,[114,48],dg] 2 _ HG.out.wd (by simp) (by simp)).mono ?_;rintro e w7 ⟨rfl,hW,hO⟩;have HN:=Lib.hid (HG.out.next hW hO);clear hW hO)
    | (go_at_call 326;refine (number_any dg _ HD.out.1).mono ?_;rintro e w8 ⟨rfl,hB⟩;rw [HD.out.2];have hP:=HN.out.go hB;have hP4:=hP.set 4 (.int .i64 n);obtain ⟨o8,_,hw8⟩:=hP.wd.blk;have oo:=hw8.cell 1;obtain ⟨o,_,hw⟩:=hP4.wd.blk;have f4:=hP.ins.free 4;have c4:=hP.ins.cell 4;have o1:=hw.cell 1;have fo:=hw.free 1;have HP:Hid (IS w wb [nm,[114,48],dg] 3 #[.int .i64 op,.int .i64 0,.int .i64 0,.int .i64 0,.int .i64 n] _):=hP4.setOk;simp only [List.getElem?_toArray,List.getElem?_cons_zero,List.getElem?_cons_succ] at c4 o1 oo;clear hB hP hP4 hw hw8))
   clear c0 f4 c4 o1 fo oo
   generalize ((w8.setCell ⟨w.heap.size,4,none⟩ (.int .i64 n)).setCell ⟨wb,1,none⟩ (.bool true)) = wr2 at *
   have hE:=HP.out
   obtain ⟨o,_,hw⟩:=hE.wd.blk
   have hw:Blk wr2 wb #[.slice (some ⟨w.heap.size + 1,o,none⟩) 0 0,.bool true] 391:=hw
   have c0:=hE.ins.cell 0
   have c1:=hE.ins.cell 1
   have c2:=hE.ins.cell 2
   have c3:=hE.ins.cell 3
   have c4:=hE.ins.cell 4
   have f0:=hE.ins.free 0
   have f1:=hE.ins.free 1
   have f2:=hE.ins.free 2
   have f3:=hE.ins.free 3
   have f4:=hE.ins.free 4
   have o0:=hw.cell 0
   have o1:=hw.cell 1
   simp only [List.getElem?_toArray,List.getElem?_cons_zero,List.getElem?_cons_succ] at c0 c1 c2 c3 c4 o0 o1
   have hw5:=hE.wb5 (a:=.int .i64 op) (b:=.int .i64 0) (c:=.int .i64 0) (d:=.int .i64 0) (e:=.int .i64 n) hw
   have HW:=Lib.hid (And.intro hE.store5 hw5)
   have HS5:=Lib.hid (IS.held (n:=0) (hE.store5.go (Below.refl _ _).drew) hw5.drew)
   obtain ⟨l0,l1,l2,l3,l4,l5,l6⟩:=HS5.out
   clear hE hw hw5 HS5
   go_region_held3 (fun w'=>w'.cell? ⟨w.heap.size,0,none⟩ = some (.int .i64 op) ∧ w'.cell? ⟨w.heap.size,1,none⟩ = some (.int .i64 0) ∧ w'.cell? ⟨w.heap.size,2,none⟩ = some (.int .i64 0) ∧ w'.cell? ⟨w.heap.size,3,none⟩ = some (.int .i64 0) ∧ w'.cell? ⟨w.heap.size,4,none⟩ = some (.int .i64 n) ∧ w'.cell? ⟨wb,0,none⟩ = some (.slice (some ⟨w.heap.size + 1,o,none⟩) 0 0) ∧ w'.cell? ⟨wb,1,none⟩ = some (.bool true)) (first | go_keep | with_reducible assumption | (refine ⟨?_,?_,?_,?_,?_,?_,?_⟩ <;> with_reducible assumption)) (fail)
   rename_i hh
   clear hh l0 l1 l2 l3 l4 l5 l6 f0 f1 f2 f3 f4 c0 c1 c2 c3 c4 o0 o1
   have hI5:=HW.out.1.go (Below.refl _ _).drew
   clear HW
   generalize (((((wr2.setCell ⟨w.heap.size,0,none⟩ (.int .i64 op)).setCell ⟨w.heap.size,1,none⟩ (.int .i64 0)).setCell ⟨w.heap.size,2,none⟩ (.int .i64 0)).setCell ⟨w.heap.size,3,none⟩ (.int .i64 0)).setCell ⟨w.heap.size,4,none⟩ (.int .i64 n)).drew = WD at hI5 ⊢
   have c0:=hI5.ins.cell 0
   have c1:=hI5.ins.cell 1
   have c2:=hI5.ins.cell 2
   have c3:=hI5.ins.cell 3
   have c4:=hI5.ins.cell 4
   have HB5:=Lib.hid hI5.below
   simp only [List.getElem?_toArray,List.getElem?_cons_zero,List.getElem?_cons_succ] at c0 c1 c2 c3 c4
   clear hI5
   go_wp2
   exact bodyPost_ret (v:=.tuple #[.agg #[.int .i64 op,.int .i64 0,.int .i64 0,.int .i64 0,.int .i64 n],.bool false,.bool true]) (by simp [results,Tryz.results272,go_sem,c0,c1,c2,c3,c4]) rfl ⟨rfl,HB5.out⟩
end Go.Proofs.YtgadhchejmlfjaaGreatDoor.Txt
end
section
namespace Go.Proofs.YtgadhchejmlfjaaGreatDoor.Txt
open Go.RowKit Go.Esc
open Go.Proofs.YtgadhchejmlfjaaGreatDoor.Isa (row rows Laid noRow)
set_option maxHeartbeats 4000000 in
theorem instr_V (op n:Nat) (nm dg:List UInt8) (w:World) (hL:Laid w) (hm:Mx w) (ho:op < 24) (hnm:(row (op:Nat)).name = nm) (hr:(row (op:Nat)).regs = 1) (ht:(row (op:Nat)).target = 0) (hnum:(row (op:Nat)).number = false)
  (hstar:nm ≠ [42]) (hsp:(32:UInt8) ∉ nm) (hdg:numOk dg = true) (hdn:numB dg = n) (hd32:(32:UInt8) ∉ dg) (hlen:(joinC 32 [[42],nm,[114,48]]).length ≤ 2100) :
  Calls Tryz.prog 272 #[.string ⟨(joinC 32 [[42],nm,[114,48]]).toArray⟩] w fun e w'=>e = .returned (.tuple #[.agg #[.int .i64 op,.int .i64 0,.int .i64 0,.int .i64 0,.int .i64 0],.bool true,.bool true]) ∧ Below w.heap.size w w':=by
 have hst:(nm == [42]) = false:=by simpa using hstar
 have HD:=Lib.hid (And.intro hdg hdn)
 have HL:=Lib.hid (And.intro hL hm)
 have HOp:=Lib.hid (And.intro ho (And.intro hnm (And.intro hr (And.intro hnum ht))))
 have hb0:=Blk.new w #[.int .i64 0,.int .i64 0,.int .i64 0,.int .i64 0,.int .i64 0] 84
 have hB0:=below_alloc (Below.refl w.heap.size w) (.cells #[.int .i64 0,.int .i64 0,.int .i64 0,.int .i64 0,.int .i64 0] 84)
 have hsp0:=split_words [[42],nm,[114,48]] (w.alloc (.cells #[.int .i64 0,.int .i64 0,.int .i64 0,.int .i64 0,.int .i64 0] 84)) (by simp) (List.forall_mem_cons.2 ⟨by decide,List.forall_mem_cons.2 ⟨hsp,List.forall_mem_cons.2 ⟨by decide,List.forall_mem_nil _⟩⟩⟩) hlen (hm.below hB0) 3 rfl
 rw [show (w.alloc (.cells #[.int .i64 0,.int .i64 0,.int .i64 0,.int .i64 0,.int .i64 0] 84)).heap.size = w.heap.size + 1 by simp] at hsp0
 have HSp:=Lib.hid hsp0
 clear hL hm hb0 hB0 hsp0 ho hnm hr ht hnum hstar hsp hdg hdn hd32 hlen
 generalize joinC 32 [[42],nm,[114,48]] = txt at *
 go_enter Tryz.func272,Tryz.ntmps272
 go_wp2_with (first
  | (go_at_call 322;refine HSp.out.mono ?_;rintro e w1 ⟨rfl,hS,hlt,hB⟩;have g0:=(below_alloc (Below.refl w1.heap.size w1) (.cells #[.slice (some ⟨w.heap.size + 1,0,none⟩) 3 3,.bool true] 391)).cell (p:=⟨w.heap.size + 1,0,none⟩) hlt;rw [hS 0 (by simp)] at g0;simp only [List.getElem?_cons_zero,Option.getD_some] at g0;have HA:=Lib.hid (IS.start 3 rfl hS hlt hB);have z0:=(Blk.new w1 #[.slice (some ⟨w.heap.size + 1,0,none⟩) 3 3,.bool true] 391).cell 0;simp only [List.getElem?_toArray,List.getElem?_cons_zero] at z0;clear hS hlt hB)
  | (go_at_call 323;first
   | (have hh:=HB;refine (next_any _ _ [[42],nm,[114,48]] 1 _ HB.out.wd (by simp) (by simp)).mono ?_;rintro e w3 ⟨rfl,hW,hO⟩;have HC:=Lib.hid (HB.out.next hW hO);clear hW hO hh)
   | (refine (next_any _ _ [[42],nm,[114,48]] 0 _ HA.out.wd (by simp) (by simp)).mono ?_;rintro e w2 ⟨rfl,hW,hO⟩;have HB:=Lib.hid (HA.out.next hW hO);clear hW hO))
  | (go_at_call 324;refine (Asm.op_any op nm _ (HL.out.1.below HC.out.below) HOp.out.1 HOp.out.2.1).mono ?_;rintro e w4 ⟨rfl,hB⟩;have hE:=HC.out.go hB;have HE:=Lib.hid (hE.set 0 (.int .i64 op));have e0:=hE.ins.cell 0;have e1:=hE.ins.free 0;have e2:=HE.out.ins.cell 0;simp only [List.getElem?_toArray,List.getElem?_cons_zero] at e0;simp only [List.setIfInBounds_toArray,List.set_cons_zero,List.getElem?_toArray,List.getElem?_cons_zero] at e2;clear hB hE)
  | (go_at_call 133;refine (Isa.regs_any op _ (HL.out.1.below HE.out.below)).mono ?_;rintro e w5 ⟨rfl,hB⟩;rw [HOp.out.2.2.1];have HF:Hid (IS w _ [[42],nm,[114,48]] _ #[.int .i64 op,.int .i64 0,.int .i64 0,.int .i64 0,.int .i64 0] w5):=HE.out.go hB;clear hB))
 clear HC e0 e1 e2 z0 g0 HSp hst
 try clear HA
 try clear HB
 clear HE
 have HF2:=HF
 clear HF
 generalize w1.heap.size = wb at *
 have i0:∀ W,(Instr.index 344 (.agg #[.pointer (some ⟨w.heap.size,1,none⟩),.pointer (some ⟨w.heap.size,2,none⟩),.pointer (some ⟨w.heap.size,3,none⟩)]) (.int .i64 0)).run Tryz.prog W = .ok (.pointer (some ⟨w.heap.size,1,none⟩)) W:=fun _=>by kernel_rfl
 go_loopw [47] (fun t wr=>(t = .int .i64 0 ∧ IS w wb [[42],nm,[114,48]] 2 #[.int .i64 op,.int .i64 0,.int .i64 0,.int .i64 0,.int .i64 0] wr) ∨ (t = .int .i64 1 ∧ IS w wb [[42],nm,[114,48]] 3 #[.int .i64 op,.int .i64 0,.int .i64 0,.int .i64 0,.int .i64 0] wr)) (fun t _=>1 - (intOf t).toNat)
 case atStart=>exact .inl ⟨rfl,HF2.out⟩
 case round=>
  rcases hrel with ⟨rfl,hI⟩ | ⟨rfl,hI⟩
  ·have HI:=Lib.hid (hI.go (Below.refl _ _).drew)
   have c1:=hI.ins.cell 1
   have hwl:=hI.ins.lt
   simp only [List.getElem?_toArray,List.getElem?_cons_zero,List.getElem?_cons_succ] at c1
   clear hI
   go_wp2
   go_region_held3 (fun w'=>w'.cell? ⟨w.heap.size,1,none⟩ = some (.int .i64 0)) (first | go_keep | with_reducible assumption) (first | (go_at_call 325;refine (reg_any wb _ [[42],nm,[114,48]] 2 _ HI.out.wd rfl (by simp)).mono ?_;rintro e w7 ⟨rfl,hW,hO⟩;have hE7:=HI.out.next hW hO;have f1:=hE7.ins.free 1;have c1:=hE7.ins.cell 1;have l1:=(hE7.set 1 (.int .i64 0)).ins.cell 1;have l2:=((hE7.set 1 (.int .i64 0)).go (Below.refl _ _).drew).ins.cell 1;simp only [List.getElem?_toArray,List.getElem?_cons_zero,List.getElem?_cons_succ] at c1;simp only [List.setIfInBounds_toArray,List.set_cons_zero,List.set_cons_succ,List.getElem?_toArray,List.getElem?_cons_zero,List.getElem?_cons_succ] at l1 l2;have HE7:=Lib.hid hE7;clear hW hO hE7))
   all_goals
    go_wp2
    exact ⟨.inr ⟨rfl,by have:=HE7.out.set 1 (.int .i64 0);simpa using this⟩,by simp [intOf]⟩
  ·have HI:=Lib.hid hI
   have c0:=hI.ins.cell 0
   simp only [List.getElem?_toArray,List.getElem?_cons_zero] at c0
   clear hI
   go_wp2_with (go_at_call 135;refine (long_at op _ (HL.out.1.below HI.out.below) HOp.out.2.2.2.2).mono ?_;rintro e wr2 ⟨rfl,hB⟩;rw [HOp.out.2.2.2.1];have HG:=Lib.hid (HI.out.go hB);clear hB)
   clear c0
   have hE:=HG.out
   obtain ⟨o,_,hw⟩:=hE.wd.blk
   have hw:Blk wr2 wb #[.slice (some ⟨w.heap.size + 1,o,none⟩) 0 0,.bool true] 391:=hw
   have c0:=hE.ins.cell 0
   have c1:=hE.ins.cell 1
   have c2:=hE.ins.cell 2
   have c3:=hE.ins.cell 3
   have c4:=hE.ins.cell 4
   have f0:=hE.ins.free 0
   have f1:=hE.ins.free 1
   have f2:=hE.ins.free 2
   have f3:=hE.ins.free 3
   have f4:=hE.ins.free 4
   have o0:=hw.cell 0
   have o1:=hw.cell 1
   simp only [List.getElem?_toArray,List.getElem?_cons_zero,List.getElem?_cons_succ] at c0 c1 c2 c3 c4 o0 o1
   have hw5:=hE.wb5 (a:=.int .i64 op) (b:=.int .i64 0) (c:=.int .i64 0) (d:=.int .i64 0) (e:=.int .i64 0) hw
   have HW:=Lib.hid (And.intro hE.store5 hw5)
   have HS5:=Lib.hid (IS.held (n:=0) (hE.store5.go (Below.refl _ _).drew) hw5.drew)
   obtain ⟨l0,l1,l2,l3,l4,l5,l6⟩:=HS5.out
   clear hE hw hw5 HS5
   go_region_held3 (fun w'=>w'.cell? ⟨w.heap.size,0,none⟩ = some (.int .i64 op) ∧ w'.cell? ⟨w.heap.size,1,none⟩ = some (.int .i64 0) ∧ w'.cell? ⟨w.heap.size,2,none⟩ = some (.int .i64 0) ∧ w'.cell? ⟨w.heap.size,3,none⟩ = some (.int .i64 0) ∧ w'.cell? ⟨w.heap.size,4,none⟩ = some (.int .i64 0) ∧ w'.cell? ⟨wb,0,none⟩ = some (.slice (some ⟨w.heap.size + 1,o,none⟩) 0 0) ∧ w'.cell? ⟨wb,1,none⟩ = some (.bool true)) (first | go_keep | with_reducible assumption | (refine ⟨?_,?_,?_,?_,?_,?_,?_⟩ <;> with_reducible assumption)) (fail)
   rename_i hh
   clear hh l0 l1 l2 l3 l4 l5 l6 f0 f1 f2 f3 f4 c0 c1 c2 c3 c4 o0 o1
   have hI5:=HW.out.1.go (Below.refl _ _).drew
   clear HW
   generalize (((((wr2.setCell ⟨w.heap.size,0,none⟩ (.int .i64 op)).setCell ⟨w.heap.size,1,none⟩ (.int .i64 0)).setCell ⟨w.heap.size,2,none⟩ (.int .i64 0)).setCell ⟨w.heap.size,3,none⟩ (.int .i64 0)).setCell ⟨w.heap.size,4,none⟩ (.int .i64 0)).drew = WD at hI5 ⊢
   have c0:=hI5.ins.cell 0
   have c1:=hI5.ins.cell 1
   have c2:=hI5.ins.cell 2
   have c3:=hI5.ins.cell 3
   have c4:=hI5.ins.cell 4
   have HB5:=Lib.hid hI5.below
   simp only [List.getElem?_toArray,List.getElem?_cons_zero,List.getElem?_cons_succ] at c0 c1 c2 c3 c4
   clear hI5
   go_wp2
   exact bodyPost_ret (v:=.tuple #[.agg #[.int .i64 op,.int .i64 0,.int .i64 0,.int .i64 0,.int .i64 0],.bool true,.bool true]) (by simp [results,Tryz.results272,go_sem,c0,c1,c2,c3,c4]) rfl ⟨rfl,HB5.out⟩
end Go.Proofs.YtgadhchejmlfjaaGreatDoor.Txt
end
