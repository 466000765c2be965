/- Parts of the proof of TopReaches. -/
import Derived.Test.YtgadhchejmlfjaaGreatDoorC1
import Derived.Test.YtgadhchejmlfjaaGreatDoorB4
import Derived.Lib.Join
import Derived.Deep.MidRow
set_option linter.unusedVariables false
set_option maxRecDepth 20000
section
namespace Go.Proofs.YtgadhchejmlfjaaGreatDoor.Txt
open Go.RowKit Go.Esc
open Go.Proofs.YtgadhchejmlfjaaGreatDoor.Isa (row rows Laid)
open Go.Proofs.YtgadhchejmlfjaaGreatDoor.Asm (longB)
theorem join_eq (c:UInt8):∀ l:List (List UInt8),Lib.join l [c] = joinC c l
 | []=>by simp [Lib.join,joinC,List.intercalate]
 | [a]=>by rw [Lib.join_one];rfl
 | a :: b :: l=>by
  have ih:=join_eq c (b :: l)
  rw [joinC,← ih,Lib.join_cons,Lib.join_cons]
  simp [Lib.joinTail]
theorem info9:(Tryz.prog.info? 9).map (fun i=>(i.zero,i.size,i.bytes)) = some (some (.string ⟨#[]⟩),1,16):=by kernel_rfl
def sc (l:List (List UInt8)):List Value:=l.map fun a=>.string ⟨a.toArray⟩
theorem sc_snoc (l:List (List UInt8)) (a:List UInt8):sc (l ++ [a]) = sc l ++ [.string ⟨a.toArray⟩]:=by simp [sc]
theorem sc_len (l:List (List UInt8)):(sc l).length = l.length:=by simp [sc]
theorem new1 (w:World) (x:Value) (t:TypeId):∀ (j:Nat) (u:Value),[x][j]? = some u → (w.alloc (.cells #[x] t)).cell? ((⟨w.heap.size,0,none⟩:Addr).add j) = some u:=by
 have h:=Blk.new w #[x] t
 intro j u hu
 rw [show ((⟨w.heap.size,0,none⟩:Addr).add j) = ⟨w.heap.size,j,none⟩ from by rw [Go.WideShapes.add_plain,Nat.zero_add]]
 rw [h.cell j,← hu]
 simp
theorem join_own (l:List (List UInt8)) (v:Value) (base:Nat) (w:World) (h:w.ownsRow base 9 1 v l.length (sc l)) (hl:l ≠ []) (hn:l.length ≤ 100) (hb:(joinC 32 l).length ≤ 140737488355328) :
  Calls Tryz.prog 80 #[v,.string ⟨#[32]⟩] w fun e w'=>e = .returned (.string ⟨(joinC 32 l).toArray⟩) ∧ Below w.heap.size w w':=by
 rcases rowv_open h with ⟨rfl,h0⟩ | ⟨g,cap,rfl,h1,h2,h3,h4⟩
 ·exact absurd (List.length_eq_zero_iff.1 h0) hl
 ·have hgl:=(World.ownsRow.lt h g rfl).2
  have e1:(l.map fun a=>(⟨a.toArray⟩:ByteArray)).map (·.data.toList) = l:=by
   rw [List.map_map,show ((fun x:ByteArray=>x.data.toList) ∘ fun a:List UInt8=>(⟨a.toArray⟩:ByteArray)) = id from by funext a;simp,List.map_id]
  have hj:=Shf.join g 0 cap (l.map fun a=>⟨a.toArray⟩) ⟨#[32]⟩ w (fun j x hx=>by
   have hjl:j < l.length:=by have:=(List.getElem?_eq_some_iff.1 hx).1;simpa using this
   rw [Nat.zero_add,h4 j (by omega)]
   simp only [List.getElem?_map,List.getElem?_eq_getElem hjl,Option.map_some,Option.some.injEq] at hx
   simp [sc,hjl,hx]) hgl (by simp;omega) (by simpa using h3) (by rw [e1,show (⟨#[32]⟩:ByteArray).data.toList = [32] from rfl,join_eq];exact hb)
  rw [e1,show (⟨#[32]⟩:ByteArray).data.toList = [32] from rfl,join_eq,List.length_map] at hj
  exact hj
def wordsL (op:Int) (n:Nat) (sf:Bool):List (List UInt8):=
 (if sf then [[42]] else []) ++ [(row op).name] ++ List.replicate (row op).regs.toNat [114,48] ++ (if (row op).number then [Lib.decDigits n] else [])
abbrev ic (op n:Int):Array Value:=#[.int .i64 op,.int .i64 0,.int .i64 0,.int .i64 0,.int .i64 n]
theorem word_more {W w3:World} {base:Nat} {v v':Value} {ws:List (List UInt8)} {a:List UInt8} (hA:AppdV W base 9 1 v ws.length (sc ws) [.string ⟨a.toArray⟩] v' w3):w3.ownsRow base 9 1 v' (ws ++ [a]).length (sc (ws ++ [a])):=by
 rw [sc_snoc,List.length_append];exact hA.1
theorem long_at (op:Int) (w:World) (hL:Laid w) (ht:(row op).target = 0):Calls Tryz.prog 135 #[.int .i64 op] w fun e w'=>e = .returned (.bool (row op).number) ∧ Below w.heap.size w w':=by
 refine (Asm.long_any op w hL).mono ?_
 rintro e w' ⟨rfl,hB⟩
 refine ⟨?_,hB⟩
 unfold longB
 rw [ht]
 simp
theorem joinC_bound (c:UInt8) (m:Nat):∀ l:List (List UInt8),(∀ a ∈ l,a.length ≤ m) → (joinC c l).length ≤ l.length * (m + 1)
 | [],_=>by simp [joinC]
 | [a],h=>by have:=h a (by simp);simp [joinC];omega
 | a :: b :: l,h=>by
  have h1:=joinC_bound c m (b :: l) (fun x hx=>h x (List.mem_cons_of_mem _ hx))
  have h2:=h a (by simp)
  simp only [joinC,List.length_append,List.length_cons] at h1 ⊢
  rw [Nat.add_mul (l.length + 1) 1 (m + 1)]
  omega
theorem short_len (op:Int) (n:Nat) (sf:Bool) (hn:n < 100) (hnl:(row op).name.length ≤ 20) (hr:(row op).regs ≤ 1):(wordsL op n sf).length ≤ 100 ∧ (joinC 32 (wordsL op n sf)).length ≤ 2100:=by
 have hd:(Lib.decDigits n).length ≤ 20:=by
  have:=(right_at n (by omega)).2.2.2.2
  unfold Lib.itoa at this
  rw [if_neg (by omega),Int.toNat_natCast] at this
  omega
 have hl:(wordsL op n sf).length ≤ 100:=by
  unfold wordsL
  cases sf <;> cases (row op).number <;> simp <;> omega
 have hb:=joinC_bound 32 20 (wordsL op n sf) (fun a ha=>by
  unfold wordsL at ha
  simp only [List.mem_append,List.mem_replicate,List.mem_singleton] at ha
  rcases ha with ((ha | rfl) | ⟨_,rfl⟩) | ha
  ·cases sf
   ·cases ha
   ·simp at ha;rw [ha];decide
  ·exact hnl
  ·decide
  ·cases hq:(row op).number
   ·rw [hq] at ha;cases ha
   ·rw [hq] at ha;simp at ha;rw [ha];exact hd)
 refine ⟨hl,?_⟩
 have:(wordsL op n sf).length * 21 ≤ 100 * 21:=Nat.mul_le_mul_right _ hl
 omega
theorem short_words (op:Int) (n:Nat) (sf:Bool) (hn:n < 100) (hnl:(row op).name.length ≤ 20) (hr:(row op).regs ≤ 1):wordsL op n sf ≠ [] ∧ (wordsL op n sf).length ≤ 100 ∧ (joinC 32 (wordsL op n sf)).length ≤ 140737488355328:=by
 have h:=short_len op n sf hn hnl hr
 exact ⟨by unfold wordsL;simp,h.1,by omega⟩
structure LnW (w0:World) (op n:Int) (v:Value) (ws:List (List UInt8)) (W:World):Prop where
 below:Below w0.heap.size w0 W
 ins:Blk W w0.heap.size (ic op n) 84
 row:W.ownsRow w0.heap.size 9 1 v ws.length (sc ws)
theorem LnW.go {w0 W W':World} {op n:Int} {v:Value} {ws:List (List UInt8)} (h:LnW w0 op n v ws W) (hB:Below W.heap.size W W'):LnW w0 op n v ws W':=
 ⟨h.below.trans (hB.mono h.below.size),h.ins.below hB h.ins.lt,rowv_below h.row hB⟩
theorem LnW.app {w0 W w3:World} {op n:Int} {v v':Value} {ws:List (List UInt8)} {a:List UInt8} (h:LnW w0 op n v ws W) (hv:v.ownBlock ≠ some w0.heap.size) (hA:AppdV W w0.heap.size 9 1 v ws.length (sc ws) [.string ⟨a.toArray⟩] v' w3):LnW w0 op n v' (ws ++ [a]) w3:=
 ⟨below_grown h.below hA.2.1 (fun j hj=>(World.ownsRow.lt h.row j hj).1),h.ins.kept hA.2.1 (fun e=>hv e.symm),word_more hA⟩
theorem LnW.app0 {w0 W w3:World} {op n:Int} {v v':Value} {ws:List (List UInt8)} {a:List UInt8} (h:LnW w0 op n v ws W) (hv:v.ownBlock ≠ some w0.heap.size) (hA:AppdV W w0.heap.size 9 1 v ws.length (sc ws) [.string ⟨a.toArray⟩] v' w3):v'.ownBlock ≠ some w0.heap.size:=fun e=>by
 rcases hA.2.2 _ e with h1 | h1
 ·exact hv h1
 ·have:=h.ins.lt;omega
set_option maxHeartbeats 4000000 in
theorem line_walk (op:Int) (n r:Nat) (sf:Bool) (nm:List UInt8) (w:World) (hL:Laid w) (hp:Shf.Pow w) (hc:Val.isaB op n 1 1 = true) (ht:(row op).target = 0) (hr:(row op).regs = r) (hr1:r ≤ 1) (hn:n < 100) (hnm:(row op).name = nm) (hnl:nm.length ≤ 20) :
  Calls Tryz.prog 71 #[.agg #[.int .i64 op,.int .i64 0,.int .i64 0,.int .i64 0,.int .i64 n],.bool sf] w fun e w'=>e = .returned (.tuple #[.string ⟨(joinC 32 (wordsL op n sf)).toArray⟩,.int .i64 0]) ∧ Below w.heap.size w w':=by
 have HL:=Lib.hid (And.intro hL hp)
 have HR:=Lib.hid (And.intro hr (And.intro hr1 (And.intro hn (And.intro hnm hnl))))
 have HC:=Lib.hid hc
 have HT:=Lib.hid ht
 have hB0:Below w.heap.size w ((w.alloc (.cells #[.int .i64 op,.int .i64 0,.int .i64 0,.int .i64 0,.int .i64 n] 84)).alloc (.cells #[.int .i64 op,.int .i64 0,.int .i64 0,.int .i64 0,.int .i64 n] 84)):=below_alloc (below_alloc (Below.refl _ _) _) _
 have b1:Blk ((w.alloc (.cells #[.int .i64 op,.int .i64 0,.int .i64 0,.int .i64 0,.int .i64 n] 84)).alloc (.cells #[.int .i64 op,.int .i64 0,.int .i64 0,.int .i64 0,.int .i64 n] 84)) w.heap.size #[.int .i64 op,.int .i64 0,.int .i64 0,.int .i64 0,.int .i64 n] 84:=(Blk.new w _ 84).below (below_alloc (Below.refl _ _) _) (by simp)
 have b2:Blk ((w.alloc (.cells #[.int .i64 op,.int .i64 0,.int .i64 0,.int .i64 0,.int .i64 n] 84)).alloc (.cells #[.int .i64 op,.int .i64 0,.int .i64 0,.int .i64 0,.int .i64 n] 84)) (w.heap.size + 1) #[.int .i64 op,.int .i64 0,.int .i64 0,.int .i64 0,.int .i64 n] 84:=by
  have:=Blk.new (w.alloc (.cells #[.int .i64 op,.int .i64 0,.int .i64 0,.int .i64 0,.int .i64 n] 84)) #[.int .i64 op,.int .i64 0,.int .i64 0,.int .i64 0,.int .i64 n] 84
  simpa using this
 have HB0:=Lib.hid (And.intro hB0 (And.intro b1 b2))
 clear hL hp hc ht hr hr1 hn hnm hnl hB0 b1 b2
 obtain ⟨sb,hsb⟩:∃ sb,Hid (sb = sf):=⟨sf,rfl⟩
 obtain hr01:r = 0 ∨ r = 1:=by have:=HR.out.2.1;omega
 have s0:∀ (b:Nat) (W:World),(Instr.sliceAt 237 (.pointer (some ⟨b,0,none⟩)) none (some (.int .i64 0)) none).run Tryz.prog W = .ok (.slice (some ⟨b,0,none⟩) 0 3) W:=fun b W=>by kernel_rfl
 have s1:∀ (b:Nat) (W:World),(Instr.sliceAt 237 (.pointer (some ⟨b,0,none⟩)) none (some (.int .i64 1)) none).run Tryz.prog W = .ok (.slice (some ⟨b,0,none⟩) 1 3) W:=fun b W=>by kernel_rfl
 go_enter Tryz.func71,Tryz.ntmps71
 rcases hr01 with rfl | rfl
 ·cases sf
  all_goals
   go_wp2_with (first
    | (go_at_call 130;refine (Isa.target_any op _ (HL.out.1.below HB0.out.1)).mono ?_;rintro e w1 ⟨rfl,hB⟩;rw [HT.out];have k1:=HB0.out.2.1.below hB HB0.out.2.1.lt;have k2:=HB0.out.2.2.below hB HB0.out.2.2.lt;have HB1:=Lib.hid (And.intro (HB0.out.1.trans (hB.mono HB0.out.1.size)) (And.intro k1 k2));have q0:=k2.cell 0;have q1:=k2.cell 1;have q2:=k2.cell 2;have q3:=k2.cell 3;have q4:=k2.cell 4;simp only [List.getElem?_toArray,List.getElem?_cons_zero,List.getElem?_cons_succ] at q0 q1 q2 q3 q4;clear hB k1 k2)
    | (go_at_call 131;refine (Val.check_any op n 1 1 _ (HL.out.1.below HB1.out.1) HC.out (by decide) (by decide) (by have:=HR.out;omega)).mono ?_;rintro e w2 ⟨rfl,hB⟩;have k1:=HB1.out.2.1.below hB HB1.out.2.1.lt;have HW2:Hid (LnW w op n (.slice none 0 0) [] w2):=⟨HB1.out.1.trans (hB.mono HB1.out.1.size),k1,World.ownsRow_nil _ _ _ _⟩;have q5:=k1.cell 0;simp only [List.getElem?_toArray,List.getElem?_cons_zero] at q5;clear hB k1 q0 q1 q2 q3 q4)
    | (go_at_call 132;first
     | (have hh:=HW3;refine (Isa.name_any op _ (HL.out.1.below HW3.out.below)).mono ?_;rintro e w4 ⟨rfl,hB⟩;rw [HR.out.2.2.2.1];have HW4:=Lib.hid (HW3.out.go hB);clear hB hh)
     | (refine (Isa.name_any op _ (HL.out.1.below HW2.out.below)).mono ?_;rintro e w4 ⟨rfl,hB⟩;rw [HR.out.2.2.2.1];have HW4:=Lib.hid (HW2.out.go hB);have HV4:Hid ((Value.slice none 0 0).ownBlock ≠ some w.heap.size):=(fun e=>(by simp [Value.ownBlock] at e));clear hB))
    | (at_builtin;first
     | (have hh:=HW4;refine appV Tryz.underlying170 info9 rfl (by decide) (by decide) w.heap.size _ rfl _ _ rfl _ _ _ ⟨w4.heap.size,0,none⟩ 1 [.string ⟨nm.toArray⟩] rfl rfl (.inl (rowv_below HW4.out.row (below_alloc (Below.refl _ _) _))) rfl (new1 w4 _ 9) (by simp [Value.oneCell']) (by have:=HW4.out.below.size;simp;omega) (by simp) ?_;intro v5 w5 hA;have HV5:=Lib.hid ((HW4.out.go (below_alloc (Below.refl w4.heap.size w4) (.cells #[.string ⟨nm.toArray⟩] 9))).app0 HV4.out hA);have HW5:=Lib.hid ((HW4.out.go (below_alloc (Below.refl w4.heap.size w4) (.cells #[.string ⟨nm.toArray⟩] 9))).app HV4.out hA);have p0:=HW5.out.ins.cell 0;have p1:=HW5.out.ins.cell 1;have p2:=HW5.out.ins.cell 2;have p3:=HW5.out.ins.cell 3;simp only [List.getElem?_toArray,List.getElem?_cons_zero,List.getElem?_cons_succ] at p0 p1 p2 p3;have HX5:Hid (LnW w op n v5 _ (w5.alloc (.cells #[.int .i64 0,.int .i64 0,.int .i64 0] 237))):=HW5.out.go (below_alloc (Below.refl _ _) _);have x0:=HX5.out.ins.cell 0;simp only [List.getElem?_toArray,List.getElem?_cons_zero] at x0;clear hA hh)
     | (refine appV Tryz.underlying170 info9 rfl (by decide) (by decide) w.heap.size _ rfl _ _ rfl (.slice none 0 0) 0 [] ⟨w2.heap.size,0,none⟩ 1 [.string ⟨#[42]⟩] rfl rfl (.inl (World.ownsRow_nil _ _ _ _)) rfl (new1 w2 _ 9) (by simp [Value.oneCell']) (by have:=HW2.out.below.size;simp;omega) (by simp) ?_;intro v3 w3 hA;have HV4:=Lib.hid ((HW2.out.go (below_alloc (Below.refl w2.heap.size w2) (.cells #[.string ⟨#[42]⟩] 9))).app0 (a:=[42]) (by simp [Value.ownBlock]) hA);have HW3:=Lib.hid ((HW2.out.go (below_alloc (Below.refl w2.heap.size w2) (.cells #[.string ⟨#[42]⟩] 9))).app (a:=[42]) (by simp [Value.ownBlock]) hA);have p9:=HW3.out.ins.cell 0;simp only [List.getElem?_toArray,List.getElem?_cons_zero] at p9;clear hA))
    | (go_at_call 133;refine (Isa.regs_any op _ (HL.out.1.below HX5.out.below)).mono ?_;rintro e w6 ⟨rfl,hB⟩;rw [HR.out.1];have HW6:=Lib.hid (HX5.out.go hB);have hz:=(Blk.new w5 #[.int .i64 0,.int .i64 0,.int .i64 0] 237).below hB (by simp);have HZ6:=Lib.hid hz;clear hB hz))
   clear s0 s1 q5 p0 p1 p2 p3 x0
   try clear p9
   obtain ⟨ws,hws,HW⟩:∃ ws,Hid (ws = _) ∧ Hid (LnW w op n v5 ws w6):=⟨_,rfl,HW6⟩
   clear HW6 HX5 HW5 HW4 HW2 HB1 HB0
   go_loopw [7,42] (fun t7 t42 wr=>((t42 = .int .i64 0 ∧ LnW w op n t7 ws wr ∧ Blk wr w5.heap.size #[.int .i64 0,.int .i64 0,.int .i64 0] 237) ∨ (t42 = .int .i64 1 ∧ (row op).regs = 1 ∧ LnW w op n t7 (ws ++ [[114,48]]) wr)) ∧ t7.ownBlock ≠ some w.heap.size) (fun _ t _=>1 - (intOf t).toNat)
   case atStart=>exact ⟨.inl ⟨rfl,HW.out,HZ6.out⟩,HV5.out⟩
   case round=>
    obtain ⟨hk,hv⟩:=hrel
    have HV:=Lib.hid hv
    clear hv
    rcases hk with ⟨rfl,hl,hz⟩ | ⟨rfl,hr',hl⟩
    ·have HLn:=Lib.hid hl
     have y0:=hl.ins.cell 0
     simp only [List.getElem?_toArray,List.getElem?_cons_zero] at y0
     have HLg:=Lib.hid (long_at op wr (HL.out.1.below hl.below) HT.out)
     clear hl
     cases hnum:(row op).number
     ·rw [hnum] at HLg
      have e:wordsL op n sb = ws:=(by rw [hsb.out];simp [wordsL,HR.out.1,hnum,HR.out.2.2.2.1,hws.out])
      have HE:=Lib.hid e
      have HSh:=Lib.hid (short_words op n sb HR.out.2.2.1 (by rw [HR.out.2.2.2.1];exact HR.out.2.2.2.2) (by rw [HR.out.1];decide))
      rw [e] at HSh
      clear e hnum
      go_wp2_with (first
       | (go_at_call 135;refine HLg.out.mono ?_;rintro e w7 ⟨rfl,hB⟩;have HL7:=Lib.hid (HLn.out.go hB);clear hB)
       | (go_at_call 80;refine (join_own (ws) _ _ _ HL7.out.row HSh.out.1 HSh.out.2.1 HSh.out.2.2).mono ?_;rintro e w8 ⟨rfl,hB⟩;have HB8:=Lib.hid (HL7.out.below.trans (hB.mono HL7.out.below.size));clear hB))
      go_ret2
      have E:=HE.out
      rw [hsb.out] at E
      rw [E]
      exact ⟨rfl,HB8.out⟩
     ·rw [hnum] at HLg
      have e:wordsL op n sb = ws ++ [Lib.decDigits n]:=(by rw [hsb.out];simp [wordsL,HR.out.1,hnum,HR.out.2.2.2.1,hws.out])
      have HE:=Lib.hid e
      have HSh:=Lib.hid (short_words op n sb HR.out.2.2.1 (by rw [HR.out.2.2.2.1];exact HR.out.2.2.2.2) (by rw [HR.out.1];decide))
      rw [e] at HSh
      clear e hnum
      go_wp2_with (first
       | (go_at_call 135;refine HLg.out.mono ?_;rintro e w7 ⟨rfl,hB⟩;have HL7:=Lib.hid (HLn.out.go hB);have y4:=HL7.out.ins.cell 4;simp only [List.getElem?_toArray,List.getElem?_cons_zero,List.getElem?_cons_succ] at y4;clear hB)
       | (go_at_call 136;refine (Shf.fint n HR.out.2.2.1 _).mono ?_;rintro e w8 ⟨rfl,rfl⟩)
       | (at_builtin;refine appV Tryz.underlying170 info9 rfl (by decide) (by decide) w.heap.size _ rfl _ _ rfl _ _ _ ⟨_,0,none⟩ 1 [.string ⟨(Lib.decDigits n).toArray⟩] rfl rfl (.inl (rowv_below HL7.out.row (below_alloc (Below.refl _ _) _))) rfl (new1 _ _ 9) (by simp [Value.oneCell']) (by have:=HL7.out.below.size;simp;omega) (by have:=HSh.out.2.1;simp at this;simp;omega) ?_;intro v9 w9 hA;have HL9:=Lib.hid ((HL7.out.go (below_alloc (Below.refl _ _) (.cells #[.string ⟨(Lib.decDigits n).toArray⟩] 9))).app HV.out hA);clear hA)
       | (go_at_call 80;refine (join_own (ws ++ [Lib.decDigits n]) _ _ _ HL9.out.row HSh.out.1 HSh.out.2.1 HSh.out.2.2).mono ?_;rintro e w8 ⟨rfl,hB⟩;have HB8:=Lib.hid (HL9.out.below.trans (hB.mono HL9.out.below.size));clear hB))
      go_ret2
      have E:=HE.out
      rw [hsb.out] at E
      rw [E]
      exact ⟨rfl,HB8.out⟩
    ·rw [HR.out.1] at hr';exact absurd hr' (by decide)
 ·cases sf
  all_goals
   go_wp2_with (first
    | (go_at_call 130;refine (Isa.target_any op _ (HL.out.1.below HB0.out.1)).mono ?_;rintro e w1 ⟨rfl,hB⟩;rw [HT.out];have k1:=HB0.out.2.1.below hB HB0.out.2.1.lt;have k2:=HB0.out.2.2.below hB HB0.out.2.2.lt;have HB1:=Lib.hid (And.intro (HB0.out.1.trans (hB.mono HB0.out.1.size)) (And.intro k1 k2));have q0:=k2.cell 0;have q1:=k2.cell 1;have q2:=k2.cell 2;have q3:=k2.cell 3;have q4:=k2.cell 4;simp only [List.getElem?_toArray,List.getElem?_cons_zero,List.getElem?_cons_succ] at q0 q1 q2 q3 q4;clear hB k1 k2)
    | (go_at_call 131;refine (Val.check_any op n 1 1 _ (HL.out.1.below HB1.out.1) HC.out (by decide) (by decide) (by have:=HR.out;omega)).mono ?_;rintro e w2 ⟨rfl,hB⟩;have k1:=HB1.out.2.1.below hB HB1.out.2.1.lt;have HW2:Hid (LnW w op n (.slice none 0 0) [] w2):=⟨HB1.out.1.trans (hB.mono HB1.out.1.size),k1,World.ownsRow_nil _ _ _ _⟩;have q5:=k1.cell 0;simp only [List.getElem?_toArray,List.getElem?_cons_zero] at q5;clear hB k1 q0 q1 q2 q3 q4)
    | (go_at_call 132;first
     | (have hh:=HW3;refine (Isa.name_any op _ (HL.out.1.below HW3.out.below)).mono ?_;rintro e w4 ⟨rfl,hB⟩;rw [HR.out.2.2.2.1];have HW4:=Lib.hid (HW3.out.go hB);clear hB hh)
     | (refine (Isa.name_any op _ (HL.out.1.below HW2.out.below)).mono ?_;rintro e w4 ⟨rfl,hB⟩;rw [HR.out.2.2.2.1];have HW4:=Lib.hid (HW2.out.go hB);have HV4:Hid ((Value.slice none 0 0).ownBlock ≠ some w.heap.size):=(fun e=>(by simp [Value.ownBlock] at e));clear hB))
    | (at_builtin;first
     | (have hh:=HW4;refine appV Tryz.underlying170 info9 rfl (by decide) (by decide) w.heap.size _ rfl _ _ rfl _ _ _ ⟨w4.heap.size,0,none⟩ 1 [.string ⟨nm.toArray⟩] rfl rfl (.inl (rowv_below HW4.out.row (below_alloc (Below.refl _ _) _))) rfl (new1 w4 _ 9) (by simp [Value.oneCell']) (by have:=HW4.out.below.size;simp;omega) (by simp) ?_;intro v5 w5 hA;have HV5:=Lib.hid ((HW4.out.go (below_alloc (Below.refl w4.heap.size w4) (.cells #[.string ⟨nm.toArray⟩] 9))).app0 HV4.out hA);have HW5:=Lib.hid ((HW4.out.go (below_alloc (Below.refl w4.heap.size w4) (.cells #[.string ⟨nm.toArray⟩] 9))).app HV4.out hA);have p0:=HW5.out.ins.cell 0;have p1:=HW5.out.ins.cell 1;have p2:=HW5.out.ins.cell 2;have p3:=HW5.out.ins.cell 3;simp only [List.getElem?_toArray,List.getElem?_cons_zero,List.getElem?_cons_succ] at p0 p1 p2 p3;have HX5:Hid (LnW w op n v5 _ (w5.alloc (.cells #[.int .i64 0,.int .i64 0,.int .i64 0] 237))):=HW5.out.go (below_alloc (Below.refl _ _) _);have x0:=HX5.out.ins.cell 0;simp only [List.getElem?_toArray,List.getElem?_cons_zero] at x0;clear hA hh)
     | (refine appV Tryz.underlying170 info9 rfl (by decide) (by decide) w.heap.size _ rfl _ _ rfl (.slice none 0 0) 0 [] ⟨w2.heap.size,0,none⟩ 1 [.string ⟨#[42]⟩] rfl rfl (.inl (World.ownsRow_nil _ _ _ _)) rfl (new1 w2 _ 9) (by simp [Value.oneCell']) (by have:=HW2.out.below.size;simp;omega) (by simp) ?_;intro v3 w3 hA;have HV4:=Lib.hid ((HW2.out.go (below_alloc (Below.refl w2.heap.size w2) (.cells #[.string ⟨#[42]⟩] 9))).app0 (a:=[42]) (by simp [Value.ownBlock]) hA);have HW3:=Lib.hid ((HW2.out.go (below_alloc (Below.refl w2.heap.size w2) (.cells #[.string ⟨#[42]⟩] 9))).app (a:=[42]) (by simp [Value.ownBlock]) hA);have p9:=HW3.out.ins.cell 0;simp only [List.getElem?_toArray,List.getElem?_cons_zero] at p9;clear hA))
    | (go_at_call 133;refine (Isa.regs_any op _ (HL.out.1.below HX5.out.below)).mono ?_;rintro e w6 ⟨rfl,hB⟩;rw [HR.out.1];have HW6:=Lib.hid (HX5.out.go hB);have hz:=(Blk.new w5 #[.int .i64 0,.int .i64 0,.int .i64 0] 237).below hB (by simp);have HZ6:=Lib.hid hz;clear hB hz))
   clear s0 s1 q5 p0 p1 p2 p3 x0
   try clear p9
   obtain ⟨ws,hws,HW⟩:∃ ws,Hid (ws = _) ∧ Hid (LnW w op n v5 ws w6):=⟨_,rfl,HW6⟩
   clear HW6 HX5 HW5 HW4 HW2 HB1 HB0
   go_loopw [7,42] (fun t7 t42 wr=>((t42 = .int .i64 0 ∧ LnW w op n t7 ws wr ∧ Blk wr w5.heap.size #[.int .i64 0,.int .i64 0,.int .i64 0] 237) ∨ (t42 = .int .i64 1 ∧ (row op).regs = 1 ∧ LnW w op n t7 (ws ++ [[114,48]]) wr)) ∧ t7.ownBlock ≠ some w.heap.size) (fun _ t _=>1 - (intOf t).toNat)
   case atStart=>exact ⟨.inl ⟨rfl,HW.out,HZ6.out⟩,HV5.out⟩
   case round=>
    obtain ⟨hk,hv⟩:=hrel
    have HV:=Lib.hid hv
    clear hv
    rcases hk with ⟨rfl,hk,hz⟩ | ⟨rfl,hr',hl⟩
    ·skip
     have hl:=hk
     have HLn:=Lib.hid hl
     have z0:=hz.cell 0
     simp only [List.getElem?_toArray,List.getElem?_cons_zero] at z0
     have hp:=Pow.below HL.out.2 hl.below
     have hlen:¬ 9223372036854775807 < 1 + (Lib.itoa 0).length:=(by rw [show Lib.itoa 0 = [48] from itoa_nat 0 (by decide)];decide)
     have HP:=Lib.hid hp
     have h00:(⟨#[114]⟩:ByteArray) ++ ⟨(Lib.itoa 0).toArray⟩ = ⟨([114,48]:List UInt8).toArray⟩:=(by rw [show Lib.itoa 0 = [48] from itoa_nat 0 (by decide)];exact bytes_append [114] [48])
     clear hl hp hz hk
     go_wp2_with (first
      | (go_at_call 134;refine (Shf.itoa 0 (by decide) (by decide) wr HP.out).mono ?_;rintro e w7 ⟨rfl,hB⟩;have HL7:=Lib.hid (HLn.out.go hB);clear hB)
      | (at_builtin;(refine appV Tryz.underlying170 info9 rfl (by decide) (by decide) w.heap.size _ rfl _ _ rfl _ _ _ ⟨w7.heap.size,0,none⟩ 1 [.string ⟨([114,48]:List UInt8).toArray⟩] rfl rfl (.inl (rowv_below HL7.out.row (below_alloc (Below.refl _ _) _))) rfl (by first | exact new1 w7 _ 9 | (rw [h00];exact new1 w7 _ 9)) (by simp [Value.oneCell']) (by have:=HL7.out.below.size;simp;omega) (by rw [hws.out];simp) ?_;intro v9 w9 hA;have HA9:=Lib.hid ((HL7.out.go (below_alloc (Below.refl _ _) _)).app HV.out hA);have HA8:=Lib.hid ((HL7.out.go (below_alloc (Below.refl _ _) _)).app0 HV.out hA);clear hA)))
     refine ⟨⟨.inr ⟨rfl,HR.out.1,HA9.out⟩,HA8.out⟩,by simp [intOf]⟩
    ·have HLn:=Lib.hid hl
     have y0:=hl.ins.cell 0
     simp only [List.getElem?_toArray,List.getElem?_cons_zero] at y0
     have HLg:=Lib.hid (long_at op wr (HL.out.1.below hl.below) HT.out)
     clear hl
     cases hnum:(row op).number
     ·rw [hnum] at HLg
      have e:wordsL op n sb = (ws ++ [[114,48]]):=(by rw [hsb.out];simp [wordsL,HR.out.1,hnum,HR.out.2.2.2.1,hws.out])
      have HE:=Lib.hid e
      have HSh:=Lib.hid (short_words op n sb HR.out.2.2.1 (by rw [HR.out.2.2.2.1];exact HR.out.2.2.2.2) (by rw [HR.out.1];decide))
      rw [e] at HSh
      clear e hnum
      go_wp2_with (first
       | (go_at_call 135;refine HLg.out.mono ?_;rintro e w7 ⟨rfl,hB⟩;have HL7:=Lib.hid (HLn.out.go hB);clear hB)
       | (go_at_call 80;refine (join_own ((ws ++ [[114,48]])) _ _ _ HL7.out.row HSh.out.1 HSh.out.2.1 HSh.out.2.2).mono ?_;rintro e w8 ⟨rfl,hB⟩;have HB8:=Lib.hid (HL7.out.below.trans (hB.mono HL7.out.below.size));clear hB))
      go_ret2
      have E:=HE.out
      rw [hsb.out] at E
      rw [E]
      exact ⟨rfl,HB8.out⟩
     ·rw [hnum] at HLg
      have e:wordsL op n sb = (ws ++ [[114,48]]) ++ [Lib.decDigits n]:=(by rw [hsb.out];simp [wordsL,HR.out.1,hnum,HR.out.2.2.2.1,hws.out])
      have HE:=Lib.hid e
      have HSh:=Lib.hid (short_words op n sb HR.out.2.2.1 (by rw [HR.out.2.2.2.1];exact HR.out.2.2.2.2) (by rw [HR.out.1];decide))
      rw [e] at HSh
      clear e hnum
      go_wp2_with (first
       | (go_at_call 135;refine HLg.out.mono ?_;rintro e w7 ⟨rfl,hB⟩;have HL7:=Lib.hid (HLn.out.go hB);have y4:=HL7.out.ins.cell 4;simp only [List.getElem?_toArray,List.getElem?_cons_zero,List.getElem?_cons_succ] at y4;clear hB)
       | (go_at_call 136;refine (Shf.fint n HR.out.2.2.1 _).mono ?_;rintro e w8 ⟨rfl,rfl⟩)
       | (at_builtin;refine appV Tryz.underlying170 info9 rfl (by decide) (by decide) w.heap.size _ rfl _ _ rfl _ _ _ ⟨_,0,none⟩ 1 [.string ⟨(Lib.decDigits n).toArray⟩] rfl rfl (.inl (rowv_below HL7.out.row (below_alloc (Below.refl _ _) _))) rfl (new1 _ _ 9) (by simp [Value.oneCell']) (by have:=HL7.out.below.size;simp;omega) (by have:=HSh.out.2.1;simp at this;simp;omega) ?_;intro v9 w9 hA;have HL9:=Lib.hid ((HL7.out.go (below_alloc (Below.refl _ _) (.cells #[.string ⟨(Lib.decDigits n).toArray⟩] 9))).app HV.out hA);clear hA)
       | (go_at_call 80;refine (join_own ((ws ++ [[114,48]]) ++ [Lib.decDigits n]) _ _ _ HL9.out.row HSh.out.1 HSh.out.2.1 HSh.out.2.2).mono ?_;rintro e w8 ⟨rfl,hB⟩;have HB8:=Lib.hid (HL9.out.below.trans (hB.mono HL9.out.below.size));clear hB))
      go_ret2
      have E:=HE.out
      rw [hsb.out] at E
      rw [E]
      exact ⟨by first | rfl | simp,HB8.out⟩
end Go.Proofs.YtgadhchejmlfjaaGreatDoor.Txt
end
section
namespace Go.Proofs.YtgadhchejmlfjaaGreatDoor.Txt
open Go.RowKit Go.Esc
structure Wd (w:World) (wb sb:Nat) (ws:List (List UInt8)) (j:Nat):Prop where
 blk:∃ o,(j < ws.length → o = j) ∧ Blk w wb #[.slice (some ⟨sb,o,none⟩) (ws.length - j:Nat) (ws.length - j:Nat),.bool true] 391
 str:∀ i,i < ws.length → w.cell? ⟨sb,i,none⟩ = some (.string ⟨(ws[i]?.getD []).toArray⟩)
 lt:sb < w.heap.size
 ne:sb ≠ wb
theorem Wd.only {w w':World} {wb sb:Nat} {ws:List (List UInt8)} {j:Nat} (h:Wd w wb sb ws j) {S:Nat → Prop} (o:Only S w w') (h1:¬ S wb) (h2:¬ S sb):Wd w' wb sb ws j:=
 ⟨(by obtain ⟨a,b,c⟩:=h.blk;exact ⟨a,b,c.only o h1⟩),fun i hi=>(World.cell?_of_block (o.block sb h.lt h2)).trans (h.str i hi),Nat.lt_of_lt_of_le h.lt o.size,h.ne⟩
theorem Wd.below {w w':World} {wb sb:Nat} {ws:List (List UInt8)} {j:Nat} (h:Wd w wb sb ws j) (o:Below w.heap.size w w'):Wd w' wb sb ws j:=
 h.only (S:=fun _=>False) ((Only.refl _ w).below o) (fun x=>x) (fun x=>x)
set_option maxHeartbeats 2000000 in
theorem next_any (wb sb:Nat) (ws:List (List UInt8)) (j:Nat) (w:World) (h:Wd w wb sb ws j) (hj:j < ws.length) (hl:ws.length ≤ 1000) :
  Calls Tryz.prog 323 #[.pointer (some ⟨wb,0,none⟩)] w fun e w'=>e = .returned (.string ⟨(ws[j]?.getD []).toArray⟩) ∧ Wd w' wb sb ws (j + 1) ∧ Only (fun k=>k = wb) w w':=by
 obtain ⟨m,hm⟩:∃ m,ws.length - j = m:=⟨_,rfl⟩
 obtain ⟨o,ho,hb⟩:=h.blk
 obtain rfl:=ho hj
 rw [hm] at hb
 have q0:=hb.cell 0
 have f0:=hb.free 0
 simp only [List.getElem?_toArray,List.getElem?_cons_zero] at q0
 have qs:=h.str o hj
 have hm0:((m:Int) == 0) = false:=by simp;omega
 have hm1:(0:Int) < (m:Int):=by omega
 have hm2:(1:Int) ≤ (m:Int):=by omega
 have H:=Lib.hid (And.intro h (And.intro hb (And.intro hm hl)))
 clear h hb hm hj hl
 generalize ws[o]?.getD [] = s at *
 go_enter Tryz.func323,Tryz.ntmps323
 by_cases h1:m = 1
 ·subst h1
  go_wp2
  go_ret
  refine ⟨rfl,⟨⟨o,fun h=>by have:=H.out.2.2.1;omega,?_⟩,fun i hi=>(World.cell?_of_block ((Only.set (S:=fun k=>k = wb) (Only.refl _ w) (.inr rfl) 0 _).block sb H.out.1.lt H.out.1.ne)).trans (H.out.1.str i hi),by have:=H.out.1.lt;simpa using this,H.out.1.ne⟩,Only.set (S:=fun k=>k = wb) (Only.refl _ w) (.inr rfl) _ _⟩
  have q:=H.out.2.1.set 0 (.slice (some ⟨sb,o,none⟩) 0 0)
  rw [show ws.length - (o + 1) = 0 by have:=H.out.2.2.1;omega]
  exact q
 ·go_wp2
  go_ret
  refine ⟨rfl,⟨⟨o + 1,fun h=>rfl,?_⟩,fun i hi=>(World.cell?_of_block ((Only.set (S:=fun k=>k = wb) (Only.refl _ w) (.inr rfl) 0 _).block sb H.out.1.lt H.out.1.ne)).trans (H.out.1.str i hi),by have:=H.out.1.lt;simpa using this,H.out.1.ne⟩,Only.set (S:=fun k=>k = wb) (Only.refl _ w) (.inr rfl) _ _⟩
  have q:=H.out.2.1.set 0 (.slice (some ⟨sb,o + 1,none⟩) (m - 1) (m - 1))
  rw [show ws.length - (o + 1) = m - 1 by have:=H.out.2.2.1;omega]
  exact q
set_option maxHeartbeats 2000000 in
theorem reg_any (wb sb:Nat) (ws:List (List UInt8)) (j:Nat) (w:World) (h:Wd w wb sb ws j) (hj:ws[j]? = some [114,48]) (hl:ws.length ≤ 1000) :
  Calls Tryz.prog 325 #[.pointer (some ⟨wb,0,none⟩)] w fun e w'=>e = .returned (.int .i64 0) ∧ Wd w' wb sb ws (j + 1) ∧ Only (fun k=>k = wb) w w':=by
 have hjl:j < ws.length:=(List.getElem?_eq_some_iff.1 hj).1
 have HN:=next_any wb sb ws j w h hjl hl
 rw [hj,Option.getD_some] at HN
 have HN:=Lib.hid HN
 clear h hj hjl hl
 go_enter Tryz.func325,Tryz.ntmps325
 go_wp2_with (go_at_call 323;refine HN.out.mono ?_;rintro e w1 ⟨rfl,hW,hO⟩;have HW:=Lib.hid (And.intro hW hO);clear hW hO)
 go_ret
 exact ⟨rfl,HW.out.1,HW.out.2⟩
end Go.Proofs.YtgadhchejmlfjaaGreatDoor.Txt
end
section
namespace Go.Proofs.YtgadhchejmlfjaaGreatDoor.Asm
open Go.RowKit Go.Esc
open Go.Proofs.YtgadhchejmlfjaaGreatDoor.Isa (row rows Laid noRow)
def rowC (r:Isa.Row):List Value:=[.string ⟨r.name.toArray⟩,.int .i64 r.regs,.int .i64 r.target,.bool r.number,.bool r.waits,.bool r.ends,.bool r.asks]
def tabC:List Value:=rows.flatMap rowC
theorem tab_at (k j:Nat) (hk:k < 24) (hj:j < 7):tabC[k * 7 + j]? = (rowC (rows[k]?.getD noRow))[j]?:=by
 rcases (show k = 0 ∨ k = 1 ∨ k = 2 ∨ k = 3 ∨ k = 4 ∨ k = 5 ∨ k = 6 ∨ k = 7 ∨ k = 8 ∨ k = 9 ∨ k = 10 ∨ k = 11 ∨ k = 12 ∨ k = 13 ∨ k = 14 ∨ k = 15 ∨ k = 16 ∨ k = 17 ∨ k = 18 ∨ k = 19 ∨ k = 20 ∨ k = 21 ∨ k = 22 ∨ k = 23 by omega) with rfl | rfl | rfl | rfl | rfl | rfl | rfl | rfl | rfl | rfl | rfl | rfl | rfl | rfl | rfl | rfl | rfl | rfl | rfl | rfl | rfl | rfl | rfl | rfl <;> rcases (show j = 0 ∨ j = 1 ∨ j = 2 ∨ j = 3 ∨ j = 4 ∨ j = 5 ∨ j = 6 by omega) with rfl | rfl | rfl | rfl | rfl | rfl | rfl <;> rfl
theorem load_tab (w:World) (h:Laid w):w.rangeAt 0 0 tabC:=fun j v hv=>by
 have hj:j < 168:=(List.getElem?_eq_some_iff.1 hv).1
 obtain ⟨c0,c1,c2,c3,c4,c5,c6⟩:=h.cell (j / 7) (by omega)
 have ht:=tab_at (j / 7) (j % 7) (by omega) (by omega)
 rw [show j / 7 * 7 + j % 7 = j by omega,hv] at ht
 rw [Nat.zero_add,show j = j / 7 * 7 + j % 7 by omega]
 generalize rows[j / 7]?.getD noRow = r at *
 generalize j / 7 = q at *
 rcases (show j % 7 = 0 ∨ j % 7 = 1 ∨ j % 7 = 2 ∨ j % 7 = 3 ∨ j % 7 = 4 ∨ j % 7 = 5 ∨ j % 7 = 6 by omega) with e | e | e | e | e | e | e <;> rw [e] at ht ⊢ <;> (rw [ht];first | exact c0 | exact c1 | exact c2 | exact c3 | exact c4 | exact c5 | exact c6)
theorem index_tab (k:Nat) (hk:k < 24) (w:World):(Instr.index 312 (.agg tabC.toArray) (.int .i64 k)).run Tryz.prog w = .ok (.agg (rowC (rows[k]?.getD noRow)).toArray) w:=by
 rcases (show k = 0 ∨ k = 1 ∨ k = 2 ∨ k = 3 ∨ k = 4 ∨ k = 5 ∨ k = 6 ∨ k = 7 ∨ k = 8 ∨ k = 9 ∨ k = 10 ∨ k = 11 ∨ k = 12 ∨ k = 13 ∨ k = 14 ∨ k = 15 ∨ k = 16 ∨ k = 17 ∨ k = 18 ∨ k = 19 ∨ k = 20 ∨ k = 21 ∨ k = 22 ∨ k = 23 by omega) with rfl | rfl | rfl | rfl | rfl | rfl | rfl | rfl | rfl | rfl | rfl | rfl | rfl | rfl | rfl | rfl | rfl | rfl | rfl | rfl | rfl | rfl | rfl | rfl <;> kernel_rfl
theorem names_ne (k op:Nat) (hk:k < op) (ho:op < 24):((rows[k]?.getD noRow).name == (rows[op]?.getD noRow).name) = false:=by
 have h:(List.range 24).all (fun o=>(List.range o).all fun k=>!((rows[k]?.getD noRow).name == (rows[o]?.getD noRow).name)) = true:=by kernel_rfl
 have h1:=List.all_eq_true.1 h op (List.mem_range.2 ho)
 have h2:=List.all_eq_true.1 h1 k (List.mem_range.2 hk)
 simpa using h2
set_option maxHeartbeats 4000000 in
theorem op_any (op:Nat) (nm:List UInt8) (w:World) (hL:Laid w) (ho:op < 24) (hnm:(rows[op]?.getD noRow).name = nm):Calls Tryz.prog 324 #[.string ⟨nm.toArray⟩] w fun e w'=>e = .returned (.tuple #[.int .i64 op,.bool true]) ∧ Below w.heap.size w w':=by
 have hld:=load_tab w hL
 have HIx:Hid (∀ k:Nat,k < 24 → ∀ W,(Instr.index 312 (.agg tabC.toArray) (.int .i64 k)).run Tryz.prog W = .ok (.agg (rowC (rows[k]?.getD noRow)).toArray) W):=fun k hk W=>index_tab k hk W
 have HO:=Lib.hid (And.intro ho hnm)
 have hsz:(Tryz.prog.info? 312).map (·.size) = some tabC.length:=by kernel_rfl
 clear hL ho hnm
 generalize tabC = tab at *
 go_enter Tryz.func324,Tryz.ntmps324
 go_wp2
 rename_i hK
 refine wp_load_mid 312 _ rfl 0 0 rfl tab _ hld Tryz.underlying312 rfl hsz ?_
 refine hK _ _ ?_
 clear hK hld hsz
 go_wp2
 go_loopw [7] (fun t wr=>∃ k:Nat,k ≤ op ∧ t = .int .i64 k ∧ Below w.heap.size w wr) (fun t _=>op + 1 - (intOf t).toNat)
 case atStart=>exact ⟨0,Nat.zero_le _,rfl,Below.refl _ _⟩
 case round=>
  obtain ⟨k,hk,rfl,hB⟩:=hrel
  have hk24:k < 24:=by have:=HO.out.1;omega
  have hkn:(k:Int) < 24:=by omega
  have hix:=HIx.out k hk24
  have hHB:=Lib.hid hB
  by_cases hlt:k < op
  ·have hne:=names_ne k op hlt HO.out.1
   rw [HO.out.2] at hne
   unfold rowC at hix
   generalize rows[k]?.getD noRow = r at *
   clear hB
   go_wp2
   exact ⟨⟨k + 1,by omega,by go_num,below_alloc hHB.out _⟩,by simp only [intOf];omega⟩
  ·obtain rfl:k = op:=by omega
   have hne:((rows[k]?.getD noRow).name == nm) = true:=by rw [HO.out.2];simp
   unfold rowC at hix
   generalize rows[k]?.getD noRow = r at *
   clear hB hlt
   go_wp2
   go_ret2
   exact ⟨rfl,below_alloc hHB.out _⟩
end Go.Proofs.YtgadhchejmlfjaaGreatDoor.Asm
end
