/- Parts of the proof of TopReaches. -/
import Derived.Test.YtgadhchejmlfjaaGreatDoorA3
import Derived.Shelf.Strings.BuilderK
set_option linter.unusedVariables false
set_option maxRecDepth 20000
section
namespace Go.Proofs.YtgadhchejmlfjaaGreatDoor.Txt
open Go.RowKit Go.Esc
theorem numOk_facts (l:List UInt8) (h:numOk l = true):l ≠ [] ∧ l.length ≤ 15 ∧ (∀ c ∈ l,48 ≤ c.toNat ∧ c.toNat ≤ 57) ∧ (l = [48] ∨ l.head? ≠ some 48):=by
 unfold numOk at h
 simp only [Bool.and_eq_true,decide_eq_true_eq,Bool.not_eq_true',List.all_eq_true,Bool.or_eq_true,beq_iff_eq,bne_iff_ne] at h
 obtain ⟨⟨⟨h1,h2⟩,h3⟩,h4⟩:=h
 exact ⟨fun e=>(by rw [e] at h1;cases h1),h2,h3,h4⟩
theorem no_minus (l:List UInt8) (h:numOk l = true):Lib.trimPrefix l [45] = l ∧ Lib.hasPrefix l [45] = false:=by
 obtain ⟨h1,_,h3,_⟩:=numOk_facts l h
 cases l with
 | nil=>exact absurd rfl h1
 | cons c l=>
  have hc:(45 == c) = false:=by
   have:=h3 c (by simp)
   rw [beq_eq_false_iff_ne]
   intro e
   rw [← e] at this
   exact absurd this.1 (by decide)
  have:Lib.hasPrefix (c :: l) [45] = false:=by simp [Lib.hasPrefix,List.isPrefixOf,hc]
  refine ⟨?_,this⟩
  simp [Lib.trimPrefix,this]
theorem byte_at (l:List UInt8) (k:Nat) (h:k < l.length):((⟨l.toArray⟩:ByteArray)[k]'(by show k < l.toArray.size;simpa using h)) = l[k]:=by
 show l.toArray[k]'_ = _
 simp
theorem bytes_cell (w:World) (l:List UInt8) (cap:Nat) (t:TypeId) (fr:Nat × Nat) (k:Nat) (h:k < l.length):(w.alloc (.cells (bytesRow ⟨l.toArray⟩ cap) t fr)).cell? ⟨w.heap.size,k,none⟩ = some (.int .u8 (l[k]).toNat):=by
 have:(w.alloc (.cells (bytesRow ⟨l.toArray⟩ cap) t fr)).heap[w.heap.size]? = some (.cells (bytesRow ⟨l.toArray⟩ cap) t fr):=by
  show (w.heap.push _)[w.heap.size]? = _;simp
 simp only [World.cell?,this]
 simp [bytesRow,Array.getElem?_append,h]
set_option maxHeartbeats 4000000 in
theorem number_any (l:List UInt8) (w:World) (h:numOk l = true):Calls Tryz.prog 326 #[.string ⟨l.toArray⟩] w fun e w'=>e = .returned (.tuple #[.int .i64 (numB l),.bool true]) ∧ Below w.heap.size w w':=by
 obtain ⟨h1,h2,h3,h4⟩:=numOk_facts l h
 obtain ⟨m1,m2⟩:=no_minus l h
 have HC:Hid (Calls Tryz.prog 355 #[.string ⟨l.toArray⟩,.string ⟨#[45]⟩] w fun e w'=>e = .returned (.tuple #[.string ⟨l.toArray⟩,.bool false]) ∧ w' = w):=by
  have:=Shf.cutp ⟨l.toArray⟩ ⟨#[45]⟩ w
  rw [show (⟨#[45]⟩:ByteArray).data.toList = [45] from rfl,show (⟨l.toArray⟩:ByteArray).data.toList = l by simp,m1,m2] at this
  exact this
 have hcv:=fun (w:World)=>run_bytes_of_string w 9 150 5 ⟨l.toArray⟩ Tryz.underlying9 Tryz.underlying150 Tryz.underlying5
 have hE:l.isEmpty = false:=by cases l;exact absurd rfl h1;rfl
 have hpos:0 < l.length:=List.length_pos_iff.2 h1
 have hT:Hid (∀ k (hk:k < l.length),(48 ≤ l[k].toNat ∧ l[k].toNat ≤ 57) ∧ numB (l.take (k + 1)) = numB (l.take k) * 10 + (l[k].toNat - 48) ∧ numB (l.take k) < 100000000000000):=fun k hk=>by
  refine ⟨h3 _ (List.getElem_mem hk),numB_take l k hk,?_⟩
  have e1:=numB_lt l h3 k (by omega)
  have e2:10 ^ k ≤ 10 ^ 14:=Nat.pow_le_pow_right (by decide) (by omega)
  omega
 have hN:Hid (numB l < 1000000000000000):=by
  have e1:=numB_lt l h3 l.length (Nat.le_refl _)
  rw [List.take_length] at e1
  have e2:10 ^ l.length ≤ 10 ^ 15:=Nat.pow_le_pow_right (by decide) h2
  show numB l < 1000000000000000
  omega
 have hb0:((⟨l.toArray⟩:ByteArray)[0]'(by show 0 < l.toArray.size;simpa using hpos)) = l[0]:=byte_at l 0 hpos
 have HL2:=Lib.hid h2
 have HQ:Hid (((l == [48]) = true ∧ ((((⟨l.toArray⟩:ByteArray)[0]'(by show 0 < l.toArray.size;simpa using hpos)).toNat:Nat):Int) = 48) ∨ ((l == [48]) = false ∧ ¬ ((((⟨l.toArray⟩:ByteArray)[0]'(by show 0 < l.toArray.size;simpa using hpos)).toNat:Nat):Int) = 48)):=by
  rw [hb0]
  rcases h4 with rfl | h4
  ·exact .inl ⟨rfl,rfl⟩
  ·right
   cases l with
   | nil=>exact absurd rfl h1
   | cons c t=>
    simp only [List.head?_cons,ne_eq,Option.some.injEq] at h4
    refine ⟨by simp [h4],fun e=>h4 ?_⟩
    have e2:c.toNat = 48:=by have e':((c.toNat:Nat):Int) = 48:=e;omega
    exact UInt8.toNat_inj.1 e2
 clear h4 h3 h2 m1 m2 h hb0 h1
 go_enter Tryz.func326,Tryz.ntmps326
 rcases HQ.out with ⟨q1,q2⟩ | ⟨q1,q2⟩
 all_goals
  go_wp2_with (go_at_call 355;refine HC.out.mono ?_;rintro e w1 ⟨rfl,rfl⟩)
  clear q1 q2 hE hcv HQ
  go_loopw [2,28] (fun t2 t28 wr=>∃ k:Nat,k ≤ l.length ∧ t28 = .int .i64 k ∧ t2 = .int .i64 (-(numB (l.take k):Int)) ∧ Below w1.heap.size w1 wr ∧ ∀ (j:Nat) (h:j < l.length),wr.cell? ⟨w1.heap.size,j,none⟩ = some (.int .u8 (l[j]).toNat)) (fun _ t _=>l.length - (intOf t).toNat)
  case atStart=>exact ⟨0,Nat.zero_le _,rfl,rfl,(below_alloc (Below.refl _ _) _).drew,fun j hj=>bytes_cell w1 l _ _ _ j hj⟩
  case round=>
   obtain ⟨k,hk,rfl,rfl,hB,hc⟩:=hrel
   by_cases hlt:k < l.length
   ·have hd:(k:Int) < (l.length:Int):=by omega
    have c0:=hc k hlt
    obtain ⟨⟨a1,a2⟩,a3,a4⟩:=hT.out k hlt
    have HR:=Lib.hid (And.intro hB (And.intro hc a3))
    generalize (l[k]).toNat = c at *
    generalize numB (l.take k) = n at *
    clear hB hc a3
    go_wp2
    have h15:=HL2.out
    have hw:wrap64 ((k:Int) + 1) = ((k + 1:Nat):Int):=by unfold wrap64;omega
    rw [hw]
    refine ⟨⟨k + 1,by omega,rfl,?_,HR.out.1,HR.out.2.1⟩,by simp [intOf];omega⟩
    rw [HR.out.2.2];congr 1;omega
   ·obtain rfl:k = l.length:=by omega
    have hn:=hN.out
    rw [List.take_length]
    have HR:=Lib.hid hB
    have hn2:(-(numB l:Int) == -9223372036854775808) = false:=by simp;omega
    clear hB hc hlt hk
    go_wp2
    go_ret2
    exact ⟨by simp,HR.out⟩
end Go.Proofs.YtgadhchejmlfjaaGreatDoor.Txt
end
section
namespace Go.Proofs.YtgadhchejmlfjaaGreatDoor.Txt
open Go.RowKit Go.Esc
theorem Pow.below {w w':World} (h:Shf.Pow w) (hB:Below w.heap.size w w'):Shf.Pow w':=by
 unfold Shf.Pow Lib.TabIs World.var? at h ⊢
 cases hg : Tryz.prog.globalNamed "internal/strconv.uint64pow10" with
 | none=>simp [hg] at h
 | some g=>
  simp only [hg,Option.bind_some] at h ⊢
  have hlt:g < w.heap.size:=by
   rcases Nat.lt_or_ge g w.heap.size with h' | h'
   ·exact h'
   ·simp [Array.getElem?_eq_none h'] at h
  rw [hB.block g hlt]
  exact h
theorem bytes_append (a b:List UInt8):(⟨a.toArray⟩:ByteArray) ++ ⟨b.toArray⟩ = ⟨(a ++ b).toArray⟩:=by
 apply ByteArray.ext
 show (ByteArray.append _ _).data = _
 simp
theorem byte_cells_append (a b:List UInt8):Lib.byteCells (a ++ b) = Lib.byteCells a ++ Lib.byteCells b:=by simp [Lib.byteCells]
theorem isb_below {T e:TypeId} {B b:Nat} {bs:List Value} {w w':World} (h:Lib.IsBuilder T e B b bs w) (hB:Below w.heap.size w w'):Lib.IsBuilder T e B b bs w':=by
 have go:∀ p,Lib.BuilderAt T e B b p bs w → Lib.BuilderAt T e B b p bs w':=fun p h=>by
  have hlt:=h.lt
  obtain ⟨h1,v,h2,h3,h4⟩:=h
  exact ⟨h1,v,(hB.block b hlt).trans h2,rowv_below h3 hB,h4⟩
 rcases h with h | h
 ·exact .inl (go _ h)
 ·exact .inr (go _ h)
theorem isb_new (w:World) (T e:TypeId):Lib.IsBuilder T e w.heap.size w.heap.size [] (w.alloc (.cells #[.pointer none,.slice none 0 0] T)):=
 .inl ⟨Nat.le_refl _,.slice none 0 0,Blk.new w _ T,World.ownsRow_nil _ _ _ _,by simp [Value.ownBlock]⟩
set_option maxHeartbeats 2000000 in
theorem line_any (a b c:Int) (w:World) (hf:Few (a,b,c)) (hp:Shf.Pow w):Calls Tryz.prog 73 #[.int .i64 a,.int .i64 b,.int .i64 c] w fun e w'=>e = .returned (.string ⟨(lineB (a,b,c)).toArray⟩) ∧ Below w.heap.size w w':=by
 have HF:=Lib.hid hf
 have HP:=Lib.hid hp
 have r1:=(right_int _ hf.1).2.2.2.2
 have r2:=(right_int _ hf.2.1).2.2.2.2
 have r3:=(right_int _ hf.2.2).2.2.2.2
 simp only at r1 r2 r3
 have n1:¬ 9223372036854775807 < (Lib.itoa a).length + 1:=by omega
 have n2:¬ 9223372036854775807 < (Lib.itoa a).length + 1 + (Lib.itoa b).length:=by omega
 have n3:¬ 9223372036854775807 < (Lib.itoa a).length + 1 + (Lib.itoa b).length + 1:=by omega
 have n4:¬ 9223372036854775807 < (Lib.itoa a).length + 1 + (Lib.itoa b).length + 1 + (Lib.itoa c).length:=by omega
 clear hf hp r1 r2 r3
 go_enter Tryz.func73,Tryz.ntmps73
 go_wp2_with (go_at_call 134;first
  | (have hh:=HB2;refine (Shf.itoa c (by have:=HF.out.2.2;simp at this;omega) (by have:=HF.out.2.2;simp at this;omega) _ (Pow.below HP.out HB2.out)).mono ?_;rintro e w3 ⟨rfl,hB⟩;have HB3:=Lib.hid (HB2.out.trans (hB.mono HB2.out.size));clear hB hh)
  | (have hh:=HB1;refine (Shf.itoa b (by have:=HF.out.2.1;simp at this;omega) (by have:=HF.out.2.1;simp at this;omega) _ (Pow.below HP.out HB1.out)).mono ?_;rintro e w2 ⟨rfl,hB⟩;have HB2:=Lib.hid (HB1.out.trans (hB.mono HB1.out.size));clear hB hh)
  | (refine (Shf.itoa a (by have:=HF.out.1;simp at this;omega) (by have:=HF.out.1;simp at this;omega) _ HP.out).mono ?_;rintro e w1 ⟨rfl,hB⟩;have HB1:=Lib.hid hB;clear hB))
 go_ret
 refine ⟨?_,HB3.out⟩
 have e:∀ x y z:List UInt8,(⟨x.toArray⟩:ByteArray) ++ ⟨#[32]⟩ ++ ⟨y.toArray⟩ ++ ⟨#[32]⟩ ++ ⟨z.toArray⟩ = ⟨(joinC 32 [x,y,z]).toArray⟩:=fun x y z=>by
  rw [show (⟨#[32]⟩:ByteArray) = ⟨([32]:List UInt8).toArray⟩ from rfl,bytes_append,bytes_append,bytes_append,bytes_append]
  simp [joinC]
 rw [e]
 rfl
def EnIn (w:World) (lb lo:Nat) (l:List (Int × Int × Int)):Prop:=
 ∀ k,k < l.length → w.cell? ⟨lb,lo + k * 3,none⟩ = some (.int .i64 (l[k]?.getD (0,0,0)).1) ∧ w.cell? ⟨lb,lo + k * 3 + 1,none⟩ = some (.int .i64 (l[k]?.getD (0,0,0)).2.1) ∧ w.cell? ⟨lb,lo + k * 3 + 2,none⟩ = some (.int .i64 (l[k]?.getD (0,0,0)).2.2)
set_option maxHeartbeats 4000000 in
theorem print_any (l:List (Int × Int × Int)) (lb lo lc:Nat) (w:World) (hE:EnIn w lb lo l) (hlb:lb < w.heap.size) (hf:∀ x ∈ l,Few x) (hln:l.length ≤ 65536) (hp:Shf.Pow w) :
  Calls Tryz.prog 20 #[.slice (some ⟨lb,lo,none⟩) l.length lc] w fun e w'=>e = .returned (.string ⟨(printB l).toArray⟩) ∧ Below w.heap.size w w':=by
 have H0:=Lib.hid (And.intro hE (And.intro hlb (And.intro hf (And.intro hln hp))))
 clear hE hlb hf hln hp
 go_enter Tryz.func20,Tryz.ntmps20
 go_wp2
 generalize hnl:l.length = nl at *
 have HNL:=Lib.hid hnl
 clear hnl
 go_loopw [10] (fun t wr=>∃ k:Nat,k ≤ nl ∧ t = .int .i64 k ∧ Lib.IsBuilder 152 5 w.heap.size w.heap.size (Lib.byteCells (printB (l.take k))) wr ∧ Below w.heap.size w wr) (fun t _=>nl - (intOf t).toNat)
 case atStart=>exact ⟨0,Nat.zero_le _,rfl,isb_new w 152 5,below_alloc (Below.refl _ _) _⟩
 case round=>
  obtain ⟨k,hk,rfl,hI,hB⟩:=hrel
  by_cases hlt:k < nl
  ·have hkn:(k:Int) < (nl:Int):=by omega
   have hlr:lb < wr.heap.size:=Nat.lt_of_lt_of_le H0.out.2.1 hB.size
   obtain ⟨p0,p1,p2⟩:=H0.out.1 k (by rw [HNL.out];exact hlt)
   have hc:∀ i,wr.cell? ⟨lb,i,none⟩ = w.cell? ⟨lb,i,none⟩:=fun i=>hB.cell (p:=⟨lb,i,none⟩) H0.out.2.1
   rw [← hc] at p0 p1 p2
   obtain ⟨x,hx⟩:∃ x,l[k]?.getD (0,0,0) = x:=⟨_,rfl⟩
   have hxl:l[k]? = some x:=by rw [List.getElem?_eq_getElem (by rw [HNL.out];exact hlt)] at hx ⊢;exact congrArg some hx
   rw [hx] at p0 p1 p2
   obtain ⟨a,b,c⟩:=x
   simp only at p0 p1 p2
   have hfx:Few (a,b,c):=H0.out.2.2.1 _ (List.mem_of_getElem? hxl)
   have HLn:=Lib.hid (line_any a b c (wr.alloc (.cells #[.int .i64 a,.int .i64 b,.int .i64 c] 36)) hfx (Pow.below H0.out.2.2.2.2 (hB.alloc hB.size _)))
   have HI:=Lib.hid (isb_below hI (below_alloc (Below.refl wr.heap.size wr) (.cells #[.int .i64 a,.int .i64 b,.int .i64 c] 36)))
   have HB:=Lib.hid (hB.alloc hB.size (.cells #[.int .i64 a,.int .i64 b,.int .i64 c] 36))
   have HX:=Lib.hid (And.intro hxl hfx)
   have n1:¬ 9223372036854775807 < (lineB (a,b,c)).length + 1:=by have:=line_len _ hfx;omega
   have HK:=Lib.hid hk
   have HLen:Hid ((Lib.byteCells (printB (l.take k))).length + ((⟨(lineB (a,b,c)).toArray⟩:ByteArray) ++ ⟨#[10]⟩).size ≤ 140737488355328):=by
    have e1:=print_len (l.take k) (fun y hy=>H0.out.2.2.1 y (List.mem_of_mem_take hy))
    have e2:=line_len _ hfx
    have e3:(l.take k).length ≤ 65536:=by have:=H0.out.2.2.2.1;rw [List.length_take];omega
    rw [show (⟨#[10]⟩:ByteArray) = ⟨([10]:List UInt8).toArray⟩ from rfl,bytes_append]
    show (Lib.byteCells (printB (l.take k))).length + ((lineB (a,b,c) ++ [10]).toArray).size ≤ _
    simp only [Lib.byteCells,List.length_map,List.size_toArray,List.length_append,List.length_cons,List.length_nil]
    omega
   clear hB hI hc hx hxl hfx hk
   go_wp2_with (first
    | (go_at_call 73;refine HLn.out.mono ?_;rintro e w1 ⟨rfl,hB1⟩;have HI1:=Lib.hid (isb_below HI.out hB1);have HB1:=Lib.hid (HB.out.trans (hB1.mono HB.out.size));clear hB1)
    | (go_at_call 70;refine (Shf.wstr _ _ _ _ _ HI1.out HLen.out HB1.out.size).mono ?_;rintro e w2 ⟨rfl,hI2,hB2⟩;have HI2:=Lib.hid hI2;have HB2:=Lib.hid (HB1.out.trans hB2);clear hI2 hB2))
   have hw:wrap64 ((k:Int) + 1) = ((k + 1:Nat):Int):=by have:=H0.out.2.2.2.1;unfold wrap64;omega
   rw [hw]
   refine ⟨⟨k + 1,by omega,rfl,.inr ?_,HB2.out⟩,by simp [intOf];omega⟩
   have q:=HI2.out
   rw [show (⟨#[10]⟩:ByteArray) = ⟨([10]:List UInt8).toArray⟩ from rfl,bytes_append,Lib.strCells_eq,← byte_cells_append] at q
   rw [List.take_add_one,HX.out.1,Option.toList_some,printB_snoc]
   exact q
  ·obtain rfl:k = nl:=by omega
   rw [List.take_of_length_le (by rw [HNL.out];exact Nat.le_refl _)] at hI
   have HS:=Lib.hid (Shf.bstr _ _ _ _ hI hB.size)
   have HB:=Lib.hid hB
   clear hI hB hlt hk
   go_wp2_with (go_at_call 72;refine HS.out.mono ?_;rintro e w2 ⟨rfl,hB2⟩;have HB2:=Lib.hid (HB.out.trans hB2);clear hB2)
   go_ret
   exact ⟨rfl,HB2.out⟩
end Go.Proofs.YtgadhchejmlfjaaGreatDoor.Txt
end
section
namespace Go.Proofs.YtgadhchejmlfjaaGreatDoor.Txt
open Go.RowKit Go.Esc
def Mx (w:World):Prop:=∃ m,w.cell? ⟨3,0,none⟩ = some (.int .i64 m)
theorem Mx.lt {w:World} (h:Mx w):3 < w.heap.size:=by
 obtain ⟨m,h⟩:=h
 rcases Nat.lt_or_ge 3 w.heap.size with h1 | h1
 ·exact h1
 ·simp [World.cell?,Array.getElem?_eq_none h1] at h
theorem Mx.below {w w':World} (h:Mx w) (hB:Below w.heap.size w w'):Mx w':=by
 have hl:=h.lt
 obtain ⟨m,h⟩:=h
 exact ⟨m,(hB.cell (p:=⟨3,0,none⟩) hl).trans h⟩
theorem split_line (a b c:Int) (w:World) (hf:Few (a,b,c)) (hm:Mx w):Calls Tryz.prog 322 #[.string ⟨(lineB (a,b,c)).toArray⟩,.string ⟨#[32]⟩] w fun e w'=>e = .returned (.slice (some ⟨w.heap.size,0,none⟩) 3 3) ∧
  Blk w' w.heap.size #[.string ⟨(Lib.itoa a).toArray⟩,.string ⟨(Lib.itoa b).toArray⟩,.string ⟨(Lib.itoa c).toArray⟩] 9 ∧ Below w.heap.size w w':=by
 obtain ⟨m,hm⟩:=hm
 have h1:=(right_int _ hf.1).2.2.1
 have h2:=(right_int _ hf.2.1).2.2.1
 have h3:=(right_int _ hf.2.2).2.2.1
 have hs:=splitB_join 32 [Lib.itoa a,Lib.itoa b,Lib.itoa c] (by simp) (by
  intro x hx
  simp only [List.mem_cons,List.mem_nil_iff,or_false] at hx
  rcases hx with rfl | rfl | rfl
  ·exact h1
  ·exact h2
  ·exact h3)
 have hl:=line_len _ hf
 refine (Shf.split ⟨(lineB (a,b,c)).toArray⟩ ⟨#[32]⟩ m w (by show (lineB (a,b,c)).toArray.size < _;simp;omega) hm (by decide)).mono ?_
 rintro e w' ⟨rfl,rfl⟩
 have e1:Lib.countB ⟨(lineB (a,b,c)).toArray⟩ ⟨#[32]⟩ = 2:=hs.1
 have e2:Lib.splitB ⟨#[32]⟩ 0 2 ⟨(lineB (a,b,c)).toArray⟩ = [⟨(Lib.itoa a).toArray⟩,⟨(Lib.itoa b).toArray⟩,⟨(Lib.itoa c).toArray⟩]:=hs.2
 rw [e1,e2]
 exact ⟨rfl,Blk.new w _ 9,below_alloc (Below.refl _ _) _⟩
set_option maxHeartbeats 4000000 in
theorem three_any (a b c:Int) (e:Nat) (x y z:Value) (t0:TypeId) (w:World) (hf:Few (a,b,c)) (hm:Mx w) (hE:Blk w e #[x,y,z] t0) :
  Calls Tryz.prog 273 #[.string ⟨(lineB (a,b,c)).toArray⟩,.agg #[.pointer (some ⟨e,0,none⟩),.pointer (some ⟨e,1,none⟩),.pointer (some ⟨e,2,none⟩)]] w fun r w'=>r = .returned (.bool true) ∧ Blk w' e #[.int .i64 a,.int .i64 b,.int .i64 c] t0 ∧ Only (fun j=>j = e) w w':=by
 have hel:=hE.lt
 have HSp:=split_line a b c (w.alloc (.cells #[.pointer (some ⟨e,0,none⟩),.pointer (some ⟨e,1,none⟩),.pointer (some ⟨e,2,none⟩)] 344)) hf (hm.below (below_alloc (Below.refl _ _) _))
 rw [show (w.alloc (.cells #[.pointer (some ⟨e,0,none⟩),.pointer (some ⟨e,1,none⟩),.pointer (some ⟨e,2,none⟩)] 344)).heap.size = w.heap.size + 1 by simp] at HSp
 have HSp:=Lib.hid HSp
 have HO:=Lib.hid (below_alloc (Below.refl w.heap.size w) (.cells #[.pointer (some ⟨e,0,none⟩),.pointer (some ⟨e,1,none⟩),.pointer (some ⟨e,2,none⟩)] 344))
 have HE:=Lib.hid hE
 have HF:=Lib.hid hf
 have hbox:Hid (Blk (w.alloc (.cells #[.pointer (some ⟨e,0,none⟩),.pointer (some ⟨e,1,none⟩),.pointer (some ⟨e,2,none⟩)] 344)) w.heap.size #[.pointer (some ⟨e,0,none⟩),.pointer (some ⟨e,1,none⟩),.pointer (some ⟨e,2,none⟩)] 344):=Blk.new w _ 344
 have i0:∀ W,(Instr.index 344 (.agg #[.pointer (some ⟨e,0,none⟩),.pointer (some ⟨e,1,none⟩),.pointer (some ⟨e,2,none⟩)]) (.int .i64 0)).run Tryz.prog W = .ok (.pointer (some ⟨e,0,none⟩)) W:=fun _=>by kernel_rfl
 have i1:∀ W,(Instr.index 344 (.agg #[.pointer (some ⟨e,0,none⟩),.pointer (some ⟨e,1,none⟩),.pointer (some ⟨e,2,none⟩)]) (.int .i64 1)).run Tryz.prog W = .ok (.pointer (some ⟨e,1,none⟩)) W:=fun _=>by kernel_rfl
 have i2:∀ W,(Instr.index 344 (.agg #[.pointer (some ⟨e,0,none⟩),.pointer (some ⟨e,1,none⟩),.pointer (some ⟨e,2,none⟩)]) (.int .i64 2)).run Tryz.prog W = .ok (.pointer (some ⟨e,2,none⟩)) W:=fun _=>by kernel_rfl
 clear hf hm hE
 go_enter Tryz.func273,Tryz.ntmps273
 go_wp2_with (go_at_call 322;refine HSp.out.mono ?_;rintro e0 w1 ⟨rfl,hS,hB⟩;have hbx:=hbox.out.below (hB.mono (by simp)) hbox.out.lt;have HW:=Lib.hid (And.intro hS (HO.out.trans (hB.mono (Nat.le_succ _))));have b0:=hbx.cell 0;have b1:=hbx.cell 1;have b2:=hbx.cell 2;simp only [List.getElem?_toArray,List.getElem?_cons_zero,List.getElem?_cons_succ] at b0 b1 b2;clear hS hB hbx)
 clear b0 b1 b2 hbox HSp HO
 go_loopw [16] (fun t wr=>((t = .int .i64 0 ∧ Blk wr e #[x,y,z] t0) ∨ (t = .int .i64 1 ∧ Blk wr e #[.int .i64 a,y,z] t0) ∨ (t = .int .i64 2 ∧ Blk wr e #[.int .i64 a,.int .i64 b,z] t0) ∨ (t = .int .i64 3 ∧ Blk wr e #[.int .i64 a,.int .i64 b,.int .i64 c] t0)) ∧ Blk wr (w.heap.size + 1) #[.string ⟨(Lib.itoa a).toArray⟩,.string ⟨(Lib.itoa b).toArray⟩,.string ⟨(Lib.itoa c).toArray⟩] 9 ∧ Only (fun j=>j = e) w wr) (fun t _=>3 - (intOf t).toNat)
 case atStart=>exact ⟨.inl ⟨rfl,HE.out.below HW.out.2 hel⟩,HW.out.1,(Only.refl _ w).below HW.out.2⟩
 case round=>
  obtain ⟨hk,hS,hO⟩:=hrel
  have s0:=hS.cell 0
  have s1:=hS.cell 1
  have s2:=hS.cell 2
  simp only [List.getElem?_toArray,List.getElem?_cons_zero,List.getElem?_cons_succ] at s0 s1 s2
  have HSO:=Lib.hid (And.intro hS hO)
  clear hS hO
  rcases hk with ⟨rfl,hE⟩ | ⟨rfl,hE⟩ | ⟨rfl,hE⟩ | ⟨rfl,hE⟩
  ·have HN:=number_any (Lib.itoa a) wr (right_int a HF.out.1).1
   rw [(right_int a HF.out.1).2.1] at HN
   have HN:=Lib.hid HN
   have HE2:=Lib.hid hE
   clear hE
   go_wp2_with (go_at_call 326;refine HN.out.mono ?_;rintro e0 w1 ⟨rfl,hB⟩;have hE:=HE2.out.below hB HE2.out.lt;have HE3:=Lib.hid (And.intro hE hB);have hf0:=hE.free 0;have hc0:=hE.cell 0;simp only [List.getElem?_toArray,List.getElem?_cons_zero] at hc0;clear hE hB)
   refine ⟨⟨.inr (.inl ⟨rfl,?_⟩),(HSO.out.1.below HE3.out.2 HSO.out.1.lt).setOther (by omega) _,(HSO.out.2.below HE3.out.2).set (.inr rfl) _ _⟩,by simp [intOf]⟩
   exact HE3.out.1.set 0 (.int .i64 a)
  ·have HN:=number_any (Lib.itoa b) wr (right_int b HF.out.2.1).1
   rw [(right_int b HF.out.2.1).2.1] at HN
   have HN:=Lib.hid HN
   have HE2:=Lib.hid hE
   clear hE
   go_wp2_with (go_at_call 326;refine HN.out.mono ?_;rintro e0 w1 ⟨rfl,hB⟩;have hE:=HE2.out.below hB HE2.out.lt;have HE3:=Lib.hid (And.intro hE hB);have hf0:=hE.free 1;have hc0:=hE.cell 1;simp only [List.getElem?_toArray,List.getElem?_cons_zero,List.getElem?_cons_succ] at hc0;clear hE hB)
   refine ⟨⟨.inr (.inr (.inl ⟨rfl,?_⟩)),(HSO.out.1.below HE3.out.2 HSO.out.1.lt).setOther (by omega) _,(HSO.out.2.below HE3.out.2).set (.inr rfl) _ _⟩,by simp [intOf]⟩
   exact HE3.out.1.set 1 (.int .i64 b)
  ·have HN:=number_any (Lib.itoa c) wr (right_int c HF.out.2.2).1
   rw [(right_int c HF.out.2.2).2.1] at HN
   have HN:=Lib.hid HN
   have HE2:=Lib.hid hE
   clear hE
   go_wp2_with (go_at_call 326;refine HN.out.mono ?_;rintro e0 w1 ⟨rfl,hB⟩;have hE:=HE2.out.below hB HE2.out.lt;have HE3:=Lib.hid (And.intro hE hB);have hf0:=hE.free 2;have hc0:=hE.cell 2;simp only [List.getElem?_toArray,List.getElem?_cons_zero,List.getElem?_cons_succ] at hc0;clear hE hB)
   refine ⟨⟨.inr (.inr (.inr ⟨rfl,?_⟩)),(HSO.out.1.below HE3.out.2 HSO.out.1.lt).setOther (by omega) _,(HSO.out.2.below HE3.out.2).set (.inr rfl) _ _⟩,by simp [intOf]⟩
   exact HE3.out.1.set 2 (.int .i64 c)
  ·have HE2:=Lib.hid hE
   clear hE
   go_wp2
   go_ret
   exact ⟨rfl,HE2.out,HSO.out.2⟩
end Go.Proofs.YtgadhchejmlfjaaGreatDoor.Txt
end
section
namespace Go.Proofs.YtgadhchejmlfjaaGreatDoor.Shf
open Go.Shelf Go.Proofs Go.RowKit Go.Esc
theorem wstrK (B b:Nat) (bs:List Value) (s:ByteArray) (w:World) (h:Lib.IsBuilderF 152 5 B b bs w) (hlen:bs.length + s.size ≤ 140737488355328) (hBw:B ≤ w.heap.size) :
  Calls Tryz.prog 70 #[.pointer (some ⟨b,0,none⟩),.string s] w fun e w'=>e = .returned (.tuple #[.int .i64 s.size,.nilIface]) ∧ (Lib.BuilderAtF 152 5 B b (.pointer (some ⟨b,0,none⟩)) (bs ++ Lib.strCells s) w' ∧ Below B w w' ∧ Lib.OthersKept 5 (some b) w w'):=
 Any.Builder_WriteString_k { lays156 with } Builder_Extra_156 B b bs s w h hlen hBw
theorem bstrK (B b:Nat) (l:List UInt8) (w:World) (h:Lib.IsBuilderF 152 5 B b (Lib.byteCells l) w) (hBw:B ≤ w.heap.size) :
  Calls Tryz.prog 72 #[.pointer (some ⟨b,0,none⟩)] w fun e w'=>e = .returned (.string ⟨l.toArray⟩) ∧ Below B w w':=
 (Any.Builder_String_any_k { lays156 with } Builder_Extra_156 B b l w h hBw).mono fun e w' h=>⟨h.1,h.2.2.1⟩
theorem isbF_below {T e:TypeId} {B b:Nat} {bs:List Value} {w w':World} (h:Lib.IsBuilderF T e B b bs w) (hB:Below w.heap.size w w'):Lib.IsBuilderF T e B b bs w':=by
 have go:∀ p,Lib.BuilderAtF T e B b p bs w → Lib.BuilderAtF T e B b p bs w':=fun p h=>by
  obtain ⟨h1,v,h2,h3,h4⟩:=h
  have hlt:b < w.heap.size:=lt_of_block h2
  exact ⟨h1,v,(hB.block b hlt).trans h2,h3.kept (grown_of_below hB none) (Classical.em _),h4⟩
 rcases h with h | h
 ·exact .inl (go _ h)
 ·exact .inr (go _ h)
theorem others_blk {b j:Nat} {cs:Array Value} {t:TypeId} {w w':World} (h:Lib.OthersKept 5 (some b) w w') (hj:Blk w j cs t) (hb:j ≠ b) (ht:t ≠ 5):Blk w' j cs t:=
 h j _ hj (fun e=>hb (Option.some.inj e)) (fun c fz e=>by cases e;exact ht rfl)
end Go.Proofs.YtgadhchejmlfjaaGreatDoor.Shf
end
