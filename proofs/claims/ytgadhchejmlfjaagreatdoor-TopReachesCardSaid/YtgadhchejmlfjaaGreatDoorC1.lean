/- Parts of the proof of TopReaches. -/
import Derived.Test.YtgadhchejmlfjaaGreatDoorA4
import Derived.Test.YtgadhchejmlfjaaGreatDoorB2
import Derived.Test.YtgadhchejmlfjaaGreatDoorB4
set_option linter.unusedVariables false
set_option maxRecDepth 20000
section
namespace Go.Proofs.YtgadhchejmlfjaaGreatDoor.Txt
open Go.RowKit Go.Esc
set_option maxHeartbeats 4000000 in
theorem conf_any (a b c:Int) (w:World) (h1:1 ≤ a ∧ a ≤ 256) (h2:1 ≤ b ∧ b ≤ 64) (h3:1 ≤ c ∧ c ≤ 64) (hm:Mx w) :
  Calls Tryz.prog 209 #[.string ⟨(lineB (a,b,c)).toArray⟩] w fun e w'=>e = .returned (.tuple #[.agg #[.int .i64 a,.int .i64 b,.int .i64 c],.bool true]) ∧ Below w.heap.size w w':=by
 have hb:Blk (w.alloc (.cells #[.int .i64 0,.int .i64 0,.int .i64 0] 34)) w.heap.size #[.int .i64 0,.int .i64 0,.int .i64 0] 34:=Blk.new w _ 34
 have HT:=Lib.hid (three_any a b c w.heap.size _ _ _ 34 _ ⟨⟨by simp only;omega,by simp only;omega⟩,⟨by simp only;omega,by simp only;omega⟩,⟨by simp only;omega,by simp only;omega⟩⟩ (hm.below (below_alloc (Below.refl _ _) _)) hb)
 have HN:=Lib.hid (And.intro h1 (And.intro h2 h3))
 have HB:=Lib.hid (below_alloc (Below.refl w.heap.size w) (.cells #[.int .i64 0,.int .i64 0,.int .i64 0] 34))
 clear h1 h2 h3 hm hb
 go_enter Tryz.func209,Tryz.ntmps209
 go_wp2_with (first
  | (go_at_call 273;refine HT.out.mono ?_;rintro e w1 ⟨rfl,hE,hO⟩;have HE:=Lib.hid (And.intro hE hO);have q0:=hE.cell 0;have q1:=hE.cell 1;have q2:=hE.cell 2;simp only [List.getElem?_toArray,List.getElem?_cons_zero,List.getElem?_cons_succ] at q0 q1 q2;clear hE hO)
  | (go_at_call 41;refine (Val.conf_any a b c _ HN.out.1 HN.out.2.1 HN.out.2.2).mono ?_;rintro e w2 ⟨rfl,hB⟩;have hE2:=HE.out.1.below hB HE.out.1.lt;have HE2:=Lib.hid (And.intro hE2 hB);have q3:=hE2.cell 0;have q4:=hE2.cell 1;have q5:=hE2.cell 2;have f3:=hE2.free 0;have f4:=hE2.free 1;have f5:=hE2.free 2;simp only [List.getElem?_toArray,List.getElem?_cons_zero,List.getElem?_cons_succ] at q3 q4 q5;clear hE2 hB))
 have hb:=((HE2.out.1.set 0 (.int .i64 a)).set 1 (.int .i64 b)).set 2 (.int .i64 c)
 have hB:Below w.heap.size w (((w2.setCell ⟨w.heap.size,0,none⟩ (.int .i64 a)).setCell ⟨w.heap.size,1,none⟩ (.int .i64 b)).setCell ⟨w.heap.size,2,none⟩ (.int .i64 c)):=by
  have h2:=HE.out.2.below HE2.out.2
  have h3:Below w.heap.size (w.alloc (.cells #[.int .i64 0,.int .i64 0,.int .i64 0] 34)) w2:=h2.toBelow (by simp) (fun j hj=>by rw [show j = w.heap.size from hj];exact Nat.le_refl _)
  exact (((HB.out.trans h3).setCell (Nat.le_refl _) _).setCell (Nat.le_refl _) _).setCell (Nat.le_refl _) _
 generalize (((w2.setCell ⟨w.heap.size,0,none⟩ (.int .i64 a)).setCell ⟨w.heap.size,1,none⟩ (.int .i64 b)).setCell ⟨w.heap.size,2,none⟩ (.int .i64 c)) = W at *
 have c0:=hb.cell 0
 have c1:=hb.cell 1
 have c2:=hb.cell 2
 simp only [List.setIfInBounds_toArray,List.set_cons_zero,List.set_cons_succ,List.getElem?_toArray,List.getElem?_cons_zero,List.getElem?_cons_succ] at c0 c1 c2
 exact bodyPost_ret (v:=.tuple #[.agg #[.int .i64 a,.int .i64 b,.int .i64 c],.bool true]) (by simp [results,Tryz.results209,go_sem,c0,c1,c2]) rfl ⟨rfl,hB⟩
end Go.Proofs.YtgadhchejmlfjaaGreatDoor.Txt
end
section
namespace Go.Proofs.YtgadhchejmlfjaaGreatDoor.Txt
open Go.RowKit Go.Esc
open Go.Proofs.YtgadhchejmlfjaaGreatDoor.Scr (es es_snoc info36 new3 one3)
theorem cut_any (x:Int × Int × Int) (l:List (Int × Int × Int)) (w:World) (hf:∀ y ∈ x :: l,Few y) (hl:(x :: l).length ≤ 65536) (hm:Mx w):Calls Tryz.prog 271 #[.string ⟨(printB (x :: l)).toArray⟩,.string ⟨#[10]⟩] w fun e w'=>e = .returned (.tuple #[.string ⟨(lineB x).toArray⟩,.string ⟨(printB l).toArray⟩,.bool true]) ∧ Below w.heap.size w w':=by
 obtain ⟨m,hm⟩:=hm
 have hpl:=print_len (x :: l) hf
 refine (Shf.cut ⟨(printB (x :: l)).toArray⟩ ⟨#[10]⟩ m w (by show (printB (x :: l)).toArray.size < _;simp only [List.size_toArray];omega) hm).mono ?_
 rintro e w' ⟨rfl,n,rfl⟩
 have hc:=cut_print x l (hf x (by simp))
 rw [show (⟨(printB (x :: l)).toArray⟩:ByteArray).data.toList = printB (x :: l) by simp,show (⟨#[10]⟩:ByteArray).data.toList = [10] from rfl,hc]
 exact ⟨rfl,below_drewN (Below.refl _ _) n⟩
def PaR (w:World) (l:List (Int × Int × Int)) (k:Nat) (v0 v2 v3:Value) (wr:World):Prop:=
 k ≤ l.length ∧ v0 = .string ⟨(printB (l.drop k)).toArray⟩ ∧ v3 = .int .i64 ((k:Int) + 1) ∧ wr.ownsRow w.heap.size 36 3 v2 k (es (l.take k)) ∧ Below w.heap.size w wr
theorem row_slice {w:World} {base:Nat} {e:TypeId} {size:Nat} {v:Value} {n:Nat} {xs:List Value} (h:w.ownsRow base e size v n xs):∃ a c,v = .slice a n c:=by
 rcases rowv_open h with ⟨rfl,h0⟩ | ⟨g,cap,rfl,_⟩
 ·exact ⟨none,0,by rw [h0]⟩
 ·exact ⟨_,cap,rfl⟩
theorem three_at (a b c:Int) (w:World) (hf:Few (a,b,c)) (hm:Mx w):Calls Tryz.prog 273 #[.string ⟨(lineB (a,b,c)).toArray⟩,.agg #[.pointer (some ⟨w.heap.size,0,none⟩),.pointer (some ⟨w.heap.size,1,none⟩),.pointer (some ⟨w.heap.size,2,none⟩)]] (w.alloc (.cells #[.int .i64 0,.int .i64 0,.int .i64 0] 36)) fun r w'=>r = .returned (.bool true) ∧ Blk w' w.heap.size #[.int .i64 a,.int .i64 b,.int .i64 c] 36 ∧ Below w.heap.size w w':=by
 refine (three_any a b c w.heap.size _ _ _ 36 _ hf (hm.below (below_alloc (Below.refl _ _) _)) (Blk.new w _ 36)).mono ?_
 rintro e w' ⟨rfl,hE,hO⟩
 exact ⟨rfl,hE,(below_alloc (Below.refl _ _) _).trans (hO.toBelow (by simp) (fun j hj=>by rw [show j = w.heap.size from hj];exact Nat.le_refl _))⟩
set_option maxHeartbeats 4000000 in
theorem parse_any (l:List (Int × Int × Int)) (w:World) (hf:∀ x ∈ l,Few x) (hln:l.length ≤ 65536) (hm:Mx w) :
  Calls Tryz.prog 210 #[.string ⟨(printB l).toArray⟩] w fun e w'=>∃ v,e = .returned (.tuple #[v,.int .i64 0,.int .i64 0]) ∧ w'.ownsRow w.heap.size 36 3 v l.length (es l) ∧ Below w.heap.size w w':=by
 have H0:=Lib.hid (And.intro hf (And.intro hln hm))
 clear hf hln hm
 go_enter Tryz.func210,Tryz.ntmps210
 go_wp2
 go_step3
 go_wp2
 go_step3
 go_wp2
 go_loopw [0,2,3] (fun v0 v2 v3 wr=>∃ k,PaR w l k v0 v2 v3 wr) (fun _ _ t _=>l.length + 1 - (intOf t).toNat)
 case atStart=>exact ⟨0,Nat.zero_le _,rfl,rfl,World.ownsRow_nil w w.heap.size 36 3,Below.refl _ _⟩
 case round=>
  obtain ⟨k,hk,rfl,rfl,hO,hB⟩:=hrel
  obtain ⟨a2,p2,rfl⟩:=row_slice hO
  by_cases hlt:k < l.length
  ·obtain ⟨x,hx⟩:∃ x,l[k] = x:=⟨_,rfl⟩
   have hdr:l.drop k = x :: l.drop (k + 1):=by rw [List.drop_eq_getElem_cons hlt,hx]
   have hxl:l[k]? = some x:=by rw [List.getElem?_eq_getElem hlt,hx]
   have hC:=cut_any x (l.drop (k + 1)) wr (fun y hy=>H0.out.1 y (List.mem_of_mem_drop (by rw [hdr];exact hy))) (by rw [← hdr];have:=H0.out.2.1;simp;omega) (H0.out.2.2.below hB)
   have hfx:Few x:=H0.out.1 x (List.mem_of_getElem? hxl)
   rw [hdr]
   have hne:(printB (x :: l.drop (k + 1))).isEmpty = false:=by
    cases hh:printB (x :: l.drop (k + 1)) with
    | nil=>exact absurd hh (print_ne _ _)
    | cons _ _=>rfl
   obtain ⟨a,b,c⟩:=x
   have HX:=Lib.hid (And.intro hxl (And.intro hfx hdr))
   have HC:=Lib.hid hC
   have HO:=Lib.hid hO
   have HB:=Lib.hid hB
   have hk6:((k:Int) == 65536) = false:=by have:=H0.out.2.1;simp;omega
   clear hC hO hB hx hxl hfx hdr
   go_wp2_with (first
    | (go_at_call 271;refine HC.out.mono ?_;rintro e w1 ⟨rfl,hB1⟩;have HB1:=Lib.hid (HB.out.trans (hB1.mono HB.out.size));have HO1:=Lib.hid (rowv_below HO.out hB1);have HM1:=Lib.hid (H0.out.2.2.below HB1.out);clear hB1)
    | (go_at_call 273;refine (three_at a b c w1 HX.out.2.1 HM1.out).mono ?_;rintro e w2 ⟨rfl,hE,hB2⟩;have HB2:=Lib.hid (HB1.out.trans (hB2.mono HB1.out.size));have HO2:=Lib.hid (rowv_below HO1.out hB2);have q0:=hE.cell 0;have q1:=hE.cell 1;have q2:=hE.cell 2;simp only [List.getElem?_toArray,List.getElem?_cons_zero,List.getElem?_cons_succ] at q0 q1 q2;have hl2:=hE.lt;clear hE hB2)
    | (at_builtin;refine appV Tryz.underlying52 info36 rfl (by decide) (by decide) w.heap.size _ rfl _ _ rfl _ k (es (l.take k)) ⟨w2.heap.size,0,none⟩ 1 [.int .i64 a,.int .i64 b,.int .i64 c] rfl rfl (.inl (rowv_below HO2.out (below_alloc (Below.refl _ _) _))) rfl (new3 w2 _ _ _ 36) (one3 _ _ _) (by have:=HB2.out.size;simp;omega) (by have:=H0.out.2.1;omega) ?_;intro v' w3 hA;have HA:=Lib.hid hA;clear hA))
   have hw:wrap64 ((k:Int) + 1 + 1) = ((k + 1:Nat):Int) + 1:=by have:=H0.out.2.1;unfold wrap64;omega
   rw [hw]
   refine ⟨⟨k + 1,by omega,rfl,rfl,?_,?_⟩,by simp only [intOf];omega⟩
   ·rw [List.take_add_one,HX.out.1,Option.toList_some,es_snoc];exact HA.out.1
   ·exact below_grown (below_alloc HB2.out _) HA.out.2.1 (fun j hj=>(World.ownsRow.lt HO2.out j hj).1)
  ·obtain rfl:k = l.length:=by omega
   have hne:(printB (l.drop l.length)).isEmpty = true:=by rw [List.drop_length];rfl
   rw [List.take_length] at hO
   have HO:=Lib.hid hO
   have HB:=Lib.hid hB
   clear hO hB hlt hk
   go_wp2
   rw [Exit.noGoto_ret]
   go_ret3
   exact ⟨_,rfl,HO.out,HB.out⟩
end Go.Proofs.YtgadhchejmlfjaaGreatDoor.Txt
end
