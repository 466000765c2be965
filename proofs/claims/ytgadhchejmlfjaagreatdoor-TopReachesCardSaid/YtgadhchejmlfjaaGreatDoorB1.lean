/- Parts of the proof of TopReaches. -/
import Derived.Test.YtgadhchejmlfjaaGreatDoorA1
import Derived.BigRegion
import Derived.Deep.LoopGhost
import Derived.Deep.RegionHeld3
import Derived.Lib.SliceRun
import Derived.RegionTactic
import Derived.WalkMore
set_option linter.unusedVariables false
set_option maxRecDepth 20000
section
namespace Go.Esc
open Go.RowKit
section
variable {P:Program} {t:TypeId} (ht:P.underlying t = some (.slice 3)) (hinfo:(P.info? 3).map (fun i=>(i.zero,i.size,i.bytes)) = some (some (.int .i64 0),1,8))
include ht hinfo
omit hinfo in
end
end Go.Esc
namespace Go.Proofs.YtgadhchejmlfjaaGreatDoor.Ref
open Go.RowKit Go.Esc
theorem info3:(Tryz.prog.info? 3).map (fun i=>(i.zero,i.size,i.bytes)) = some (some (.int .i64 0),1,8):=by kernel_rfl
def LPost (L:List Int) (w:World) (e:Ending) (w':World):Prop:=∃ v,e = .returned v ∧ OwnI w' w.heap.size v L ∧ Below w.heap.size w w'
end Go.Proofs.YtgadhchejmlfjaaGreatDoor.Ref
namespace Go.Esc
open Go.RowKit
def Rwl (w:World) (v:Value) (l:List Int):Prop:=OwnI w 0 v l ∨ (Slw w v l ∧ ∃ a,v = .slice (some a) l.length l.length)
theorem Rwl.slw {w:World} {v:Value} {l:List Int} (h:Rwl w v l):Slw w v l:=h.elim Slw.ofOwn (fun x=>x.1)
theorem Rwl.off {S:Nat → Prop} {w w':World} {v:Value} {l:List Int} (h:Rwl w v l) (k:Only S w w') (hs:Off S v):Rwl w' v l:=by
 rcases h with h | ⟨h,hv⟩
 ·exact .inl (h.off k hs)
 ·exact .inr ⟨h.only k hs,hv⟩
theorem Rwl.nil (w:World):Rwl w (.slice none 0 0) []:=.inl (OwnI.nil _ _)
section
variable {P:Program} {t:TypeId} (ht:P.underlying t = some (.slice 3)) (hinfo:(P.info? 3).map (fun i=>(i.zero,i.size,i.bytes)) = some (some (.int .i64 0),1,8))
include ht hinfo
theorem appR (W:World) {ops:Array Oper} {rest:List Oper} {o:Oper} {a:Act} {Q:Exit → Act → World → Prop} (hgd:o.guard = none) (s y:Operand)
  (ho:o.op = .call { callee:=.builtin .append,args:=#[s,y],argTypes:=#[t,t] }) (v:Value) (l:List Int) (x:Int) (tb:Nat) (hs:a.eval s = v) (hy:a.eval y = .slice (some ⟨tb,0,none⟩) 1 1)
  (hown:Rwl W v l) (hx:W.cell? ⟨tb,0,none⟩ = some (.int .i64 x)) (hlen:l.length < 10000000)
  (h:∀ v' w',OwnI w' 0 v' (l ++ [x]) → W.grownBy w' v.ownBlock → (∀ j,v'.ownBlock = some j → v.ownBlock = some j ∨ W.heap.size ≤ j) → (∃ g cap,v' = .slice (some ⟨g,0,none⟩) (l.length + 1) cap) → wpList P ops Q rest (a.put o.dst v') w') :
  wpList P ops Q (o :: rest) a W:=by
 have hu:Slw W (.slice (some ⟨tb,0,none⟩) 1 1) [x]:=⟨_,1,rfl,⟨(fun h=>by cases h),Nat.le_refl _⟩,by simp [maxLen],.inr ⟨tb,0,rfl,lt_of_cell hx,fun i hi=>by
  have:i = 0:=by simpa using hi
  subst this;simpa using hx⟩⟩
 rcases hown with hown | ⟨hv,ad,rfl⟩
 ·refine appX ht hinfo 0 W hgd s y ho v l _ [x] hs hy hown hu (Nat.zero_le _) (by simp;omega) ?_
  intro v' w' hA
  exact h v' w' hA.1 hA.2.1 hA.2.2 hA.some
 ·obtain ⟨i0,hi,hz0,hz1,hz2⟩:=info_parts hinfo
  refine wpList_plain hgd fun K hK=>?_
  have holds:∀ (j:Nat) (u:Value),(l.map (Value.int .i64))[j]? = some u → W.cell? (ad.add j) = some u:=by
   intro j u hj
   rw [List.getElem?_map] at hj
   obtain ⟨z,hz,rfl⟩:=Option.map_eq_some_iff.1 hj
   have hjl:j < l.length:=(List.getElem?_eq_some_iff.1 hz).1
   rcases hv.open with ⟨h0,_⟩ | ⟨_,_,_,h0⟩ | ⟨b,off,cap',he,_,_,_,hc⟩
   ·simp at h0
   ·simp [h0] at hjl
   ·simp only [Value.slice.injEq,Option.some.injEq] at he
    obtain ⟨rfl,_,_⟩:=he
    rw [Go.WideShapes.add_plain,hc j hjl,hz]
    rfl
  obtain ⟨v',w',hr,h1,h2⟩:=run_append_arg_grows (P:=P) W t o.type 3 i0 (.int .i64 0) 1 8 ht hi hz0 hz1 hz2 rfl (by decide) ad l.length l.length (l.map (Value.int .i64)) (by simp) holds ⟨tb,0,none⟩ 1 1 [.int .i64 x] rfl (fun j u hj=>by
    cases j with
    | zero=>simp at hj;subst hj;rw [Go.WideShapes.add_plain];exact hx
    | succ j=>simp at hj) (by omega) (by unfold maxLen;omega) (by omega)
  have h1':OwnI w' W.heap.size v' (l ++ [x]):=by unfold OwnI;simpa using h1
  unfold Oper.wp
  simp [execOp,ho,resolve,invoke,builtin,hs,hy,hr,Result.andThen]
  refine hK _ _ (h v' w' (h1'.mono (Nat.zero_le _)) ⟨h2.os,h2.tape,h2.output,h2.size,fun k hk _=>h2.block k hk (by simp)⟩ (fun j hj=>.inr (h1'.lt j hj).1) ?_)
  rcases h1'.open with ⟨_,h0⟩ | ⟨g,cap,h0,_⟩
  ·simp at h0
  ·exact ⟨g,cap,by rw [h0];simp⟩
end
def idxZ:List Int → Int → Int
 | [],_=>-1
 | x :: l,g=>if x = g then 0 else if idxZ l g < 0 then -1 else idxZ l g + 1
theorem idxZ_first (l:List Int) (g:Int) (k:Nat) (hk:k < l.length) (he:l[k]?.getD 0 = g) (hb:∀ i,i < k → l[i]?.getD 0 ≠ g):idxZ l g = k:=by
 induction l generalizing k with
 | nil=>simp at hk
 | cons x l ih=>
  cases k with
  | zero=>simp at he;simp [idxZ,he]
  | succ k=>
   have h0:=hb 0 (by omega)
   simp at h0
   have h1:=ih k (by simpa using hk) (by simpa using he) (fun i hi=>by have:=hb (i + 1) (by omega);simpa using this)
   unfold idxZ
   rw [if_neg h0,h1,if_neg (by omega)]
   omega
theorem idxZ_none (l:List Int) (g:Int) (hb:∀ i,i < l.length → l[i]?.getD 0 ≠ g):idxZ l g = -1:=by
 induction l with
 | nil=>rfl
 | cons x l ih=>
  have h0:=hb 0 (by simp)
  simp at h0
  unfold idxZ
  rw [if_neg h0,ih (fun i hi=>by have:=hb (i + 1) (by simpa using hi);simpa using this)]
  rfl
theorem idxZ_mem (l:List Int) (g:Int):(idxZ l g < 0 ↔ g ∉ l):=by
 induction l with
 | nil=>simp [idxZ]
 | cons x l ih=>
  unfold idxZ
  by_cases hx:x = g
  ·simp [hx]
  ·rw [if_neg hx]
   have:¬ g = x:=fun e=>hx e.symm
   simp only [List.mem_cons,this,false_or]
   rw [← ih]
   split <;> omega
end Go.Esc
namespace Go.Proofs.YtgadhchejmlfjaaGreatDoor.Sema
open Go.RowKit Go.Esc Go.Proofs.YtgadhchejmlfjaaGreatDoor.Ref
structure Sm (w:World) (b:Nat) (ow:Int) (v:Value) (l:List Int):Prop where
 blk:Blk w b #[.int .i64 ow,v] 207
 row:Rwl w v l
 ne:v.ownBlock ≠ some b
 live:∀ j,v.ownBlock = some j → j < w.heap.size
def Sf (b:Nat) (v:Value) (j:Nat):Prop:=j = b ∨ v.ownBlock = some j
theorem off_b {v:Value} {b:Nat} (h:v.ownBlock ≠ some b):Off (fun j=>j = b) v:=fun j hj e=>h (by rw [hj,e])
theorem Sm.only {S:Nat → Prop} {w w':World} {b:Nat} {ow:Int} {v:Value} {l:List Int} (h:Sm w b ow v l) (o:Only S w w') (hs:∀ j,Sf b v j → ¬ S j):Sm w' b ow v l:=
 ⟨h.blk.only o (hs b (.inl rfl)),h.row.off o (fun j hj=>hs j (.inr hj)),h.ne,fun j hj=>Nat.lt_of_lt_of_le (h.live j hj) o.size⟩
theorem Sm.below {w w':World} {b:Nat} {ow:Int} {v:Value} {l:List Int} (h:Sm w b ow v l) (o:Below w.heap.size w w'):Sm w' b ow v l:=
 h.only (S:=fun _=>False) ((Only.refl _ w).below o) (fun _ _ x=>x)
theorem Sm.drewN {w:World} {b:Nat} {ow:Int} {v:Value} {l:List Int} (h:Sm w b ow v l) (n:Nat):Sm (w.drewN n) b ow v l:=⟨h.blk,h.row,h.ne,h.live⟩
theorem Sm.cell0 {w:World} {b:Nat} {ow:Int} {v:Value} {l:List Int} (h:Sm w b ow v l):w.cell? ⟨b,0,none⟩ = some (.int .i64 ow):=h.blk.cell 0
theorem Sm.cell1 {w:World} {b:Nat} {ow:Int} {v:Value} {l:List Int} (h:Sm w b ow v l):w.cell? ⟨b,1,none⟩ = some v:=h.blk.cell 1
theorem Sm.setOw {w:World} {b:Nat} {ow:Int} {v:Value} {l:List Int} (h:Sm w b ow v l) (x:Int):Sm (w.setCell ⟨b,0,none⟩ (.int .i64 x)) b x v l:=
 ⟨h.blk.set2_0,h.row.off ((Only.refl (fun j=>j = b) w).set (.inr rfl) _ _) (off_b h.ne),h.ne,fun j hj=>by have:=h.live j hj;simpa [World.setCell] using this⟩
theorem Sm.setRow {w:World} {b:Nat} {ow:Int} {v v':Value} {l l':List Int} (h:Sm w b ow v l) (hr:Rwl w v' l') (hn:v'.ownBlock ≠ some b) (hl:∀ j,v'.ownBlock = some j → j < w.heap.size):Sm (w.setCell ⟨b,1,none⟩ v') b ow v' l':=
 ⟨h.blk.set2_1,hr.off ((Only.refl (fun j=>j = b) w).set (.inr rfl) _ _) (off_b hn),hn,fun j hj=>by have:=hl j hj;simpa [World.setCell] using this⟩
def Grs (b:Nat) (v v':Value) (w:World):Prop:=∀ j,v'.ownBlock = some j → v.ownBlock = some j ∨ w.heap.size ≤ j
def Sp (b:Nat) (ow:Int) (v:Value) (l:List Int) (w w':World):Prop:=∃ v',Sm w' b ow v' l ∧ Only (Sf b v) w w' ∧ Grs b v v' w
set_option maxHeartbeats 1000000 in
theorem new_any (w:World):Calls Tryz.prog 46 #[] w fun e w'=>e = .returned (.pointer (some ⟨w.heap.size,0,none⟩)) ∧ w.alloc (.cells #[.int .i64 0,.slice none 0 0] 207) = w':=by
 go_enter Tryz.func46,Tryz.ntmps46
 go_wp2
 go_ret
 exact ⟨rfl,rfl⟩
theorem Sm.new (w:World):Sm (w.alloc (.cells #[.int .i64 0,.slice none 0 0] 207)) w.heap.size 0 (.slice none 0 0) []:=
 ⟨Blk.new w _ 207,Rwl.nil _,by simp [Value.ownBlock],by simp [Value.ownBlock]⟩
set_option maxHeartbeats 1000000 in
theorem clone_any (u:Value) (l:List Int) (w:World) (h:Slw w u l) (hl:l.length < 10000000):Calls Tryz.prog 288 #[u] w (LPost l w):=by
 have hlen:([]:List Int).length + l.length < 100000000:=by simp;omega
 have HLen:=Lib.hid hlen
 have HS:=Lib.hid h
 have hnil:=fun (w:World) (a:Option Addr) (n c n' c':Nat)=>Lib.run_eql_slice_nil (P:=Tryz.prog) w 22 3 a n c n' c' Tryz.underlying22
 clear hlen
 rcases h.open with ⟨rfl,rfl⟩ | ⟨ad,cap,rfl,rfl⟩ | ⟨bu,off,cap,rfl,hne,hcap,hbu,hcells⟩
 ·clear h
  go_enter Tryz.func288,Tryz.ntmps288
  go_wp2
  go_ret
  exact ⟨_,rfl,OwnI.nil _ _,Below.refl _ _⟩
 ·clear h
  go_enter Tryz.func288,Tryz.ntmps288
  go_wp2_with (at_builtin;refine appX Tryz.underlying22 info3 w.heap.size _ rfl _ _ rfl (.slice (some ⟨w.heap.size,0,none⟩) 0 0) [] _ [] rfl rfl (OwnI.new (w:=w) (l:=[]) (by simp)) (HS.out.alloc _) (by simp) (by simp) ?_;intro v' w2 hA;have HA:=Lib.hid hA;clear hA)
  go_ret
  exact ⟨_,rfl,HA.out.1,below_grown (below_alloc (Below.refl _ _) _) HA.out.2.1 (fun j hj=>by simp [Value.ownBlock] at hj;omega)⟩
 ·clear h hcells
  go_enter Tryz.func288,Tryz.ntmps288
  go_wp2_with (at_builtin;refine appX Tryz.underlying22 info3 w.heap.size _ rfl _ _ rfl (.slice (some ⟨w.heap.size,0,none⟩) 0 0) [] _ l rfl rfl (OwnI.new (w:=w) (l:=[]) (by simp)) (HS.out.alloc _) (by simp) HLen.out ?_;intro v' w2 hA;have HA:=Lib.hid hA;clear hA)
  go_ret
  exact ⟨_,rfl,HA.out.1,below_grown (below_alloc (Below.refl _ _) _) HA.out.2.1 (fun j hj=>by simp [Value.ownBlock] at hj;omega)⟩
theorem is_any (x g:Int) (gb:Nat) (w:World) (hg:w.cell? ⟨gb,0,none⟩ = some (.int .i64 g)):Calls Tryz.prog 358 #[.int .i64 x,.pointer (some ⟨gb,0,none⟩)] w fun e w'=>e = .returned (.bool (x == g)) ∧ w = w':=by
 go_enter Tryz.func358,Tryz.ntmps358
 go_wp2
 go_ret
 exact ⟨rfl,rfl⟩
set_option maxHeartbeats 1000000 in
theorem idx_any (u:Value) (l:List Int) (g:Int) (gb:Nat) (w:World) (h:Slw w u l) (hl:l.length < 10000000) (hg:w.cell? ⟨gb,0,none⟩ = some (.int .i64 g)):Calls Tryz.prog 219 #[u,.func (.func 358) #[] #[.pointer (some ⟨gb,0,none⟩)]] w fun e w'=>e = .returned (.int .i64 (idxZ l g)) ∧ w = w':=by
 obtain ⟨a,cap,rfl⟩:=h.len
 have HS:=Lib.hid h
 clear h
 go_enter Tryz.func219,Tryz.ntmps219
 go_wp2
 go_loop [8] (fun i=>∃ k:Nat,k ≤ l.length ∧ i = .int .i64 k ∧ Hid (∀ i,i < k → l[i]?.getD 0 ≠ g)) (fun i=>l.length - (intOf i).toNat)
 case atStart=>exact ⟨0,Nat.zero_le _,rfl,fun i hi=>by omega⟩
 case round=>
  obtain ⟨k,hk,rfl,HF⟩:=hrel
  by_cases hlt:k < l.length
  ·rcases HS.out.open with ⟨_,h0⟩ | ⟨_,_,_,h0⟩ | ⟨bu,off,cap',he,_,_,hbu,hcells⟩
   ·simp [h0] at hlt
   ·simp [h0] at hlt
   simp only [Value.slice.injEq] at he
   obtain ⟨rfl,_,rfl⟩:=he
   have cu:=hcells k hlt
   clear hcells
   by_cases hx:l[k]?.getD 0 = g
   ·have HI:=Lib.hid (idxZ_first l g k hlt hx HF.out)
    rw [hx] at cu
    have hgg:(g == g) = true:=by simp
    clear hx
    go_wp2_with (go_at_call 358;refine (is_any _ _ _ _ hg).mono ?_;rintro e w' ⟨rfl,rfl⟩)
    go_ret
    exact ⟨ret_int HI.out.symm,rfl⟩
   ·have hxb:(l[k]?.getD 0 == g) = false:=by rw [beq_eq_false_iff_ne];exact hx
    have HN:Hid (∀ i,i < k + 1 → l[i]?.getD 0 ≠ g):=fun i hi=>by
     by_cases e:i = k
     ·subst e;exact hx
     ·exact HF.out i (by omega)
    generalize l[k]?.getD 0 = y at *
    clear hx
    go_wp2_with (go_at_call 358;refine (is_any _ _ _ _ hg).mono ?_;rintro e w' ⟨rfl,rfl⟩)
    go_round
    case rel=>exact ⟨k + 1,by omega,by go_num,HN.out⟩
    case measure=>simp [intOf];omega
  ·obtain rfl:k = l.length:=by omega
   have HI:=Lib.hid (idxZ_none l g HF.out)
   go_wp2
   go_ret
   exact ⟨ret_int HI.out.symm,rfl⟩
def AheadPost (l:List Int) (g:Int) (w:World) (e:Ending) (w':World):Prop:=e = .returned (.int .i64 (idxZ l g)) ∧ Below w.heap.size w w'
set_option maxHeartbeats 1000000 in
theorem ahead_any (b:Nat) (ow:Int) (v:Value) (l:List Int) (g:Int) (w:World) (h:Sm w b ow v l) (hl:l.length < 10000000):Calls Tryz.prog 335 #[.pointer (some ⟨b,0,none⟩),.int .i64 g] w (AheadPost l g w):=by
 have hbl:=h.blk.lt
 have c1:(w.alloc (.cells #[.int .i64 g] 3)).cell? ⟨b,1,none⟩ = some v:=(h.below (below_alloc (Below.refl _ _) _)).cell1
 have HI:=Lib.hid (idx_any v l g w.heap.size (w.alloc (.cells #[.int .i64 g] 3)) (h.row.slw.alloc _) hl ((Blk.new w #[.int .i64 g] 3).cell 0))
 clear h
 go_enter Tryz.func335,Tryz.ntmps335
 go_wp2_with fail
 refine HI.out.mono ?_
 rintro e w2 ⟨rfl,rfl⟩
 go_wp2_with fail
 go_ret
 exact ⟨rfl,below_alloc (Below.refl _ _) _⟩
open Go.RowKit Go.Esc Go.Proofs.YtgadhchejmlfjaaGreatDoor.Ref
def acqO (ow g:Int):Int:=if g < 1 then ow else if ow = 0 then g else ow
def acqB (ow g:Int):Bool:=if g < 1 then false else if ow = 0 then true else decide (ow = g)
def acqF (g:Int):Int:=if g < 1 then 1 else 0
def acqL (ow:Int) (l:List Int) (g:Int):List Int:=if g < 1 then l else if ow = 0 then l else if ow = g then l else if g ∈ l then l else l ++ [g]
def AcqPost (b:Nat) (ow:Int) (v:Value) (l:List Int) (g:Int) (w:World) (e:Ending) (w':World):Prop:=
 e = .returned (.tuple #[.bool (acqB ow g),.int .i64 (acqF g)]) ∧ Sp b (acqO ow g) v (acqL ow l g) w w'
theorem Sp.same {b:Nat} {ow:Int} {v:Value} {l:List Int} {w w':World} (h:Sm w' b ow v l) (o:Only (Sf b v) w w'):Sp b ow v l w w':=⟨v,h,o,fun _ h=>.inl h⟩
set_option maxHeartbeats 2000000 in
theorem acquire_any (b:Nat) (ow:Int) (v:Value) (l:List Int) (g:Int) (w:World) (h:Sm w b ow v l) (hl:l.length < 1000000):Calls Tryz.prog 294 #[.pointer (some ⟨b,0,none⟩),.int .i64 g] w (AcqPost b ow v l g w):=by
 have c0:=h.cell0
 have f0:=h.blk.free 0
 have hbl:=h.blk.lt
 unfold AcqPost acqO acqB acqF acqL
 by_cases hg:g < 1
 ·simp only [hg,if_true]
  have hd:decide (g < 1) = true:=by simpa using hg
  have HH:=Lib.hid h
  clear h
  go_enter Tryz.func294,Tryz.ntmps294
  go_wp2
  go_ret2
  exact ⟨rfl,Sp.same HH.out (Only.refl _ _)⟩
 have hd:decide (g < 1) = false:=by simpa using hg
 simp only [hg,if_false]
 by_cases h0:ow = 0
 ·subst h0
  simp only [if_true]
  have HH:=Lib.hid (h.setOw g)
  clear h hg
  go_enter Tryz.func294,Tryz.ntmps294
  go_wp2
  go_ret2
  exact ⟨rfl,Sp.same HH.out ((Only.refl (Sf b v) w).set (.inr (.inl rfl)) _ _)⟩
 have hb0:(ow == 0) = false:=by rw [beq_eq_false_iff_ne];exact h0
 simp only [h0,if_false]
 by_cases h1:ow = g
 ·have hb1:(ow == g) = true:=by rw [beq_iff_eq];exact h1
  simp only [h1,if_true,decide_true]
  have HH:Hid (Sm w b g v l):=by rw [← h1];exact h
  clear h h1 h0 hg
  go_enter Tryz.func294,Tryz.ntmps294
  go_wp2
  go_ret2
  exact ⟨rfl,Sp.same HH.out (Only.refl _ _)⟩
 have hb1:(ow == g) = false:=by rw [beq_eq_false_iff_ne];exact h1
 simp only [h1,if_false,decide_false]
 have HA:=Lib.hid (ahead_any b ow v l g w h (by omega))
 have hm:=idxZ_mem l g
 have HH:=Lib.hid h
 by_cases hmem:g ∈ l
 ·have hdi:decide (idxZ l g < 0) = false:=by rw [decide_eq_false_iff_not,hm];simpa using hmem
  simp only [hmem,if_true]
  clear h h1 h0 hg hm hmem
  generalize hidx:idxZ l g = ix at *
  unfold AheadPost at HA
  rw [hidx] at HA
  clear hidx
  go_enter Tryz.func294,Tryz.ntmps294
  go_wp2_with fail
  refine HA.out.mono ?_
  rintro e w2 ⟨rfl,hb2⟩
  have HB2:=Lib.hid hb2
  clear hb2
  go_wp2_with fail
  go_ret2
  exact ⟨rfl,Sp.same (HH.out.below HB2.out) ((Only.refl _ _).below HB2.out)⟩
 ·have hdi:decide (idxZ l g < 0) = true:=by rw [decide_eq_true_eq,hm];exact hmem
  simp only [hmem,if_false]
  clear h h1 h0 hg hm hmem
  generalize hidx:idxZ l g = ix at *
  unfold AheadPost at HA
  rw [hidx] at HA
  clear hidx
  go_enter Tryz.func294,Tryz.ntmps294
  go_wp2_with fail
  refine HA.out.mono ?_
  rintro e w2 ⟨rfl,hb2⟩
  have HB2:=Lib.hid hb2
  have h2:=HH.out.below hb2
  have d1:=h2.cell1
  have hbl2:=h2.blk.lt
  have HR2:Hid (Rwl (w2.alloc (.cells #[.int .i64 g] 3)) v l):=h2.row.off ((Only.refl (fun _=>False) w2).alloc _) (fun _ _ x=>x)
  have HT:Hid ((w2.alloc (.cells #[.int .i64 g] 3)).cell? ⟨w2.heap.size,0,none⟩ = some (.int .i64 g)):=(Blk.new w2 #[.int .i64 g] 3).cell 0
  have HH2:=Lib.hid h2
  clear hb2 h2
  go_wp2_with (at_builtin;refine appR Tryz.underlying22 info3 (w2.alloc (.cells #[.int .i64 g] 3)) rfl _ _ rfl v l g w2.heap.size rfl rfl HR2.out HT.out (by omega) ?_;intro v' w3 hO3 hG3 hX3 hV3;have hO3w:Only (fun j=>v.ownBlock = some j) w2 w3:=((Only.refl _ w2).alloc _).grown hG3 (fun j e=>.inr e);have hb3:=HH2.out.blk.only hO3w (fun e=>HH2.out.ne e);have e1:=hb3.cell 1;have ef:=hb3.free 1;have hlt3:=hb3.lt;have hnb:v'.ownBlock ≠ some b:=(fun e=>by rcases hX3 b e with h' | h';exact HH2.out.ne h';simp at h';omega);have HO3:=Lib.hid hO3;have HO3w:=Lib.hid hO3w;have HX3:=Lib.hid hX3;have HB3:=Lib.hid hb3;have HNB:=Lib.hid hnb;obtain ⟨g',cap',rfl⟩:=hV3;simp only [List.getElem?_toArray,List.getElem?_cons_zero,List.getElem?_cons_succ] at e1;clear hO3 hG3 hX3 hO3w hb3 hnb)
  go_ret2
  have hS3:Only (Sf b v) w w3:=((Only.refl (Sf b v) w).below HB2.out).andThen HO3w.out (fun j _ hj=>.inr hj)
  refine ⟨rfl,_,⟨HB3.out.set2_1,.inl (HO3.out.off ((Only.refl (fun j=>j = b) w3).set (.inr rfl) _ _) (off_b HNB.out)),HNB.out,fun j hj=>by have:=(HO3.out.lt j hj).2;simpa [World.setCell] using this⟩,hS3.set (.inr (.inl rfl)) _ _,fun j hj=>?_⟩
  rcases HX3.out j hj with h' | h'
  ·exact .inl h'
  ·right
   have:=HB2.out.size
   simp at h'
   omega
def relF (ow g:Int):Int:=if g < 1 then 9 else if ow = g then 0 else 9
def relV (ow:Int) (l:List Int) (g:Int):Int:=if g < 1 then 0 else if ow = g then l.headD 0 else 0
def relO (ow:Int) (l:List Int) (g:Int):Int:=if g < 1 then ow else if ow = g then l.headD 0 else ow
def relL (ow:Int) (l:List Int) (g:Int):List Int:=if g < 1 then l else if ow = g then l.tail else l
def RelPost (b:Nat) (ow:Int) (v:Value) (l:List Int) (g:Int) (w:World) (e:Ending) (w':World):Prop:=
 e = .returned (.tuple #[.int .i64 (relV ow l g),.int .i64 (relF ow g)]) ∧ Sp b (relO ow l g) v (relL ow l g) w w'
theorem Sp.cells {b:Nat} {ow x:Int} {v v':Value} {l l':List Int} {w:World} (h:Sm w b ow v l) (hr:Rwl w v' l') (hn:v'.ownBlock ≠ some b) (hg:∀ j,v'.ownBlock = some j → v.ownBlock = some j):Sp b x v l' w (((w.setCell ⟨b,0,none⟩ (.int .i64 0)).setCell ⟨b,0,none⟩ (.int .i64 x)).setCell ⟨b,1,none⟩ v'):=by
 have h1:=(h.setOw 0).setOw x
 refine ⟨v',h1.setRow (hr.off (((Only.refl (fun j=>j = b) w).set (.inr rfl) _ _).set (.inr rfl) _ _) (off_b hn)) hn (fun j hj=>by have:=h.live j (hg j hj);simpa [World.setCell] using this),(((Only.refl (Sf b v) w).set (.inr (.inl rfl)) _ _).set (.inr (.inl rfl)) _ _).set (.inr (.inl rfl)) _ _,fun j hj=>.inl (hg j hj)⟩
set_option maxHeartbeats 4000000 in
theorem release_any (b:Nat) (ow:Int) (v:Value) (l:List Int) (g:Int) (w:World) (h:Sm w b ow v l) (hl:l.length < 1000000):Calls Tryz.prog 261 #[.pointer (some ⟨b,0,none⟩),.int .i64 g] w (RelPost b ow v l g w):=by
 have c0:=h.cell0
 have c1:=h.cell1
 have f0:=h.blk.free 0
 have f1:=h.blk.free 1
 have hbl:=h.blk.lt
 unfold RelPost relO relV relF relL
 by_cases hg:g < 1
 ·simp only [hg,if_true]
  have hd:decide (g < 1) = true:=by simpa using hg
  have HH:=Lib.hid h
  clear h
  go_enter Tryz.func261,Tryz.ntmps261
  go_wp2
  go_ret2
  exact ⟨rfl,Sp.same HH.out (Only.refl _ _)⟩
 have hd:decide (g < 1) = false:=by simpa using hg
 simp only [hg,if_false]
 by_cases h1:ow = g
 ·subst h1
  have hb1:(ow != ow) = false:=by simp
  simp only [if_true]
  cases l with
  | nil=>
   obtain ⟨a,cap,rfl⟩:=h.row.slw.len
   have HH:=Lib.hid (h.setOw 0)
   clear h hg
   go_enter Tryz.func261,Tryz.ntmps261
   go_wp2
   go_ret2
   exact ⟨rfl,Sp.same HH.out ((Only.refl (Sf b _) w).set (.inr (.inl rfl)) _ _)⟩
  | cons x r=>
   rcases h.row.slw.open with ⟨_,h0⟩ | ⟨_,_,_,h0⟩ | ⟨bu,o,cap,rfl,hne,hcap,hbu,hcells⟩
   ·cases h0
   ·cases h0
   have cx:=hcells 0 (by simp)
   simp only [Nat.add_zero,List.getElem?_cons_zero,Option.getD_some] at cx
   have hll:(x :: r).length = r.length + 1:=by simp
   have hbb:bu ≠ b:=fun e=>h.ne (by rw [e];rfl)
   have hbb2:¬ b = bu:=fun e=>hbb e.symm
   rw [hll] at hcap c1 hl
   have hsl:=h.row.slw
   rw [hll] at h
   have hd2:decide ((0:Int) < (r.length:Int) + 1) = true:=by rw [decide_eq_true_eq];omega
   have q1:(1:Int) ≤ (r.length:Int) + 1:=by omega
   have q2:(r.length:Int) + 1 ≤ (cap:Int):=by omega
   have q3:(1:Int) ≤ (cap:Int):=by omega
   have q4:r.length + 1 ≤ cap:=by omega
   have q5:(0:Int) < (r.length:Int) + 1:=by omega
   by_cases hr0:r = []
   ·subst hr0
    have HS:=Lib.hid (Sp.cells (x:=x) (v':=.slice (some ⟨bu,o,none⟩) 0 0) (l':=[]) h (.inr ⟨Slw.none0 _ _ _,_,rfl⟩) h.ne (fun j hj=>hj))
    clear h hcells hsl hll hg hne
    simp only [List.length_nil,Nat.zero_add] at *
    go_enter Tryz.func261,Tryz.ntmps261
    go_wp2_with fail
    go_region
    all_goals
     go_wp2
     go_ret2
     obtain ⟨v',s1,s2,s3⟩:=HS.out
     exact ⟨rfl,v',⟨s1.blk,s1.row,s1.ne,s1.live⟩,⟨s2.os,s2.tape,s2.output,s2.size,s2.block⟩,s3⟩
   ·have hrp:0 < r.length:=List.length_pos_iff.2 hr0
    have hsl2:Slw w (.slice (some ⟨bu,o + 1,none⟩) r.length r.length) r:=hsl.drop 1 (by simp) (by simp) (Nat.le_refl _)
    have HS:=Lib.hid (Sp.cells (x:=x) (v':=.slice (some ⟨bu,o + 1,none⟩) r.length r.length) (l':=r) h (.inr ⟨hsl2,_,rfl⟩) h.ne (fun j hj=>hj))
    have hrz:¬ r.length = 0:=by omega
    clear h hcells hsl hll hg hne hsl2 hr0
    go_enter Tryz.func261,Tryz.ntmps261
    go_wp2_with fail
    go_region
    all_goals
     go_wp2
     go_ret2
     obtain ⟨v',s1,s2,s3⟩:=HS.out
     exact ⟨rfl,v',⟨s1.blk,s1.row,s1.ne,s1.live⟩,⟨s2.os,s2.tape,s2.output,s2.size,s2.block⟩,s3⟩
 ·have hb1:(ow != g) = true:=by simpa using h1
  simp only [h1,if_false]
  have HH:=Lib.hid h
  clear h h1 hg
  go_enter Tryz.func261,Tryz.ntmps261
  go_wp2
  go_ret2
  exact ⟨rfl,Sp.same HH.out (Only.refl _ _)⟩
end Go.Proofs.YtgadhchejmlfjaaGreatDoor.Sema
end
section
namespace Go.Proofs.YtgadhchejmlfjaaGreatDoor.Gst
open Go.RowKit Go.Esc
def Word (x:Int):Prop:=x = 0 ∨ x = 1 ∨ x = 2 ∨ x = 3 ∨ x = 4 ∨ x = 5 ∨ x = 6 ∨ x = 9 ∨ x = 11 ∨ x = 12 ∨ x = 13
def baseW (x:Int):Int:=if 8 ≤ x then x - 8 else x
def pw (s:Int):Int:=((2 ^ s.toNat:Nat):Int)
def tbl (f:Int):Int:=if f = 0 then 2 else if f = 1 then 36 else if f = 2 then 122 else if f = 3 then 6 else if f = 4 then 2 else if f = 5 then 2 else 0
def mayB (f t:Int):Bool:=bits .and .i64 (tbl f) (pw t) != 0
def moveF (x t:Int):Int:=if mayB (baseW x) t then (if 8 ≤ x ∧ t ≠ 1 then 7 else 0) else 9
def moveW (x t:Int):Int:=if mayB (baseW x) t then (if 8 ≤ x ∧ t ≠ 1 then x else if 8 ≤ x then t + 8 else t) else x
def moveV (x t:Int):Int:=if moveF x t = 0 then moveW x t else 0
theorem Word.facts {x:Int} (h:Word x):bits .andNot .i64 x 8 = baseW x ∧ bits .and .i64 x 8 = (if 8 ≤ x then 8 else 0) ∧ 0 ≤ baseW x ∧ baseW x ≤ 6 ∧ (8 ≤ x → bits .and .i64 58 (pw (baseW x)) ≠ 0):=by
 rcases h with rfl | rfl | rfl | rfl | rfl | rfl | rfl | rfl | rfl | rfl | rfl <;> decide +kernel
theorem shl_run (s:Int) (h0:0 ≤ s) (h6:s ≤ 6) (w:World):Sem.run Tryz.prog (Op.shift BinOp.shl IntKind.i64 1 IntKind.i64 s) w = .ok (.int .i64 (pw s)) w:=by
 have:s = 0 ∨ s = 1 ∨ s = 2 ∨ s = 3 ∨ s = 4 ∨ s = 5 ∨ s = 6:=by omega
 rcases this with rfl | rfl | rfl | rfl | rfl | rfl | rfl
 all_goals (refine Eq.trans ?_ rfl;kernel_rfl)
theorem status_any (s:Int) (w:World):Calls Tryz.prog 220 #[.int .i64 s] w fun e w'=>e = .returned (.bool (decide (0 ≤ s ∧ s ≤ 6))) ∧ w = w':=by
 by_cases h:0 ≤ s
 ·go_enter Tryz.func220,Tryz.ntmps220
  go_wp2
  go_ret
  exact ⟨by simp [h],rfl⟩
 ·have hd:decide (0 ≤ s) = false:=by simpa using h
  rw [show decide (0 ≤ s ∧ s ≤ 6) = false by simp [h]]
  go_enter Tryz.func220,Tryz.ntmps220
  go_wp2
  go_ret
  exact ⟨rfl,rfl⟩
theorem status_in (s:Int) (w:World) (h0:0 ≤ s) (h6:s ≤ 6):Calls Tryz.prog 220 #[.int .i64 s] w fun e w'=>e = .returned (.bool true) ∧ w = w':=by
 have:=status_any s w
 rwa [show decide (0 ≤ s ∧ s ≤ 6) = true by simp [h0,h6]] at this
theorem bit_any (s:Int) (w:World) (h0:0 ≤ s) (h6:s ≤ 6):Calls Tryz.prog 221 #[.int .i64 s] w fun e w'=>e = .returned (.int .i64 (pw s)) ∧ w = w':=by
 have h:=shl_run s h0 h6
 clear h0 h6
 go_enter Tryz.func221,Tryz.ntmps221
 go_wp2
 go_ret
 exact ⟨rfl,rfl⟩
set_option maxHeartbeats 1000000 in
theorem is_any (x:Int) (w:World) (h:Word x):Calls Tryz.prog 152 #[.int .i64 x] w fun e w'=>e = .returned (.bool true) ∧ w = w':=by
 obtain ⟨f1,f2,f3,f4,f5⟩:=h.facts
 clear h f2
 by_cases h8:8 ≤ x
 ·have hx:(x == baseW x) = false:=by rw [beq_eq_false_iff_ne];unfold baseW;rw [if_pos h8];omega
  have h5:(bits .and .i64 58 (pw (baseW x)) != 0) = true:=by simpa using f5 h8
  generalize baseW x = s at *
  clear f5 h8
  go_enter Tryz.func152,Tryz.ntmps152
  go_wp2_with (first | (go_at_call 220;refine (status_in _ _ (by assumption) (by assumption)).mono ?_;rintro e w1 ⟨rfl,rfl⟩) | (go_at_call 221;refine (bit_any _ _ (by assumption) (by assumption)).mono ?_;rintro e w1 ⟨rfl,rfl⟩))
  go_ret
  exact ⟨rfl,rfl⟩
 ·have hx:(x == baseW x) = true:=by rw [beq_iff_eq];unfold baseW;rw [if_neg h8]
  generalize baseW x = s at *
  clear f5 h8
  go_enter Tryz.func152,Tryz.ntmps152
  go_wp2_with (go_at_call 220;refine (status_in _ _ (by assumption) (by assumption)).mono ?_;rintro e w1 ⟨rfl,rfl⟩)
  go_ret
  exact ⟨rfl,rfl⟩
theorem scanned_any (x:Int) (w:World) (h:Word x):Calls Tryz.prog 96 #[.int .i64 x] w fun e w'=>e = .returned (.bool (decide (8 ≤ x))) ∧ w = w':=by
 obtain ⟨f1,f2,f3,f4,f5⟩:=h.facts
 have hi:=Lib.hid (is_any x)
 have hb:(bits .and .i64 x 8 != 0) = decide (8 ≤ x):=by rw [f2];split <;> simp [*]
 clear f1 f2 f3 f4 f5
 go_enter Tryz.func96,Tryz.ntmps96
 go_wp2_with (go_at_call 152;refine (hi.out _ h).mono ?_;rintro e w1 ⟨rfl,rfl⟩)
 go_ret
 exact ⟨rfl,rfl⟩
theorem base_any (x:Int) (w:World) (h:Word x):Calls Tryz.prog 226 #[.int .i64 x] w fun e w'=>e = .returned (.int .i64 (baseW x)) ∧ w = w':=by
 obtain ⟨f1,f2,f3,f4,f5⟩:=h.facts
 have hi:=Lib.hid (is_any x)
 clear f2 f3 f4 f5
 go_enter Tryz.func226,Tryz.ntmps226
 go_wp2_with (go_at_call 152;refine (hi.out _ h).mono ?_;rintro e w1 ⟨rfl,rfl⟩)
 go_ret
 exact ⟨rfl,rfl⟩
set_option maxHeartbeats 1000000 in
theorem follows_any (w:World):Calls Tryz.prog 283 #[] w fun e w'=>e = .returned (.agg #[.int .i64 2,.int .i64 36,.int .i64 122,.int .i64 6,.int .i64 2,.int .i64 2,.int .i64 0]) ∧ Below w.heap.size w w':=by
 have o1:bits .or .i64 4 32 = 36:=by decide +kernel
 have o2:bits .or .i64 2 8 = 10:=by decide +kernel
 have o3:bits .or .i64 10 16 = 26:=by decide +kernel
 have o4:bits .or .i64 26 32 = 58:=by decide +kernel
 have o5:bits .or .i64 58 64 = 122:=by decide +kernel
 have o6:bits .or .i64 4 2 = 6:=by decide +kernel
 go_enter Tryz.func283,Tryz.ntmps283
 go_wp2
 exact bodyPost_ret (v:=.agg #[.int .i64 2,.int .i64 36,.int .i64 122,.int .i64 6,.int .i64 2,.int .i64 2,.int .i64 0]) (by simp [results,Tryz.results283,go_sem]) rfl ⟨rfl,(Below.refl _ _).alloc (Nat.le_refl _) _⟩
def BoolB (b:Bool) (w:World) (e:Ending) (w':World):Prop:=e = .returned (.bool b) ∧ Below w.heap.size w w'
theorem idx_run (f:Int) (h0:0 ≤ f) (h6:f ≤ 6) (w:World):(Instr.index 361 (.agg #[.int .i64 2,.int .i64 36,.int .i64 122,.int .i64 6,.int .i64 2,.int .i64 2,.int .i64 0]) (.int .i64 f)).run Tryz.prog w = .ok (.int .i64 (tbl f)) w:=by
 have:f = 0 ∨ f = 1 ∨ f = 2 ∨ f = 3 ∨ f = 4 ∨ f = 5 ∨ f = 6:=by omega
 rcases this with rfl | rfl | rfl | rfl | rfl | rfl | rfl
 all_goals (refine Eq.trans ?_ rfl;kernel_rfl)
set_option maxHeartbeats 1000000 in
theorem may_any (f t:Int) (w:World) (h0:0 ≤ f) (h6:f ≤ 6) (t0:0 ≤ t) (t6:t ≤ 6):Calls Tryz.prog 237 #[.int .i64 f,.int .i64 t] w (BoolB (mayB f t) w):=by
 have hix:=idx_run f h0 h6
 unfold mayB
 go_enter Tryz.func237,Tryz.ntmps237
 go_wp2
 go_region_with (first | (go_at_call 220;refine (status_in _ _ (by assumption) (by assumption)).mono ?_;rintro e w1 ⟨rfl,rfl⟩) | (go_at_call 221;refine (bit_any _ _ (by assumption) (by assumption)).mono ?_;rintro e w1 ⟨rfl,rfl⟩) | (go_at_call 283;refine (follows_any _).mono ?_;rintro e w1 ⟨rfl,hb⟩))
 all_goals
  go_wp2
  go_ret
  exact ⟨rfl,undrew (by assumption)⟩
set_option maxHeartbeats 1000000 in
theorem move_any (x t:Int) (w:World) (h:Word x) (t1:1 ≤ t) (t6:t ≤ 6):Calls Tryz.prog 170 #[.int .i64 x,.int .i64 t] w fun e w'=>e = .returned (.tuple #[.int .i64 (moveV x t),.int .i64 (moveF x t)]) ∧ Below w.heap.size w w':=by
 obtain ⟨f1,f2,f3,f4,f5⟩:=h.facts
 have HM:=Lib.hid (fun w=>may_any (baseW x) t w f3 f4 (by omega) t6)
 have hT:=Lib.hid (fun w=>status_in t w (by omega) t6)
 have ho:bits .or .i64 t 0 = t ∧ bits .or .i64 1 8 = 9:=by
  have:t = 1 ∨ t = 2 ∨ t = 3 ∨ t = 4 ∨ t = 5 ∨ t = 6:=by omega
  rcases this with rfl | rfl | rfl | rfl | rfl | rfl <;> decide +kernel
 obtain ⟨o1,o2⟩:=ho
 have hI:=Lib.hid (fun w=>is_any x w h)
 have hS:=Lib.hid (fun w=>scanned_any x w h)
 have hB:=Lib.hid (fun w=>base_any x w h)
 clear f1 f3 f4 f5
 unfold moveV moveF moveW
 generalize baseW x = s at *
 by_cases hm:mayB s t = true
 ·simp only [hm,if_true]
  by_cases h8:8 ≤ x
  ·have hd:decide (8 ≤ x) = true:=by simpa using h8
   simp only [h8,if_true,true_and] at f2 ⊢
   by_cases ht:t = 1
   ·subst ht
    simp only [if_true,ne_eq,not_true_eq_false,if_false,Int.reduceAdd]
    have hM:Hid (∀ w,Calls Tryz.prog 237 #[.int .i64 s,.int .i64 1] w (BoolB true w)):=by have:=HM.out;rwa [hm] at this
    clear h hm h8 HM
    go_enter Tryz.func170,Tryz.ntmps170
    go_wp2_with (first | (go_at_call 152;refine (hI.out _).mono ?_;rintro e w1 ⟨rfl,rfl⟩) | (go_at_call 220;refine (hT.out _).mono ?_;rintro e w1 ⟨rfl,rfl⟩) | (go_at_call 226;refine (hB.out _).mono ?_;rintro e w1 ⟨rfl,rfl⟩) | (go_at_call 237;refine (hM.out _).mono ?_;rintro e w1 ⟨rfl,hb⟩) | (go_at_call 96;refine (hS.out _).mono ?_;rintro e w1 ⟨rfl,rfl⟩))
    go_ret2
    exact ⟨rfl, ‹_›⟩
   ·have ht1:(t != 1) = true:=by simpa using ht
    simp only [ht,ne_eq,not_false_eq_true,if_true,show ¬ ((7:Int) = 0) by decide,if_false]
    have hM:Hid (∀ w,Calls Tryz.prog 237 #[.int .i64 s,.int .i64 t] w (BoolB true w)):=by have:=HM.out;rwa [hm] at this
    clear h hm h8 HM ht
    go_enter Tryz.func170,Tryz.ntmps170
    go_wp2_with (first | (go_at_call 152;refine (hI.out _).mono ?_;rintro e w1 ⟨rfl,rfl⟩) | (go_at_call 220;refine (hT.out _).mono ?_;rintro e w1 ⟨rfl,rfl⟩) | (go_at_call 226;refine (hB.out _).mono ?_;rintro e w1 ⟨rfl,rfl⟩) | (go_at_call 237;refine (hM.out _).mono ?_;rintro e w1 ⟨rfl,hb⟩) | (go_at_call 96;refine (hS.out _).mono ?_;rintro e w1 ⟨rfl,rfl⟩))
    go_ret2
    exact ⟨rfl, ‹_›⟩
  ·have hd:decide (8 ≤ x) = false:=by simpa using h8
   simp only [h8,if_false,false_and,if_true] at f2 ⊢
   have hM:Hid (∀ w,Calls Tryz.prog 237 #[.int .i64 s,.int .i64 t] w (BoolB true w)):=by have:=HM.out;rwa [hm] at this
   clear h hm h8 HM
   go_enter Tryz.func170,Tryz.ntmps170
   go_wp2_with (first | (go_at_call 152;refine (hI.out _).mono ?_;rintro e w1 ⟨rfl,rfl⟩) | (go_at_call 220;refine (hT.out _).mono ?_;rintro e w1 ⟨rfl,rfl⟩) | (go_at_call 226;refine (hB.out _).mono ?_;rintro e w1 ⟨rfl,rfl⟩) | (go_at_call 237;refine (hM.out _).mono ?_;rintro e w1 ⟨rfl,hb⟩) | (go_at_call 96;refine (hS.out _).mono ?_;rintro e w1 ⟨rfl,rfl⟩))
   go_ret2
   exact ⟨rfl, ‹_›⟩
 ·have hm':mayB s t = false:=by simpa using hm
  simp only [hm',Bool.false_eq_true,if_false,show ¬ ((9:Int) = 0) by decide]
  have hM:Hid (∀ w,Calls Tryz.prog 237 #[.int .i64 s,.int .i64 t] w (BoolB false w)):=by have:=HM.out;rwa [hm'] at this
  clear h hm hm' HM
  go_enter Tryz.func170,Tryz.ntmps170
  go_wp2_with (first | (go_at_call 152;refine (hI.out _).mono ?_;rintro e w1 ⟨rfl,rfl⟩) | (go_at_call 220;refine (hT.out _).mono ?_;rintro e w1 ⟨rfl,rfl⟩) | (go_at_call 226;refine (hB.out _).mono ?_;rintro e w1 ⟨rfl,rfl⟩) | (go_at_call 237;refine (hM.out _).mono ?_;rintro e w1 ⟨rfl,hb⟩) | (go_at_call 96;refine (hS.out _).mono ?_;rintro e w1 ⟨rfl,rfl⟩))
  go_ret2
  exact ⟨rfl, ‹_›⟩
end Go.Proofs.YtgadhchejmlfjaaGreatDoor.Gst
end
section
namespace Go.Proofs.YtgadhchejmlfjaaGreatDoor.Dec
open Go.RowKit Go.Esc
def Bs (w:World) (v:Value) (l:List Bool):Prop:=∃ b off cap,v = .slice (some ⟨b,off,none⟩) l.length cap ∧ b < w.heap.size ∧ ∀ i,i < l.length → w.cell? ⟨b,off + i,none⟩ = some (.bool (l[i]?.getD false))
def safeB (l:List Bool) (pc:Int):Bool:=if 0 ≤ pc then l[pc.toNat]?.getD false else false
def stopsB (n:Nat) (l:List Bool) (pc:Int):Bool:=decide (pc = 0) || (decide (pc < n) && safeB l pc)
def BoolB (b:Bool) (w:World) (e:Ending) (w':World):Prop:=e = .returned (.bool b) ∧ Below w.heap.size w w'
def IntB (b:Int) (w:World) (e:Ending) (w':World):Prop:=e = .returned (.int .i64 b) ∧ Below w.heap.size w w'
set_option maxHeartbeats 1000000 in
theorem prologue_any (ca:Option Addr) (n cc:Nat) (sv:Value) (pc:Int) (w:World) (hn:0 < n):Calls Tryz.prog 154 #[.agg #[.slice ca n cc,sv],.int .i64 pc] w (BoolB (decide (pc = 0)) w):=by
 by_cases h:pc = 0
 ·subst h
  rw [decide_eq_true rfl]
  go_enter Tryz.func154,Tryz.ntmps154
  go_wp2
  go_ret
  exact ⟨rfl,below_alloc (Below.refl _ _) _⟩
 ·have hb:(pc == 0) = false:=by simpa using h
  rw [decide_eq_false h]
  go_enter Tryz.func154,Tryz.ntmps154
  go_wp2
  go_ret
  exact ⟨rfl,below_alloc (Below.refl _ _) _⟩
set_option maxHeartbeats 1000000 in
theorem safe_any (cv sv:Value) (l:List Bool) (pc:Int) (w:World) (hs:Bs w sv l):Calls Tryz.prog 155 #[.agg #[cv,sv],.int .i64 pc] w (BoolB (safeB l pc) w):=by
 obtain ⟨b,off,cap,rfl,hb,hc⟩:=hs
 unfold safeB
 by_cases h:0 ≤ pc
 ·rw [if_pos h]
  obtain ⟨k,rfl⟩:∃ k:Nat,pc = k:=⟨pc.toNat,by omega⟩
  by_cases hl:k < l.length
  ·have hk:=hc k hl
   have hd:decide ((k:Int) < (l.length:Int)) = true:=by simpa using hl
   have hbb:¬ b = w.heap.size:=by omega
   rw [Int.toNat_natCast]
   generalize l[k]?.getD false = x at *
   clear hc
   go_enter Tryz.func155,Tryz.ntmps155
   go_wp2
   go_ret
   exact ⟨rfl,below_alloc (Below.refl _ _) _⟩
  ·have hd:decide (k < l.length) = false:=by simpa using hl
   rw [Int.toNat_natCast,List.getElem?_eq_none (by omega)]
   clear hc
   go_enter Tryz.func155,Tryz.ntmps155
   go_wp2
   go_ret
   exact ⟨rfl,below_alloc (Below.refl _ _) _⟩
 ·rw [if_neg h]
  have hd:decide (0 ≤ pc) = false:=by simpa using h
  clear hc
  go_enter Tryz.func155,Tryz.ntmps155
  go_wp2
  go_ret
  exact ⟨rfl,below_alloc (Below.refl _ _) _⟩
theorem Bs.below {w w':World} {v:Value} {l:List Bool} (h:Bs w v l) (hb:Below w.heap.size w w'):Bs w' v l:=by
 obtain ⟨b,off,cap,rfl,h1,h2⟩:=h
 exact ⟨b,off,cap,rfl,Nat.lt_of_lt_of_le h1 hb.size,fun i hi=>(hb.cell (p:=⟨b,off + i,none⟩) h1).trans (h2 i hi)⟩
set_option maxHeartbeats 2000000 in
theorem stops_any (ca:Option Addr) (n cc:Nat) (sv:Value) (l:List Bool) (pc:Int) (w:World) (hn:0 < n) (hs:Bs w sv l):Calls Tryz.prog 98 #[.agg #[.slice ca n cc,sv],.int .i64 pc] w (BoolB (stopsB n l pc) w):=by
 have HS:=Lib.hid hs
 have hsv:∃ a n c,sv = .slice a n c:=by obtain ⟨b,off,cap,rfl,_⟩:=hs;exact ⟨_,_,_,rfl⟩
 obtain ⟨sa,sn,sc,rfl⟩:=hsv
 have HP:=Lib.hid (fun w=>prologue_any ca n cc (.slice sa sn sc) pc w hn)
 unfold stopsB
 clear hs hn
 by_cases h0:pc = 0
 ·have:decide (pc = 0) = true:=by simpa using h0
  simp only [this,Bool.true_or] at HP ⊢
  clear h0
  go_enter Tryz.func98,Tryz.ntmps98
  go_wp2_with (go_at_call 154;refine (HP.out _).mono ?_;rintro e w1 ⟨rfl,hb⟩)
  go_ret
  exact ⟨rfl,below_below (below_alloc (Below.refl _ _) _) hb⟩
 ·have:decide (pc = 0) = false:=by simpa using h0
  simp only [this,Bool.false_or] at HP ⊢
  by_cases h1:pc < n
  ·have hd:decide (pc < (n:Int)) = true:=by simpa using h1
   simp only [hd,Bool.true_and]
   clear h0 h1
   go_enter Tryz.func98,Tryz.ntmps98
   go_wp2_with fail
   refine (HP.out _).mono ?_
   rintro e w1 ⟨rfl,hb⟩
   have hB:=below_below (below_alloc (Below.refl _ _) (.cells #[.slice ca n cc,.slice sa sn sc] 87)) hb
   have hc0:=hb.cell (p:=⟨w.heap.size,0,none⟩) (by simp)
   have hc1:=hb.cell (p:=⟨w.heap.size,1,none⟩) (by simp)
   simp at hc0 hc1
   have hz:w.heap.size < w1.heap.size:=by have:=hb.size;simp at this;omega
   have HA:=Lib.hid (fun w' h=>safe_any (.slice ca n cc) (.slice sa sn sc) l pc w' h)
   have HS1:=Lib.hid (HS.out.below hB)
   have HB:=Lib.hid hB
   clear hb hB
   go_wp2_with fail
   refine (HA.out _ HS1.out).mono ?_
   rintro e w2 ⟨rfl,hb2⟩
   go_wp2_with fail
   go_ret
   exact ⟨rfl,below_below HB.out hb2⟩
  ·have hd:decide (pc < (n:Int)) = false:=by simpa using h1
   simp only [hd,Bool.false_and]
   clear h0 h1
   go_enter Tryz.func98,Tryz.ntmps98
   go_wp2_with fail
   refine (HP.out _).mono ?_
   rintro e w1 ⟨rfl,hb⟩
   have hB:=below_below (below_alloc (Below.refl _ _) (.cells #[.slice ca n cc,.slice sa sn sc] 87)) hb
   have hc0:=hb.cell (p:=⟨w.heap.size,0,none⟩) (by simp)
   simp at hc0
   have hz:w.heap.size < w1.heap.size:=by have:=hb.size;simp at this;omega
   have HB:=Lib.hid hB
   clear hb hB
   go_wp2_with fail
   go_ret
   exact ⟨rfl,HB.out⟩
def flg (a p b st su sp:Bool):Value:=.agg #[.bool a,.bool p,.bool b,.bool st,.bool su,.bool sp]
def behindZ (b st su sp:Bool):Int:=if b then 1 else if su then 2 else if st then 3 else if sp then 3 else 4
set_option maxHeartbeats 2000000 in
theorem behind_any (a p b st su sp:Bool) (w:World):Calls Tryz.prog 254 #[flg a p b st su sp] w (IntB (behindZ b st su sp) w):=by
 unfold flg behindZ
 cases b <;> cases su <;> cases st <;> cases sp
 all_goals
  go_enter Tryz.func254,Tryz.ntmps254
  go_wp2
  go_ret
  exact ⟨rfl,below_alloc (Below.refl _ _) _⟩
def decideZ (n:Nat) (l:List Bool) (pc:Int) (a p b st su sp:Bool):Int:=if (a || (p && decide (pc = 0))) && stopsB n l pc then behindZ b st su sp else 0
set_option maxHeartbeats 4000000 in
theorem decide_any (ca:Option Addr) (n cc:Nat) (sv:Value) (l:List Bool) (pc:Int) (a p b st su sp:Bool) (w:World) (hn:0 < n) (hs:Bs w sv l):Calls Tryz.prog 180 #[.agg #[.slice ca n cc,sv],.int .i64 pc,flg a p b st su sp] w (IntB (decideZ n l pc a p b st su sp) w):=by
 have HS:=Lib.hid hs
 have hsv:∃ a n c,sv = .slice a n c:=by obtain ⟨b,off,cap,rfl,_⟩:=hs;exact ⟨_,_,_,rfl⟩
 obtain ⟨sa,sn,sc,rfl⟩:=hsv
 have HP:=Lib.hid (fun w=>prologue_any ca n cc (.slice sa sn sc) pc w hn)
 have HT:=Lib.hid (fun w h=>stops_any ca n cc (.slice sa sn sc) l pc w hn h)
 have HE:=Lib.hid (fun w=>behind_any a p b st su sp w)
 unfold decideZ
 unfold flg at *
 clear hs hn
 generalize stopsB n l pc = T at *
 generalize decide (pc = 0) = Z at *
 generalize behindZ b st su sp = E at *
 have HW:=Lib.hid (below_alloc (below_alloc (Below.refl w.heap.size w) (.cells #[.slice ca n cc,.slice sa sn sc] 87)) (.cells #[.bool a,.bool p,.bool b,.bool st,.bool su,.bool sp] 270))
 cases a <;> cases p <;> cases Z <;> cases T
 all_goals
  go_enter Tryz.func180,Tryz.ntmps180
  go_wp2_with (first
   | (go_at_call 154;refine (HP.out _).mono ?_;rintro e w1 ⟨rfl,hb1⟩;obtain ⟨c1,f1⟩:=bcell hb1;have hz1:w.heap.size + 1 < w1.heap.size:=by { have:=hb1.size;simp at this;omega };have HB1:=Lib.hid (below_below HW.out hb1);clear hb1)
   | (go_at_call 98;refine (HT.out _ (by first | exact HS.out.below HB1.out | exact HS.out.below HW.out)).mono ?_;rintro e w3 ⟨rfl,hb3⟩;obtain ⟨c3,f3⟩:=bcell hb3;have hz3:w.heap.size + 1 < w3.heap.size:=by { have:=hb3.size;(try simp at this);omega };have HB3:=Lib.hid (by first | exact below_below HB1.out hb3 | exact below_below HW.out hb3:Below w.heap.size w w3);clear hb3)
   | (go_at_call 254;refine (HE.out _).mono ?_;rintro e w4 ⟨rfl,hb4⟩))
  go_ret
  exact ⟨rfl,by first | exact below_below HB3.out hb4 | exact HB3.out | exact HB1.out | exact HW.out⟩
def clrB (x:Bool) (act:Int):Bool:=if act = 2 ∨ act = 3 ∨ act = 4 then false else x
def ClearP (a p:Bool) (act:Int) (w:World) (e:Ending) (w':World):Prop:=∃ b st su sp,e = .returned (flg (clrB a act) (clrB p act) b st su sp) ∧ Below w.heap.size w w'
set_option maxHeartbeats 2000000 in
theorem clear_any (a p b st su sp:Bool) (act:Int) (w:World) (h:act = 2 ∨ act = 3 ∨ act = 4):Calls Tryz.prog 256 #[flg a p b st su sp,.int .i64 act] w (ClearP a p act w):=by
 unfold flg
 rcases h with rfl | rfl | rfl
 ·go_enter Tryz.func256,Tryz.ntmps256
  go_wp2
  exact bodyPost_ret (v:=flg false false b st false false) (by simp [results,Tryz.results256,go_sem,flg]) rfl ⟨b,st,false,false,rfl,below_alloc (below_alloc (Below.refl _ _) _) _⟩
 ·go_enter Tryz.func256,Tryz.ntmps256
  go_wp2
  exact bodyPost_ret (v:=flg false false b st su false) (by simp [results,Tryz.results256,go_sem,flg]) rfl ⟨b,st,su,false,rfl,below_alloc (below_alloc (Below.refl _ _) _) _⟩
 ·go_enter Tryz.func256,Tryz.ntmps256
  go_wp2
  exact bodyPost_ret (v:=flg false false b st su sp) (by simp [results,Tryz.results256,go_sem,flg]) rfl ⟨b,st,su,sp,rfl,below_alloc (below_alloc (Below.refl _ _) _) _⟩
theorem wake_any (i s n:Int) (w:World):Calls Tryz.prog 291 #[.int .i64 i,.int .i64 s,.int .i64 n] w fun e w'=>e = .returned (.bool (decide (0 < i ∧ s ≤ 0 ∧ 0 < n))) ∧ w = w':=by
 by_cases h1:0 < i
 ·have d1:decide (0 < i) = true:=by simpa using h1
  by_cases h2:s ≤ 0
  ·have d2:decide (s ≤ 0) = true:=by simpa using h2
   rw [show decide (0 < i ∧ s ≤ 0 ∧ 0 < n) = decide (0 < n) by simp [h1,h2]]
   clear h1 h2
   go_enter Tryz.func291,Tryz.ntmps291
   go_wp2
   go_ret
   exact ⟨rfl,rfl⟩
  ·have d2:decide (s ≤ 0) = false:=by simpa using h2
   rw [show decide (0 < i ∧ s ≤ 0 ∧ 0 < n) = false by simp [h1,h2]]
   clear h1 h2
   go_enter Tryz.func291,Tryz.ntmps291
   go_wp2
   go_ret
   exact ⟨rfl,rfl⟩
 ·have d1:decide (0 < i) = false:=by simpa using h1
  rw [show decide (0 < i ∧ s ≤ 0 ∧ 0 < n) = false by simp [h1]]
  clear h1
  go_enter Tryz.func291,Tryz.ntmps291
  go_wp2
  go_ret
  exact ⟨rfl,rfl⟩
end Go.Proofs.YtgadhchejmlfjaaGreatDoor.Dec
end
