/- Contracts ported from other seats by program (tod.py): Procs ProcsTotal ProcsGrow ProcsGrowWalk ProcsNew ProcsQueues. -/
import Derived.Test.YtgadhchejmlfjaaGreatDoorA6
import Derived.Deep.LoopGhost
import Derived.WalkMore
set_option linter.unusedVariables false
set_option maxRecDepth 20000
namespace Go.Proofs.YtgadhchejmlfjaaGreatDoor.Procs
open Go.RowKit Go.Esc
open Go.Proofs.YtgadhchejmlfjaaGreatDoor.Ring (Rw Sg allL)
structure Rn where
 b:Nat
 g:Nat
 nx:Int
 row:List Int
def ptrs (n:Nat) (R:Nat → Rn):List Value:=(List.range n).map fun i=>.pointer (some ⟨(R i).b,0,none⟩)
theorem ptrs_at (n:Nat) (R:Nat → Rn) (i:Nat) (h:i < n):(ptrs n R)[i]?.getD undef = .pointer (some ⟨(R i).b,0,none⟩):=by simp [ptrs,h]
structure Prc (w:World) (p:Nat) (rv:Value) (n:Nat) (R:Nat → Rn):Prop where
 blk:Blk w p #[rv] 195
 own:Rdv w 0 126 1 rv n (ptrs n R)
 ring:∀ i,i < n → Rw w (R i).b (R i).g 256 (R i).nx (R i).row
 np:rv.ownBlock ≠ some p
 rp:∀ i,i < n → ¬ Sg (R i).b (R i).g p
 rr:∀ i,i < n → Off (Sg (R i).b (R i).g) rv
 dis:∀ i j,i < n → j < n → i ≠ j → ∀ k,Sg (R i).b (R i).g k → ¬ Sg (R j).b (R j).g k
def Pf (p:Nat) (rv:Value) (n:Nat) (R:Nat → Rn) (j:Nat):Prop:=j = p ∨ rv.ownBlock = some j ∨ ∃ i,i < n ∧ Sg (R i).b (R i).g j
theorem Prc.lt {w:World} {p:Nat} {rv:Value} {n:Nat} {R:Nat → Rn} (h:Prc w p rv n R) {j:Nat} (hj:Pf p rv n R j):j < w.heap.size:=by
 rcases hj with rfl | hj | ⟨i,hi,hj | hj⟩
 ·exact h.blk.lt
 ·exact (h.own.lt j hj).2
 ·rw [hj];exact (h.ring i hi).lt.1
 ·rw [hj];exact (h.ring i hi).lt.2
theorem Prc.only {S:Nat → Prop} {w w':World} {p:Nat} {rv:Value} {n:Nat} {R:Nat → Rn} (h:Prc w p rv n R) (o:Only S w w') (hs:∀ j,Pf p rv n R j → ¬ S j):Prc w' p rv n R:=
 ⟨h.blk.only o (hs p (.inl rfl)),h.own.off o (fun j hj=>hs j (.inr (.inl hj))),fun i hi=>(h.ring i hi).only o (fun j hj=>hs j (.inr (.inr ⟨i,hi,hj⟩))),h.np,h.rp,h.rr,h.dis⟩
theorem Prc.below {w w':World} {p:Nat} {rv:Value} {n:Nat} {R:Nat → Rn} (h:Prc w p rv n R) (hb:Below w.heap.size w w'):Prc w' p rv n R:=
 h.only (S:=fun _=>False) ((Only.refl _ w).below hb) (fun _ _ x=>x)
theorem Prc.drewN {w:World} {p:Nat} {rv:Value} {n:Nat} {R:Nat → Rn} (h:Prc w p rv n R) (k:Nat):Prc (w.drewN k) p rv n R:=
 ⟨h.blk,h.own,fun i hi=>(h.ring i hi).drewN k,h.np,h.rp,h.rr,h.dis⟩
set_option maxHeartbeats 1000000 in
theorem is_any (x:Int) (w:World):Calls Tryz.prog 107 #[.int .i64 x] w fun e w'=>e = .returned (.bool (decide (1 ≤ x ∧ x ≤ 256))) ∧ w = w':=by
 by_cases h1:1 ≤ x
 ·by_cases h2:x ≤ 256
  ·rw [decide_eq_true ⟨h1,h2⟩]
   go_enter Tryz.func107,Tryz.ntmps107
   go_wp2
   go_ret
   exact ⟨rfl,rfl⟩
  ·rw [decide_eq_false (fun h=>h2 h.2)]
   have hd:decide (x ≤ 256) = false:=by simpa using h2
   clear h2
   go_enter Tryz.func107,Tryz.ntmps107
   go_wp2
   go_ret
   exact ⟨rfl,rfl⟩
 ·rw [decide_eq_false (fun h=>h1 h.1)]
  have hd:decide (1 ≤ x) = false:=by simpa using h1
  clear h1
  go_enter Tryz.func107,Tryz.ntmps107
  go_wp2
  go_ret
  exact ⟨rfl,rfl⟩
theorem Prc.slice {w:World} {p:Nat} {rv:Value} {n:Nat} {R:Nat → Rn} (h:Prc w p rv n R):∃ a cap,rv = .slice a n cap:=by
 rcases h.own.open with ⟨rfl,rfl⟩ | ⟨g,cap,rfl,_⟩
 ·exact ⟨none,0,rfl⟩
 ·exact ⟨_,cap,rfl⟩
set_option maxHeartbeats 1000000 in
theorem len_any (p:Nat) (rv:Value) (n:Nat) (R:Nat → Rn) (w:World) (h:Prc w p rv n R):Calls Tryz.prog 57 #[.pointer (some ⟨p,0,none⟩)] w fun e w'=>e = .returned (.int .i64 n) ∧ w = w':=by
 obtain ⟨a,cap,rfl⟩:=h.slice
 have c0:=h.blk.cell 0
 simp only [List.getElem?_toArray,List.getElem?_cons_zero] at c0
 clear h
 go_enter Tryz.func57,Tryz.ntmps57
 go_wp2
 go_ret
 exact ⟨rfl,rfl⟩
def ringP (n:Nat) (R:Nat → Rn) (i:Int):Value:=if 0 ≤ i ∧ i < n then .pointer (some ⟨(R i.toNat).b,0,none⟩) else .pointer none
set_option maxHeartbeats 1000000 in
theorem ring_any (p:Nat) (rv:Value) (n:Nat) (R:Nat → Rn) (i:Int) (w:World) (h:Prc w p rv n R):Calls Tryz.prog 50 #[.pointer (some ⟨p,0,none⟩),.int .i64 i] w fun e w'=>e = .returned (ringP n R i) ∧ w = w':=by
 have HL:=Lib.hid (len_any p rv n R w h)
 unfold ringP
 by_cases h0:i < 0
 ·rw [if_neg (by omega)]
  clear h
  go_enter Tryz.func50,Tryz.ntmps50
  go_wp2
  go_ret
  exact ⟨rfl,rfl⟩
 ·have hd0:decide (i < 0) = false:=by simpa using h0
  by_cases h1:i < n
  ·rw [if_pos ⟨by omega,h1⟩]
   obtain ⟨k,rfl⟩:=Int.eq_ofNat_of_zero_le (show 0 ≤ i by omega)
   rw [Int.toNat_natCast]
   have hk:k < n:=by omega
   rcases h.own.open with ⟨_,h0⟩ | ⟨g,cap,rfl,_,hg,hc,hcells⟩
   ·omega
   have cx:=hcells k (by omega)
   rw [ptrs_at n R k hk] at cx
   have c0:=h.blk.cell 0
   simp only [List.getElem?_toArray,List.getElem?_cons_zero] at c0
   have hd1:decide ((n:Int) ≤ (k:Int)) = false:=by simp;omega
   clear h hcells h0
   go_enter Tryz.func50,Tryz.ntmps50
   go_wp2_with fail
   refine HL.out.mono ?_
   rintro e w1 ⟨rfl,rfl⟩
   go_wp2_with fail
   go_ret
   exact ⟨rfl,rfl⟩
  ·rw [if_neg (by omega)]
   have hd1:decide ((n:Int) ≤ i) = true:=by simp;omega
   clear h
   go_enter Tryz.func50,Tryz.ntmps50
   go_wp2_with fail
   refine HL.out.mono ?_
   rintro e w1 ⟨rfl,rfl⟩
   go_wp2_with fail
   go_ret
   exact ⟨rfl,rfl⟩
open Go.RowKit Go.Esc
open Go.Proofs.YtgadhchejmlfjaaGreatDoor.Ring (Rw Sg allL)
def lenR (r:Rn):Nat:=(allL r.nx r.row).length
def tot (R:Nat → Rn):Nat → Nat
 | 0=>0
 | n + 1=>tot R n + lenR (R n)
theorem lenR_le {w:World} {p:Nat} {rv:Value} {n:Nat} {R:Nat → Rn} (h:Prc w p rv n R) (i:Nat) (hi:i < n):lenR (R i) ≤ 257:=by
 have:=(h.ring i hi).nums.1
 unfold lenR allL
 rw [List.length_append]
 split <;> simp <;> omega
theorem tot_le {w:World} {p:Nat} {rv:Value} {n:Nat} {R:Nat → Rn} (h:Prc w p rv n R) (k:Nat) (hk:k ≤ n):tot R k ≤ 257 * k:=by
 induction k with
 | zero=>simp [tot]
 | succ k ih=>
  have:=lenR_le h k (by omega)
  have:=ih (by omega)
  simp [tot];omega
set_option maxHeartbeats 2000000 in
theorem total_any (p:Nat) (rv:Value) (n:Nat) (R:Nat → Rn) (w:World) (h:Prc w p rv n R) (hn:n ≤ 256):Calls Tryz.prog 292 #[.pointer (some ⟨p,0,none⟩)] w fun e w'=>e = .returned (.int .i64 (tot R n)) ∧ ∃ m,w' = w.drewN m:=by
 obtain ⟨a,cap,rfl⟩:=h.slice
 have c0:=h.blk.cell 0
 simp only [List.getElem?_toArray,List.getElem?_cons_zero] at c0
 have HH:=Lib.hid h
 clear h
 go_enter Tryz.func292,Tryz.ntmps292
 go_wp2
 go_loopw [2,12] (fun t i wr=>∃ k m:Nat,k ≤ n ∧ i = .int .i64 k ∧ t = .int .i64 (tot R k) ∧ wr = w.drewN m) (fun _ i _=>n - (intOf i).toNat)
 case atStart=>exact ⟨0,0,Nat.zero_le _,rfl,rfl,rfl⟩
 case round=>
  obtain ⟨k,m,hk,rfl,rfl,rfl⟩:=hrel
  by_cases hlt:k < n
  ·rcases HH.out.own.open with ⟨_,h0⟩ | ⟨g,cap,he,_,hg,hc,hcells⟩
   ·omega
   have cx:(w.drewN m).cell? ⟨g,k,none⟩ = some (.pointer (some ⟨(R k).b,0,none⟩)):=by rw [← ptrs_at n R k hlt];exact hcells k (by omega)
   cases he
   have t1:=tot_le HH.out k hk
   have t2:=lenR_le HH.out k hlt
   have HR:=Lib.hid (Ring.len_w _ _ _ _ _ _ ((HH.out.ring k hlt).drewN m))
   have e1:IntKind.i64.wrap ((tot R k:Int) + (allL (R k).nx (R k).row).length) = ((tot R (k + 1):Nat):Int):=by
    have:tot R (k + 1) = tot R k + (allL (R k).nx (R k).row).length:=rfl
    rw [this]
    have t3:(allL (R k).nx (R k).row).length ≤ 257:=t2
    rw [IntWalk.i64_in _ (by omega)]
    omega
   clear hcells t1 t2
   obtain ⟨t',HT⟩:∃ t',Hid (tot R (k + 1) = t'):=⟨_,rfl⟩
   rw [HT.out] at e1
   generalize tot R k = t0 at *
   generalize (allL (R k).nx (R k).row).length = t1 at *
   go_wp2_with fail
   refine HR.out.mono ?_
   rintro e w1 ⟨rfl,m1,rfl⟩
   go_wp2_with fail
   go_roundw
   case rel=>exact ⟨k + 1,m + m1,by omega,by go_num,by rw [HT.out],rfl⟩
   case measure=>simp [intOf];omega
  ·obtain rfl:k = n:=by omega
   go_wp2
   go_ret
   exact ⟨rfl,_,rfl⟩
open Go.RowKit Go.Esc
open Go.Proofs.YtgadhchejmlfjaaGreatDoor.Ring (Rw Sg allL)
open Go.Proofs.YtgadhchejmlfjaaGreatDoor.Glob (Gr)
theorem info34:(Tryz.prog.info? 126).map (fun i=>(i.zero,i.size,i.bytes)) = some (some (.pointer none),1,8):=by kernel_rfl
def more (n:Nat) (R:Nat → Rn) (b g:Nat):Nat → Rn:=fun i=>if i = n then ⟨b,g,0,[]⟩ else R i
theorem ptrs_more (n:Nat) (R:Nat → Rn) (b g:Nat):ptrs (n + 1) (more n R b g) = ptrs n R ++ [.pointer (some ⟨b,0,none⟩)]:=by
 unfold ptrs
 rw [List.range_succ,List.map_append]
 congr 1
 ·apply List.map_congr_left
  intro i hi
  have:i ≠ n:=by have:=List.mem_range.1 hi;omega
  simp [more,this]
 ·simp [more]
theorem more_lt {n:Nat} {R:Nat → Rn} {b g i:Nat} (h:i < n):more n R b g i = R i:=by simp [more,show i ≠ n by omega]
theorem Prc.grow {W W1 w2:World} {p:Nat} {rv rv':Value} {n:Nat} {R:Nat → Rn} {b g:Nat} {tmp:Obj} (h:Prc W p rv n R) (hb:Below W.heap.size W W1) (hr:Rw W1 b g 256 0 []) (hbn:W.heap.size ≤ b) (hgn:W.heap.size ≤ g)
  (hA:AppdV (W1.alloc tmp) 0 126 1 rv n (ptrs n R) [.pointer (some ⟨b,0,none⟩)] rv' w2) :
  Blk w2 p #[rv] 195 ∧ Prc (w2.setCell ⟨p,0,none⟩ rv') p rv' (n + 1) (more n R b g) ∧ Only (Pf p rv n R) W (w2.setCell ⟨p,0,none⟩ rv') ∧ Gr (Pf p rv n R) (Pf p rv' (n + 1) (more n R b g)) W:=by
 obtain ⟨ho,hg,hx⟩:=hA
 have hlt:=h.blk.lt
 have hs1:=hb.size
 have hrl:=hr.lt
 have hba:Below W.heap.size W (W1.alloc tmp):=below_alloc hb tmp
 have hO2:Only (fun j=>rv.ownBlock = some j) (W1.alloc tmp) w2:=(Only.refl _ _).grown hg (fun j e=>.inr e)
 have hOW:Only (fun j=>rv.ownBlock = some j) W w2:=((Only.refl _ W).below hba).andThen hO2 (fun j hj hs=>hs)
 have hb2:Blk w2 p #[rv] 195:=h.blk.only hOW (fun e=>h.np e)
 have hO3:Only (fun j=>j = p ∨ rv.ownBlock = some j) W (w2.setCell ⟨p,0,none⟩ rv'):=(hOW.mono (fun k _ hk=>.inr hk)).set (.inr (.inl rfl)) 0 rv'
 have hnew:∀ j,rv'.ownBlock = some j → rv.ownBlock = some j ∨ W1.heap.size ≤ j:=fun j hj=>(hx j hj).imp id (fun x=>by simp at x;omega)
 have hnp:rv'.ownBlock ≠ some p:=fun e=>by
  rcases hnew p e with h' | h'
  ·exact h.np h'
  ·omega
 have hrr:∀ i,i < n → Off (Sg (R i).b (R i).g) rv':=fun i hi j hj hs=>by
  rcases hnew j hj with h' | h'
  ·exact h.rr i hi j h' hs
  ·have:=h.lt (j:=j) (.inr (.inr ⟨i,hi,hs⟩));omega
 have hrn:Off (Sg b g) rv':=fun j hj hs=>by
  rcases hnew j hj with h' | h'
  ·have:=(h.own.lt j h').2
   rcases hs with hs | hs <;> omega
  ·rcases hs with hs | hs <;> omega
 have hold:∀ i,i < n → ∀ j,Sg (R i).b (R i).g j → ¬ Sg b g j:=fun i hi j hj hs=>by
  have:=h.lt (j:=j) (.inr (.inr ⟨i,hi,hj⟩))
  rcases hs with hs | hs <;> omega
 refine ⟨hb2,⟨hb2.set 0 rv',?_,?_,hnp,?_,?_,?_⟩,hO3.mono (fun k _ hk=>hk.elim .inl (fun x=>.inr (.inl x))),?_⟩
 ·rw [ptrs_more]
  exact .inl (World.ownsRow.kept ho (grown_set w2 p 0 rv') (.inr hnp))
 ·intro i hi
  by_cases e:i = n
  ·subst e
   simp only [more,if_true]
   have h1:Rw (W1.alloc tmp) b g 256 0 []:=hr.below (below_alloc (Below.refl _ _) _)
   have h2:Rw w2 b g 256 0 []:=h1.only hO2 (fun j hj hs=>by have:=(h.own.lt j hs).2;rcases hj with hj | hj <;> omega)
   exact h2.only (S:=fun j=>j = p) ((Only.refl (fun j=>j = p) w2).set (.inr rfl) 0 rv') (fun j hj hs=>by have e':j = p:=hs;rcases hj with hj | hj <;> omega)
  ·rw [more_lt (by omega)]
   exact (h.ring i (by omega)).only hO3 (fun j hj hs=>hs.elim (fun e=>h.rp i (by omega) (e ▸ hj)) (fun e=>h.rr i (by omega) j e hj))
 ·intro i hi
  by_cases e:i = n
  ·subst e;simp only [more,if_true];intro hs;rcases hs with hs | hs <;> omega
  ·rw [more_lt (by omega)];exact h.rp i (by omega)
 ·intro i hi
  by_cases e:i = n
  ·subst e;simp only [more,if_true];exact hrn
  ·rw [more_lt (by omega)];exact hrr i (by omega)
 ·intro i j hi hj hne k hk
  by_cases e:i = n
  ·subst e
   rw [more_lt (show j < i by omega)]
   simp only [more,if_true] at hk
   exact fun hs=>hold j (by omega) k hs hk
  ·rw [more_lt (show i < n by omega)] at hk
   by_cases e2:j = n
   ·subst e2;simp only [more,if_true];exact hold i (by omega) k hk
   ·rw [more_lt (show j < n by omega)];exact h.dis i j (by omega) (by omega) hne k hk
 ·rintro j (rfl | hj | ⟨i,hi,hj⟩)
  ·exact .inl (.inl rfl)
  ·rcases hnew j hj with h' | h'
   ·exact .inl (.inr (.inl h'))
   ·exact .inr (by omega)
  ·by_cases e:i = n
   ·subst e;simp only [more,if_true] at hj;right;rcases hj with hj | hj <;> omega
   ·rw [more_lt (by omega)] at hj;exact .inl (.inr (.inr ⟨i,by omega,hj⟩))
open Go.RowKit Go.Esc
open Go.Proofs.YtgadhchejmlfjaaGreatDoor.Ring (Rw Sg allL)
open Go.Proofs.YtgadhchejmlfjaaGreatDoor.Glob (Gr)
theorem new1 (w:World) (x:Value) (t:TypeId):∀ (j:Nat) (y:Value),[x][j]? = some y → (w.alloc (.cells #[x] t)).cell? ((⟨w.heap.size,0,none⟩:Addr).add j) = some y:=by
 intro j y hj
 have hj0:j = 0:=by have:=(List.getElem?_eq_some_iff.1 hj).1;simpa using this
 subst hj0
 rw [Go.WideShapes.add_plain,(Blk.new w #[x] t).cell]
 simpa using hj
structure Grw (p:Nat) (rv:Value) (n:Nat) (R:Nat → Rn) (w:World) (rv':Value) (k:Nat) (R':Nat → Rn) (wr:World):Prop where
 prc:Prc wr p rv' k R'
 only:Only (Pf p rv n R) w wr
 gr:Gr (Pf p rv n R) (Pf p rv' k R') w
 old:∀ i,i < n → R' i = R i
 new:∀ i,n ≤ i → i < k → (R' i).nx = 0 ∧ (R' i).row = []
 le:n ≤ k
theorem Grw.refl {p:Nat} {rv:Value} {n:Nat} {R:Nat → Rn} {w:World} (h:Prc w p rv n R):Grw p rv n R w rv n R w:=⟨h,Only.refl _ _,Gr.refl _ _,fun _ _=>rfl,fun i h1 h2=>by omega,Nat.le_refl _⟩
theorem Grw.step {p:Nat} {rv rv1 rv2:Value} {n k:Nat} {R R1:Nat → Rn} {b g:Nat} {w wr w2:World} (h:Grw p rv n R w rv1 k R1 wr) (hP:Prc w2 p rv2 (k + 1) (more k R1 b g)) (hO:Only (Pf p rv1 k R1) wr w2) (hG:Gr (Pf p rv1 k R1) (Pf p rv2 (k + 1) (more k R1 b g)) wr) :
  Grw p rv n R w rv2 (k + 1) (more k R1 b g) w2:=by
 have hle:=h.le
 refine ⟨hP,h.only.andThen hO (fun j hj hs=>(h.gr j hs).elim id (fun x=>by omega)),h.gr.trans hG h.only.size,fun i hi=>?_,fun i h1 h2=>?_,by omega⟩
 ·rw [more_lt (by omega)];exact h.old i hi
 ·by_cases e:i = k
  ·subst e;simp [more]
  ·rw [more_lt (by omega)];exact h.new i h1 (by omega)
def GrowPost (p:Nat) (rv:Value) (n m:Nat) (R:Nat → Rn) (w:World) (e:Ending) (w':World):Prop:=
 (∃ v,e = .returned v) ∧ ∃ rv' R',Grw p rv n R w rv' (max n m) R' w'
theorem growRel {p:Nat} {rv rv1 rv2:Value} {n m j k:Nat} {R R1:Nat → Rn} {b g:Nat} {w wr w2:World} (h:Grw p rv n R w rv1 k R1 wr ∧ k + (j + 1) = max n m) (hP:Prc w2 p rv2 (k + 1) (more k R1 b g)) (hO:Only (Pf p rv1 k R1) wr w2) (hG:Gr (Pf p rv1 k R1) (Pf p rv2 (k + 1) (more k R1 b g)) wr) :
  ∃ rv' k' R',Grw p rv n R w rv' k' R' w2 ∧ k' + j = max n m:=⟨_,_,_,h.1.step hP hO hG,by omega⟩
set_option maxRecDepth 100000 in
set_option maxHeartbeats 8000000 in
theorem grow_any (p:Nat) (rv:Value) (n m:Nat) (R:Nat → Rn) (w:World) (h:Prc w p rv n R) (hn:n ≤ 256) (hm:m ≤ 256) :
  Calls Tryz.prog 108 #[.pointer (some ⟨p,0,none⟩),.int .i64 m] w (GrowPost p rv n m R w):=by
 have HH0:=Lib.hid h
 clear h
 go_enter Tryz.func108,Tryz.ntmps108
 go_wp2
 go_loopg [4] (max n m - n) (fun gk _ wr=>∃ rv' k' R',Grw p rv n R w rv' k' R' wr ∧ k' + gk = max n m)
 case atStart=>exact ⟨rv,n,R,Grw.refl HH0.out,by omega⟩
 case round=>
  obtain ⟨rv1,k,R1,hG,hgk⟩:=hrel
  have hle:=hG.le
  obtain ⟨a,cap,rfl⟩:=hG.prc.slice
  have c0:=hG.prc.blk.cell 0
  simp only [List.getElem?_toArray,List.getElem?_cons_zero] at c0
  cases gk with
  | zero=>
   have hd:decide (k < m) = false:=by simp;omega
   have HG:=Lib.hid hG
   have HK:Hid (k = max n m):=by show _ = _;omega
   clear hG hgk hle
   go_wp2
   go_end0
   exact ⟨⟨_,rfl⟩,_,_,by rw [← HK.out];exact HG.out⟩
  | succ j=>
   have hd:decide (k < m) = true:=by simp;omega
   have hk256:k < 256:=by omega
   have HRel:=Lib.hid (And.intro hG hgk)
   have HH:=Lib.hid hG.prc
   have hpl:=hG.prc.blk.lt
   have HN:Hid (Calls Tryz.prog 165 #[.int .i64 256] wr.drew (Ring.NewPost 256 wr.drew)):=Ring.new_good 256 wr.drew (by decide)
   clear hG hgk hle
   go_wp2_with fail
   refine wp_region_any (by kernel_rfl) ?_
   try (change wpAny _ _ _ _ _ _ _ (World.drew _))
   refine wpAny_take (i:=0) (v:=?_) rfl (by kernel_rfl) (by kernel_rfl) (by kernel_rfl) (fun _ _ _ h=>h) (Or.inl ⟨by kernel_rfl,?_⟩) ?_
   rotate_left
   ·intro w';go_simp;try (with_reducible rfl)
   refine wpAny_take (i:=1) (v:=?_) rfl (by kernel_rfl) (by kernel_rfl) (by kernel_rfl) (fun _ _ _ h=>h) (Or.inl ⟨by kernel_rfl,?_⟩) ?_
   rotate_left
   ·intro w';go_simp;try (with_reducible rfl)
   refine wpAny_take (i:=2) (v:=?_) rfl (by kernel_rfl) (by kernel_rfl) (by kernel_rfl) (fun _ _ _ h=>h) (Or.inl ⟨by kernel_rfl,?_⟩) ?_
   rotate_left
   ·intro w';go_simp;try (with_reducible rfl)
   refine wpAny_take (i:=3) (v:=?_) rfl (by kernel_rfl) (by kernel_rfl) (by kernel_rfl) (fun _ _ _ h=>h) (Or.inl ⟨by kernel_rfl,?_⟩) ?_
   rotate_left
   ·intro w';go_simp;try (with_reducible rfl)
   refine wpAny_ready (rs:=[4,5]) (by kernel_rfl) (by simp) ?_
   refine AllReady.cons rfl (fun K hK=>?_) (AllReady.cons rfl (fun K hK=>?_) (AllReady.nil))
   ·go_simp
    refine hK _ _ ?_
    clear hK K
    refine wpAny_ready (rs:=[5]) (by kernel_rfl) (by simp) ?_
    refine AllReady.cons rfl (fun K hK=>?_) (AllReady.nil)
    go_simp
    go_wp2_with (go_at_call 165;(with_reducible refine HN.out.mono ?_);rintro e w1 ⟨rfl,hr1,hb1⟩;have HR1:=Lib.hid hr1;have HB1:Hid (Below wr.heap.size wr w1):=undrew hb1;have d0:w1.cell? ⟨p,0,none⟩ = some (.slice a k cap):=((Blk.below HH.out.blk HB1.out HH.out.blk.lt).cell 0);have hsz:wr.heap.size ≤ w1.heap.size:=HB1.out.size;have hpw:p < w1.heap.size:=(by omega);clear hr1 hb1)
    refine wpAny_ready (rs:=[6]) (by kernel_rfl) (by simp) ?_
    refine AllReady.cons rfl (fun K hK=>?_) (AllReady.nil)
    go_simp
    refine hK _ _ ?_
    clear hK K
    refine wpAny_ready (rs:=[7]) (by kernel_rfl) (by simp) ?_
    refine AllReady.cons rfl (fun K hK=>?_) (AllReady.nil)
    refine stepV Tryz.underlying193 info34 rfl (by decide) (by decide) 0 _ rfl (.tmp 15) (.tmp 17) rfl (.slice a k cap) k (ptrs k R1) ⟨w1.heap.size,0,none⟩ 1 [.pointer (some ⟨wr.heap.size + 1,0,none⟩)] (by kernel_rfl) (by kernel_rfl) ((HH.out.own.below HB1.out).below (below_alloc (Below.refl _ _) _)) rfl (new1 w1 _ _) (by simp [Value.oneCell']) (Nat.zero_le _) (by omega) ?_
    intro v' w3 hA
    obtain ⟨g',cap',rfl⟩:=hA.some
    obtain ⟨hb3,hP3,hO3,hG3⟩:=HH.out.grow HB1.out HR1.out (by simp) (by simp) hA
    have q0:=hb3.cell 0
    have qf0:=hb3.free 0
    simp only [List.getElem?_toArray,List.getElem?_cons_zero] at q0
    have HP3:=Lib.hid hP3
    have HO3:=Lib.hid hO3
    have HG3:=Lib.hid hG3
    clear hP3 hb3 hO3 hG3 hA
    refine hK _ _ ?_
    clear hK K
    refine wpAny_take (i:=8) (v:=?_) rfl (by kernel_rfl) (by kernel_rfl) (by kernel_rfl) (fun _ _ _ h=>h) (Or.inl ⟨by kernel_rfl,?_⟩) ?_
    rotate_left
    ·intro w';go_simp;try (with_reducible rfl)
    refine wpAny_take (i:=9) (v:=?_) rfl (by kernel_rfl) (by kernel_rfl) (by kernel_rfl) (fun _ _ _ h=>h) (Or.inl ⟨by kernel_rfl,?_⟩) ?_
    rotate_left
    ·intro w';go_simp;try (with_reducible rfl)
    refine wpAny_ready (rs:=[10]) (by kernel_rfl) (by simp) ?_
    refine AllReady.cons rfl (fun K hK=>?_) (AllReady.nil)
    go_simp
    refine hK _ _ ?_
    clear hK K
    refine wpAny_done (by kernel_rfl) ?_ _
    go_wp2_with fail
    go_roundg j
    case rel=>exact growRel HRel.out HP3.out HO3.out HG3.out
    case measure=>omega
   ·go_simp
    go_wp2_with (go_at_call 165;(with_reducible refine HN.out.mono ?_);rintro e w1 ⟨rfl,hr1,hb1⟩;have HR1:=Lib.hid hr1;have HB1:Hid (Below wr.heap.size wr w1):=undrew hb1;have d0:w1.cell? ⟨p,0,none⟩ = some (.slice a k cap):=((Blk.below HH.out.blk HB1.out HH.out.blk.lt).cell 0);have hsz:wr.heap.size ≤ w1.heap.size:=HB1.out.size;have hpw:p < w1.heap.size:=(by omega);clear hr1 hb1)
    refine wpAny_ready (rs:=[4,6]) (by kernel_rfl) (by simp) ?_
    refine AllReady.cons rfl (fun K hK=>?_) (AllReady.cons rfl (fun K hK=>?_) (AllReady.nil))
    ·go_simp
     refine hK _ _ ?_
     clear hK K
     refine wpAny_ready (rs:=[6]) (by kernel_rfl) (by simp) ?_
     refine AllReady.cons rfl (fun K hK=>?_) (AllReady.nil)
     go_simp
     refine hK _ _ ?_
     clear hK K
     refine wpAny_ready (rs:=[7]) (by kernel_rfl) (by simp) ?_
     refine AllReady.cons rfl (fun K hK=>?_) (AllReady.nil)
     refine stepV Tryz.underlying193 info34 rfl (by decide) (by decide) 0 _ rfl (.tmp 15) (.tmp 17) rfl (.slice a k cap) k (ptrs k R1) ⟨w1.heap.size,0,none⟩ 1 [.pointer (some ⟨wr.heap.size + 1,0,none⟩)] (by kernel_rfl) (by kernel_rfl) ((HH.out.own.below HB1.out).below (below_alloc (Below.refl _ _) _)) rfl (new1 w1 _ _) (by simp [Value.oneCell']) (Nat.zero_le _) (by omega) ?_
     intro v' w3 hA
     obtain ⟨g',cap',rfl⟩:=hA.some
     obtain ⟨hb3,hP3,hO3,hG3⟩:=HH.out.grow HB1.out HR1.out (by simp) (by simp) hA
     have q0:=hb3.cell 0
     have qf0:=hb3.free 0
     simp only [List.getElem?_toArray,List.getElem?_cons_zero] at q0
     have HP3:=Lib.hid hP3
     have HO3:=Lib.hid hO3
     have HG3:=Lib.hid hG3
     clear hP3 hb3 hO3 hG3 hA
     refine hK _ _ ?_
     clear hK K
     refine wpAny_take (i:=8) (v:=?_) rfl (by kernel_rfl) (by kernel_rfl) (by kernel_rfl) (fun _ _ _ h=>h) (Or.inl ⟨by kernel_rfl,?_⟩) ?_
     rotate_left
     ·intro w';go_simp;try (with_reducible rfl)
     refine wpAny_take (i:=9) (v:=?_) rfl (by kernel_rfl) (by kernel_rfl) (by kernel_rfl) (fun _ _ _ h=>h) (Or.inl ⟨by kernel_rfl,?_⟩) ?_
     rotate_left
     ·intro w';go_simp;try (with_reducible rfl)
     refine wpAny_ready (rs:=[10]) (by kernel_rfl) (by simp) ?_
     refine AllReady.cons rfl (fun K hK=>?_) (AllReady.nil)
     go_simp
     refine hK _ _ ?_
     clear hK K
     refine wpAny_done (by kernel_rfl) ?_ _
     go_wp2_with fail
     go_roundg j
     case rel=>exact growRel HRel.out HP3.out HO3.out HG3.out
     case measure=>omega
    ·go_simp
     refine hK _ _ ?_
     clear hK K
     refine wpAny_ready (rs:=[4]) (by kernel_rfl) (by simp) ?_
     refine AllReady.cons rfl (fun K hK=>?_) (AllReady.nil)
     go_simp
     refine hK _ _ ?_
     clear hK K
     refine wpAny_ready (rs:=[7]) (by kernel_rfl) (by simp) ?_
     refine AllReady.cons rfl (fun K hK=>?_) (AllReady.nil)
     refine stepV Tryz.underlying193 info34 rfl (by decide) (by decide) 0 _ rfl (.tmp 15) (.tmp 17) rfl (.slice a k cap) k (ptrs k R1) ⟨w1.heap.size,0,none⟩ 1 [.pointer (some ⟨wr.heap.size + 1,0,none⟩)] (by kernel_rfl) (by kernel_rfl) ((HH.out.own.below HB1.out).below (below_alloc (Below.refl _ _) _)) rfl (new1 w1 _ _) (by simp [Value.oneCell']) (Nat.zero_le _) (by omega) ?_
     intro v' w3 hA
     obtain ⟨g',cap',rfl⟩:=hA.some
     obtain ⟨hb3,hP3,hO3,hG3⟩:=HH.out.grow HB1.out HR1.out (by simp) (by simp) hA
     have q0:=hb3.cell 0
     have qf0:=hb3.free 0
     simp only [List.getElem?_toArray,List.getElem?_cons_zero] at q0
     have HP3:=Lib.hid hP3
     have HO3:=Lib.hid hO3
     have HG3:=Lib.hid hG3
     clear hP3 hb3 hO3 hG3 hA
     refine hK _ _ ?_
     clear hK K
     refine wpAny_take (i:=8) (v:=?_) rfl (by kernel_rfl) (by kernel_rfl) (by kernel_rfl) (fun _ _ _ h=>h) (Or.inl ⟨by kernel_rfl,?_⟩) ?_
     rotate_left
     ·intro w';go_simp;try (with_reducible rfl)
     refine wpAny_take (i:=9) (v:=?_) rfl (by kernel_rfl) (by kernel_rfl) (by kernel_rfl) (fun _ _ _ h=>h) (Or.inl ⟨by kernel_rfl,?_⟩) ?_
     rotate_left
     ·intro w';go_simp;try (with_reducible rfl)
     refine wpAny_ready (rs:=[10]) (by kernel_rfl) (by simp) ?_
     refine AllReady.cons rfl (fun K hK=>?_) (AllReady.nil)
     go_simp
     refine hK _ _ ?_
     clear hK K
     refine wpAny_done (by kernel_rfl) ?_ _
     go_wp2_with fail
     go_roundg j
     case rel=>exact growRel HRel.out HP3.out HO3.out HG3.out
     case measure=>omega
open Go.RowKit Go.Esc
open Go.Proofs.YtgadhchejmlfjaaGreatDoor.Ring (Rw Sg allL)
open Go.Proofs.YtgadhchejmlfjaaGreatDoor.Glob (Gr)
theorem Prc.nil (w:World) (R:Nat → Rn):Prc (w.alloc (.cells #[.slice none 0 0] 195)) w.heap.size (.slice none 0 0) 0 R:=
 ⟨Blk.new w _ 195,.inl (World.ownsRow_nil _ _ 126 1),fun i hi=>by omega,by simp [Value.ownBlock],fun i hi=>by omega,fun i hi=>by omega,fun i j hi=>by omega⟩
def NewP (m:Nat) (w:World) (e:Ending) (w':World):Prop:=
 e = .returned (.pointer (some ⟨w.heap.size,0,none⟩)) ∧ ∃ rv R,Prc w' w.heap.size rv m R ∧ (∀ i,i < m → (R i).nx = 0 ∧ (R i).row = []) ∧ Below w.heap.size w w' ∧ ∀ j,Pf w.heap.size rv m R j → w.heap.size ≤ j
set_option maxHeartbeats 2000000 in
theorem new_good (m:Nat) (w:World) (h1:1 ≤ m) (h2:m ≤ 256):Calls Tryz.prog 42 #[.int .i64 m] w (NewP m w):=by
 have HI:=Lib.hid (is_any m w)
 rw [decide_eq_true ⟨by omega,by omega⟩] at HI
 have HG:=Lib.hid (grow_any w.heap.size _ 0 m (fun _=>⟨0,0,0,[]⟩) _ (Prc.nil w (fun _=>⟨0,0,0,[]⟩)) (by omega) h2)
 go_enter Tryz.func42,Tryz.ntmps42
 go_wp2_with fail
 refine HI.out.mono ?_
 rintro e w1 ⟨rfl,rfl⟩
 go_wp2_with fail
 refine HG.out.mono ?_
 rintro e w2 ⟨⟨v,rfl⟩,rv,R,hR⟩
 rw [Nat.max_eq_right (Nat.zero_le m)] at hR
 have HR:=Lib.hid hR
 clear hR
 go_wp2_with fail
 go_ret
 have hpf:∀ j,Pf w.heap.size (.slice none 0 0) 0 (fun _=>(⟨0,0,0,[]⟩:Rn)) j → w.heap.size ≤ j:=by
  rintro j (rfl | hj | ⟨i,hi,_⟩)
  ·exact Nat.le_refl _
  ·simp [Value.ownBlock] at hj
  ·omega
 refine ⟨rfl,rv,R,HR.out.prc,fun i hi=>HR.out.new i (Nat.zero_le _) hi,?_,fun j hj=>?_⟩
 ·exact (below_alloc (Below.refl _ _) _).trans (HR.out.only.toBelow (by simp) hpf)
 ·rcases HR.out.gr j hj with h | h
  ·exact hpf j h
  ·simp at h;omega
end Go.Proofs.YtgadhchejmlfjaaGreatDoor.Procs
namespace Go.Esc
open Go.RowKit
def LLv (w:World) (base:Nat) (v:Value) (vs:List Value) (ls:List (List Int)):Prop:=
 w.ownsRow base 22 1 v ls.length vs ∧ ∀ i,i < ls.length → OwnI w base (vs[i]?.getD undef) (ls[i]?.getD [])
def LL (w:World) (base:Nat) (v:Value) (ls:List (List Int)):Prop:=∃ vs,LLv w base v vs ls
theorem LLv.nil (w:World) (base:Nat):LLv w base (.slice none 0 0) [] []:=⟨World.ownsRow_nil w base 22 1,fun i hi=>by simp at hi⟩
theorem LLv.below {w w':World} {base:Nat} {v:Value} {vs:List Value} {ls:List (List Int)} (h:LLv w base v vs ls) (hb:Below w.heap.size w w'):LLv w' base v vs ls:=
 ⟨rowv_below h.1 hb,fun i hi=>(h.2 i hi).below hb⟩
theorem LL.below {w w':World} {base:Nat} {v:Value} {ls:List (List Int)} (h:LL w base v ls) (hb:Below w.heap.size w w'):LL w' base v ls:=by
 obtain ⟨vs,h⟩:=h;exact ⟨vs,h.below hb⟩
theorem LL.only {S:Nat → Prop} {w w':World} {base:Nat} {v:Value} {ls:List (List Int)} (h:LL w base v ls) (ho:Only S w w') (hs:∀ k,S k → k < base):LL w' base v ls:=by
 obtain ⟨vs,h1,h2⟩:=h
 refine ⟨vs,rowv_off h1 ho (fun j hj hj'=>?_),fun i hi=>(h2 i hi).off ho (fun j hj hj'=>?_)⟩
 ·have:=(World.ownsRow.lt h1 j hj).1;have:=hs j hj';omega
 ·have:=((h2 i hi).lt j hj).1;have:=hs j hj';omega
theorem LL.drewN {w:World} {base:Nat} {v:Value} {ls:List (List Int)} (h:LL w base v ls) (n:Nat):LL (w.drewN n) base v ls:=h
theorem owns_ne {w:World} {base base':Nat} {v u:Value} {n:Nat} {xs:List Value} {l:List Int} (h:w.ownsRow base 22 1 v n xs) (k:OwnI w base' u l):u.ownBlock = none ∨ u.ownBlock ≠ v.ownBlock:=by
 obtain ⟨_,⟨hu,_⟩ | ⟨g',cap',cur',hu,_,hh',_⟩⟩:=k
 ·left;rw [hu];rfl
 ·right
  obtain ⟨_,⟨hv,_⟩ | ⟨g,cap,cur,hv,_,hh,_⟩⟩:=h
  ·rw [hu,hv];simp [Value.ownBlock]
  ·rw [hu,hv]
   simp only [Value.ownBlock,ne_eq,Option.some.injEq]
   intro e
   subst e
   rw [hh] at hh'
   cases hh'
theorem LLv.push {w w':World} {base:Nat} {v v' u:Value} {vs:List Value} {ls:List (List Int)} {l:List Int} (h:LLv w base v vs ls) (hu:OwnI w base u l) (hA:AppdV w base 22 1 v ls.length vs [u] v' w'):LLv w' base v' (vs ++ [u]) (ls ++ [l]):=by
 obtain ⟨ho,hg,hx⟩:=hA
 have hl:vs.length = ls.length:=by have:=h.1.1;simpa using this
 refine ⟨by rw [List.length_append];exact ho,fun i hi=>?_⟩
 rw [List.length_append] at hi
 simp only [List.length_cons,List.length_nil] at hi
 by_cases e:i < ls.length
 ·rw [List.getElem?_append_left (by omega),List.getElem?_append_left e]
  exact (h.2 i e).kept hg (owns_ne h.1 (h.2 i e))
 ·obtain rfl:i = ls.length:=by omega
  rw [List.getElem?_append_right (by omega),List.getElem?_append_right (by omega)]
  simp only [hl,Nat.sub_self,List.getElem?_cons_zero,Option.getD_some]
  exact hu.kept hg (owns_ne h.1 hu)
theorem LLv.len {w:World} {base:Nat} {v:Value} {vs:List Value} {ls:List (List Int)} (h:LLv w base v vs ls):∃ a cap,v = .slice a ls.length cap:=by
 rcases rowv_open h.1 with ⟨rfl,h0⟩ | ⟨g,cap,rfl,_⟩
 ·exact ⟨none,0,by rw [h0]⟩
 ·exact ⟨_,cap,rfl⟩
theorem LL.len {w:World} {base:Nat} {v:Value} {ls:List (List Int)} (h:LL w base v ls):∃ a cap,v = .slice a ls.length cap:=by
 obtain ⟨vs,h⟩:=h;exact h.len
theorem LL.mono {w:World} {base base':Nat} {v:Value} {ls:List (List Int)} (h:LL w base v ls) (hb:base' ≤ base):LL w base' v ls:=by
 obtain ⟨vs,h1,h2⟩:=h;exact ⟨vs,rowv_mono h1 hb,fun i hi=>(h2 i hi).mono hb⟩
theorem LL.at {w:World} {base:Nat} {a:Option Addr} {n cap:Nat} {ls:List (List Int)} (h:LL w base (.slice a n cap) ls) (i:Nat) (hi:i < ls.length):n = ls.length ∧ ∃ g u,a = some ⟨g,0,none⟩ ∧ w.cell? ⟨g,i,none⟩ = some u ∧ OwnI w base u (ls[i]?.getD []):=by
 obtain ⟨vs,h1,h2⟩:=h
 rcases rowv_open h1 with ⟨_,h0⟩ | ⟨g,cap',he,_,hg,hc,hcells⟩
 ·omega
 ·simp only [Value.slice.injEq] at he
  obtain ⟨rfl,rfl,rfl⟩:=he
  exact ⟨rfl,g,_,rfl,hcells i (by omega),h2 i hi⟩
end Go.Esc
namespace Go.Proofs.YtgadhchejmlfjaaGreatDoor.Procs
open Go.RowKit Go.Esc
open Go.Proofs.YtgadhchejmlfjaaGreatDoor.Ring (Rw Sg allL)
theorem info25:(Tryz.prog.info? 22).map (fun i=>(i.zero,i.size,i.bytes)) = some (some (.slice none 0 0),1,24):=by kernel_rfl
theorem new25 (w:World) (x:Value):∀ (j:Nat) (y:Value),[x][j]? = some y → (w.alloc (.cells #[x] 22)).cell? ((⟨w.heap.size,0,none⟩:Addr).add j) = some y:=new1 w x 22
def qs (R:Nat → Rn) (n:Nat):List (List Int):=(List.range n).map fun i=>allL (R i).nx (R i).row
theorem qs_succ (R:Nat → Rn) (k:Nat):qs R (k + 1) = qs R k ++ [allL (R k).nx (R k).row]:=by simp [qs,List.range_succ]
theorem qs_len (R:Nat → Rn) (k:Nat):(qs R k).length = k:=by simp [qs]
def QsPost (ls:List (List Int)) (w:World) (e:Ending) (w':World):Prop:=∃ v,e = .returned v ∧ LL w' w.heap.size v ls ∧ Below w.heap.size w w'
theorem own_one {w:World} {base:Nat} {v:Value} {l:List Int} (h:OwnI w base v l):∀ x ∈ [v],x.oneCell' = true:=by
 intro x hx
 obtain ⟨a,c,rfl⟩:=Glob.own_len h
 simp at hx
 subst hx
 rfl
set_option maxHeartbeats 2000000 in
theorem queues_any (p:Nat) (rv:Value) (n:Nat) (R:Nat → Rn) (w:World) (h:Prc w p rv n R) (hn:n ≤ 256):Calls Tryz.prog 60 #[.pointer (some ⟨p,0,none⟩)] w (QsPost (qs R n) w):=by
 obtain ⟨a,cap,rfl⟩:=h.slice
 have c0:=h.blk.cell 0
 simp only [List.getElem?_toArray,List.getElem?_cons_zero] at c0
 have HH:=Lib.hid h
 clear h
 go_enter Tryz.func60,Tryz.ntmps60
 go_wp2
 go_loopw [2,13] (fun t i wr=>∃ (k:Nat) (vs:List Value),k ≤ n ∧ i = .int .i64 k ∧ LLv wr w.heap.size t vs (qs R k) ∧ Below w.heap.size w wr) (fun _ i _=>n - (intOf i).toNat)
 case atStart=>exact ⟨0,[],Nat.zero_le _,rfl,LLv.nil _ _,Below.refl _ _⟩
 case round=>
  obtain ⟨k,vs,hk,rfl,hLL,hB⟩:=hrel
  have hP:=HH.out.below hB
  by_cases hlt:k < n
  ·rcases hP.own.open with ⟨_,h0⟩ | ⟨g,cap',he,_,hg,hc,hcells⟩
   ·omega
   cases he
   have cx:=hcells k (by omega)
   rw [ptrs_at n R k hlt] at cx
   have HR:=Lib.hid (Ring.list_any _ _ _ _ _ _ (hP.ring k hlt))
   have HLL:=Lib.hid hLL
   have HB:=Lib.hid hB
   obtain ⟨at_,ct,rfl⟩:=hLL.len
   rw [qs_len] at *
   clear hcells hLL hP hB
   go_wp2_with fail
   refine HR.out.mono ?_
   rintro e w1 ⟨u,rfl,hu,hB1⟩
   obtain ⟨au,nu,cu,rfl⟩:∃ a n c,u = .slice a n c:=by obtain ⟨a,c,hv⟩:=Glob.own_len hu;exact ⟨a,_,c,hv⟩
   have HU:=Lib.hid hu
   have HB1:=Lib.hid hB1
   have hsz:=HB.out.size
   have hsz1:=hB1.size
   have HL1:=Lib.hid ((HLL.out.below hB1).below (below_alloc (Below.refl _ _) (.cells #[.slice au nu cu] 22)))
   have HU1:=Lib.hid ((hu.below (below_alloc (Below.refl _ _) (.cells #[.slice au nu cu] 22))).mono HB.out.size)
   have HOne:=Lib.hid (own_one hu)
   clear hu hB1
   go_wp2_with (at_builtin;refine appV Tryz.underlying42 info25 rfl (by decide) (by decide) w.heap.size _ rfl _ _ rfl _ (qs R k).length vs ⟨w1.heap.size,0,none⟩ 1 [.slice au nu cu] rfl rfl (.inl HL1.out.1) rfl (new25 w1 (.slice au nu cu)) HOne.out (by simp;omega) (by rw [qs_len];omega) ?_;intro v' w2 hA;have HA:=Lib.hid hA;clear hA)
   go_roundw
   case rel=>
    refine ⟨k + 1,vs ++ [.slice au nu cu],by omega,by go_num,?_,?_⟩
    ·rw [qs_succ];exact HL1.out.push HU1.out HA.out
    ·exact below_grown (below_alloc (below_below HB.out HB1.out) _) HA.out.2.1 (fun j hj=>(World.ownsRow.lt HL1.out.1 j hj).1)
   case measure=>simp [intOf];omega
  ·obtain rfl:k = n:=by omega
   have HLL:=Lib.hid hLL
   have HB:=Lib.hid hB
   clear hLL hB hP
   go_wp2
   go_ret
   exact ⟨_,rfl,⟨vs,HLL.out⟩,HB.out⟩
end Go.Proofs.YtgadhchejmlfjaaGreatDoor.Procs
