/- Parts of the proof of TopReaches. -/
import Derived.Test.YtgadhchejmlfjaaGreatDoorD6
import Derived.LaidEqlPtr
set_option linter.unusedVariables false
set_option maxRecDepth 20000
section
namespace Go.Proofs.YtgadhchejmlfjaaGreatDoor.Spr
open Go.RowKit Go.Esc
open Go.Proofs.YtgadhchejmlfjaaGreatDoor.Mac (worldL worldM)
structure Pl (w:World) (P:Nat) (v1 v2:Value) (gl il:List Int):Prop where
 blk:Blk w P #[v1,v2] 367
 o1:OwnI w (P + 1) v1 gl
 o2:OwnI w (P + 1) v2 il
 ne:∀ j,v1.ownBlock = some j → v2.ownBlock ≠ some j
theorem Pl.nil (w:World):Pl (w.alloc (.cells #[.slice none 0 0,.slice none 0 0] 367)) w.heap.size (.slice none 0 0) (.slice none 0 0) [] []:=
 ⟨Blk.new w _ 367,OwnI.nil _ _,OwnI.nil _ _,by simp [Value.ownBlock]⟩
theorem Pl.app1 {w w1:World} {P:Nat} {v1 v2 v':Value} {gl il:List Int} {x:Int} {o:Obj} (h:Pl w P v1 v2 gl il) (hA:Appd (w.alloc o) (P + 1) v1 gl [x] v' w1):w1.cell? ⟨P,0,none⟩ = some v1 ∧ w1.frozen? ⟨P,0,none⟩ = false ∧ Pl (w1.setCell ⟨P,0,none⟩ v') P v' v2 (gl ++ [x]) il ∧ ∀ B,B ≤ P → Below B w (w1.setCell ⟨P,0,none⟩ v'):=by
 have h1P:v1.ownBlock ≠ some P:=fun e=>by have:=(h.o1.lt P e).1;omega
 have h2P:v2.ownBlock ≠ some P:=fun e=>by have:=(h.o2.lt P e).1;omega
 have hb:=(h.blk.alloc o).kept hA.2.1 (fun e=>h1P e.symm)
 have hv':∀ j,v'.ownBlock = some j → j ≠ P:=fun j hj e=>by have:=(hA.1.lt j hj).1;omega
 refine ⟨hb.cell 0,hb.free 0,⟨hb.set 0 v',?_,?_,fun j hj hj2=>?_⟩,fun B hB=>?_⟩
 ·exact hA.1.off ((Only.refl (fun j=>j = P) w1).set (.inr rfl) _ _) (fun j hj e=>hv' j hj e)
 ·have o2':OwnI w1 (P + 1) v2 il:=(h.o2.below (below_alloc (Below.refl _ _) o)).kept hA.2.1 (by
   cases hv:v2.ownBlock with
   | none=>exact .inl rfl
   | some j=>exact .inr (fun e=>h.ne j e.symm hv))
  exact o2'.off ((Only.refl (fun j=>j = P) w1).set (.inr rfl) _ _) (fun j hj e=>h2P (by rw [hj,show j = P from e]))
 ·rcases hA.2.2 j hj with h3 | h3
  ·exact h.ne j h3 hj2
  ·have:=(h.o2.lt j hj2).2;simp at h3;omega
 ·have hl:=h.blk.lt
  refine Below.setCell (Below.grown ((Below.refl B w).alloc (by omega) o) hA.2.1 (by simp;omega) (fun k hk=>by have:=(h.o1.lt k hk).1;omega)) (by omega) _
theorem Pl.app2 {w w1:World} {P:Nat} {v1 v2 v':Value} {gl il:List Int} {x:Int} {o:Obj} (h:Pl w P v1 v2 gl il) (hA:Appd (w.alloc o) (P + 1) v2 il [x] v' w1):w1.cell? ⟨P,1,none⟩ = some v2 ∧ w1.frozen? ⟨P,1,none⟩ = false ∧ Pl (w1.setCell ⟨P,1,none⟩ v') P v1 v' gl (il ++ [x]) ∧ ∀ B,B ≤ P → Below B w (w1.setCell ⟨P,1,none⟩ v'):=by
 have h1P:v1.ownBlock ≠ some P:=fun e=>by have:=(h.o1.lt P e).1;omega
 have h2P:v2.ownBlock ≠ some P:=fun e=>by have:=(h.o2.lt P e).1;omega
 have hb:=(h.blk.alloc o).kept hA.2.1 (fun e=>h2P e.symm)
 have hv':∀ j,v'.ownBlock = some j → j ≠ P:=fun j hj e=>by have:=(hA.1.lt j hj).1;omega
 refine ⟨hb.cell 1,hb.free 1,⟨hb.set 1 v',?_,?_,fun j hj hj2=>?_⟩,fun B hB=>?_⟩
 ·have o1':OwnI w1 (P + 1) v1 gl:=(h.o1.below (below_alloc (Below.refl _ _) o)).kept hA.2.1 (by
   cases hv:v1.ownBlock with
   | none=>exact .inl rfl
   | some j=>exact .inr (fun e=>h.ne j hv e.symm))
  exact o1'.off ((Only.refl (fun j=>j = P) w1).set (.inr rfl) _ _) (fun j hj e=>h1P (by rw [hj,show j = P from e]))
 ·exact hA.1.off ((Only.refl (fun j=>j = P) w1).set (.inr rfl) _ _) (fun j hj e=>hv' j hj e)
 ·rcases hA.2.2 j hj2 with h3 | h3
  ·exact h.ne j hj h3
  ·have:=(h.o1.lt j hj).2;simp at h3;omega
 ·have hl:=h.blk.lt
  refine Below.setCell (Below.grown ((Below.refl B w).alloc (by omega) o) hA.2.1 (by simp;omega) (fun k hk=>by have:=(h.o2.lt k hk).1;omega)) (by omega) _
def WorldP (L:List Int × List Int) (w:World) (e:Ending) (w':World):Prop:=∃ v1 v2,e = .returned (.agg #[v1,v2]) ∧ OwnI w' w.heap.size v1 L.1 ∧ OwnI w' w.heap.size v2 L.2 ∧ Below w.heap.size w w'
structure WRel (me machines:Int) (u:Value) (waits:List Int) (w:World) (q:Nat) (m:Int) (v1 v2:Value) (gl il:List Int) (wr:World):Prop where
 q_le:q ≤ waits.length
 pl:Pl wr w.heap.size v1 v2 gl il
 bl:Below w.heap.size w wr
 m_le:m ≤ machines ∧ (0 ≤ m ∨ m = machines)
 lens:gl.length + il.length ≤ q
 eq:worldM waits me machines = (gl ++ (worldL me (waits.drop q) q m).1,il ++ (worldL me (waits.drop q) q m).2)
def WR (me machines:Int) (u:Value) (waits:List Int) (w:World) (t2 t12:Value) (wr:World):Prop:=∃ (q:Nat) (m:Int) (v1 v2:Value) (gl il:List Int),t12 = .int .i64 q ∧ t2 = .int .i64 m ∧ WRel me machines u waits w q m v1 v2 gl il wr
theorem worldL_cons (me:Int) (n:Int) (r:List Int) (i:Nat) (m:Int):worldL me (n :: r) i m = if (i:Int) = me then worldL me r (i + 1) m else if 0 < n ∧ 0 < m then ((i:Int) :: (worldL me r (i + 1) (m - 1)).1,(worldL me r (i + 1) (m - 1)).2) else ((worldL me r (i + 1) m).1,(i:Int) :: (worldL me r (i + 1) m).2):=by
 rw [worldL]
theorem pl_ret {W:World} {b:Nat} {u0 u1:Value} {tmps:Array Value} {Q:Ending → World → Prop} (h:Blk W b #[u0,u1] 367) (h6:tmps[6]?.getD undef = .pointer (some ⟨b,0,none⟩)) (hq:Q (.returned (.agg #[u0,u1])) W):bodyPost Tryz.prog Tryz.f297 Q Exit.ret { tmps:=tmps,defers:=[] } W:=by
 have k0:=h.cell 0;have k1:=h.cell 1
 simp only [List.getElem?_toArray,List.getElem?_cons_succ,List.getElem?_cons_zero] at k0 k1
 exact bodyPost_ret (v:=.agg #[u0,u1]) (by simp [results,Tryz.results297,go_sem,h6,k0,k1]) rfl hq
set_option maxHeartbeats 8000000 in
theorem world_any (u:Value) (waits:List Int) (me machines:Int) (w:World) (hu:Slw w u waits) (hl:waits.length ≤ 100000) (hm:machines ≤ 9223372036854775807):Calls Tryz.prog 297 #[u,.int .i64 me,.int .i64 machines] w (WorldP (worldM waits me machines) w):=by
 obtain ⟨a,cap,rfl⟩:=hu.len
 have HU:=Lib.hid hu
 have HM:=Lib.hid hm
 clear hu hm
 go_enter Tryz.func297,Tryz.ntmps297
 go_wp2
 go_loopw [2,12] (fun t2 t12 wr=>WR me machines (.slice a waits.length cap) waits w t2 t12 wr) (fun _ t _=>waits.length - (intOf t).toNat)
 case atStart=>exact ⟨0,machines,_,_,[],[],rfl,rfl,Nat.zero_le _,Pl.nil w,below_alloc (Below.refl _ _) _,⟨Int.le_refl _,.inr rfl⟩,Nat.le_refl _,by simp [worldM]⟩
 case round=>
  obtain ⟨q,m,v1,v2,gl,il,rfl,rfl,hrel⟩:=hrel
  have hp:=hrel.pl
  by_cases hlt:q < waits.length
  ·have hu2:=HU.out.below hrel.bl
   rcases hu2.open with ⟨_,h0⟩ | ⟨_,_,_,h0⟩ | ⟨bu,off,cap',he,_,_,hbu,hcells⟩
   ·simp [h0] at hlt
   ·simp [h0] at hlt
   simp only [Value.slice.injEq] at he
   obtain ⟨rfl,_,rfl⟩:=he
   have cu:=hcells q hlt
   have heq:=hrel.eq
   rw [List.drop_eq_getElem_cons hlt,worldL_cons] at heq
   rw [show waits[q]?.getD 0 = waits[q] by rw [List.getElem?_eq_getElem hlt];rfl] at cu
   clear hcells hu2
   generalize waits[q] = n at *
   obtain ⟨a1,c1,rfl⟩:=Glob.own_len hp.o1
   obtain ⟨a2,c2,rfl⟩:=Glob.own_len hp.o2
   have hPl:=hp.blk.lt
   have p0:=hp.blk.cell 0
   have p1:=hp.blk.cell 1
   have pf0:=hp.blk.free 0
   have pf1:=hp.blk.free 1
   simp only [List.getElem?_toArray,List.getElem?_cons_zero,List.getElem?_cons_succ] at p0 p1
   have hlen:=hrel.lens
   have hqn:(q:Int) < (waits.length:Int):=by omega
   have nP:¬ w.heap.size = wr.heap.size:=by omega
   have hm2:=hrel.m_le
   have HR:=Lib.hid hrel
   have HP:=Lib.hid hp
   clear hrel hp
   by_cases hself:(q:Int) = me
   ·rw [if_pos hself] at heq
    have hd:((q:Int) == me) = true:=by simpa using hself
    have HE:=Lib.hid heq
    clear hself heq
    go_wp2
    go_roundw
    case rel=>exact ⟨q + 1,m,_,_,gl,il,by go_num,rfl,by omega,HP.out,HR.out.bl,hm2,by omega,HE.out⟩
    case measure=>simp [intOf];omega
   ·rw [if_neg hself] at heq
    have hd:((q:Int) == me) = false:=by simpa using hself
    clear hself
    by_cases hn:0 < n
    ·have hdn:decide (0 < n) = true:=by simpa using hn
     by_cases hm0:0 < m
     ·rw [if_pos ⟨hn,hm0⟩] at heq
      have hdm:decide (0 < m) = true:=by simpa using hm0
      have e1:wrap64 (m - 1) = m - 1:=IntWalk.wrap64_in _ (by have:=HM.out;omega)
      have HE:=Lib.hid heq
      have hln:gl.length + [(q:Int)].length < 100000000:=by simp;omega
      have HLn:=Lib.hid hln
      clear heq hn hln
      go_wp2_with (at_builtin;refine appX Tryz.underlying22 Glob.info3 (w.heap.size + 1) _ rfl _ _ rfl _ _ _ [(q:Int)] rfl rfl (HP.out.o1.below (below_alloc (Below.refl _ _) _)) (Slw.new1 wr q) (by simp;omega) HLn.out ?_;intro v' w1 hA;obtain ⟨g',cap'',rfl⟩:=hA.some;obtain ⟨y0,y1,hP2,hB2⟩:=HP.out.app1 hA;have HP2:=Lib.hid hP2;have HB2:=Lib.hid (HR.out.bl.trans (hB2 _ (Nat.le_refl _)));clear hA hP2 hB2)
      go_roundw
      case rel=>exact ⟨q + 1,m - 1,_,_,gl ++ [(q:Int)],il,by go_num,rfl,by omega,HP2.out,HB2.out,⟨by omega,.inl (by omega)⟩,by simp;omega,by rw [HE.out];simp⟩
      case measure=>simp [intOf];omega
     ·rw [if_neg (fun e=>hm0 e.2)] at heq
      have hdm:decide (0 < m) = false:=by simpa using hm0
      have HE:=Lib.hid heq
      have hln:il.length + [(q:Int)].length < 100000000:=by simp;omega
      have HLn:=Lib.hid hln
      clear heq hn hln hm0
      go_wp2_with (at_builtin;refine appX Tryz.underlying22 Glob.info3 (w.heap.size + 1) _ rfl _ _ rfl _ _ _ [(q:Int)] rfl rfl (HP.out.o2.below (below_alloc (Below.refl _ _) _)) (Slw.new1 wr q) (by simp;omega) HLn.out ?_;intro v' w1 hA;obtain ⟨g',cap'',rfl⟩:=hA.some;obtain ⟨y0,y1,hP2,hB2⟩:=HP.out.app2 hA;have HP2:=Lib.hid hP2;have HB2:=Lib.hid (HR.out.bl.trans (hB2 _ (Nat.le_refl _)));clear hA hP2 hB2)
      go_roundw
      case rel=>exact ⟨q + 1,m,_,_,gl,il ++ [(q:Int)],by go_num,rfl,by omega,HP2.out,HB2.out,hm2,by simp;omega,by rw [HE.out];simp⟩
      case measure=>simp [intOf];omega
    ·rw [if_neg (fun e=>hn e.1)] at heq
     have hdn:decide (0 < n) = false:=by simpa using hn
     have HE:=Lib.hid heq
     have hln:il.length + [(q:Int)].length < 100000000:=by simp;omega
     have HLn:=Lib.hid hln
     clear heq hn hln
     go_wp2_with (at_builtin;refine appX Tryz.underlying22 Glob.info3 (w.heap.size + 1) _ rfl _ _ rfl _ _ _ [(q:Int)] rfl rfl (HP.out.o2.below (below_alloc (Below.refl _ _) _)) (Slw.new1 wr q) (by simp;omega) HLn.out ?_;intro v' w1 hA;obtain ⟨g',cap'',rfl⟩:=hA.some;obtain ⟨y0,y1,hP2,hB2⟩:=HP.out.app2 hA;have HP2:=Lib.hid hP2;have HB2:=Lib.hid (HR.out.bl.trans (hB2 _ (Nat.le_refl _)));clear hA hP2 hB2)
     go_roundw
     case rel=>exact ⟨q + 1,m,_,_,gl,il ++ [(q:Int)],by go_num,rfl,by omega,HP2.out,HB2.out,hm2,by simp;omega,by rw [HE.out];simp⟩
     case measure=>simp [intOf];omega
  ·have hq:q = waits.length:=by have:=hrel.q_le;omega
   subst hq
   have heq:=hrel.eq
   rw [List.drop_length] at heq
   simp only [worldL,List.append_nil] at heq
   obtain ⟨a1,c1,rfl⟩:=Glob.own_len hp.o1
   obtain ⟨a2,c2,rfl⟩:=Glob.own_len hp.o2
   have HP:=Lib.hid hp
   have HB:=Lib.hid hrel.bl
   have HE:=Lib.hid heq
   have hPl:=hp.blk.lt
   have p0:=hp.blk.cell 0
   have p1:=hp.blk.cell 1
   have pf0:=hp.blk.free 0
   have pf1:=hp.blk.free 1
   simp only [List.getElem?_toArray,List.getElem?_cons_zero,List.getElem?_cons_succ] at p0 p1
   clear hrel hp heq
   go_wp2
   clear p0 p1 pf0 pf1
   have O:=((Only.refl (fun j=>j = w.heap.size) wr).set (.inr rfl) 0 (.slice a1 gl.length c1)).set (.inr rfl) 1 (.slice a2 il.length c2)
   refine pl_ret ((HP.out.blk.set 0 (.slice a1 gl.length c1)).set 1 (.slice a2 il.length c2)) rfl ⟨_,_,rfl,?_,?_,(HB.out.setCell (Nat.le_refl _) _).setCell (Nat.le_refl _) _⟩
   ·rw [HE.out];exact (OwnI.off HP.out.o1 O (fun j hj e=>by have:=(HP.out.o1.lt j hj).1;have:j = w.heap.size:=e;omega)).mono (Nat.le_succ _)
   ·rw [HE.out];exact (OwnI.off HP.out.o2 O (fun j hj e=>by have:=(HP.out.o2.lt j hj).1;have:j = w.heap.size:=e;omega)).mono (Nat.le_succ _)
end Go.Proofs.YtgadhchejmlfjaaGreatDoor.Spr
end
section
namespace Go.Proofs.YtgadhchejmlfjaaGreatDoor.Mac
open Go.RowKit Go.Esc
open Go.Proofs.YtgadhchejmlfjaaGreatDoor.Pstat (Pr pz)
open Go.Proofs.YtgadhchejmlfjaaGreatDoor.Vm (Ins)
section
variable {mb:Nat} {V:Vr} {own:Nat → Nat} {w:World} {s:St}
theorem who_lt {s:St} {p:Int} {k:Nat} (h:whoM s p = some k):k < s.ms.length:=by
 unfold whoM at h
 obtain ⟨⟨h0,h1⟩,h⟩:=opt_if h
 simp only [Option.some.injEq] at h
 omega
theorem Rep.xlt (h:Rep mb V own w s) {xb j:Nat} {y:M1} (hx:own xb = 22 + 5 * j) (hj:s.ms[j]? = some y):xb < w.heap.size:=(h.xblk hx hj).lt
theorem info125s:(Tryz.prog.info? 125).map (fun i=>i.size) = some 8:=by kernel_rfl
theorem und123:Tryz.prog.underlying 123 = some (.pointer 125):=by kernel_rfl
theorem neq_same (w:World) (b:Nat):(binOp .neq 123 (ptr b) (ptr b)).run Tryz.prog w = .ok (.bool false) w:=by
 obtain ⟨i,hi,_⟩:=Option.map_eq_some_iff.1 info125s
 have h:∀ d:Nat,(Op.equalIn (d + 1) 123 (ptr b) (ptr b)).run Tryz.prog w = .ok true w:=fun d=>by
  simp [Op.equalIn,run_underlying und123,sizeOf,typeInfo,hi,run_sameAddr_same]
 simp only [binOp]
 simp [Op.equal,Op.maxDepth,h 9999]
theorem neq_other {w:World} {b c:Nat} {cb cc:Array Value} (h:¬ b = c) (hb:Blk w b cb 125) (hc:Blk w c cc 125):(binOp .neq 123 (ptr b) (ptr c)).run Tryz.prog w = .ok (.bool true) w:=by
 obtain ⟨i,hi,hs⟩:=Option.map_eq_some_iff.1 info125s
 have h:∀ d:Nat,(Op.equalIn (d + 1) 123 (ptr b) (ptr c)).run Tryz.prog w = .ok false w:=fun d=>by
  simp [Op.equalIn,run_underlying und123,sizeOf,typeInfo,hi,hs,run_sameAddr_other w (a:=⟨b,0,none⟩) (b:=⟨c,0,none⟩) (fun e=>h (congrArg Addr.block e)) hb hc]
 simp only [binOp]
 simp [Op.equal,Op.maxDepth,h 9999]
theorem asks_ms {s s':St} {j:Nat} (h:asksM s j = some s'):s'.ms = s.ms:=by
 unfold asksM at h
 cases hj:s.ms[j]? with
 | none=>rw [hj] at h;cases h
 | some y=>
  rw [hj] at h
  replace h:=opt_if h
  obtain ⟨_,h⟩:=h
  split at h
  ·cases h;rfl
  ·replace h:=opt_if h
   obtain ⟨_,h⟩:=h
   split at h
   ·cases h;rfl
   ·cases h
def AgainR (mb:Nat) (V:Vr) (own:Nat → Nat) (w:World) (n j:Nat) (s':St) (t:Value) (wr:World):Prop:=
 ∃ (k:Nat) (own1:Nat → Nat) (s1:St),k ≤ n ∧ t = .int .i64 k ∧ Rep mb V own1 wr s1 ∧ Ext own w own1 wr ∧ againL j (n - k) k s1 = some s' ∧ j < s1.ms.length
set_option maxHeartbeats 8000000 in
theorem Rep.again (h:Rep mb V own w s) {xb j:Nat} {y:M1} {s':St} (hx:own xb = 22 + 5 * j) (hj:s.ms[j]? = some y) (hs:againM s j = some s'):Calls Tryz.prog 186 #[ptr mb,ptr xb] w (DoesV mb V own w unit s'):=by
 unfold againM at hs
 have hn256:=h.lim.2.2
 have c0:=h.c0
 have hxl:=h.xlt hx hj
 have HL:=Lib.hid h.prlen
 have HH:=Lib.hid (And.intro h (And.intro hs (lt_of_some hj)))
 have HX:=Lib.hid (And.intro hx hxl)
 clear h hx hj hs hxl
 generalize hn:s.rings.length = n at *
 clear hn
 go_enter Tryz.func186,Tryz.ntmps186
 go_wp2_with (go_at_call 57;refine HL.out.mono ?_;rintro e w1 ⟨rfl,rfl⟩)
 go_loopw [11] (fun t wr=>AgainR mb V own w n j s' t wr) (fun t _=>n - (intOf t).toNat)
 case atStart=>exact ⟨0,own,s,Nat.zero_le _,rfl,HH.out.1,Ext.refl _ _,HH.out.2.1,HH.out.2.2⟩
 case round=>
  obtain ⟨k,own1,s1,hk,rfl,hR,hE,hs,hjl⟩:=hrel
  by_cases hlt:k < n
  ·obtain ⟨m,hm⟩:∃ m,n - k = m + 1:=⟨n - k - 1,by omega⟩
   have hm1:n - (k + 1) = m:=by omega
   rw [hm] at hs
   unfold againL at hs
   have hx1:=hE.keep HX.out.1 HX.out.2
   have c8:=hR.c8
   have hkn:(k:Int) < (n:Int):=by omega
   cases hw:whoM s1 k with
   | none=>
    rw [hw] at hs
    dsimp only at hs
    have HW:=Lib.hid (hR.who_none hw)
    have HR:=Lib.hid hR
    have HE:=Lib.hid hE
    have HS:=Lib.hid (And.intro hs hjl)
    have HM:=Lib.hid hm1
    clear hjl hR hE hs hw hm hm1 hx1
    go_wp2_with (go_at_call 257;refine HW.out.mono ?_;rintro e w1 ⟨rfl,rfl⟩)
    go_roundw
    case rel=>exact ⟨k + 1,own1,s1,by omega,by go_num,HR.out,HE.out,by rw [HM.out];exact HS.out.1,HS.out.2⟩
    case measure=>simp [intOf];omega
   | some i=>
    rw [hw] at hs
    dsimp only at hs
    have hil:=who_lt hw
    have hoi:=hR.ox i hil
    have HW:=Lib.hid (hR.who_some hw)
    by_cases hij:i = j
    ·subst hij
     obtain rfl:=hR.ux i hil xb hx1
     rw [if_neg (fun e=>e.1 rfl)] at hs
     have HR:=Lib.hid hR
     have HE:=Lib.hid hE
     have HS:=Lib.hid (And.intro hs hjl)
     have HM:=Lib.hid hm1
     clear hjl hR hE hs hw hm hm1 hx1 hoi hil
     have hne:=neq_same wr (V.xb i)
     go_wp2_with (go_at_call 257;refine HW.out.mono ?_;rintro e w1 ⟨rfl,rfl⟩)
     go_roundw
     case rel=>exact ⟨k + 1,own1,s1,by omega,by go_num,HR.out,HE.out,by rw [HM.out];exact HS.out.1,HS.out.2⟩
     case measure=>simp [intOf];omega
    ·have n1:¬ V.xb i = xb:=by rintro rfl;omega
     have n2:¬ xb = V.xb i:=by rintro rfl;omega
     have HG:=Lib.hid (hR.sget k)
     have hne:=neq_other n1 (hR.xblk hoi (List.getElem?_eq_getElem hil)) (hR.xblk hx1 (List.getElem?_eq_getElem hjl))
     by_cases hg:Pstat.getL s1.stat k = 1
     ·rw [if_pos ⟨hij,hg⟩] at hs
      rw [hg] at HG
      obtain ⟨s2,hq,hs⟩:=bind_some hs
      have hjl2:j < s2.ms.length:=by rw [asks_ms hq];exact hjl
      replace hjl:=hjl2
      clear hjl2
      have HA:=Lib.hid (hR.asks hoi hq)
      have HE:=Lib.hid hE
      have HS:=Lib.hid (And.intro hs hjl)
      have HM:=Lib.hid hm1
      clear hjl hR hE hs hw hm hm1 hx1 hoi hil hg hij hq
      go_wp2_with (first
       | (go_at_call 257;refine HW.out.mono ?_;rintro e w1 ⟨rfl,rfl⟩)
       | (go_at_call 58;refine HG.out.mono ?_;rintro e w1 ⟨rfl,rfl⟩)
       | (go_at_call 258;refine HA.out.mono ?_;rintro e w1 ⟨rfl,own2,hR,hE⟩;have HR:=Lib.hid hR;have HE2:=Lib.hid (HE.out.trans hE);clear hR hE))
      go_roundw
      case rel=>exact ⟨k + 1,own2,s2,by omega,by go_num,HR.out,HE2.out,by rw [HM.out];exact HS.out.1,HS.out.2⟩
      case measure=>simp [intOf];omega
     ·rw [if_neg (fun e=>hg e.2)] at hs
      have hd:(Pstat.getL s1.stat k == 1) = false:=by simpa using hg
      have HR:=Lib.hid hR
      have HE:=Lib.hid hE
      have HS:=Lib.hid (And.intro hs hjl)
      have HM:=Lib.hid hm1
      clear hjl hR hE hs hw hm hm1 hx1 hoi hil hg hij
      generalize Pstat.getL s1.stat k = st at *
      go_wp2_with (first
       | (go_at_call 257;refine HW.out.mono ?_;rintro e w1 ⟨rfl,rfl⟩)
       | (go_at_call 58;refine HG.out.mono ?_;rintro e w1 ⟨rfl,rfl⟩))
      go_roundw
      case rel=>exact ⟨k + 1,own1,s1,by omega,by go_num,HR.out,HE.out,by rw [HM.out];exact HS.out.1,HS.out.2⟩
      case measure=>simp [intOf];omega
  ·obtain rfl:k = n:=by omega
   rw [Nat.sub_self] at hs
   unfold againL at hs
   simp only [Option.some.injEq] at hs
   subst hs
   have HR:=Lib.hid (show DoesV mb V own w unit s1 (.returned unit) wr from ⟨rfl,own1,hR,hE⟩)
   clear hR hE
   go_wp2
   go_end0
   exact HR.out
end
end Go.Proofs.YtgadhchejmlfjaaGreatDoor.Mac
end
section
namespace Go.Proofs.YtgadhchejmlfjaaGreatDoor.Mac
open Go.RowKit Go.Esc
open Go.Proofs.YtgadhchejmlfjaaGreatDoor.Pstat (Pr pz)
open Go.Proofs.YtgadhchejmlfjaaGreatDoor.Vm (Ins)
section
variable {mb:Nat} {V:Vr} {own:Nat → Nat} {w:World} {s:St}
theorem Rep.setP (h:Rep mb V own w s) {xb j:Nat} {y:M1} (hx:own xb = 22 + 5 * j) (hj:s.ms[j]? = some y) (u:Int) :
  Rep mb V own (w.setCell ⟨xb,1,none⟩ (.int .i64 u)) (s.setX j { y with p:=u }) ∧ Ext own w own (w.setCell ⟨xb,1,none⟩ (.int .i64 u)):=by
 have hB:=h.xblk hx hj
 have hxi:=h.xis hx hj
 have hO:=oset (orefl xb w) 1 (.int .i64 u)
 have hg:=h.xg hj
 exact ⟨h.putX (i:=j) (lt_of_some hj) (by rw [← hxi];exact hO) { y with p:=u } hg (by rw [← hxi];exact xset_p hB u),only_ext hO (by omega)⟩
theorem Rep.setPhase (h:Rep mb V own w s) {xb j:Nat} {y:M1} (hx:own xb = 22 + 5 * j) (hj:s.ms[j]? = some y) (u:Int) :
  Rep mb V own (w.setCell ⟨xb,3,none⟩ (.int .i64 u)) (s.setX j { y with phase:=u }) ∧ Ext own w own (w.setCell ⟨xb,3,none⟩ (.int .i64 u)):=by
 have hB:=h.xblk hx hj
 have hxi:=h.xis hx hj
 have hO:=oset (orefl xb w) 3 (.int .i64 u)
 have hg:=h.xg hj
 exact ⟨h.putX (i:=j) (lt_of_some hj) (by rw [← hxi];exact hO) { y with phase:=u } hg (by rw [← hxi];exact xset_phase hB u),only_ext hO (by omega)⟩
theorem Rep.setStopped (h:Rep mb V own w s) (u:Bool):Rep mb V own (w.setCell ⟨mb,18,none⟩ (.bool u)) (s.setSc { s.sc with stopped:=u }) ∧ Ext own w own (w.setCell ⟨mb,18,none⟩ (.bool u)):=
 h.putSc (oset (orefl mb w) 18 (.bool u)) _ h.hold (mset_stopped h.mblk u)
def StopsR (mb:Nat) (V:Vr) (own:Nat → Nat) (w:World) (n j:Nat) (s':St) (t:Value) (wr:World):Prop:=
 ∃ (k:Nat) (own1:Nat → Nat) (s1:St),k ≤ n ∧ t = .int .i64 k ∧ Rep mb V own1 wr s1 ∧ Ext own w own1 wr ∧ stopsL j (n - k) k s1 = some s' ∧ j < s1.ms.length
theorem StopsR.next {n j:Nat} {s':St} {t:Value} {wr:World} {k m:Nat} {own1:Nat → Nat} {s1:St} (hk:k < n) (hm:n - (k + 1) = m) (ht:t = .int .i64 (k + 1:Nat)) (hR:Rep mb V own1 wr s1) (hE:Ext own w own1 wr) (hs:stopsL j m (k + 1) s1 = some s') (hj:j < s1.ms.length):StopsR mb V own w n j s' t wr:=
 ⟨k + 1,own1,s1,by omega,ht,hR,hE,by rw [hm];exact hs,hj⟩
set_option maxHeartbeats 16000000 in
theorem Rep.stops (h:Rep mb V own w s) {xb j:Nat} {s':St} (hx:own xb = 22 + 5 * j) (hs:stopsM s j = some s'):Calls Tryz.prog 296 #[ptr mb,ptr xb] w (DoesV mb V own w unit s'):=by
 unfold stopsM at hs
 cases hj:s.ms[j]? with
 | none=>rw [hj] at hs;cases hs
 | some y=>
 rw [hj] at hs
 dsimp only at hs
 obtain ⟨A1,A2⟩:=h.setStopped true
 obtain ⟨B1,B2⟩:=A1.setPhase (y:=y) hx hj 3
 have B3:=A2.trans B2
 have hn256:=h.lim.2.2
 have c18:=h.c18
 have f18:=h.mfree 18
 have c3:=xc3 (h.xblk hx hj)
 have f3:=(h.xblk hx hj).free 3
 obtain ⟨n1,n2⟩:=h.xne hx
 have c0:=B1.c0
 have HL:=Lib.hid B1.prlen
 have hxl:=h.xlt hx hj
 have hjl:j < ((s.setSc { s.sc with stopped:=true }).setX j { y with phase:=3 }).ms.length:=by
  show j < (s.ms.set j _).length
  rw [List.length_set];exact lt_of_some hj
 have HH:=Lib.hid (And.intro B1 (And.intro B3 (And.intro hs hjl)))
 have HX:=Lib.hid (And.intro hx hxl)
 have hrn:((s.setSc { s.sc with stopped:=true }).setX j { y with phase:=3 }).rings.length = s.rings.length:=rfl
 rw [hrn] at HL
 clear h hx hj hs hxl A1 A2 B1 B2 B3 hrn hjl
 generalize hn:s.rings.length = n at *
 clear hn
 generalize (s.setSc { s.sc with stopped:=true }).setX j { y with phase:=3 } = s0 at *
 go_enter Tryz.func296,Tryz.ntmps296
 go_wp2_with (go_at_call 57;refine HL.out.mono ?_;rintro e w1 ⟨rfl,rfl⟩)
 generalize (w.setCell ⟨mb,18,none⟩ (.bool true)).setCell ⟨xb,3,none⟩ (.int .i64 3) = w0 at *
 clear c0 c18 f18 c3 f3
 go_loopw [16] (fun t wr=>StopsR mb V own w n j s' t wr) (fun t _=>n - (intOf t).toNat)
 case atStart=>exact ⟨0,own,s0,Nat.zero_le _,rfl,HH.out.1,HH.out.2.1,HH.out.2.2.1,HH.out.2.2.2⟩
 case round=>
  obtain ⟨k,own1,s1,hk,rfl,hR,hE,hs,hjl⟩:=hrel
  by_cases hlt:k < n
  ·obtain ⟨m,hm⟩:∃ m,n - k = m + 1:=⟨n - k - 1,by omega⟩
   have hm1:n - (k + 1) = m:=by omega
   rw [hm] at hs
   unfold stopsL at hs
   dsimp only at hs
   have hx1:=hE.keep HX.out.1 HX.out.2
   have c8:=hR.c8
   have c11:=hR.c11
   have c19:=hR.c19
   have f19:=hR.mfree 19
   have hkn:(k:Int) < (n:Int):=by omega
   have HG:=Lib.hid (hR.sget k)
   have HM:=Lib.hid hm1
   clear hm hm1
   by_cases h2:Pstat.getL s1.stat k = 2
   ·rw [if_pos h2] at hs
    rw [h2] at HG
    cases hw:whoM s1 k with
    | none=>rw [hw] at hs;cases hs
    | some i=>
     rw [hw] at hs
     dsimp only at hs
     cases hi:s1.ms[i]? with
     | none=>rw [hi] at hs;cases hs
     | some yi=>
      rw [hi] at hs
      dsimp only at hs
      have hil:=lt_of_some hi
      have hoi:=hR.ox i hil
      have x1:=xc1 (hR.xblk hoi hi)
      have fx1:=(hR.xblk hoi hi).free 1
      obtain ⟨m1,m2⟩:=hR.xne hoi
      have HW:=Lib.hid (hR.who_some hw)
      obtain ⟨R1,E1⟩:=hR.setP hoi hi (-1)
      have HT:=Lib.hid (R1.sstop k)
      have HE:=Lib.hid (hE.trans E1)
      have HS:=Lib.hid hs
      have HJ:=Lib.hid (show j < (s1.setX i { yi with p:=-1 }).ms.length from by show j < (s1.ms.set i _).length;rw [List.length_set];exact hjl)
      have e8:=R1.c8
      have e11:=R1.c11
      clear R1 E1 hR hE hs hjl hw hi hil hoi hx1 h2
      go_wp2_with (first
       | (go_at_call 58;refine HG.out.mono ?_;rintro e w1 ⟨rfl,rfl⟩)
       | (go_at_call 257;refine HW.out.mono ?_;rintro e w1 ⟨rfl,rfl⟩)
       | (go_at_call 173;refine HT.out.mono ?_;rintro e w1 ⟨rfl,own2,hR2,hE2⟩;have a11:=hR2.c11;have HR2:=Lib.hid hR2;have HE2:=Lib.hid (HE.out.trans hE2);clear hR2 hE2)
       | (go_at_call 191;refine (HR2.out.pdrop _).mono ?_;rintro e w1 ⟨rfl,own3,hR3,hE3⟩;have HR3:=Lib.hid hR3;have HE3:=Lib.hid (HE2.out.trans hE3);clear hR3 hE3))
      go_roundw
      case rel=>exact StopsR.next hlt HM.out (by go_num) HR3.out HE3.out HS.out HJ.out
      case measure=>simp [intOf];omega
   ·rw [if_neg h2] at hs
    by_cases h0:Pstat.getL s1.stat k = 0
    ·rw [if_pos h0] at hs
     rw [h0] at HG
     have HT:=Lib.hid (hR.sstop k)
     have HE:=Lib.hid hE
     have HS:=Lib.hid hs
     have HJ:=Lib.hid hjl
     clear hR hE hs hjl hx1 h2 h0
     go_wp2_with (first
      | (go_at_call 58;refine HG.out.mono ?_;rintro e w1 ⟨rfl,rfl⟩)
      | (go_at_call 173;refine HT.out.mono ?_;rintro e w1 ⟨rfl,own2,hR2,hE2⟩;have a11:=hR2.c11;have HR2:=Lib.hid hR2;have HE2:=Lib.hid (HE.out.trans hE2);clear hR2 hE2)
      | (go_at_call 191;refine (HR2.out.pdrop _).mono ?_;rintro e w1 ⟨rfl,own3,hR3,hE3⟩;have HR3:=Lib.hid hR3;have HE3:=Lib.hid (HE2.out.trans hE3);clear hR3 hE3))
     go_roundw
     case rel=>exact StopsR.next hlt HM.out (by go_num) HR3.out HE3.out HS.out HJ.out
     case measure=>simp [intOf];omega
    ·rw [if_neg h0] at hs
     by_cases h1:Pstat.getL s1.stat k = 1
     ·rw [if_pos h1] at hs
      rw [h1] at HG
      cases hy:s1.ms[j]? with
      | none=>rw [hy] at hs;cases hs
      | some y1=>
       rw [hy] at hs
       dsimp only at hs
       have x1:=xc1 (hR.xblk hx1 hy)
       by_cases hp:(k:Int) = y1.p
       ·rw [if_pos hp] at hs
        rw [← hp] at x1
        have HT:=Lib.hid (hR.sstop k)
        have HE:=Lib.hid hE
        have HS:=Lib.hid hs
        have HJ:=Lib.hid hjl
        clear hR hE hs hjl hx1 h2 h0 h1 hp hy
        go_wp2_with (first
         | (go_at_call 58;refine HG.out.mono ?_;rintro e w1 ⟨rfl,rfl⟩)
         | (go_at_call 173;refine HT.out.mono ?_;rintro e w1 ⟨rfl,own2,hR2,hE2⟩;have HR2:=Lib.hid hR2;have HE2:=Lib.hid (HE.out.trans hE2);clear hR2 hE2))
        go_roundw
        case rel=>exact StopsR.next hlt HM.out (by go_num) HR2.out HE2.out HS.out HJ.out
        case measure=>simp [intOf];omega
       ·rw [if_neg hp] at hs
        have hd:((k:Int) == y1.p) = false:=by simpa using hp
        cases hw:whoM s1 k with
        | none=>rw [hw] at hs;cases hs
        | some i=>
         rw [hw] at hs
         dsimp only at hs
         obtain ⟨s2,hq,hs⟩:=bind_some hs
         have hjl2:j < s2.ms.length:=by rw [asks_ms hq];exact hjl
         obtain ⟨R1,E1⟩:=hR.setWait (wrap64 (s1.sc.wait + 1))
         have HW:=Lib.hid (R1.who_some (p:=k) (k:=i) hw)
         have HA:=Lib.hid (R1.asks (R1.ox i (who_lt (s:=s1) hw)) hq)
         have HE:=Lib.hid (hE.trans E1)
         have HS:=Lib.hid hs
         have HJ:=Lib.hid hjl2
         clear R1 E1 hR hE hs hjl hjl2 hx1 h2 h0 h1 hp hy hw hq
         generalize y1.p = yp at *
         generalize s1.sc.wait = wt at *
         go_wp2_with (first
          | (go_at_call 58;refine HG.out.mono ?_;rintro e w1 ⟨rfl,rfl⟩)
          | (go_at_call 257;refine HW.out.mono ?_;rintro e w1 ⟨rfl,rfl⟩)
          | (go_at_call 258;refine HA.out.mono ?_;rintro e w1 ⟨rfl,own2,hR2,hE2⟩;have HR2:=Lib.hid hR2;have HE2:=Lib.hid (HE.out.trans hE2);clear hR2 hE2))
         go_roundw
         case rel=>exact StopsR.next hlt HM.out (by go_num) HR2.out HE2.out HS.out HJ.out
         case measure=>simp [intOf];omega
     ·rw [if_neg h1] at hs
      have d2:(Pstat.getL s1.stat k == 2) = false:=by simpa using h2
      have d0:(Pstat.getL s1.stat k == 0) = false:=by simpa using h0
      have d1:(Pstat.getL s1.stat k == 1) = false:=by simpa using h1
      have HR:=Lib.hid hR
      have HE:=Lib.hid hE
      have HS:=Lib.hid hs
      have HJ:=Lib.hid hjl
      clear hR hE hs hjl hx1 h2 h0 h1
      generalize Pstat.getL s1.stat k = st at *
      go_wp2_with (first
       | (go_at_call 58;refine HG.out.mono ?_;rintro e w1 ⟨rfl,rfl⟩))
      go_roundw
      case rel=>exact StopsR.next hlt HM.out (by go_num) HR.out HE.out HS.out HJ.out
      case measure=>simp [intOf];omega
  ·obtain rfl:k = n:=by omega
   rw [Nat.sub_self] at hs
   unfold stopsL at hs
   simp only [Option.some.injEq] at hs
   subst hs
   have HR:=Lib.hid (show DoesV mb V own w unit s1 (.returned unit) wr from ⟨rfl,own1,hR,hE⟩)
   clear hR hE
   go_wp2
   go_end0
   exact HR.out
end
end Go.Proofs.YtgadhchejmlfjaaGreatDoor.Mac
end
section
namespace Go.Proofs.YtgadhchejmlfjaaGreatDoor.Mac
open Go.RowKit Go.Esc
open Go.Proofs.YtgadhchejmlfjaaGreatDoor.Pstat (Pr pz)
open Go.Proofs.YtgadhchejmlfjaaGreatDoor.Vm (Ins)
section
variable {mb:Nat} {V:Vr} {own:Nat → Nat} {w:World} {s:St}
theorem Rep.setBegun (h:Rep mb V own w s) {b i:Nat} {x:G} (hb:own b = 20 + 5 * i) (hi:s.gs[i]? = some x) (u:Bool) :
  Rep mb V own (w.setCell ⟨b,17,none⟩ (.bool u)) (s.setG i { x with begun:=u }) ∧ Ext own w own (w.setCell ⟨b,17,none⟩ (.bool u)):=by
 obtain ⟨h8,hw,sv,hB,hst⟩:=h.gat hb hi
 have hbi:=h.gis hb hi
 have hO:=oset (orefl b w) 17 (.bool u)
 exact ⟨h.putG (lt_of_some hi) (by rw [← hbi];exact hO) { x with begun:=u } (by rw [← hbi];exact ⟨h8,hw,sv,gset_begun hB u,hst⟩),only_ext hO (by omega)⟩
theorem Rep.gc17f (h:Rep mb V own w s) {b i:Nat} {x:G} (hb:own b = 20 + 5 * i) (hi:s.gs[i]? = some x):w.cell? ⟨b,17,none⟩ = some (.bool x.begun) ∧ w.frozen? ⟨b,17,none⟩ = false:=by
 obtain ⟨h8,hw,sv,hB,hst⟩:=h.gat hb hi
 exact ⟨gc17 hB,hB.free 17⟩
theorem Rep.gneM (h:Rep mb V own w s) {b i:Nat} (hb:own b = 20 + 5 * i):¬ b = mb ∧ ¬ mb = b:=by
 have:=h.om
 constructor <;> (rintro rfl;omega)
theorem blk_ext {own own':Nat → Nat} {w w':World} {b:Nat} {cs:Array Value} {t:TypeId} (h:Blk w b cs t) (hb:own b = 0) (hE:Ext own w own' w'):Blk w' b cs t:=h.only hE.only (fun hs=>hs.1 hb)
def insV (op a b c n:Int):Value:=.agg #[.int .i64 op,.int .i64 a,.int .i64 b,.int .i64 c,.int .i64 n]
def insO (op a b c n:Int):Obj:=.cells #[.int .i64 op,.int .i64 a,.int .i64 b,.int .i64 c,.int .i64 n] 84
set_option maxHeartbeats 16000000 in
theorem Rep.enterX (h:Rep mb V own w s) {xb j:Nat} {s':St} (op a b2 c n:Int) (hx:own xb = 22 + 5 * j) (hs:enterM s j op = some s'):Calls Tryz.prog 248 #[ptr mb,ptr xb,.agg #[.int .i64 op,.int .i64 a,.int .i64 b2,.int .i64 c,.int .i64 n]] w (DoesV mb V own w unit s'):=by
 unfold enterM at hs
 cases hj:s.ms[j]? with
 | none=>rw [hj] at hs;cases hs
 | some y=>
 rw [hj] at hs
 dsimp only at hs
 replace hs:=opt_if hs
 obtain ⟨⟨hg1,hwl⟩,hs⟩:=hs
 have hg2:=(h.xg hj).2
 obtain ⟨i,hgi⟩:∃ i:Nat,y.g = (i:Int) + 1:=⟨(y.g - 1).toNat,by omega⟩
 rw [hgi] at hg1 hg2 hs
 have e2:((i:Int) + 1 - 1).toNat = i:=by omega
 rw [e2] at hs
 cases hi:s.gs[i]? with
 | none=>rw [hi] at hs;cases hs
 | some x=>
 rw [hi] at hs
 dsimp only at hs
 obtain ⟨e1,hb⟩:=h.gp hg1 hg2
 rw [e2] at e1 hb
 obtain ⟨b,hbe⟩:∃ b,V.gb i = b:=⟨_,rfl⟩
 rw [hbe] at e1 hb
 have h0:=h.alloc (insO op a b2 c n)
 have E0:=(Ext.refl own w).alloc (insO op a b2 c n)
 have B0:Blk (w.alloc (insO op a b2 c n)) w.heap.size #[.int .i64 op,.int .i64 a,.int .i64 b2,.int .i64 c,.int .i64 n] 84:=Blk.new w _ 84
 have hL:=h.fresh w.heap.size (Nat.le_refl _)
 have hxl:=h0.xlt hx hj
 have hbl:=h0.glt hb hi
 obtain ⟨u,hu⟩:∃ u,(i:Int) + 1 = u:=⟨_,rfl⟩
 have b0:=gc0x h0 hb hi hu
 rw [hu] at e1 hs hgi
 have c12:=h0.c12
 have x2:w.cell? ⟨xb,2,none⟩ = some (ptr b):=by rw [← e1,← hgi];exact xc2 (h.xblk hx hj)
 have n0:¬ xb = w.heap.size:=by rintro rfl;omega
 obtain ⟨s1,hs1⟩:∃ s1,s1 = ({ s with owner:=Sema.acqO s.owner u,waits:=Sema.acqL s.owner s.waits u }:St):=⟨_,rfl⟩
 have hj1:s1.ms[j]? = some y:=by rw [hs1];exact hj
 have hi1:s1.gs[i]? = some x:=by rw [hs1];exact hi
 rw [← hs1] at hs
 have HA:Hid (∀ m,Calls Tryz.prog 294 #[ptr V.sema,.int .i64 u] ((w.alloc (insO op a b2 c n)).drewN m) (DoesV mb V own ((w.alloc (insO op a b2 c n)).drewN m) (.tuple #[.bool (Sema.acqB s.owner u),.int .i64 (Sema.acqF u)]) s1)):=fun m=>by rw [hs1];exact (h0.drewN m).acquire u (by omega)
 have HE0:=Lib.hid (And.intro h0 (And.intro E0 (And.intro B0 hL)))
 have HX:=Lib.hid (And.intro hx (And.intro hxl (And.intro hb (And.intro hbl (And.intro hj1 (And.intro hi1 (And.intro hu (And.intro e1 hgi))))))))
 have HH:=Lib.hid h
 have HS:=Lib.hid hs
 have hxw:=h.xlt hx hj
 clear h h0 E0 B0 hL hxl hbl hx hb hj hi hj1 hi1 hgi hg1 hg2 hs hwl hs1 hu e1 e2 hbe
 unfold insO at b0 c12 HA HE0
 generalize Sema.acqF u = fu at *
 cases hacq:Sema.acqB s.owner u with
 | false=>
  rw [hacq] at HA HS
  go_enter Tryz.func248,Tryz.ntmps248
  go_wp2
  go_region_held3 (fun w'=>w'.cell? ⟨mb,12,none⟩ = some (ptr V.sema) ∧ w'.cell? ⟨b,0,none⟩ = some (.int .i64 u)) (go_keep) (first | (go_at_call 294;refine (HA.out 1).mono ?_;rintro e w1 ⟨rfl,o1,hR1,hE1⟩;have k12:=hR1.c12;have k0:w1.cell? ⟨b,0,none⟩ = some (.int .i64 u):=gc0x hR1 (hE1.keep HX.out.2.2.1 HX.out.2.2.2.1) HX.out.2.2.2.2.2.1 HX.out.2.2.2.2.2.2.1;have HR1:=Lib.hid hR1;have HE1:=Lib.hid (((Ext.refl own _).drewN 1).trans hE1);clear hR1 hE1))
  all_goals
   have hx1:=HE1.out.keep HX.out.1 HX.out.2.1
   have hb1:=HE1.out.keep HX.out.2.2.1 HX.out.2.2.2.1
   obtain ⟨y16,f16⟩:=HR1.out.gc16f hb1 HX.out.2.2.2.2.2.1
   obtain ⟨hR2,hE2⟩:=HR1.out.setSema hb1 HX.out.2.2.2.2.2.1 true
   have HO:=Lib.hid (hR2.off hx1 (y:=y) HX.out.2.2.2.2.1)
   rw [HX.out.2.2.2.2.2.2.2.2,HX.out.2.2.2.2.2.2.2.1] at HO
   have HE2:=Lib.hid (HE1.out.trans hE2)
   have hi2:((s1.setG i { x with sema:=true }).setX j { y with g:=0,phase:=1 }).gs[i]? = some { x with sema:=true }:=setG_at (lt_of_some HX.out.2.2.2.2.2.1)
   have HI2:=Lib.hid hi2
   have hS:=HS.out
   rw [if_neg (by decide)] at hS
   unfold offM at hS
   rw [show (s1.setG i { x with sema:=true }).ms[j]? = some y from HX.out.2.2.2.2.1] at hS
   dsimp only at hS
   rw [HX.out.2.2.2.2.2.2.2.2,if_pos (by have:=HX.out.2.2.2.2.2.2.1;omega),show (u - 1).toNat = i by have:=HX.out.2.2.2.2.2.2.1;omega] at hS
   simp only [Option.map_some,Option.some.injEq] at hS
   have HS2:=Lib.hid hS
   clear hS hi2 hR2 hE2 hx1 HS
   go_wp2_with (first
    | (go_at_call 183;refine HO.out.mono ?_;rintro e w2 ⟨rfl,o2,hR3,hE3⟩;have HE3:=Lib.hid (HE2.out.trans hE3);have HR3:=Lib.hid hR3;clear hR3 hE3)
    | (go_at_call 116;refine (HR3.out.is (HE3.out.keep HX.out.2.2.1 HX.out.2.2.2.1) HI2.out 4 (by decide) (by decide)).mono ?_;rintro e w3 ⟨rfl,o3,hR4,hE4⟩;rw [← mv_eq HI2.out,HS2.out] at hR4;have HR4:=Lib.hid hR4;have HE4:=Lib.hid (HE3.out.trans hE4);clear hR4 hE4))
   go_end0
   exact ⟨rfl,o3,HR4.out,HE0.out.2.1.trans HE4.out⟩
 | true=>
  rw [hacq] at HA HS
  have hS:=HS.out
  rw [if_pos rfl] at hS
  unfold seeM at hS
  rw [HX.out.2.2.2.2.2.1] at hS
  dsimp only [Option.bind_some] at hS
  obtain ⟨s2,hs2⟩:∃ s2,s2 = s1.setSc { s1.sc with kind:=1,eg:=(i:Int) + 1,efn:=x.fn,epc:=x.pc,en:=0,seen:=true }:=⟨_,rfl⟩
  have hi2:s2.gs[i]? = some x:=by rw [hs2];exact HX.out.2.2.2.2.2.1
  rw [← hs2] at hS
  by_cases h19:op = 19
  ·rw [if_pos h19] at hS;cases hS
  rw [if_neg h19] at hS
  have hd:(op == 19) = false:=by simpa using h19
  have H2:=Lib.hid (And.intro hi2 (And.intro hS hs2))
  clear hS hs2 hi2 h19 HS
  go_enter Tryz.func248,Tryz.ntmps248
  go_wp2
  go_region_held3 (fun w'=>w'.cell? ⟨mb,12,none⟩ = some (ptr V.sema) ∧ w'.cell? ⟨b,0,none⟩ = some (.int .i64 u)) (go_keep) (first | (go_at_call 294;refine (HA.out 1).mono ?_;rintro e w1 ⟨rfl,o1,hR1,hE1⟩;have k12:=hR1.c12;have k0:w1.cell? ⟨b,0,none⟩ = some (.int .i64 u):=gc0x hR1 (hE1.keep HX.out.2.2.1 HX.out.2.2.2.1) HX.out.2.2.2.2.2.1 HX.out.2.2.2.2.2.2.1;have HR1:=Lib.hid hR1;have HE1:=Lib.hid (((Ext.refl own _).drewN 1).trans hE1);clear hR1 hE1))
  all_goals
   have hx1:=HE1.out.keep HX.out.1 HX.out.2.1
   have hb1:=HE1.out.keep HX.out.2.2.1 HX.out.2.2.2.1
   have HSe:=Lib.hid (HR1.out.see 1 hb1 HX.out.2.2.2.2.2.1 0)
   rw [← H2.out.2.2] at HSe
   clear hb1 hx1
   go_wp2_with (first
    | (go_at_call 260;refine HSe.out.mono ?_;rintro e w2 ⟨rfl,o2,hR2,hE2⟩;have HE2:=Lib.hid (HE1.out.trans hE2);have z19:=hR2.c19;have zf19:=hR2.mfree 19;obtain ⟨z17,zf17⟩:=hR2.gc17f (HE2.out.keep HX.out.2.2.1 HX.out.2.2.2.1) H2.out.1;obtain ⟨hR3,hE3⟩:=hR2.setBegun (HE2.out.keep HX.out.2.2.1 HX.out.2.2.2.1) H2.out.1 true;obtain ⟨hR4,hE4⟩:=hR3.setWait 0;obtain ⟨nb1,nb2⟩:=hR2.gneM (HE2.out.keep HX.out.2.2.1 HX.out.2.2.2.1);have HE4:=Lib.hid (HE2.out.trans (hE3.trans hE4));have p0:=(blk_ext HE0.out.2.2.1 HE0.out.2.2.2 HE4.out).cell 0;simp only [List.getElem?_toArray,List.getElem?_cons_zero] at p0;have HR4:=Lib.hid hR4;have HSt:=Lib.hid (hR4.stops (HE4.out.keep HX.out.1 HX.out.2.1) H2.out.2.1);clear hR2 hE2 hR3 hE3 hR4 hE4)
    | (go_at_call 296;refine HSt.out.mono ?_;rintro e w3 ⟨rfl,o3,hR5,hE5⟩;have HR5:=Lib.hid hR5;have HE5:=Lib.hid (HE4.out.trans hE5);clear hR5 hE5))
   go_end0
   exact ⟨rfl,o3,HR5.out,HE0.out.2.1.trans HE5.out⟩
end
end Go.Proofs.YtgadhchejmlfjaaGreatDoor.Mac
end
