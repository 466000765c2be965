/- Parts of the proof of TopReaches. -/
import Derived.Test.YtgadhchejmlfjaaGreatDoorD9
import Derived.Test.YtgadhchejmlfjaaGreatDoorB5
import Derived.Test.YtgadhchejmlfjaaGreatDoorB2
import Derived.Test.YtgadhchejmlfjaaGreatDoorB4
import Derived.Test.YtgadhchejmlfjaaGreatDoorK
import Derived.Laws.MakeOwn
import Derived.Deep.RegionHeld3
set_option linter.unusedVariables false
set_option maxRecDepth 20000
section
namespace Go.Proofs.YtgadhchejmlfjaaGreatDoor.Mac
open Go.RowKit Go.Esc
open Go.Proofs.YtgadhchejmlfjaaGreatDoor.Pstat (Pr pz)
open Go.Proofs.YtgadhchejmlfjaaGreatDoor.Vm (Ins)
structure Old (o0:Nat → Nat) (w:World) (pv:Value) (fs:List Fn):Prop where
 two:∀ j,o0 j = 0 ∨ o0 j = 14
 fresh:∀ j,w.heap.size ≤ j → o0 j = 0
 prog:Pg o0 w pv fs
 laid:Isa.Laid w ∧ o0 0 = 14
theorem ringTags {w:World} {p:Nat} {rv:Value} {n:Nat} {R:Nat → Procs.Rn} (h:Procs.Prc w p rv n R) :
  ∃ f:Nat → Nat,(∀ i,i < n → f (R i).b = 23 + 5 * i) ∧ (∀ i,i < n → f (R i).g = 24 + 5 * i) ∧ f p = 5 ∧ (∀ j,rv.ownBlock = some j → f j = 5) ∧
   (∀ j,f j < 20 ∨ (∃ i,i < n ∧ j = (R i).b ∧ f j = 23 + 5 * i) ∨ (∃ i,i < n ∧ j = (R i).g ∧ f j = 24 + 5 * i)):=by
 classical
 have hbg:∀ i j,i < n → j < n → (R i).b ≠ (R j).g:=fun i j hi hj e=>by
  by_cases hij:i = j
  ·subst hij
   obtain ⟨hd,tl,F,hr,_⟩:=h.ring i hi
   exact hr.ne e
  ·exact h.dis i j hi hj hij (R i).b (.inl rfl) (.inr e)
 have hbb:∀ i j,i < n → j < n → (R i).b = (R j).b → i = j:=fun i j hi hj e=>by
  by_cases hij:i = j
  ·exact hij
  ·exact absurd (.inl e) (h.dis i j hi hj hij (R i).b (.inl rfl))
 have hgg:∀ i j,i < n → j < n → (R i).g = (R j).g → i = j:=fun i j hi hj e=>by
  by_cases hij:i = j
  ·exact hij
  ·exact absurd (.inr e) (h.dis i j hi hj hij (R i).g (.inr rfl))
 obtain ⟨f,hf⟩:∃ f:Nat → Nat,f = fun j=>if hb:∃ i,i < n ∧ (R i).b = j then 23 + 5 * Classical.choose hb else if hg:∃ i,i < n ∧ (R i).g = j then 24 + 5 * Classical.choose hg else if j = p ∨ rv.ownBlock = some j then 5 else 0:=⟨_,rfl⟩
 have f1:∀ i,i < n → f (R i).b = 23 + 5 * i:=fun i hi=>by
  have hb:∃ k,k < n ∧ (R k).b = (R i).b:=⟨i,hi,rfl⟩
  have hc:=Classical.choose_spec hb
  rw [hf]
  show (if hb:∃ k,k < n ∧ (R k).b = (R i).b then 23 + 5 * Classical.choose hb else _) = _
  rw [dif_pos hb,hbb _ _ hc.1 hi hc.2]
 have f2:∀ i,i < n → f (R i).g = 24 + 5 * i:=fun i hi=>by
  have hb:¬ ∃ k,k < n ∧ (R k).b = (R i).g:=fun ⟨k,hk,e⟩=>hbg k i hk hi e
  have hg:∃ k,k < n ∧ (R k).g = (R i).g:=⟨i,hi,rfl⟩
  have hc:=Classical.choose_spec hg
  rw [hf]
  show (if hb:∃ k,k < n ∧ (R k).b = (R i).g then 23 + 5 * Classical.choose hb else if hg:∃ k,k < n ∧ (R k).g = (R i).g then 24 + 5 * Classical.choose hg else _) = _
  rw [dif_neg hb,dif_pos hg,hgg _ _ hc.1 hi hc.2]
 refine ⟨f,f1,f2,?_,fun j hj=>?_,fun j=>?_⟩
 ·rw [hf]
  show (if hb:∃ k,k < n ∧ (R k).b = p then 23 + 5 * Classical.choose hb else if hg:∃ k,k < n ∧ (R k).g = p then 24 + 5 * Classical.choose hg else _) = _
  rw [dif_neg (fun ⟨k,hk,e⟩=>h.rp k hk (.inl e.symm)),dif_neg (fun ⟨k,hk,e⟩=>h.rp k hk (.inr e.symm)),if_pos (.inl rfl)]
 ·rw [hf]
  show (if hb:∃ k,k < n ∧ (R k).b = j then 23 + 5 * Classical.choose hb else if hg:∃ k,k < n ∧ (R k).g = j then 24 + 5 * Classical.choose hg else _) = _
  rw [dif_neg (fun ⟨k,hk,e⟩=>h.rr k hk j hj (.inl e.symm)),dif_neg (fun ⟨k,hk,e⟩=>h.rr k hk j hj (.inr e.symm)),if_pos (.inr hj)]
 ·by_cases hb:∃ k,k < n ∧ (R k).b = j
  ·obtain ⟨k,hk,rfl⟩:=hb
   exact .inr (.inl ⟨k,hk,rfl,f1 k hk⟩)
  ·by_cases hg:∃ k,k < n ∧ (R k).g = j
   ·obtain ⟨k,hk,rfl⟩:=hg
    exact .inr (.inr ⟨k,hk,rfl,f2 k hk⟩)
   ·left
    rw [hf]
    show (if hb:∃ k,k < n ∧ (R k).b = j then 23 + 5 * Classical.choose hb else if hg:∃ k,k < n ∧ (R k).g = j then 24 + 5 * Classical.choose hg else if j = p ∨ rv.ownBlock = some j then 5 else 0) < 20
    rw [dif_neg hb,dif_neg hg]
    by_cases hp:j = p ∨ rv.ownBlock = some j
    ·rw [if_pos hp];decide
    ·rw [if_neg hp];decide
def scN (cp cg cm:Int):Sc:=⟨cp,cg,cm,0,0,0,0,false,0,0,0,0,0,0,0,false⟩
def preM (funcs:List Fn) (n:Nat) (cp cg cm:Int):St:=
 { funcs:=funcs,sc:=scN cp cg cm,gs:=[],ms:=[],asked:=List.replicate n p0,rings:=List.replicate n r0,stat:=List.replicate n (0, -1),all:=[],idleM:=[],idleP:=[],owner:=0,waits:=[],box:=List.replicate 64 none }
theorem repl_get {α:Type} (n i:Nat) (x d:α) (h:i < n):(List.replicate n x)[i]?.getD d = x:=by simp [h]
set_option maxHeartbeats 1000000 in
theorem newRep {o0:Nat → Nat} {w0 W:World} {fs:List Fn} {pv:Value} {V:Vr} {n a1 a2 a3 a4 a5 a6 a7 mb ab gm gp:Nat} {rv tv sv:Value} {R:Nat → Procs.Rn} {S:Nat → Prop} {cp cg cm:Int}
  (hO:Old o0 w0 pv fs) (hB:Below w0.heap.size w0 W) (hn:n ≤ 256) (hpv:V.pv = pv) (hgv:V.gsv = .slice none 0 0) (hmv:V.msv = .slice none 0 0) (hav:V.askv = .slice (some ⟨ab,0,none⟩) n n)
  (hP:Procs.Prc W V.procs rv n R) (hR0:∀ i,i < n → (R i).nx = 0 ∧ (R i).row = []) (r1:∀ j,Procs.Pf V.procs rv n R j → w0.heap.size ≤ j ∧ j < a1)
  (hT:Pstat.Tb W V.stat tv (List.replicate n (0, -1))) (r2:∀ j,Pstat.Tf V.stat tv j → a1 ≤ j ∧ j < a2)
  (hG:Glob.Queue W V.all S []) (r3:∀ j,S j → a2 ≤ j ∧ j < a3)
  (hI:Idle.St W V.idM gm 64 []) (r4:∀ j,Idle.TwoOf V.idM gm j → a3 ≤ j ∧ j < a4)
  (hJ:Idle.St W V.idP gp 256 []) (r5:∀ j,Idle.TwoOf V.idP gp j → a4 ≤ j ∧ j < a5)
  (hS:Sema.Sm W V.sema 0 sv []) (r6:∀ j,Sema.Sf V.sema sv j → a5 ≤ j ∧ j < a6)
  (hX:Sig.Bx W V.box (.slice none 0 0) [] (fun _=>-1)) (r7:a6 ≤ V.box ∧ V.box < a7)
  (hM:Blk W mb (mcells V (scN cp cg cm)) 121) (r8:a7 ≤ mb) (hA:AskP W V.askv (List.replicate n p0)) (r9:mb < ab) (hA2:ab < W.heap.size)
  (hle:w0.heap.size ≤ a1 ∧ a1 ≤ a2 ∧ a2 ≤ a3 ∧ a3 ≤ a4 ∧ a4 ≤ a5 ∧ a5 ≤ a6 ∧ a6 ≤ a7) :
  ∃ own,Rep mb V own W (preM fs n cp cg cm) ∧ ∀ j,j < w0.heap.size → own j = o0 j:=by
 classical
 obtain ⟨f,f1,f2,f3,f4,f5⟩:=ringTags hP
 have hmW:=hM.lt
 obtain ⟨own,ho⟩:∃ own:Nat → Nat,own = fun j=>if j < w0.heap.size then o0 j else if j < a1 then f j * (if Procs.Pf V.procs rv n R j then 1 else 0) else if j < a2 then (if Pstat.Tf V.stat tv j then 6 else 0) else if j < a3 then (if S j then 7 else 0)
  else if j < a4 then (if Idle.TwoOf V.idM gm j then 8 else 0) else if j < a5 then (if Idle.TwoOf V.idP gp j then 9 else 0) else if j < a6 then (if Sema.Sf V.sema sv j then 10 else 0) else if j < a7 then (if j = V.box then 11 else 0) else if j = mb then 1 else if j = ab then 4 else 0:=⟨_,rfl⟩
 have o_old:∀ j,j < w0.heap.size → own j = o0 j:=fun j hj=>by rw [ho];exact if_pos hj
 have o_1:∀ j,Procs.Pf V.procs rv n R j → own j = f j:=fun j hj=>by
  have:=r1 j hj
  rw [ho];dsimp only;rw [if_neg (by omega),if_pos (by omega),if_pos hj,Nat.mul_one]
 have o_2:∀ j,Pstat.Tf V.stat tv j → own j = 6:=fun j hj=>by
  have:=r2 j hj
  rw [ho];dsimp only;rw [if_neg (by omega),if_neg (by omega),if_pos (by omega),if_pos hj]
 have o_3:∀ j,S j → own j = 7:=fun j hj=>by
  have:=r3 j hj
  rw [ho];dsimp only;rw [if_neg (by omega),if_neg (by omega),if_neg (by omega),if_pos (by omega),if_pos hj]
 have o_4:∀ j,Idle.TwoOf V.idM gm j → own j = 8:=fun j hj=>by
  have:=r4 j hj
  rw [ho];dsimp only;rw [if_neg (by omega),if_neg (by omega),if_neg (by omega),if_neg (by omega),if_pos (by omega),if_pos hj]
 have o_5:∀ j,Idle.TwoOf V.idP gp j → own j = 9:=fun j hj=>by
  have:=r5 j hj
  rw [ho];dsimp only;rw [if_neg (by omega),if_neg (by omega),if_neg (by omega),if_neg (by omega),if_neg (by omega),if_pos (by omega),if_pos hj]
 have o_6:∀ j,Sema.Sf V.sema sv j → own j = 10:=fun j hj=>by
  have:=r6 j hj
  rw [ho];dsimp only;rw [if_neg (by omega),if_neg (by omega),if_neg (by omega),if_neg (by omega),if_neg (by omega),if_neg (by omega),if_pos (by omega),if_pos hj]
 have o_7:own V.box = 11:=by
  rw [ho];dsimp only;rw [if_neg (by omega),if_neg (by omega),if_neg (by omega),if_neg (by omega),if_neg (by omega),if_neg (by omega),if_neg (by omega),if_pos (by omega),if_pos rfl]
 have o_8:own mb = 1:=by
  rw [ho];dsimp only;rw [if_neg (by omega),if_neg (by omega),if_neg (by omega),if_neg (by omega),if_neg (by omega),if_neg (by omega),if_neg (by omega),if_neg (by omega),if_pos rfl]
 have o_9:own ab = 4:=by
  rw [ho];dsimp only;rw [if_neg (by omega),if_neg (by omega),if_neg (by omega),if_neg (by omega),if_neg (by omega),if_neg (by omega),if_neg (by omega),if_neg (by omega),if_neg (by omega),if_pos rfl]
 have o_inv:∀ j,own j < 20 ∨ (∃ i,i < n ∧ j = (R i).b ∧ own j = 23 + 5 * i) ∨ (∃ i,i < n ∧ j = (R i).g ∧ own j = 24 + 5 * i):=fun j=>by
  by_cases hp:Procs.Pf V.procs rv n R j
  ·rw [o_1 j hp];exact f5 j
  ·left
   rw [ho];dsimp only
   rw [if_neg hp]
   by_cases h0:j < w0.heap.size
   ·rw [if_pos h0];rcases hO.two j with e | e <;> rw [e] <;> decide
   ·rw [if_neg h0]
    (repeat' split) <;> omega
 have o_fr:∀ j,W.heap.size ≤ j → own j = 0:=fun j hj=>by
  have hs:=hB.size
  have n1:¬ Procs.Pf V.procs rv n R j:=fun h=>by have:=hP.lt h;omega
  have n2:¬ Pstat.Tf V.stat tv j:=fun h=>by have:=hT.lt h;omega
  have n3:¬ S j:=fun h=>by have:=hG.lt h;omega
  rw [ho];dsimp only
  rw [if_neg n1,if_neg n2,if_neg n3]
  have n4:¬ j < a7:=by omega
  rw [if_neg (by omega),if_neg (by omega),if_neg (by omega),if_neg (by omega),if_neg (by omega),if_neg (by omega),if_neg (by omega),if_neg (by omega),if_neg (by omega),if_neg (by omega)]
 have hX':BxP own W V.box (List.replicate 64 none):=by
  refine ⟨.slice none 0 0,0,0,pz,⟨⟨[],fun _=>-1,hX,rfl,fun i hi=>by omega,fun k hk _=>?_,fun h=>by omega⟩⟩,Nat.le_refl _,by decide,by simp,fun j hj=>?_⟩
  ·rw [List.getElem?_replicate,if_pos hk];rfl
  ·rcases hj with rfl | hj
   ·exact o_7
   ·cases hj
 refine ⟨own,⟨o_fr,o_8,?_,⟨hO.laid.1.below hB,?_⟩,⟨Int.le_refl _,Int.le_refl _⟩,fun _=>⟨?_,fun j hj=>?_⟩,fun _=>⟨?_,fun j hj=>?_⟩,fun _=>⟨hA,fun j hj=>?_⟩,fun _=>hM,fun _=>⟨rv,R,?_⟩,fun _=>⟨tv,hT,o_2⟩,fun _=>⟨S,hG,o_3⟩,fun _=>⟨gm,hI,o_4⟩,fun _=>⟨gp,hJ,o_5⟩,fun _=>⟨sv,hS,o_6⟩,fun _=>hX',
  fun _ i hi=>absurd hi (Nat.not_lt_zero _),fun _ j hj=>absurd hj (Nat.not_lt_zero _),fun j hj=>absurd hj (Nat.not_lt_zero _),fun i hi=>absurd hi (Nat.not_lt_zero _),fun i hi=>absurd hi (Nat.not_lt_zero _),fun j hj=>absurd hj (Nat.not_lt_zero _),fun j hj=>absurd hj (Nat.not_lt_zero _),fun b i hb=>?_,fun b i hb=>?_,?_⟩,o_old⟩
 ·rw [hpv]
  exact hO.prog.turn (S:=fun _=>False) ((Only.refl _ w0).below hB) (fun j hj=>hj.elim) o_old
 ·rw [o_old 0 hO.laid.1.lt];exact hO.laid.2
 ·rw [hgv];exact .inl (World.ownsRow_nil _ _ _ _)
 ·rw [hgv] at hj;cases hj
 ·rw [hmv];exact .inl (World.ownsRow_nil _ _ _ _)
 ·rw [hmv] at hj;cases hj
 ·rw [hav] at hj;cases hj;exact o_9
 ·have hl:(List.replicate n r0).length = n:=by simp
  show RgP own W V.procs rv R (List.replicate n r0)
  refine ⟨by rw [hl];exact hP,fun i hi=>?_,?_,fun j hj=>?_,fun i hi=>?_,fun i hi=>?_,fun i hi b hb=>?_⟩
  ·rw [hl] at hi;rw [repl_get _ _ _ _ hi];exact hR0 i hi
  ·rw [o_1 _ (.inl rfl)];exact f3
  ·rw [o_1 _ (.inr (.inl hj))];exact f4 j hj
  ·rw [hl] at hi;rw [o_1 _ (.inr (.inr ⟨i,hi,.inl rfl⟩))];exact f1 i hi
  ·rw [hl] at hi;rw [o_1 _ (.inr (.inr ⟨i,hi,.inr rfl⟩))];exact f2 i hi
  ·rcases o_inv b with h1 | ⟨k,hk,h2,h3⟩ | ⟨k,hk,h2,h3⟩
   ·omega
   ·rw [h2,show k = i by omega]
   ·omega
 ·rcases o_inv b with h1 | ⟨k,hk,h2,h3⟩ | ⟨k,hk,h2,h3⟩ <;> omega
 ·rcases o_inv b with h1 | ⟨k,hk,h2,h3⟩ | ⟨k,hk,h2,h3⟩ <;> omega
 ·show 0 ≤ 64 ∧ 0 ≤ 64 ∧ (List.replicate n r0).length ≤ 256
  simp;exact hn
end Go.Proofs.YtgadhchejmlfjaaGreatDoor.Mac
end
section
namespace Go.Proofs.YtgadhchejmlfjaaGreatDoor.Mac
open Go.RowKit Go.Esc
open Go.Proofs.YtgadhchejmlfjaaGreatDoor.Pstat (Pr pz)
theorem info139:(Tryz.prog.info? 139).map (fun i=>(i.zero,i.size,i.bytes)) = some (some (.agg #[.bool false,.bool false,.int .i64 0]),3,16):=by kernel_rfl
def askZ (n:Nat):Array Value:=madeCells #[.bool false,.bool false,.int .i64 0] (n * 3)
theorem makeAsk (n:Nat) (hn:n ≤ 100000) (w:World):(Instr.makeSlice 118 (.int .i64 (n:Int)) (.int .i64 (n:Int))).run Tryz.prog w = .ok (.slice (some ⟨w.heap.size,0,none⟩) n n) (w.alloc (.cells (askZ n) 139)):=by
 obtain ⟨i,hi,hzz⟩:=Option.map_eq_some_iff.1 info139
 simp only [Prod.mk.injEq] at hzz
 obtain ⟨hz,hs,hb⟩:=hzz
 have h:=run_make (P:=Tryz.prog) w 118 139 i _ Tryz.underlying118 hi hz .i64 .i64 (n:Int) (n:Int) (by omega) (Int.le_refl _) (by rw [hb];omega) (by omega)
 rw [hs] at h
 simp only [Int.toNat_natCast] at h
 exact h
theorem ask_list (n:Nat):(askZ n).toList = askc (List.replicate n p0):=by
 have hl:(askZ n).toList.length = n * 3:=by rw [Array.length_toList,askZ,size_madeCells]
 have hr:(askc (List.replicate n p0)).length = n * 3:=by rw [askc_len,List.length_replicate]
 refine List.ext_getElem? fun j=>?_
 rcases Nat.lt_or_ge j (n * 3) with hj | hj
 ·have hz:(askZ n).toList[j]? = some ((#[.bool false,.bool false,.int .i64 0]:Array Value)[j % 3]!):=by
   rw [Array.getElem?_toList,askZ,madeCells,Array.getElem?_map,Array.getElem?_range,if_pos hj]
   rfl
  rw [hz]
  obtain ⟨a1,a2,a3⟩:=askc_at (List.replicate n p0) (j / 3) (by rw [List.length_replicate];omega)
  have hp:(List.replicate n p0)[j / 3]?.getD p0 = p0:=by rw [List.getElem?_replicate];split <;> rfl
  rw [hp] at a1 a2 a3
  have hd:=Nat.div_add_mod j 3
  rcases (show j % 3 = 0 ∨ j % 3 = 1 ∨ j % 3 = 2 by omega) with h | h | h
  ·rw [show j = j / 3 * 3 by omega,a1,show (j / 3 * 3) % 3 = 0 by omega];rfl
  ·rw [show j = j / 3 * 3 + 1 by omega,a2,show (j / 3 * 3 + 1) % 3 = 1 by omega];rfl
  ·rw [show j = j / 3 * 3 + 2 by omega,a3,show (j / 3 * 3 + 2) % 3 = 2 by omega];rfl
 ·rw [List.getElem?_eq_none (by omega),List.getElem?_eq_none (by omega)]
theorem askNew (n:Nat) (hn:n ≤ 100000) (w:World):AskP (w.alloc (.cells (askZ n) 139)) (.slice (some ⟨w.heap.size,0,none⟩) n n) (List.replicate n p0):=by
 have hl:(List.replicate n p0).length = n:=List.length_replicate
 have hs:(askZ n).size = n * 3:=by rw [askZ,size_madeCells]
 refine ⟨w.heap.size,n,askZ n,by rw [hl],Blk.new w _ 139,by rw [hl];exact Nat.le_refl _,by rw [hs];exact Nat.le_refl _,by rw [hs];unfold maxLen;omega,.inl hs.symm,?_⟩
 rw [hl,List.take_of_length_le (by rw [Array.length_toList,hs];exact Nat.le_refl _),ask_list]
def newV (pv:Value) (p t a im ip s x ab n:Nat):Vr:=
 { procs:=p,stat:=t,all:=a,idM:=im,idP:=ip,sema:=s,box:=x,gsv:=.slice none 0 0,msv:=.slice none 0 0,askv:=.slice (some ⟨ab,0,none⟩) n n,pv:=pv,gb:=fun _=>0,xb:=fun _=>0 }
theorem newParts {o0:Nat → Nat} {w w2 w3 w4 w5 w6 w7 w8 w9:World} {fs:List Fn} {pv rv tv:Value} {R:Nat → Procs.Rn} {xb cp cg cm:Nat} (hO:Old o0 w pv fs) (hcp:cp ≤ 256) (hB2:Below w.heap.size w w2)
  (hP:Procs.Prc w3 w2.heap.size rv cp R) (hz:∀ i,i < cp → (R i).nx = 0 ∧ (R i).row = []) (hge:∀ j,Procs.Pf w2.heap.size rv cp R j → w2.heap.size ≤ j) (hX3:Below w2.heap.size w2 w3)
  (hT:Pstat.Tb w4 w3.heap.size tv (List.replicate cp (0, -1))) (hX4:Below w3.heap.size w3 w4) (hG:w4.alloc (.cells #[.slice none 0 0,.slice none 0 0] 203) = w5)
  (hI6:Idle.St w6 (w5.heap.size + 1) w5.heap.size 64 []) (hX6:Below w5.heap.size w5 w6) (hI7:Idle.St w7 (w6.heap.size + 1) w6.heap.size 256 []) (hX7:Below w6.heap.size w6 w7)
  (hM:w7.alloc (.cells #[.int .i64 0,.slice none 0 0] 207) = w8) (hx:w8.heap.size ≤ xb) (hXb:Sig.Bx w9 xb (.slice none 0 0) [] (fun _=>-1)) (hX9:Below w8.heap.size w8 w9) :
  ∃ own,Rep w9.heap.size (newV pv w2.heap.size w3.heap.size w4.heap.size (w5.heap.size + 1) (w6.heap.size + 1) w7.heap.size xb (w9.heap.size + 1) cp) own
   ((w9.alloc (.cells #[ptr w2.heap.size,pv,.int .i64 cp,.int .i64 cg,.int .i64 cm,.slice none 0 0,.slice none 0 0,.slice (some ⟨w9.heap.size + 1,0,none⟩) cp cp,ptr w3.heap.size,ptr w4.heap.size,ptr (w5.heap.size + 1),ptr (w6.heap.size + 1),ptr w7.heap.size,ptr xb,
    .int .i64 0,.int .i64 0,.int .i64 0,.int .i64 0,.bool false,.int .i64 0,.pointer none,.int .i64 0,.int .i64 0,.int .i64 0,.int .i64 0,.int .i64 0,.bool false] 121)).alloc (.cells (askZ cp) 139)) (preM fs cp cp cg cm) ∧ ∀ j,j < w.heap.size → own j = o0 j:=by
 have hX5:Below w4.heap.size w4 w5:=by rw [← hG];exact below_alloc (Below.refl _ _) _
 have hX8:Below w7.heap.size w7 w8:=by rw [← hM];exact below_alloc (Below.refl _ _) _
 have hQ:Glob.Queue w5 w4.heap.size (fun j=>j = w4.heap.size) []:=by rw [← hG];exact Glob.Queue.new w4
 have hSm:Sema.Sm w8 w7.heap.size 0 (.slice none 0 0) []:=by rw [← hM];exact Sema.Sm.new w7
 have hs5:w5.heap.size = w4.heap.size + 1:=by rw [← hG];simp
 have hs8:w8.heap.size = w7.heap.size + 1:=by rw [← hM];simp
 obtain ⟨M,hMd⟩:∃ M:Array Value,M = #[ptr w2.heap.size,pv,.int .i64 cp,.int .i64 cg,.int .i64 cm,.slice none 0 0,.slice none 0 0,.slice (some ⟨w9.heap.size + 1,0,none⟩) cp cp,ptr w3.heap.size,ptr w4.heap.size,ptr (w5.heap.size + 1),ptr (w6.heap.size + 1),ptr w7.heap.size,ptr xb,
    .int .i64 0,.int .i64 0,.int .i64 0,.int .i64 0,.bool false,.int .i64 0,.pointer none,.int .i64 0,.int .i64 0,.int .i64 0,.int .i64 0,.int .i64 0,.bool false]:=⟨_,rfl⟩
 rw [← hMd]
 have hMe:M = mcells (newV pv w2.heap.size w3.heap.size w4.heap.size (w5.heap.size + 1) (w6.heap.size + 1) w7.heap.size xb (w9.heap.size + 1) cp) (scN cp cg cm):=by rw [hMd];rfl
 have hal:Below w9.heap.size w9 ((w9.alloc (.cells M 121)).alloc (.cells (askZ cp) 139)):=below_alloc (below_alloc (Below.refl _ _) _) _
 have b9:=hal
 have b8:=hX9.trans (b9.mono hX9.size)
 have b7:=hX8.trans (b8.mono hX8.size)
 have b6:=hX7.trans (b7.mono hX7.size)
 have b5:=hX6.trans (b6.mono hX6.size)
 have b4:=hX5.trans (b5.mono hX5.size)
 have b3:=hX4.trans (b4.mono hX4.size)
 have hB:Below w.heap.size w ((w9.alloc (.cells M 121)).alloc (.cells (askZ cp) 139)):=hB2.trans ((hX3.trans (b3.mono hX3.size)).mono hB2.size)
 have sz:((w9.alloc (.cells M 121)).alloc (.cells (askZ cp) 139)).heap.size = w9.heap.size + 1 + 1:=by simp
 have hAsk:AskP ((w9.alloc (.cells M 121)).alloc (.cells (askZ cp) 139)) (.slice (some ⟨w9.heap.size + 1,0,none⟩) cp cp) (List.replicate cp p0):=by
  have:=askNew cp (by omega) (w9.alloc (.cells M 121))
  simpa using this
 have hMb:Blk ((w9.alloc (.cells M 121)).alloc (.cells (askZ cp) 139)) w9.heap.size (mcells (newV pv w2.heap.size w3.heap.size w4.heap.size (w5.heap.size + 1) (w6.heap.size + 1) w7.heap.size xb (w9.heap.size + 1) cp) (scN cp cg cm)) 121:=by
  rw [← hMe]
  exact (Blk.new w9 M 121).alloc _
 have s2:=hB2.size
 have s3:=hX3.size
 have s4:=hX4.size
 have s6:=hX6.size
 have s7:=hX7.size
 have s9:=hX9.size
 have l6:w5.heap.size + 1 < w6.heap.size ∧ w5.heap.size < w6.heap.size:=by have h:w5.heap.size + 1 < w6.heap.size:=hI6.1.lt;exact ⟨h,by omega⟩
 have l7:w6.heap.size + 1 < w7.heap.size ∧ w6.heap.size < w7.heap.size:=by have h:w6.heap.size + 1 < w7.heap.size:=hI7.1.lt;exact ⟨h,by omega⟩
 exact newRep (V:=newV pv w2.heap.size w3.heap.size w4.heap.size (w5.heap.size + 1) (w6.heap.size + 1) w7.heap.size xb (w9.heap.size + 1) cp) (a1:=w3.heap.size) (a2:=w4.heap.size) (a3:=w5.heap.size) (a4:=w6.heap.size) (a5:=w7.heap.size) (a6:=w8.heap.size) (a7:=w9.heap.size) (ab:=w9.heap.size + 1)
  hO hB hcp rfl rfl rfl rfl
  (hP.below b3) hz (fun j hj=>⟨Nat.le_trans s2 (hge j hj),hP.lt hj⟩)
  (hT.below b4) (fun j hj=>⟨hT.ge hj,hT.lt hj⟩)
  (hQ.below b5) (fun j hj=>by have e:j = w4.heap.size:=hj;omega)
  (hI6.below b6) (fun j hj=>by
   rcases hj with h | h
   ·have e:j = w5.heap.size + 1:=h;omega
   ·have e:j = w5.heap.size:=h;omega)
  (hI7.below b7) (fun j hj=>by
   rcases hj with h | h
   ·have e:j = w6.heap.size + 1:=h;omega
   ·have e:j = w6.heap.size:=h;omega)
  (hSm.below b8) (fun j hj=>by
   rcases hj with h | h
   ·have e:j = w7.heap.size:=h;omega
   ·cases h)
  (hXb.only (S:=fun _=>False) ((Only.refl _ w9).below b9) (fun _ _ x=>x)) ⟨hx,hXb.cs.lt⟩
  hMb (Nat.le_refl _) hAsk (Nat.lt_succ_self _) (by rw [sz];omega) (by omega)
end Go.Proofs.YtgadhchejmlfjaaGreatDoor.Mac
end
section
namespace Go.Proofs.YtgadhchejmlfjaaGreatDoor.Mac
open Go.RowKit Go.Esc
open Go.Proofs.YtgadhchejmlfjaaGreatDoor.Vm (Ins)
open Go.Proofs.YtgadhchejmlfjaaGreatDoor.Pstat (Pr pz)
def putsL:Nat → List Int → List Int
 | 0,l=>l
 | k + 1,l=>putsL k (Idle.putL 256 l ((k + 1:Nat):Int))
def st0 (fs:List Fn) (cp:Nat) (cg cm:Int) (idp:List Int) (stat:List Pr) (ms:List M1):St:=
 { funcs:=fs,sc:=scN cp cg cm,gs:=[],ms:=ms,asked:=List.replicate cp p0,rings:=List.replicate cp r0,stat:=stat,all:=[],idleM:=[],idleP:=idp,owner:=0,waits:=[],box:=List.replicate 64 none }
def m1N:M1:=⟨0,0,1,false,0,0,0⟩
def statN (cp:Nat):List Pr:=Pstat.byL (List.replicate cp (0, -1)) 0 0 (fun _ _=>(1,0)) (fun s _=>s == 0)
def ringN (s:St):List Rs:=s.rings.set 0 ⟨Ring.putN (rAt s 0).nx 1 false,Ring.putR 256 (rAt s 0).nx (rAt s 0).row 1 false⟩
def newG_ (fs:List Fn) (cp:Nat) (cg cm:Int):St:=
 { bornM (st0 fs cp cg cm (putsL (cp - 1) []) (statN cp) [m1N]) 0 0 with rings:=ringN (bornM (st0 fs cp cg cm (putsL (cp - 1) []) (statN cp) [m1N]) 0 0) }
def NewQ (o0:Nat → Nat) (w:World) (fs:List Fn) (cp:Nat) (cg cm:Int) (pv:Value) (e:Ending) (w':World):Prop:=
 ∃ mb V own,e = .returned (.tuple #[ptr mb,.int .i64 0]) ∧ Rep mb V own w' (newG_ fs cp cg cm) ∧ w.heap.size ≤ mb ∧ (∀ j,j < w.heap.size → own j = o0 j) ∧ Below w.heap.size w w' ∧ V.pv = pv
theorem below_ext {o0 own own':Nat → Nat} {w W w':World} (hB:Below w.heap.size w W) (h2:∀ j,j < w.heap.size → o0 j = 0 ∨ o0 j = 14) (ho:∀ j,j < w.heap.size → own j = o0 j) (hE:Ext own W own' w'):Below w.heap.size w w':=
 hB.trans (hE.only.toBelow hB.size (fun j hs=>Nat.le_of_not_lt fun hj=>by
  rcases h2 j hj with e | e
  ·exact hs.1 ((ho j hj).trans e)
  ·exact hs.2 ((ho j hj).trans e)))
theorem one_row (W:World) (B:Nat):AppdV W 0 123 1 (.slice none 0 0) 0 [] [ptr B] (.slice (some ⟨W.heap.size,0,none⟩) 1 1) (W.alloc (.cells #[ptr B] 123)):=
 ⟨row_blk (n:=1) (size:=1) (Blk.new W #[ptr B] 123) (Nat.zero_le _) rfl (by decide),World.grownBy_alloc W _ none,fun j hj=>by cases hj;exact .inr (Nat.le_refl _)⟩
theorem new_m1 {mb:Nat} {V:Vr} {own4:Nat → Nat} {w4:World} {fs:List Fn} {cp:Nat} {cg cm:Int} {l:List Int} {st:List Pr} (hR4:Rep mb V own4 w4 (st0 fs cp cg cm l st [])) (hm:V.msv = .slice none 0 0) :
  ∃ V5 own5,Rep mb V5 own5 (((w4.setCell ⟨mb,6,none⟩ (.slice (some ⟨w4.heap.size + 1,0,none⟩) 1 1)).alloc (.cells #[.int .i64 0,.int .i64 0,.pointer none,.int .i64 1,.bool false,.int .i64 0,.int .i64 0,.int .i64 0] 125)).alloc (.cells #[.pointer (some ⟨w4.heap.size,0,none⟩)] 123)) (st0 fs cp cg cm l st [m1N]) ∧
   Ext own4 w4 own5 (((w4.setCell ⟨mb,6,none⟩ (.slice (some ⟨w4.heap.size + 1,0,none⟩) 1 1)).alloc (.cells #[.int .i64 0,.int .i64 0,.pointer none,.int .i64 1,.bool false,.int .i64 0,.int .i64 0,.int .i64 0] 125)).alloc (.cells #[.pointer (some ⟨w4.heap.size,0,none⟩)] 123)) ∧ V5.pv = V.pv ∧ V5.procs = V.procs:=by
 have lm:=hR4.mlt
 have hb:Blk (w4.alloc (.cells #[.int .i64 0,.int .i64 0,.pointer none,.int .i64 1,.bool false,.int .i64 0,.int .i64 0,.int .i64 0] 125)) w4.heap.size (xcells V.gb (st0 fs cp cg cm l st []).ms.length m1N) 125:=Blk.new w4 _ 125
 have hr:=one_row (w4.alloc (.cells #[.int .i64 0,.int .i64 0,.pointer none,.int .i64 1,.bool false,.int .i64 0,.int .i64 0,.int .i64 0] 125)) w4.heap.size
 have hA:=Rep.addMy (y:=m1N) rfl hR4 (show (0:Nat) < 64 by decide) hb (Nat.le_refl _) (below_alloc (Below.refl _ _) _) (by rw [hm];exact hr)
 rw [show (w4.alloc (.cells #[.int .i64 0,.int .i64 0,.pointer none,.int .i64 1,.bool false,.int .i64 0,.int .i64 0,.int .i64 0] 125)).heap.size = w4.heap.size + 1 by simp,World.setCell_alloc_past _ _ _ _ (by simp;omega),World.setCell_alloc_past _ _ _ _ lm] at hA
 obtain ⟨own5,h1,h2,h3,_⟩:=hA
 exact ⟨_,own5,h1,h2,h3.pv,h3.procs⟩
set_option maxHeartbeats 8000000 in
theorem new_any (o0:Nat → Nat) (fs:List Fn) (pb po pc np:Nat) (cp cg cm:Nat) (w:World) (hO:Old o0 w (.slice (some ⟨pb,po,none⟩) np pc) fs)
  (hck:∀ W,Below w.heap.size w W → Calls Tryz.prog 40 #[.agg #[.slice (some ⟨pb,po,none⟩) np pc]] W fun e w'=>e = .returned (.tuple #[.int .i64 (-1),.int .i64 (-1),.int .i64 0]) ∧ Below W.heap.size W w')
  (hp:1 ≤ cp ∧ cp ≤ 256) (hg:1 ≤ cg ∧ cg ≤ 64) (hm:1 ≤ cm ∧ cm ≤ 64) :
  Calls Tryz.prog 10 #[.agg #[.slice (some ⟨pb,po,none⟩) np pc],.agg #[.int .i64 cp,.int .i64 cg,.int .i64 cm]] w (NewQ o0 w fs cp cg cm (.slice (some ⟨pb,po,none⟩) np pc)):=by
 have HOld:=Lib.hid hO
 clear hO
 have HCk:=Lib.hid hck
 have HN:=Lib.hid (And.intro hp (And.intro hg hm))
 obtain ⟨W0,hW0⟩:∃ W0,(w.alloc (.cells #[.slice (some ⟨pb,po,none⟩) np pc] 26)).alloc (.cells #[.int .i64 cp,.int .i64 cg,.int .i64 cm] 34) = W0:=⟨_,rfl⟩
 have hb:Below w.heap.size w W0:=by rw [← hW0];exact below_alloc (below_alloc (Below.refl _ _) _) _
 have b2:Blk W0 w.heap.size #[.slice (some ⟨pb,po,none⟩) np pc] 26:=by rw [← hW0];exact (Blk.new w _ 26).below (below_alloc (Below.refl _ _) _) (by simp)
 have b3:Blk W0 (w.heap.size + 1) #[.int .i64 cp,.int .i64 cg,.int .i64 cm] 34:=by
  have k:=Blk.new (w.alloc (.cells #[.slice (some ⟨pb,po,none⟩) np pc] 26)) #[.int .i64 cp,.int .i64 cg,.int .i64 cm] 34
  rw [hW0] at k
  simpa using k
 have HC:Hid (∀ W,Below W0.heap.size W0 W → W.cell? ⟨w.heap.size,0,none⟩ = some (.slice (some ⟨pb,po,none⟩) np pc) ∧ W.cell? ⟨w.heap.size + 1,0,none⟩ = some (.int .i64 cp) ∧ W.cell? ⟨w.heap.size + 1,1,none⟩ = some (.int .i64 cg) ∧ W.cell? ⟨w.heap.size + 1,2,none⟩ = some (.int .i64 cm)):=fun W hW=>by
  have k2:=b2.below hW b2.lt
  have k3:=b3.below hW b3.lt
  exact ⟨k2.cell 0,k3.cell 0,k3.cell 1,k3.cell 2⟩
 have HB:=Lib.hid hb
 obtain ⟨a0,a1,a2,a3⟩:=HC.out W0 (Below.refl _ _)
 clear hck hp hg hm hb b2 b3
 go_enter Tryz.func10,Tryz.ntmps10
 go_wp2_with (first
  | (go_at_call 40;refine (HCk.out _ HB.out).mono ?_;rintro e w1 ⟨rfl,hB⟩;obtain ⟨b0,b1,b2,b3⟩:=HC.out w1 hB;have HB1:=Lib.hid hB;clear hB)
  | (go_at_call 41;refine (Val.conf_any cp cg cm _ (by have:=HN.out.1;omega) (by have:=HN.out.2.1;omega) (by have:=HN.out.2.2;omega)).mono ?_;rintro e w2 ⟨rfl,hB⟩;have hB2:=HB1.out.trans (hB.mono HB1.out.size);obtain ⟨d0,d1,d2,d3⟩:=HC.out w2 hB2;have HB2:=Lib.hid hB2;clear hB hB2))
 clear a0 a1 a2 a3 b0 b1 b2 b3
 go_region_held3 (fun w'=>w'.cell? ⟨w.heap.size,0,none⟩ = some (.slice (some ⟨pb,po,none⟩) np pc) ∧ w'.cell? ⟨w.heap.size + 1,0,none⟩ = some (.int .i64 cp) ∧ w'.cell? ⟨w.heap.size + 1,1,none⟩ = some (.int .i64 cg) ∧ w'.cell? ⟨w.heap.size + 1,2,none⟩ = some (.int .i64 cm)) (go_keep) (first
  | (go_at_call 42;refine (Procs.new_good cp _ HN.out.1.1 HN.out.1.2).mono ?_;rintro e w3 ⟨rfl,rv,R,hP,hz,hB,hge⟩;have HB3:Hid (Below W0.heap.size W0 w3):=Lib.hid (HB2.out.trans ((bl_next (by first | exact Below.refl _ _ | exact below_drew' | exact below_drewN' _) hB).mono HB2.out.size));obtain ⟨e30,e31,e32,e33⟩:=HC.out w3 HB3.out;have HP:=Lib.hid (And.intro hP (And.intro hz hge));have HX3:=Lib.hid hB;clear hB hP hz hge)
  | (go_at_call 43;refine (Pstat.new_good cp _ HN.out.1.1 HN.out.1.2).mono ?_;rintro e w4 ⟨rfl,tv,hT,hB⟩;have HB4:Hid (Below W0.heap.size W0 w4):=Lib.hid (HB3.out.trans (hB.mono HB3.out.size));obtain ⟨e40,e41,e42,e43⟩:=HC.out w4 HB4.out;have HT:=Lib.hid hT;have HX4:=Lib.hid hB;clear hB hT)
  | (go_at_call 44;refine (Glob.new_any _).mono ?_;rintro e w5 ⟨rfl,hw⟩;have hB:=below_alloc (Below.refl w4.heap.size w4) (.cells #[.slice none 0 0,.slice none 0 0] 203);rw [hw] at hB;have HB5:Hid (Below W0.heap.size W0 w5):=Lib.hid (HB4.out.trans (hB.mono HB4.out.size));obtain ⟨e50,e51,e52,e53⟩:=HC.out w5 HB5.out;have HG:=Lib.hid hw;have HX5:=Lib.hid hB;clear hB hw)
  | (go_at_call 45;first | (have hh:=HB6;refine (Idle.new_good 256 _ (by decide)).mono ?_;rintro e w7 ⟨rfl,hI,hB⟩;have HB7:Hid (Below W0.heap.size W0 w7):=Lib.hid (HB6.out.trans (hB.mono HB6.out.size));obtain ⟨e70,e71,e72,e73⟩:=HC.out w7 HB7.out;have HI7:=Lib.hid hI;have HX7:=Lib.hid hB;clear hB hI hh) | (refine (Idle.new_good 64 _ (by decide)).mono ?_;rintro e w6 ⟨rfl,hI,hB⟩;have HB6:Hid (Below W0.heap.size W0 w6):=Lib.hid (HB5.out.trans (hB.mono HB5.out.size));obtain ⟨e60,e61,e62,e63⟩:=HC.out w6 HB6.out;have HI6:=Lib.hid hI;have HX6:=Lib.hid hB;clear hB hI))
  | (go_at_call 46;refine (Sema.new_any _).mono ?_;rintro e w8 ⟨rfl,hw⟩;have hB:=below_alloc (Below.refl w7.heap.size w7) (.cells #[.int .i64 0,.slice none 0 0] 207);rw [hw] at hB;have HB8:Hid (Below W0.heap.size W0 w8):=Lib.hid (HB7.out.trans (hB.mono HB7.out.size));obtain ⟨e80,e81,e82,e83⟩:=HC.out w8 HB8.out;have HM:=Lib.hid hw;have HX8:=Lib.hid hB;clear hB hw)
  | (go_at_call 47;refine (Sig.snew_any _).mono ?_;rintro e w9 ⟨xb,rfl,hx,hX,hB⟩;have HB9:Hid (Below W0.heap.size W0 w9):=Lib.hid (HB8.out.trans (hB.mono HB8.out.size));obtain ⟨e90,e91,e92,e93⟩:=HC.out w9 HB9.out;have HSg:=Lib.hid (And.intro hx hX);have HX9:=Lib.hid hB;clear hB hx hX))
 rename_i hh
 clear hh
 have HPt:=Lib.hid (newParts (cg:=cg) (cm:=cm) (w2:=w2.drew) HOld.out HN.out.1.2 ((HB.out.trans (HB2.out.mono HB.out.size)).drew) HP.out.1 HP.out.2.1 HP.out.2.2 HX3.out HT.out HX4.out HG.out HI6.out HX6.out HI7.out HX7.out HM.out HSg.out.1 HSg.out.2 HX9.out)
 have hMA:=fun W=>makeAsk cp (by have:=HN.out.1;omega) W
 have l9:w.heap.size + 1 < w9.heap.size:=by have:=HB9.out.size;rw [← hW0] at this;simp at this;omega
 have l10:w.heap.size + 1 < w9.heap.size + 1:=by omega
 have l11:w.heap.size + 1 < w9.heap.size + 1 + 1:=by omega
 have m9:¬ w.heap.size + 1 = w9.heap.size:=by omega
 have m10:¬ w.heap.size + 1 = w9.heap.size + 1:=by omega
 have e1:IntKind.i64.wrap ((cp:Int) - 1) = ((cp - 1:Nat):Int):=by have:=HN.out.1;rw [IntKind.wrap_i64];omega
 have HBW:Hid (Below w.heap.size w ((w9.alloc (.cells #[ptr w2.drew.heap.size,.slice (some ⟨pb,po,none⟩) np pc,.int .i64 cp,.int .i64 cg,.int .i64 cm,.slice none 0 0,.slice none 0 0,.slice (some ⟨w9.heap.size + 1,0,none⟩) cp cp,ptr w3.heap.size,ptr w4.heap.size,ptr (w5.heap.size + 1),ptr (w6.heap.size + 1),ptr w7.heap.size,ptr xb,.int .i64 0,.int .i64 0,.int .i64 0,.int .i64 0,.bool false,.int .i64 0,.pointer none,.int .i64 0,.int .i64 0,.int .i64 0,.int .i64 0,.int .i64 0,.bool false] 121)).alloc (.cells (askZ cp) 139))):=below_alloc (below_alloc (HB.out.trans (HB9.out.mono HB.out.size)) _) _
 go_wp2
 clear hMA l10 l11 m9 m10 e1 d0 d1 d2 d3 e30 e31 e32 e33 e40 e41 e42 e43 e50 e51 e52 e53 e60 e61 e62 e63 e70 e71 e72 e73 e80 e81 e82 e83 e90 e91 e92 e93 hW0
 obtain ⟨own0,hR0,ho0⟩:=HPt.out
 obtain ⟨V,hV⟩:∃ V,V = newV (.slice (some ⟨pb,po,none⟩) np pc) w2.drew.heap.size w3.heap.size w4.heap.size (w5.heap.size + 1) (w6.heap.size + 1) w7.heap.size xb (w9.heap.size + 1) cp:=⟨_,rfl⟩
 rw [← hV] at hR0
 have HV:Hid (V.msv = .slice none 0 0 ∧ V.pv = .slice (some ⟨pb,po,none⟩) np pc):=by show _ ∧ _;rw [hV];exact ⟨rfl,rfl⟩
 have HR0:=Lib.hid (And.intro hR0 ho0)
 have lmb:Hid (w.heap.size ≤ w9.heap.size):=Nat.le_of_lt (Nat.lt_of_succ_lt l9)
 clear hR0 ho0 hV l9
 clear HPt HP HX3 HT HX4 HG HX5 HI6 HX6 HI7 HX7 HM HX8 HSg HX9 HB1 HB2 HB3 HB4 HB5 HB6 HB7 HB8 HB9 HC HCk
 go_loopw [11] (fun t wr=>∃ (k:Nat) (own1:Nat → Nat) (l:List Int),k ≤ cp - 1 ∧ t = .int .i64 k ∧ Rep w9.heap.size V own1 wr (st0 fs cp cg cm l (List.replicate cp (0, -1)) []) ∧ (∀ j,j < w.heap.size → own1 j = o0 j) ∧ Below w.heap.size w wr ∧ putsL k l = putsL (cp - 1) []) (fun t _=>(intOf t).toNat)
 case atStart=>exact ⟨cp - 1,own0,[],Nat.le_refl _,rfl,HR0.out.1,HR0.out.2,HBW.out,rfl⟩
 case round=>
  obtain ⟨k,own1,l,hk,rfl,hR,ho,hB,hl⟩:=hrel
  by_cases h0:k = 0
  ·subst h0
   have c8:=hR.c8
   have hx0:∀ W v,(World.setCell W ⟨w9.heap.size,6,none⟩ v).cell? ⟨w9.heap.size,0,none⟩ = W.cell? ⟨w9.heap.size,0,none⟩:=fun W v=>World.cell?_setCell_other W _ _ v (by simp)
   have HS:=Lib.hid (And.intro hR (And.intro ho (And.intro hB hl)))
   clear hR ho hB hl hk
   go_wp2_with (first
    | (go_at_call 49;go_loud (refine (HS.out.1.stake 0 0).mono ?_;rintro e w4' ⟨rfl,own4,hR4',hE4⟩;have hR4:Rep w9.heap.size V own4 w4' (st0 fs cp cg cm l (statN cp) []):=hR4';have c6:=hR4.c6;have c0:=hR4.c0;have f6:=hR4.mfree 6;have lm:=hR4.mlt;have lm1:w9.heap.size < w4'.heap.size + 1:=(by omega);have lm2:¬ w9.heap.size = w4'.heap.size:=(by omega);have lm3:¬ w9.heap.size = w4'.heap.size + 1:=(by omega);have HA:=Lib.hid (new_m1 hR4 HV.out.1);have HE4:=Lib.hid hE4;clear hR4 hR4' hE4))
    | (go_at_call 50;go_loud (obtain ⟨V5,own5,hR5,hE5,hp5,hq5⟩:=HA.out;have hQ:=hR5.ring 0 (by show 0 < (List.replicate cp r0).length;rw [List.length_replicate];exact HN.out.1.1);rw [hq5] at hQ;refine hQ.mono ?_;clear hQ;rintro e w5' ⟨⟨rb,rfl,hrb⟩,rfl⟩;have HR5:=Lib.hid (And.intro hR5 (And.intro hE5 (And.intro hp5 hrb)));clear hR5 hE5 hp5 hq5 hrb))
    | (go_at_call 52;go_loud (refine (HR5.out.1.born 0 0 (show (0:Nat) < 64 by decide)).mono ?_;rintro e w6' ⟨B,rfl,hB0,V6,own6,hR6,hE6,hF6,hB6⟩;have k0:=gc0x (i:=0) (u:=1) hR6 hB6 rfl rfl;have hrb6:=hE6.keep HR5.out.2.2.2 (HR5.out.1.tag_lt HR5.out.2.2.2 (by decide));have HR6:=Lib.hid (And.intro hR6 (And.intro hE6 (And.intro (hF6.pv.trans HR5.out.2.2.1) hrb6)));clear hB0 hR6 hE6 hF6 hB6 hrb6))
    | (go_at_call 51;go_loud (refine (HR6.out.1.rput (p:=0) (by show 0 < (List.replicate cp r0).length;rw [List.length_replicate];exact HN.out.1.1) HR6.out.2.2.2 1 false).mono ?_;rintro e w7' ⟨v,rfl,hv,own7,hR7,hE7,_⟩;have HR7:=Lib.hid (And.intro hR7 hE7);clear hv hR7 hE7)))
   go_ret2
   have hl:l = putsL (cp - 1) []:=HS.out.2.2.2
   have hE:=HE4.out.trans (HR5.out.2.1.trans (HR6.out.2.1.trans HR7.out.2))
   have hsz:=HS.out.2.2.1.size
   rw [hl] at HR7
   exact ⟨w9.heap.size,V6,own7,rfl,HR7.out.1,lmb.out,fun j hj=>(hE.same j (Nat.lt_of_lt_of_le hj hsz)).trans (HS.out.2.1 j hj),below_ext HS.out.2.2.1 (fun j hj=>HOld.out.two j) HS.out.2.1 hE,HR6.out.2.2.1.trans HV.out.2⟩
  ·obtain ⟨k',rfl⟩:∃ k',k = k' + 1:=⟨k - 1,by omega⟩
   have c11:=hR.c11
   have hpos:(0:Int) < ((k' + 1:Nat):Int):=by omega
   have e2:IntKind.i64.wrap (((k' + 1:Nat):Int) - 1) = (k':Int):=by have:=HN.out.1.2;rw [IntKind.wrap_i64];omega
   have HS:=Lib.hid (And.intro hR (And.intro ho (And.intro hB (And.intro hl hk))))
   clear hR ho hB hl hk h0
   go_wp2_with (go_at_call 48;go_loud (refine (HS.out.1.pput ((k' + 1:Nat):Int)).mono ?_;rintro e w4' ⟨rfl,own2,hR2,hE2⟩;have HR2:=Lib.hid (And.intro hR2 hE2);clear hR2 hE2))
   have hw:wrap64 (k':Int) = (k':Int):=by have:=HS.out.2.2.2.2;have:=HN.out.1.2;unfold wrap64;omega
   rw [hw]
   have hsz:=HS.out.2.2.1.size
   have hE:=HR2.out.2
   exact ⟨⟨k',own2,Idle.putL 256 l ((k' + 1:Nat):Int),by have:=HS.out.2.2.2.2;omega,rfl,HR2.out.1,fun j hj=>(hE.same j (Nat.lt_of_lt_of_le hj hsz)).trans (HS.out.2.1 j hj),below_ext HS.out.2.2.1 (fun j hj=>HOld.out.two j) HS.out.2.1 hE,HS.out.2.2.2.1⟩,by simp [intOf]⟩
end Go.Proofs.YtgadhchejmlfjaaGreatDoor.Mac
end
