/- Parts of the proof of TopReaches. -/
import Derived.Test.YtgadhchejmlfjaaGreatDoorD1
import Derived.Test.YtgadhchejmlfjaaGreatDoorB3
import Derived.Test.YtgadhchejmlfjaaGreatDoorD9
import Derived.Test.YtgadhchejmlfjaaGreatDoorD7
set_option linter.unusedVariables false
set_option maxRecDepth 20000
section
namespace Go.Proofs.YtgadhchejmlfjaaGreatDoor.Mac
open Go.RowKit Go.Esc
open Go.Proofs.YtgadhchejmlfjaaGreatDoor.Vm (Ins)
def thrV (x:G):Value:=.agg #[.int .i64 x.fn,.int .i64 x.pc,.int .i64 (rg x 0),.int .i64 (rg x 1),.int .i64 (rg x 2),.int .i64 (rg x 3),.int .i64 (rg x 4),.int .i64 (rg x 5),.int .i64 (rg x 6),.int .i64 (rg x 7),Vm.nilS,.bool x.done]
theorem do_any (fv:Value) (kf kp:Nat) (x x':G) (op a b c n ans n':Int) (w:World) (hd:doG x ⟨op,a,b,c,n⟩ ans = some (x',n')) (hl:x.regs.length = 8) (hf:x.fn = kf) (hp:x.pc = kp) (hA:Vm.At w fv kf kp ⟨op,a,b,c,n⟩) (hI:Isa.Laid w) :
  Calls Tryz.prog 259 #[.agg #[fv],thrV x,.int .i64 ans] w (Vm.DoP (thrV x') n' w):=by
 have hm:op ≠ 7 ∨ (Isa.row op).asks = false:=by
  by_cases e:op = 7
  ·subst e;exact .inr (by decide +kernel)
  ·exact .inl e
 obtain ⟨word,fn,pc,regs,dn,bl,tk,se,bg,ak⟩:=x
 unfold doG at hd
 replace hd:=hd
 dsimp only at hd hf hp hl
 split at hd
 ·cases hd
 rename_i hno
 obtain ⟨r0,r1,r2,r3,r4,r5,r6,r7,rfl⟩:∃ r0 r1 r2 r3 r4 r5 r6 r7,regs = [r0,r1,r2,r3,r4,r5,r6,r7]:=by
  match regs,hl with
  | [r0,r1,r2,r3,r4,r5,r6,r7],_=>exact ⟨_,_,_,_,_,_,_,_,rfl⟩
 have e2:op ≠ 2:=fun e=>hno (by simp [e])
 have e3:op ≠ 3:=fun e=>hno (by simp [e])
 have e4:op ≠ 4:=fun e=>hno (by simp [e])
 have e5:op ≠ 5:=fun e=>hno (by simp [e])
 have e8:op ≠ 8:=fun e=>hno (by simp [e])
 have e9:op ≠ 9:=fun e=>hno (by simp [e])
 have ea:a = 0:=Classical.byContradiction fun e=>hno (by simp [e])
 have edn:dn = false:=by
  cases dn with
  | false=>rfl
  | true=>exact absurd (by simp) hno
 subst hf
 subst hp
 subst ea
 subst edn
 clear hno hl
 have q1:(Isa.row 1).asks = false:=by decide +kernel
 have q14:(Isa.row 14).asks = false:=by decide +kernel
 have q15:(Isa.row 15).asks = false:=by decide +kernel
 by_cases h1:op = 1
 ·subst h1
  rw [q1] at hd
  simp at hd
  obtain ⟨rfl,rfl⟩:=hd
  have h:=Vm.do_const fv kf kp b c n r0 r1 r2 r3 r4 r5 r6 r7 ans w hA hI
  simpa [Vm.outV,Vm.mvB,Vm.mvPc,thrV,rg] using h
 by_cases h15:op = 15
 ·subst h15
  rw [q15] at hd
  simp at hd
  obtain ⟨rfl,rfl⟩:=hd
  have h:=Vm.do_emit fv kf kp 0 b c n r0 r1 r2 r3 r4 r5 r6 r7 ans w hA hI 0 (by decide) rfl
  simpa [Vm.outV,Vm.mvB,Vm.mvPc,thrV,rg] using h
 by_cases h14:op = 14
 ·subst h14
  simp at hd
  obtain ⟨rfl,rfl⟩:=hd
  have h:=Vm.do_on fv kf kp 14 0 b c n r0 r1 r2 r3 r4 r5 r6 r7 ans w hA hI (by decide) 0 (by decide) rfl (by decide) (by decide) (by decide) (by decide) (by decide) (by decide) q14
  simpa [Vm.outV,Vm.mvB,Vm.mvPc,thrV,rg] using h
 have d1:(op == 1) = false:=by simpa using h1
 have d15:(op == 15) = false:=by simpa using h15
 have d2:(op == 2) = false:=by simpa using e2
 have d3:(op == 3) = false:=by simpa using e3
 have d4:(op == 4) = false:=by simpa using e4
 have d5:(op == 5) = false:=by simpa using e5
 have hmv:Vm.mvB op = true:=by simp [Vm.mvB,h14,e9]
 rw [if_neg h1,if_neg h14,if_neg h15] at hd
 cases hq:(Isa.row op).asks with
 | false=>
  rw [hq] at hd
  simp at hd
  obtain ⟨rfl,rfl⟩:=hd
  have h:=Vm.do_on fv kf kp op 0 b c n r0 r1 r2 r3 r4 r5 r6 r7 ans w hA hI e8 0 (by decide) rfl d1 d15 d2 d3 d4 d5 hq
  simpa [Vm.outV,hmv,thrV,rg] using h
 | true=>
  rw [hq] at hd
  simp at hd
  obtain ⟨rfl,rfl⟩:=hd
  have h7:op ≠ 7:=fun e=>by rcases hm with h | h;exact h e;rw [hq] at h;cases h
  have h:=Vm.do_asks fv kf kp op b c n r0 r1 r2 r3 r4 r5 r6 r7 ans w hA hI d1 d15 d2 d3 d4 d5 h7 e8 hq hmv
  have e7:∀ u v:Int,Vm.mvPc op n u v = Vm.mvPc op n 0 v:=fun u v=>by simp [Vm.mvPc,h7]
  simpa [Vm.outV,hmv,thrV,rg,e7] using h
end Go.Proofs.YtgadhchejmlfjaaGreatDoor.Mac
end
section
namespace Go.Proofs.YtgadhchejmlfjaaGreatDoor.Mac
open Go.RowKit Go.Esc
open Go.Proofs.YtgadhchejmlfjaaGreatDoor.Vm (Ins)
section
variable {mb:Nat} {V:Vr} {own:Nat → Nat} {w:World} {s:St}
theorem Rep.insA (h:Rep mb V own w s) {x:G} {ins:Ins} (hi:insAt s x = some ins):∃ kf kp:Nat,x.fn = kf ∧ x.pc = kp ∧ Vm.At w V.pv kf kp ins:=by
 unfold insAt at hi
 obtain ⟨⟨h0,h1⟩,hi⟩:=opt_if hi
 obtain ⟨f,hf,hc⟩:=bind_some hi
 obtain ⟨kf,hkf⟩:∃ kf:Nat,x.fn = kf:=⟨x.fn.toNat,by omega⟩
 obtain ⟨kp,hkp⟩:∃ kp:Nat,x.pc = kp:=⟨x.pc.toNat,by omega⟩
 rw [hkf,Int.toNat_natCast] at hf
 rw [hkp,Int.toNat_natCast] at hc
 refine ⟨kf,kp,hkf,hkp,?_⟩
 obtain ⟨pb,po,pc,hpv,hpl,hpo,hfn⟩:=h.prog
 have hfl:=lt_of_some hf
 have hcl:=lt_of_some hc
 obtain ⟨cb,co,cc,sb,so,sc,a1,a2,a3,a4,a5,a6,a7,a8⟩:=(hfn kf hfl).at_
 rw [hf] at a1 a7
 simp only [Option.getD_some] at a1 a7
 have a9:=a7 kp hcl
 rw [hc] at a9
 simp only [Option.getD_some] at a9
 obtain ⟨b0,b1,b2,b3,b4⟩:=a9
 exact ⟨pb,po,s.funcs.length,pc,cb,co,f.code.length,cc,hpv,hfl,hcl,hpl,a3,a1,b0,b1,b2,b3,b4⟩
theorem Rep.doI (h:Rep mb V own w s) {x x':G} {ins:Ins} {ans n:Int} (hi:insAt s x = some ins) (hd:doG x ins ans = some (x',n)) (hl:x.regs.length = 8):Calls Tryz.prog 259 #[.agg #[V.pv],thrV x,.int .i64 ans] w (Vm.DoP (thrV x') n w):=by
 obtain ⟨kf,kp,hf,hp,hA⟩:=h.insA hi
 obtain ⟨op,a,b,c,m⟩:=ins
 exact do_any V.pv kf kp x x' op a b c m ans n w hd hl hf hp hA h.laid.1
end
end Go.Proofs.YtgadhchejmlfjaaGreatDoor.Mac
end
section
namespace Go.Proofs.YtgadhchejmlfjaaGreatDoor.Mac
open Go.RowKit Go.Esc
section
variable {mb:Nat} {V:Vr} {own:Nat → Nat} {w:World} {s:St}
def thrW (w:World) (b:Nat) (x:G):World:=
 ((((((((((((w.setCell ⟨b,2,none⟩ (.int .i64 x.fn)).setCell ⟨b,3,none⟩ (.int .i64 x.pc)).setCell ⟨b,4,none⟩ (.int .i64 (rg x 0))).setCell ⟨b,5,none⟩ (.int .i64 (rg x 1))).setCell ⟨b,6,none⟩ (.int .i64 (rg x 2))).setCell ⟨b,7,none⟩ (.int .i64 (rg x 3))).setCell ⟨b,8,none⟩ (.int .i64 (rg x 4))).setCell ⟨b,9,none⟩ (.int .i64 (rg x 5))).setCell ⟨b,10,none⟩ (.int .i64 (rg x 6))).setCell ⟨b,11,none⟩ (.int .i64 (rg x 7))).setCell ⟨b,12,none⟩ Vm.nilS).setCell ⟨b,13,none⟩ (.bool x.done)).setCell ⟨b,17,none⟩ (.bool false)
theorem blk13 {b:Nat} {cs:Array Value} {t:TypeId} (h:Blk w b cs t) (x:G):Blk (thrW w b x) b (((((((((((((cs.setIfInBounds 2 (.int .i64 x.fn)).setIfInBounds 3 (.int .i64 x.pc)).setIfInBounds 4 (.int .i64 (rg x 0))).setIfInBounds 5 (.int .i64 (rg x 1))).setIfInBounds 6 (.int .i64 (rg x 2))).setIfInBounds 7 (.int .i64 (rg x 3))).setIfInBounds 8 (.int .i64 (rg x 4))).setIfInBounds 9 (.int .i64 (rg x 5))).setIfInBounds 10 (.int .i64 (rg x 6))).setIfInBounds 11 (.int .i64 (rg x 7))).setIfInBounds 12 Vm.nilS).setIfInBounds 13 (.bool x.done)).setIfInBounds 17 (.bool false)) t:=
 Blk.set (Blk.set (Blk.set (Blk.set (Blk.set (Blk.set (Blk.set (Blk.set (Blk.set (Blk.set (Blk.set (Blk.set (Blk.set h 2 _) 3 _) 4 _) 5 _) 6 _) 7 _) 8 _) 9 _) 10 _) 11 _) 12 _) 13 _) 17 _
theorem gset_thr {b i:Nat} {sv:Value} {x x':G} (h:Blk w b (gcells i sv x) 130) (h1:x'.word = x.word) (h2:x'.blocked = x.blocked) (h3:x'.token = x.token) (h4:x'.sema = x.sema) (h5:x'.asker = x.asker):Blk (thrW w b x') b (gcells i Vm.nilS { x' with begun:=false }) 130:=by
 have k:=blk13 h x'
 have e:(((((((((((((gcells i sv x).setIfInBounds 2 (.int .i64 x'.fn)).setIfInBounds 3 (.int .i64 x'.pc)).setIfInBounds 4 (.int .i64 (rg x' 0))).setIfInBounds 5 (.int .i64 (rg x' 1))).setIfInBounds 6 (.int .i64 (rg x' 2))).setIfInBounds 7 (.int .i64 (rg x' 3))).setIfInBounds 8 (.int .i64 (rg x' 4))).setIfInBounds 9 (.int .i64 (rg x' 5))).setIfInBounds 10 (.int .i64 (rg x' 6))).setIfInBounds 11 (.int .i64 (rg x' 7))).setIfInBounds 12 Vm.nilS).setIfInBounds 13 (.bool x'.done)).setIfInBounds 17 (.bool false) = gcells i Vm.nilS { x' with begun:=false }:=by
  simp [gcells,rg,h1,h2,h3,h4,h5]
 rw [e] at k
 exact k
end
end Go.Proofs.YtgadhchejmlfjaaGreatDoor.Mac
end
section
namespace Go.Proofs.YtgadhchejmlfjaaGreatDoor.Mac
open Go.RowKit Go.Esc
open Go.Proofs.YtgadhchejmlfjaaGreatDoor.Vm (Ins)
section
variable {mb:Nat} {V:Vr} {own:Nat → Nat} {w:World} {s:St}
theorem Rep.setThr (h:Rep mb V own w s) {b i:Nat} {x x':G} (hb:own b = 20 + 5 * i) (hi:s.gs[i]? = some x) (hl:x'.regs.length = 8) (h1:x'.word = x.word) (h2:x'.blocked = x.blocked) (h3:x'.token = x.token) (h4:x'.sema = x.sema) (h5:x'.asker = x.asker) :
  Rep mb V own (thrW w b x') (s.setG i { x' with begun:=false }) ∧ Ext own w own (thrW w b x'):=by
 obtain ⟨h8,hw,sv,hB,hst⟩:=h.gat hb hi
 have hbi:=h.gis hb hi
 have hO:Only (fun j=>j = b) w (thrW w b x'):=oset (oset (oset (oset (oset (oset (oset (oset (oset (oset (oset (oset (oset (orefl b w) _ _) _ _) _ _) _ _) _ _) _ _) _ _) _ _) _ _) _ _) _ _) _ _) _ _
 exact ⟨h.putG (lt_of_some hi) (by rw [← hbi];exact hO) { x' with begun:=false } (by rw [← hbi];exact ⟨hl,by rw [h1];exact hw,_,gset_thr hB h1 h2 h3 h4 h5,rfl⟩),only_ext hO (by omega)⟩
theorem doG_same {x x':G} {ins:Ins} {ans n:Int} (h:doG x ins ans = some (x',n)) (hl:x.regs.length = 8):x'.regs.length = 8 ∧ x'.word = x.word ∧ x'.blocked = x.blocked ∧ x'.token = x.token ∧ x'.sema = x.sema ∧ x'.asker = x.asker:=by
 unfold doG at h
 split at h
 ·cases h
 dsimp only at h
 split at h
 ·simp only [Option.some.injEq,Prod.mk.injEq] at h
  obtain ⟨rfl,_⟩:=h
  exact ⟨rfl,rfl,rfl,rfl,rfl,rfl⟩
 ·simp only [Option.some.injEq,Prod.mk.injEq] at h
  obtain ⟨rfl,_⟩:=h
  refine ⟨?_,rfl,rfl,rfl,rfl,rfl⟩
  dsimp only
  split
  ·rw [List.length_set];exact hl
  ·split
   ·rw [List.length_set];exact hl
   ·exact hl
end
end Go.Proofs.YtgadhchejmlfjaaGreatDoor.Mac
end
section
namespace Go.Proofs.YtgadhchejmlfjaaGreatDoor.Mac
open Go.RowKit Go.Esc
open Go.Proofs.YtgadhchejmlfjaaGreatDoor.Vm (Ins)
section
variable {mb:Nat} {V:Vr} {own:Nat → Nat} {w:World} {s:St}
def ThrC (b:Nat) (x:G) (w:World):Prop:=
 w.cell? ⟨b,2,none⟩ = some (.int .i64 x.fn) ∧ w.cell? ⟨b,3,none⟩ = some (.int .i64 x.pc) ∧ w.cell? ⟨b,4,none⟩ = some (.int .i64 (rg x 0)) ∧ w.cell? ⟨b,5,none⟩ = some (.int .i64 (rg x 1)) ∧ w.cell? ⟨b,6,none⟩ = some (.int .i64 (rg x 2)) ∧ w.cell? ⟨b,7,none⟩ = some (.int .i64 (rg x 3)) ∧
 w.cell? ⟨b,8,none⟩ = some (.int .i64 (rg x 4)) ∧ w.cell? ⟨b,9,none⟩ = some (.int .i64 (rg x 5)) ∧ w.cell? ⟨b,10,none⟩ = some (.int .i64 (rg x 6)) ∧ w.cell? ⟨b,11,none⟩ = some (.int .i64 (rg x 7)) ∧ w.cell? ⟨b,12,none⟩ = some Vm.nilS ∧ w.cell? ⟨b,13,none⟩ = some (.bool x.done)
theorem Rep.thrC (h:Rep mb V own w s) {b i:Nat} {x:G} (hb:own b = 20 + 5 * i) (hi:s.gs[i]? = some x):ThrC b x w:=by
 obtain ⟨h8,hw,sv,hB,hst⟩:=h.gat hb hi
 obtain rfl:sv = Vm.nilS:=hst
 exact ⟨hB.cell 2,hB.cell 3,hB.cell 4,hB.cell 5,hB.cell 6,hB.cell 7,hB.cell 8,hB.cell 9,hB.cell 10,hB.cell 11,hB.cell 12,hB.cell 13⟩
end
end Go.Proofs.YtgadhchejmlfjaaGreatDoor.Mac
end
section
namespace Go.Proofs.YtgadhchejmlfjaaGreatDoor.Mac
open Go.RowKit Go.Esc
open Go.Proofs.YtgadhchejmlfjaaGreatDoor.Vm (Ins)
section
variable {mb:Nat} {V:Vr} {own:Nat → Nat} {w:World} {s:St}
def thrC12 (x:G):Array Value:=#[.int .i64 x.fn,.int .i64 x.pc,.int .i64 (rg x 0),.int .i64 (rg x 1),.int .i64 (rg x 2),.int .i64 (rg x 3),.int .i64 (rg x 4),.int .i64 (rg x 5),.int .i64 (rg x 6),.int .i64 (rg x 7),Vm.nilS,.bool x.done]
def locW (w:World) (P:Nat) (x:G):World:=
 (((((((((((w.setCell ⟨P,0,none⟩ (.int .i64 x.fn)).setCell ⟨P,1,none⟩ (.int .i64 x.pc)).setCell ⟨P,2,none⟩ (.int .i64 (rg x 0))).setCell ⟨P,3,none⟩ (.int .i64 (rg x 1))).setCell ⟨P,4,none⟩ (.int .i64 (rg x 2))).setCell ⟨P,5,none⟩ (.int .i64 (rg x 3))).setCell ⟨P,6,none⟩ (.int .i64 (rg x 4))).setCell ⟨P,7,none⟩ (.int .i64 (rg x 5))).setCell ⟨P,8,none⟩ (.int .i64 (rg x 6))).setCell ⟨P,9,none⟩ (.int .i64 (rg x 7))).setCell ⟨P,10,none⟩ Vm.nilS).setCell ⟨P,11,none⟩ (.bool x.done)
theorem loc12 {P:Nat} {a0 a1 a2 a3 a4 a5 a6 a7 a8 a9 a10 a11:Value} {t:TypeId} (h:Blk w P #[a0,a1,a2,a3,a4,a5,a6,a7,a8,a9,a10,a11] t) (x:G):Blk (locW w P x) P (thrC12 x) t:=Vm.st12 h
def LocE (mb:Nat) (V:Vr) (own:Nat → Nat) (wa:World) (s:St) (W:World) (P:Nat) (x:G):Prop:=
 Rep mb V own W s ∧ Ext own wa own W ∧ Blk W P (thrC12 x) 50 ∧ own P = 0
theorem loc_last {w2:World} (hR:Rep mb V own w s) (hB:Below w.heap.size w w2) (x:G):LocE mb V own w s (w2.alloc (.cells (thrC12 x) 50)) w2.heap.size x:=
 ⟨hR.below (bl_alloc hB _),Ext.below (bl_alloc hB _),Blk.new w2 _ 50,hR.fresh _ hB.size⟩
theorem loc_ahead {w2:World} {P:Nat} {a0 a1 a2 a3 a4 a5 a6 a7 a8 a9 a10 a11:Value} (hR:Rep mb V own w s) (hB:Below w.heap.size w w2) (hP:Blk w2 P #[a0,a1,a2,a3,a4,a5,a6,a7,a8,a9,a10,a11] 50) (hPa:w.heap.size ≤ P) (x:G):LocE mb V own w s (locW w2 P x) P x:=by
 have hO:Only (fun j=>j = P) w2 (locW w2 P x):=oset (oset (oset (oset (oset (oset (oset (oset (oset (oset (oset (oset (orefl P w2) _ _) _ _) _ _) _ _) _ _) _ _) _ _) _ _) _ _) _ _) _ _) _ _
 have h0:own P = 0:=hR.fresh _ hPa
 refine ⟨(hR.below hB).loc hO (fun j hj=>by rw [show j = P from hj];exact h0),⟨?_,fun _ _=>rfl⟩,loc12 hP x,h0⟩
 exact (Ext.below hB).only.andThen hO (fun j hj hs=>by rw [show j = P from hs] at hj;omega)
theorem Rep.xused (h:Rep mb V own w s) {xb j:Nat} {y:M1} (hx:own xb = 22 + 5 * j) (hj:s.ms[j]? = some y) (u:Int):Rep mb V own (w.setCell ⟨xb,5,none⟩ (.int .i64 u)) (s.setX j { y with used:=u }) ∧ Ext own w own (w.setCell ⟨xb,5,none⟩ (.int .i64 u)):=by
 have hxi:=h.xis hx hj
 have hO:=oset (orefl xb w) 5 (.int .i64 u)
 have hxg:=h.xg hj
 exact ⟨h.putX (lt_of_some hj) (by rw [← hxi];exact hO) { y with used:=u } hxg (by rw [← hxi];exact xset_used (h.xblk hx hj) u),only_ext hO (by omega)⟩
end
end Go.Proofs.YtgadhchejmlfjaaGreatDoor.Mac
end
