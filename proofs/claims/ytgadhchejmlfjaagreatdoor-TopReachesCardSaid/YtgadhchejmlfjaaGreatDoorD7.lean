/- Parts of the proof of TopReaches. -/
import Derived.Test.YtgadhchejmlfjaaGreatDoorD4
import Derived.LaidEqlPtr
set_option linter.unusedVariables false
set_option maxRecDepth 20000
section
namespace Go.Proofs.YtgadhchejmlfjaaGreatDoor.Mac
open Go.RowKit Go.Esc
section
variable {mb:Nat} {V:Vr} {own:Nat → Nat} {w:World} {s:St}
theorem info130s:(Tryz.prog.info? 130).map (fun i=>i.size) = some 19:=by kernel_rfl
theorem und119:Tryz.prog.underlying 119 = some (.pointer 130):=by kernel_rfl
theorem eql_same (w:World) (b:Nat):(binOp .eql 119 (ptr b) (ptr b)).run Tryz.prog w = .ok (.bool true) w:=by
 obtain ⟨i,hi,_⟩:=Option.map_eq_some_iff.1 info130s
 have h:∀ d:Nat,(Op.equalIn (d + 1) 119 (ptr b) (ptr b)).run Tryz.prog w = .ok true w:=fun d=>by
  simp [Op.equalIn,run_underlying und119,sizeOf,typeInfo,hi,run_sameAddr_same]
 simp only [binOp]
 simp [Op.equal,Op.maxDepth,h 9999]
theorem eql_other {w:World} {b c:Nat} {cb cc:Array Value} (h:¬ b = c) (hb:Blk w b cb 130) (hc:Blk w c cc 130):(binOp .eql 119 (ptr b) (ptr c)).run Tryz.prog w = .ok (.bool false) w:=by
 obtain ⟨i,hi,hs⟩:=Option.map_eq_some_iff.1 info130s
 have h:∀ d:Nat,(Op.equalIn (d + 1) 119 (ptr b) (ptr c)).run Tryz.prog w = .ok false w:=fun d=>by
  simp [Op.equalIn,run_underlying und119,sizeOf,typeInfo,hi,hs,run_sameAddr_other w (a:=⟨b,0,none⟩) (b:=⟨c,0,none⟩) (fun e=>h (congrArg Addr.block e)) hb hc]
 simp only [binOp]
 simp [Op.equal,Op.maxDepth,h 9999]
theorem eql_nil (w:World) (b:Nat):(binOp .eql 119 (.pointer none) (ptr b)).run Tryz.prog w = .ok (.bool false) w:=by
 have h:∀ d:Nat,(Op.equalIn (d + 1) 119 (.pointer none) (ptr b)).run Tryz.prog w = .ok false w:=fun d=>by
  simp [Op.equalIn,run_underlying und119]
 simp only [binOp]
 simp [Op.equal,Op.maxDepth,h 9999]
theorem eqg_ptr (x y:Operand) (v:Value) (b:Nat) (w:World):(eqGuard .eql 119 x y v (ptr b)).run Tryz.prog w = .ok () w:=by
 cases v <;> simp [eqGuard]
theorem Rep.eqlG (h:Rep mb V own w s) {b i:Nat} (hb:own b = 20 + 5 * i) {u:Int} (h0:0 ≤ u) (h1:u ≤ s.gs.length):(binOp .eql 119 (gptr V.gb u) (ptr b)).run Tryz.prog w = .ok (.bool (decide (u = (i:Int) + 1))) w:=by
 have hil:=h.lg b i hb
 by_cases hu:u = 0
 ·subst hu
  rw [show gptr V.gb 0 = .pointer none from rfl,show decide ((0:Int) = (i:Int) + 1) = false by simp;omega]
  exact eql_nil w b
 ·obtain ⟨e1,hk⟩:=h.gp (by omega) h1
  rw [e1]
  by_cases hui:u = (i:Int) + 1
  ·rw [show (u - 1).toNat = i by omega,← h.gis hb (List.getElem?_eq_getElem hil),show decide (u = (i:Int) + 1) = true by simp [hui]]
   exact eql_same w b
  ·rw [show decide (u = (i:Int) + 1) = false by simp [hui]]
   obtain ⟨_,_,sv,hB1,_⟩:=h.gat hb (List.getElem?_eq_getElem hil)
   obtain ⟨_,_,sv2,hB2,_⟩:=h.gat hk (List.getElem?_eq_getElem (h.lg _ _ hk))
   exact eql_other (by intro e;rw [e] at hk;omega) hB2 hB1
end
end Go.Proofs.YtgadhchejmlfjaaGreatDoor.Mac
end
section
namespace Go.Proofs.YtgadhchejmlfjaaGreatDoor.Mac
open Go.RowKit Go.Esc
open Go.Proofs.YtgadhchejmlfjaaGreatDoor.Vm (Ins)
section
variable {mb:Nat} {V:Vr} {own:Nat → Nat} {w:World} {s:St}
def insG (i:Ins):Value:=.agg #[.int .i64 i.op,.int .i64 i.a,.int .i64 i.b,.int .i64 i.c,.int .i64 i.n]
def AtP (own:Nat → Nat) (s:St) (x:G) (ins:Ins) (w:World) (e:Ending) (w':World):Prop:=
 ∃ f ca cc sv,s.funcs[x.fn.toNat]? = some f ∧ 0 < f.code.length ∧ e = .returned (.tuple #[.agg #[.slice ca f.code.length cc,sv],insG ins]) ∧ Dec.Bs w sv f.safe ∧ (∀ j,sv.ownBlock = some j → own j = 14) ∧ Below w.heap.size w w'
theorem sn2_0 {w:World} {b:Nat} {x0 x1 u:Value} {t:TypeId} (h:Blk w b #[x0,x1] t):Blk (w.setCell ⟨b,0,none⟩ u) b #[u,x1] t:=h.set 0 u
theorem sn2_1 {w:World} {b:Nat} {x0 x1 u:Value} {t:TypeId} (h:Blk w b #[x0,x1] t):Blk (w.setCell ⟨b,1,none⟩ u) b #[x0,u] t:=h.set 1 u
theorem sn5_0 {w:World} {b:Nat} {x0 x1 x2 x3 x4 u:Value} {t:TypeId} (h:Blk w b #[x0,x1,x2,x3,x4] t):Blk (w.setCell ⟨b,0,none⟩ u) b #[u,x1,x2,x3,x4] t:=h.set 0 u
theorem sn5_1 {w:World} {b:Nat} {x0 x1 x2 x3 x4 u:Value} {t:TypeId} (h:Blk w b #[x0,x1,x2,x3,x4] t):Blk (w.setCell ⟨b,1,none⟩ u) b #[x0,u,x2,x3,x4] t:=h.set 1 u
theorem sn5_2 {w:World} {b:Nat} {x0 x1 x2 x3 x4 u:Value} {t:TypeId} (h:Blk w b #[x0,x1,x2,x3,x4] t):Blk (w.setCell ⟨b,2,none⟩ u) b #[x0,x1,u,x3,x4] t:=h.set 2 u
theorem sn5_3 {w:World} {b:Nat} {x0 x1 x2 x3 x4 u:Value} {t:TypeId} (h:Blk w b #[x0,x1,x2,x3,x4] t):Blk (w.setCell ⟨b,3,none⟩ u) b #[x0,x1,x2,u,x4] t:=h.set 3 u
theorem sn5_4 {w:World} {b:Nat} {x0 x1 x2 x3 x4 u:Value} {t:TypeId} (h:Blk w b #[x0,x1,x2,x3,x4] t):Blk (w.setCell ⟨b,4,none⟩ u) b #[x0,x1,x2,x3,u] t:=h.set 4 u
theorem off2 {w:World} {a b:Nat} {cs:Array Value} {t:TypeId} {u0 u1:Value} (h:Blk w b cs t) (hne:¬ a = b):Blk ((w.setCell ⟨a,0,none⟩ u0).setCell ⟨a,1,none⟩ u1) b cs t:=h.only (oset (oset (orefl a w) 0 u0) 1 u1) (fun e=>hne e.symm)
theorem off5 {w:World} {a b:Nat} {cs:Array Value} {t:TypeId} {u0 u1 u2 u3 u4:Value} (h:Blk w b cs t) (hne:¬ a = b):Blk (((((w.setCell ⟨a,0,none⟩ u0).setCell ⟨a,1,none⟩ u1).setCell ⟨a,2,none⟩ u2).setCell ⟨a,3,none⟩ u3).setCell ⟨a,4,none⟩ u4) b cs t:=h.only (oset (oset (oset (oset (oset (orefl a w) 0 u0) 1 u1) 2 u2) 3 u3) 4 u4) (fun e=>hne e.symm)
theorem blk_drew {w:World} {b:Nat} {cs:Array Value} {t:TypeId} (h:Blk w b cs t):Blk w.drew b cs t:=h
theorem at_st {W:World} {a b:Nat} {x0 x1 y0 y1 y2 y3 y4 u0 u1 v0 v1 v2 v3 v4:Value} (h4:Blk W a #[x0,x1] 87) (h5:Blk W b #[y0,y1,y2,y3,y4] 84) (hne:¬ a = b):Blk ((((((((W.setCell ⟨a,0,none⟩ u0).setCell ⟨a,1,none⟩ u1).setCell ⟨b,0,none⟩ v0).setCell ⟨b,1,none⟩ v1).setCell ⟨b,2,none⟩ v2).setCell ⟨b,3,none⟩ v3).setCell ⟨b,4,none⟩ v4).drew) a #[u0,u1] 87 ∧ Blk ((((((((W.setCell ⟨a,0,none⟩ u0).setCell ⟨a,1,none⟩ u1).setCell ⟨b,0,none⟩ v0).setCell ⟨b,1,none⟩ v1).setCell ⟨b,2,none⟩ v2).setCell ⟨b,3,none⟩ v3).setCell ⟨b,4,none⟩ v4).drew) b #[v0,v1,v2,v3,v4] 84:=
 ⟨blk_drew (off5 (sn2_1 (sn2_0 h4)) (fun e=>hne e.symm)),blk_drew (sn5_4 (sn5_3 (sn5_2 (sn5_1 (sn5_0 (off2 h5 hne))))))⟩
theorem osetS {S:Nat → Prop} {a w:World} {c:Nat} (h:Only S a w) (hc:S c) (i:Nat) (u:Value):Only S a (w.setCell ⟨c,i,none⟩ u):=h.set (.inr hc) i u
theorem at_only {W:World} {a b:Nat} {u0 u1 v0 v1 v2 v3 v4:Value}:Only (fun j=>j = a ∨ j = b) W ((((((((W.setCell ⟨a,0,none⟩ u0).setCell ⟨a,1,none⟩ u1).setCell ⟨b,0,none⟩ v0).setCell ⟨b,1,none⟩ v1).setCell ⟨b,2,none⟩ v2).setCell ⟨b,3,none⟩ v3).setCell ⟨b,4,none⟩ v4).drew):=by
 have ha:(fun j=>j = a ∨ j = b) a:=.inl rfl
 have hb:(fun j=>j = a ∨ j = b) b:=.inr rfl
 exact (osetS (osetS (osetS (osetS (osetS (osetS (osetS (Only.refl _ W) ha 0 u0) ha 1 u1) hb 0 v0) hb 1 v1) hb 2 v2) hb 3 v3) hb 4 v4).drew
theorem ret_at {W:World} {a b:Nat} {u0 u1 v0 v1 v2 v3 v4:Value} {tmps:Array Value} {Q:Ending → World → Prop} (h4:Blk W a #[u0,u1] 87) (h5:Blk W b #[v0,v1,v2,v3,v4] 84) (t4:tmps[4]?.getD undef = ptr a) (t5:tmps[5]?.getD undef = ptr b)
  (hq:Q (.returned (.tuple #[.agg #[u0,u1],.agg #[v0,v1,v2,v3,v4]])) W):bodyPost Tryz.prog Tryz.f177 Q Exit.ret { tmps:=tmps,defers:=[] } W:=by
 have k0:=h4.cell 0;have k1:=h4.cell 1;have l0:=h5.cell 0;have l1:=h5.cell 1;have l2:=h5.cell 2;have l3:=h5.cell 3;have l4:=h5.cell 4
 simp only [List.getElem?_toArray,List.getElem?_cons_succ,List.getElem?_cons_zero] at k0 k1 l0 l1 l2 l3 l4
 exact bodyPost_ret (v:=.tuple #[.agg #[u0,u1],.agg #[v0,v1,v2,v3,v4]]) (by simp [results,Tryz.results177,go_sem,t4,t5,k0,k1,l0,l1,l2,l3,l4]) rfl hq
set_option maxHeartbeats 4000000 in
theorem Rep.at_ (h:Rep mb V own w s) {b i:Nat} {x:G} {ins:Ins} (hb:own b = 20 + 5 * i) (hi:s.gs[i]? = some x) (hI:insAt s x = some ins):Calls Tryz.prog 177 #[ptr mb,ptr b] w (AtP own s x ins w):=by
 unfold insAt at hI
 obtain ⟨⟨h0,h1⟩,hI⟩:=opt_if hI
 obtain ⟨f,hf,hc⟩:=bind_some hI
 obtain ⟨kf,hkf⟩:∃ kf:Nat,x.fn = kf:=⟨x.fn.toNat,by omega⟩
 obtain ⟨kp,hkp⟩:∃ kp:Nat,x.pc = kp:=⟨x.pc.toNat,by omega⟩
 have HF:Hid (s.funcs[x.fn.toNat]? = some f):=Lib.hid hf
 rw [hkf,Int.toNat_natCast] at hf
 rw [hkp,Int.toNat_natCast] at hc
 obtain ⟨pb,po,pc,hpv,hpl,hpo,hfn⟩:=h.prog
 have hfl:=lt_of_some hf
 have hcl:=lt_of_some hc
 obtain ⟨cb,co,cc,sb,so,sc,a1,a2,a3,a4,a5,a6,a7,a8⟩:=(hfn kf hfl).at_
 rw [hf] at a1 a2 a7 a8
 simp only [Option.getD_some] at a1 a2 a7 a8
 have a9:=a7 kp hcl
 rw [hc] at a9
 simp only [Option.getD_some] at a9
 obtain ⟨b0,b1,b2,b3,b4⟩:=a9
 have c1:=h.c1
 rw [hpv] at c1
 have g2:w.cell? ⟨b,2,none⟩ = some (.int .i64 kf):=by
  obtain ⟨_,_,sv,hBk,_⟩:=h.gat hb hi
  rw [← hkf];exact hBk.cell 2
 have g3:w.cell? ⟨b,3,none⟩ = some (.int .i64 kp):=by
  obtain ⟨_,_,sv,hBk,_⟩:=h.gat hb hi
  rw [← hkp];exact hBk.cell 3
 have hml:=h.mlt
 have hbl:b < w.heap.size:=by obtain ⟨_,_,sv,hBk,_⟩:=h.gat hb hi;exact hBk.lt
 have HBs:Hid (Dec.Bs w (.slice (some ⟨sb,so,none⟩) f.safe.length sc) f.safe):=⟨sb,so,sc,rfl,a4,a8⟩
 have HO14:Hid (∀ j,(Value.slice (some ⟨sb,so,none⟩) f.safe.length sc).ownBlock = some j → own j = 14):=fun j hj=>by
  have e:sb = j:=by simpa [Value.ownBlock] using hj
  rw [← e];exact a6
 have HH:=Lib.hid h
 generalize hnf:s.funcs.length = nf at *
 generalize hnc:f.code.length = nc at *
 generalize hns:f.safe.length = ns at *
 have HN:=Lib.hid (And.intro hnc hns)
 obtain ⟨op,ia,ib,ic,im⟩:=ins
 simp only at b0 b1 b2 b3 b4
 clear h hb hi h0 h1 hI hf hc hkf hkp hpv hpo hfn a5 a6 a7 a8 hnf hnc hns
 obtain ⟨W,hWe⟩:∃ W,(w.alloc (.cells #[.slice none 0 0,.slice none 0 0] 87)).alloc (.cells #[.int .i64 0,.int .i64 0,.int .i64 0,.int .i64 0,.int .i64 0] 84) = W:=⟨_,rfl⟩
 have hW:Below w.heap.size w W:=by rw [← hWe];exact below_alloc (below_alloc (Below.refl _ _) _) _
 have B4:Blk W w.heap.size #[.slice none 0 0,.slice none 0 0] 87:=by rw [← hWe];exact (Blk.new w _ 87).below (below_alloc (Below.refl _ _) _) (by simp)
 have B5:Blk W (w.heap.size + 1) #[.int .i64 0,.int .i64 0,.int .i64 0,.int .i64 0,.int .i64 0] 84:=by
  have k:=Blk.new (w.alloc (.cells #[.slice none 0 0,.slice none 0 0] 87)) #[.int .i64 0,.int .i64 0,.int .i64 0,.int .i64 0,.int .i64 0] 84
  rw [hWe] at k
  simpa using k
 have hWs:W.heap.size = w.heap.size + 2:=by rw [← hWe];simp
 rw [← hW.cell (p:=⟨mb,1,none⟩) hml] at c1
 rw [← hW.cell (p:=⟨b,2,none⟩) hbl] at g2
 rw [← hW.cell (p:=⟨b,3,none⟩) hbl] at g3
 rw [← hW.cell (p:=⟨pb,po + kf * 2,none⟩) hpl] at a1
 rw [← hW.cell (p:=⟨pb,po + kf * 2 + 1,none⟩) hpl] at a2
 rw [← hW.cell (p:=⟨cb,co + kp * 5,none⟩) a3] at b0
 rw [← hW.cell (p:=⟨cb,co + kp * 5 + 1,none⟩) a3] at b1
 rw [← hW.cell (p:=⟨cb,co + kp * 5 + 2,none⟩) a3] at b2
 rw [← hW.cell (p:=⟨cb,co + kp * 5 + 3,none⟩) a3] at b3
 rw [← hW.cell (p:=⟨cb,co + kp * 5 + 4,none⟩) a3] at b4
 have HW:=Lib.hid hW
 go_enter Tryz.func177,Tryz.ntmps177
 go_wp2
 have k1:¬ mb = W.heap.size:=by omega
 have k2:¬ b = W.heap.size:=by omega
 have k3:¬ pb = W.heap.size:=by omega
 have k4:¬ cb = W.heap.size:=by omega
 obtain ⟨L5,hL5⟩:∃ L5,w.heap.size + 1 = L5:=⟨_,rfl⟩
 rw [hL5] at B5 ⊢
 obtain ⟨L4,hL4⟩:∃ L4,w.heap.size = L4:=⟨_,rfl⟩
 have k5:¬ L4 = W.heap.size:=by omega
 have k6:¬ L5 = W.heap.size:=by omega
 have k7:¬ mb = L4:=by omega
 have k8:¬ mb = L5:=by omega
 have k9:¬ b = L4:=by omega
 have k10:¬ b = L5:=by omega
 have k19:¬ L4 = b:=by omega
 have k20:¬ L5 = b:=by omega
 have k21:¬ L4 = cb:=by omega
 have k22:¬ L5 = cb:=by omega
 have k11:¬ L4 = L5:=by omega
 have k12:¬ L5 = L4:=by omega
 have k13:¬ cb = L4:=by omega
 have k14:¬ cb = L5:=by omega
 rw [hL4] at B4 ⊢
 have HB:=Lib.hid (And.intro B4 B5)
 have HL:=Lib.hid (And.intro hWe (And.intro hL4 hL5))
 have HC:=Lib.hid (And.intro hml (And.intro hbl (And.intro hpl a3)))
 clear hW hWs hWe hL4 hL5 hml hbl hpl a3 B4 B5
 go_region_held3 (fun w'=>w'.cell? ⟨mb,1,none⟩ = some (.slice (some ⟨pb,po,none⟩) nf pc) ∧ w'.cell? ⟨b,2,none⟩ = some (.int .i64 kf) ∧ w'.cell? ⟨pb,po + kf * 2,none⟩ = some (.slice (some ⟨cb,co,none⟩) nc cc) ∧ w'.cell? ⟨pb,po + kf * 2 + 1,none⟩ = some (.slice (some ⟨sb,so,none⟩) ns sc)) (go_keep) (fail)
 have hB6:Blk (W.alloc (.cells #[.slice (some ⟨cb,co,none⟩) nc cc,.slice (some ⟨sb,so,none⟩) ns sc] 87)).drew W.heap.size #[.slice (some ⟨cb,co,none⟩) nc cc,.slice (some ⟨sb,so,none⟩) ns sc] 87:=Blk.new W _ 87
 have hW2:Below W.heap.size W (W.alloc (.cells #[.slice (some ⟨cb,co,none⟩) nc cc,.slice (some ⟨sb,so,none⟩) ns sc] 87)).drew:=(below_alloc (Below.refl _ _) _).drew
 clear c1 g2 a1 a2
 generalize (W.alloc (.cells #[.slice (some ⟨cb,co,none⟩) nc cc,.slice (some ⟨sb,so,none⟩) ns sc] 87)).drew = W2 at *
 have hsz:=HW.out.size
 have q1:b < W.heap.size:=Nat.lt_of_lt_of_le HC.out.2.1 hsz
 have q2:cb < W.heap.size:=Nat.lt_of_lt_of_le HC.out.2.2.2 hsz
 rw [← hW2.cell (p:=⟨b,3,none⟩) q1] at g3
 rw [← hW2.cell (p:=⟨cb,co + kp * 5,none⟩) q2] at b0
 rw [← hW2.cell (p:=⟨cb,co + kp * 5 + 1,none⟩) q2] at b1
 rw [← hW2.cell (p:=⟨cb,co + kp * 5 + 2,none⟩) q2] at b2
 rw [← hW2.cell (p:=⟨cb,co + kp * 5 + 3,none⟩) q2] at b3
 rw [← hW2.cell (p:=⟨cb,co + kp * 5 + 4,none⟩) q2] at b4
 have B4:=HB.out.1.below hW2 HB.out.1.lt
 have B5:=HB.out.2.below hW2 HB.out.2.lt
 have t40:=B4.cell 0
 have t41:=B4.cell 1
 have t50:=B5.cell 0
 have t51:=B5.cell 1
 have t52:=B5.cell 2
 have t53:=B5.cell 3
 have t54:=B5.cell 4
 have u40:=B4.free 0
 have u41:=B4.free 1
 have u50:=B5.free 0
 have u51:=B5.free 1
 have u52:=B5.free 2
 have u53:=B5.free 3
 have u54:=B5.free 4
 have t60:=hB6.cell 0
 have t61:=hB6.cell 1
 simp only [List.getElem?_toArray,List.getElem?_cons_zero,List.getElem?_cons_succ] at t40 t41 t50 t51 t52 t53 t54 t60 t61
 have HW2:=Lib.hid (And.intro HW.out (And.intro hW2 HW.out.size))
 have HK:=Lib.hid (And.intro B4 B5)
 clear hsz q1 q2 B4 B5 hB6 hW2
 have k15:¬ W.heap.size = L4:=fun e=>k5 e.symm
 have k16:¬ W.heap.size = L5:=fun e=>k6 e.symm
 generalize W.heap.size = L6 at *
 go_wp2
 go_region_held3 (fun w'=>w'.cell? ⟨b,3,none⟩ = some (.int .i64 kp) ∧ w'.cell? ⟨L6,0,none⟩ = some (.slice (some ⟨cb,co,none⟩) nc cc) ∧ w'.cell? ⟨L6,1,none⟩ = some (.slice (some ⟨sb,so,none⟩) ns sc) ∧ w'.cell? ⟨cb,co + kp * 5,none⟩ = some (.int .i64 op) ∧ w'.cell? ⟨cb,co + kp * 5 + 1,none⟩ = some (.int .i64 ia) ∧ w'.cell? ⟨cb,co + kp * 5 + 2,none⟩ = some (.int .i64 ib) ∧ w'.cell? ⟨cb,co + kp * 5 + 3,none⟩ = some (.int .i64 ic) ∧ w'.cell? ⟨cb,co + kp * 5 + 4,none⟩ = some (.int .i64 im)) (go_keep) (fail)
 have hBB:=HK.out
 obtain ⟨A4,A5⟩:=at_st (u0:=.slice (some ⟨cb,co,none⟩) nc cc) (u1:=.slice (some ⟨sb,so,none⟩) ns sc) (v0:=.int .i64 op) (v1:=.int .i64 ia) (v2:=.int .i64 ib) (v3:=.int .i64 ic) (v4:=.int .i64 im) hBB.1 hBB.2 k11
 have hO:Only (fun j=>j = L4 ∨ j = L5) W2 (((((((W2.setCell ⟨L4,0,none⟩ (.slice (some ⟨cb,co,none⟩) nc cc)).setCell ⟨L4,1,none⟩ (.slice (some ⟨sb,so,none⟩) ns sc)).setCell ⟨L5,0,none⟩ (.int .i64 op)).setCell ⟨L5,1,none⟩ (.int .i64 ia)).setCell ⟨L5,2,none⟩ (.int .i64 ib)).setCell ⟨L5,3,none⟩ (.int .i64 ic)).setCell ⟨L5,4,none⟩ (.int .i64 im)).drew:=at_only
 clear t40 t41 t50 t51 t52 t53 t54 u40 u41 u50 u51 u52 u53 u54 t60 t61 b0 b1 b2 b3 b4 g3
 generalize (((((((W2.setCell ⟨L4,0,none⟩ (.slice (some ⟨cb,co,none⟩) nc cc)).setCell ⟨L4,1,none⟩ (.slice (some ⟨sb,so,none⟩) ns sc)).setCell ⟨L5,0,none⟩ (.int .i64 op)).setCell ⟨L5,1,none⟩ (.int .i64 ia)).setCell ⟨L5,2,none⟩ (.int .i64 ib)).setCell ⟨L5,3,none⟩ (.int .i64 ic)).setCell ⟨L5,4,none⟩ (.int .i64 im)).drew = W3 at *
 go_wp2
 have hB:Below w.heap.size w W3:=by
  refine below_only (HW2.out.1.trans (HW2.out.2.1.mono HW2.out.2.2)) hO (fun j hj=>?_)
  rcases hj with rfl | rfl
  ·exact Nat.le_of_eq HL.out.2.1
  ·rw [← HL.out.2.2];exact Nat.le_succ _
 exact ret_at A4 A5 rfl rfl ⟨f,_,_,_,HF.out,by have:=HN.out.1;omega,by rw [HN.out.1];rfl,HBs.out,HO14.out,hB⟩
end
end Go.Proofs.YtgadhchejmlfjaaGreatDoor.Mac
end
section
namespace Go.Proofs.YtgadhchejmlfjaaGreatDoor.Mac
open Go.RowKit Go.Esc
open Go.Proofs.YtgadhchejmlfjaaGreatDoor.Vm (Ins)
section
variable {mb:Nat} {V:Vr} {own:Nat → Nat} {w:World} {s:St}
theorem sn6_0 {w:World} {b:Nat} {x0 x1 x2 x3 x4 x5 u:Value} {t:TypeId} (h:Blk w b #[x0,x1,x2,x3,x4,x5] t):Blk (w.setCell ⟨b,0,none⟩ u) b #[u,x1,x2,x3,x4,x5] t:=h.set 0 u
theorem sn6_1 {w:World} {b:Nat} {x0 x1 x2 x3 x4 x5 u:Value} {t:TypeId} (h:Blk w b #[x0,x1,x2,x3,x4,x5] t):Blk (w.setCell ⟨b,1,none⟩ u) b #[x0,u,x2,x3,x4,x5] t:=h.set 1 u
theorem sn6_2 {w:World} {b:Nat} {x0 x1 x2 x3 x4 x5 u:Value} {t:TypeId} (h:Blk w b #[x0,x1,x2,x3,x4,x5] t):Blk (w.setCell ⟨b,2,none⟩ u) b #[x0,x1,u,x3,x4,x5] t:=h.set 2 u
theorem sn6_3 {w:World} {b:Nat} {x0 x1 x2 x3 x4 x5 u:Value} {t:TypeId} (h:Blk w b #[x0,x1,x2,x3,x4,x5] t):Blk (w.setCell ⟨b,3,none⟩ u) b #[x0,x1,x2,u,x4,x5] t:=h.set 3 u
theorem sn6_4 {w:World} {b:Nat} {x0 x1 x2 x3 x4 x5 u:Value} {t:TypeId} (h:Blk w b #[x0,x1,x2,x3,x4,x5] t):Blk (w.setCell ⟨b,4,none⟩ u) b #[x0,x1,x2,x3,u,x5] t:=h.set 4 u
theorem sn6_5 {w:World} {b:Nat} {x0 x1 x2 x3 x4 x5 u:Value} {t:TypeId} (h:Blk w b #[x0,x1,x2,x3,x4,x5] t):Blk (w.setCell ⟨b,5,none⟩ u) b #[x0,x1,x2,x3,x4,u] t:=h.set 5 u
theorem flg_st {W:World} {b:Nat} {x0 x1 x2 x3 x4 x5 u0 u1 u2 u3 u4 u5:Value} (h:Blk W b #[x0,x1,x2,x3,x4,x5] 270):Blk ((((((W.setCell ⟨b,0,none⟩ u0).setCell ⟨b,1,none⟩ u1).setCell ⟨b,2,none⟩ u2).setCell ⟨b,3,none⟩ u3).setCell ⟨b,4,none⟩ u4).setCell ⟨b,5,none⟩ u5) b #[u0,u1,u2,u3,u4,u5] 270:=sn6_5 (sn6_4 (sn6_3 (sn6_2 (sn6_1 (sn6_0 h)))))
theorem ret_flg {W:World} {b:Nat} {u0 u1 u2 u3 u4 u5:Value} {tmps:Array Value} {Q:Ending → World → Prop} (h:Blk W b #[u0,u1,u2,u3,u4,u5] 270) (t4:tmps[4]?.getD undef = ptr b) (hq:Q (.returned (.agg #[u0,u1,u2,u3,u4,u5])) W):bodyPost Tryz.prog Tryz.f179 Q Exit.ret { tmps:=tmps,defers:=[] } W:=by
 have k0:=h.cell 0;have k1:=h.cell 1;have k2:=h.cell 2;have k3:=h.cell 3;have k4:=h.cell 4;have k5:=h.cell 5
 simp only [List.getElem?_toArray,List.getElem?_cons_succ,List.getElem?_cons_zero] at k0 k1 k2 k3 k4 k5
 exact bodyPost_ret (v:=.agg #[u0,u1,u2,u3,u4,u5]) (by simp [results,Tryz.results179,go_sem,t4,k0,k1,k2,k3,k4,k5]) rfl hq
set_option maxHeartbeats 4000000 in
theorem Rep.flags (h:Rep mb V own w s) {xb j b i kp:Nat} {y:M1} {x:G} {a:Pc} (hx:own xb = 22 + 5 * j) (hj:s.ms[j]? = some y) (hb:own b = 20 + 5 * i) (hi:s.gs[i]? = some x) (x2:w.cell? ⟨xb,2,none⟩ = some (ptr b)) (hp:y.p = (kp:Int)) (ha:s.asked[kp]? = some a) :
  Calls Tryz.prog 179 #[ptr mb,ptr xb] w fun e w'=>e = .returned (Dec.flg y.armed a.pre a.bar s.sc.stopped (x.asker != 0) (decide (20 ≤ y.used))) ∧ Below w.heap.size w w':=by
 obtain ⟨g,cap,hv,hg,n1,n2,hgl,a0,a1,a2,f0,f1,f2⟩:=h.ask ha
 have c7:=h.c7
 rw [hv] at c7
 have c18:=h.c18
 have q:(kp:Int) < (s.asked.length:Int):=by have:=lt_of_some ha;omega
 have x1:=xc1 (h.xblk hx hj)
 rw [hp] at x1
 have x4:=xc4 (h.xblk hx hj)
 have x5:=xc5 (h.xblk hx hj)
 have b18:w.cell? ⟨b,18,none⟩ = some (.int .i64 x.asker):=by
  obtain ⟨_,_,sv,hBk,_⟩:=h.gat hb hi
  exact hBk.cell 18
 have hml:=h.mlt
 have hxl:=(h.xblk hx hj).lt
 have hbl:b < w.heap.size:=by obtain ⟨_,_,sv,hBk,_⟩:=h.gat hb hi;exact hBk.lt
 obtain ⟨ap,ab,ac⟩:=a
 obtain ⟨ag,hag⟩:∃ ag,x.asker = ag:=⟨_,rfl⟩
 obtain ⟨st,hst⟩:∃ st,s.sc.stopped = st:=⟨_,rfl⟩
 obtain ⟨ar,har⟩:∃ ar,y.armed = ar:=⟨_,rfl⟩
 obtain ⟨us,hus⟩:∃ us,y.used = us:=⟨_,rfl⟩
 rw [hag] at b18 ⊢
 rw [hst] at c18 ⊢
 rw [har] at x4 ⊢
 rw [hus] at x5 ⊢
 simp only at a0 a1 a2 ⊢
 generalize s.asked.length = na at *
 clear h hx hj hb hi hp ha hv hg hag hst har hus f0 f1 f2
 have e1:mb < w.heap.size + 1:=by omega
 have e2:xb < w.heap.size + 1:=by omega
 have e3:b < w.heap.size + 1:=by omega
 have e4:g < w.heap.size + 1:=by omega
 go_enter Tryz.func179,Tryz.ntmps179
 go_wp2
 go_region_held3 (fun w'=>w'.cell? ⟨mb,7,none⟩ = some (.slice (some ⟨g,0,none⟩) na cap) ∧ w'.cell? ⟨xb,1,none⟩ = some (.int .i64 kp) ∧ w'.cell? ⟨g,kp * 3,none⟩ = some (.bool ap) ∧ w'.cell? ⟨g,kp * 3 + 1,none⟩ = some (.bool ab) ∧ w'.cell? ⟨g,kp * 3 + 2,none⟩ = some (.int .i64 ac)) (go_keep) (fail)
 rename_i hh
 clear hh
 have hW:Below w.heap.size w (((w.alloc (.cells #[.bool false,.bool false,.bool false,.bool false,.bool false,.bool false] 270)).alloc (.cells #[.bool ap,.bool ab,.int .i64 ac] 139)).drew):=(below_alloc (below_alloc (Below.refl _ _) _) _).drew
 have B4:Blk ((((w.alloc (.cells #[.bool false,.bool false,.bool false,.bool false,.bool false,.bool false] 270)).alloc (.cells #[.bool ap,.bool ab,.int .i64 ac] 139)).drew)) w.heap.size #[.bool false,.bool false,.bool false,.bool false,.bool false,.bool false] 270:=blk_drew ((Blk.new w _ 270).below (below_alloc (Below.refl _ _) _) (by simp))
 have B5:Blk ((((w.alloc (.cells #[.bool false,.bool false,.bool false,.bool false,.bool false,.bool false] 270)).alloc (.cells #[.bool ap,.bool ab,.int .i64 ac] 139)).drew)) (w.heap.size + 1) #[.bool ap,.bool ab,.int .i64 ac] 139:=by
  have k:=Blk.new (w.alloc (.cells #[.bool false,.bool false,.bool false,.bool false,.bool false,.bool false] 270)) #[.bool ap,.bool ab,.int .i64 ac] 139
  simpa using blk_drew k
 rw [← hW.cell (p:=⟨mb,18,none⟩) hml] at c18
 rw [← hW.cell (p:=⟨xb,2,none⟩) hxl] at x2
 rw [← hW.cell (p:=⟨xb,4,none⟩) hxl] at x4
 rw [← hW.cell (p:=⟨xb,5,none⟩) hxl] at x5
 rw [← hW.cell (p:=⟨b,18,none⟩) hbl] at b18
 clear a0 a1 a2 c7 x1
 generalize (((w.alloc (.cells #[.bool false,.bool false,.bool false,.bool false,.bool false,.bool false] 270)).alloc (.cells #[.bool ap,.bool ab,.int .i64 ac] 139)).drew) = W at *
 have t0:=B4.cell 0
 have t1:=B4.cell 1
 have t2:=B4.cell 2
 have t3:=B4.cell 3
 have t4:=B4.cell 4
 have t5:=B4.cell 5
 have f0:=B4.free 0
 have f1:=B4.free 1
 have f2:=B4.free 2
 have f3:=B4.free 3
 have f4:=B4.free 4
 have f5:=B4.free 5
 have p0:=B5.cell 0
 have p1:=B5.cell 1
 simp only [List.getElem?_toArray,List.getElem?_cons_zero,List.getElem?_cons_succ] at t0 t1 t2 t3 t4 t5 p0 p1
 obtain ⟨L5,hL5⟩:∃ L5,w.heap.size + 1 = L5:=⟨_,rfl⟩
 obtain ⟨L4,hL4⟩:∃ L4,w.heap.size = L4:=⟨_,rfl⟩
 have k1:¬ mb = L4:=by omega
 have k2:¬ xb = L4:=by omega
 have k3:¬ b = L4:=by omega
 have k4:¬ L5 = L4:=by omega
 have k5:¬ L4 = mb:=by omega
 have k6:¬ L4 = xb:=by omega
 have k7:¬ L4 = b:=by omega
 have k8:¬ L4 = L5:=by omega
 rw [hL5] at p0 p1 ⊢
 rw [hL4] at t0 t1 t2 t3 t4 t5 f0 f1 f2 f3 f4 f5 B4 ⊢
 have HL:=Lib.hid (And.intro hW (And.intro hL4 B4))
 clear hW hL4 hL5 B4 B5 hml hxl hbl hgl e1 e2 e3 e4
 go_wp2
 go_region_held3 (fun w'=>w'.cell? ⟨mb,18,none⟩ = some (.bool st) ∧ w'.cell? ⟨xb,2,none⟩ = some (ptr b) ∧ w'.cell? ⟨xb,4,none⟩ = some (.bool ar) ∧ w'.cell? ⟨xb,5,none⟩ = some (.int .i64 us) ∧ w'.cell? ⟨b,18,none⟩ = some (.int .i64 ag) ∧ w'.cell? ⟨L5,0,none⟩ = some (.bool ap) ∧ w'.cell? ⟨L5,1,none⟩ = some (.bool ab)) (go_keep) (fail)
 have A:Blk (((((((W.setCell ⟨L4,0,none⟩ (.bool ar)).setCell ⟨L4,1,none⟩ (.bool ap)).setCell ⟨L4,2,none⟩ (.bool ab)).setCell ⟨L4,3,none⟩ (.bool st)).setCell ⟨L4,4,none⟩ (.bool (ag != 0))).setCell ⟨L4,5,none⟩ (.bool (decide (20 ≤ us)))).drew) L4 #[.bool ar,.bool ap,.bool ab,.bool st,.bool (ag != 0),.bool (decide (20 ≤ us))] 270:=blk_drew (flg_st HL.out.2.2)
 have hO:Only (fun j=>j = L4) W (((((((W.setCell ⟨L4,0,none⟩ (.bool ar)).setCell ⟨L4,1,none⟩ (.bool ap)).setCell ⟨L4,2,none⟩ (.bool ab)).setCell ⟨L4,3,none⟩ (.bool st)).setCell ⟨L4,4,none⟩ (.bool (ag != 0))).setCell ⟨L4,5,none⟩ (.bool (decide (20 ≤ us)))).drew):=(oset (oset (oset (oset (oset (oset (orefl L4 W) 0 _) 1 _) 2 _) 3 _) 4 _) 5 _).drew
 clear x2 x4 x5 b18 c18 t0 t1 t2 t3 t4 t5 f0 f1 f2 f3 f4 f5 p0 p1
 rename_i hh
 clear hh
 generalize ((((((W.setCell ⟨L4,0,none⟩ (.bool ar)).setCell ⟨L4,1,none⟩ (.bool ap)).setCell ⟨L4,2,none⟩ (.bool ab)).setCell ⟨L4,3,none⟩ (.bool st)).setCell ⟨L4,4,none⟩ (.bool (ag != 0))).setCell ⟨L4,5,none⟩ (.bool (decide (20 ≤ us)))).drew = W3 at *
 go_wp2
 refine ret_flg A rfl ⟨rfl,below_only HL.out.1 hO (fun j hj=>?_)⟩
 rw [show j = L4 from hj]
 exact Nat.le_of_eq HL.out.2.1
end
end Go.Proofs.YtgadhchejmlfjaaGreatDoor.Mac
end
section
namespace Go.Proofs.YtgadhchejmlfjaaGreatDoor.Mac
open Go.RowKit Go.Esc
theorem und133:(Tryz.prog.underlying 133).map (fun d=>match d with | .func ..=>true | _=>false) = some true:=by kernel_rfl
theorem und133':∃ a b c,Tryz.prog.underlying 133 = some (.func a b c):=by
 have h:=und133
 cases hu:Tryz.prog.underlying 133 with
 | none=>rw [hu] at h;cases h
 | some d=>
  rw [hu] at h
  cases d
  case func a b c=>exact ⟨a,b,c,rfl⟩
  all_goals simp at h
theorem fn_nil (w:World):(binOp .neq 133 .nilFunc .nilFunc).run Tryz.prog w = .ok (.bool false) w:=by
 obtain ⟨a,b,c,hu⟩:=und133'
 have h:∀ d:Nat,(Op.equalIn (d + 1) 133 .nilFunc .nilFunc).run Tryz.prog w = .ok true w:=fun d=>by
  simp [Op.equalIn,run_underlying hu]
 simp only [binOp]
 simp [Op.equal,Op.maxDepth,h 9999]
theorem fn_some (w:World) (k:Go.Fn):(binOp .neq 133 (.func k #[] #[]) .nilFunc).run Tryz.prog w = .ok (.bool true) w:=by
 obtain ⟨a,b,c,hu⟩:=und133'
 have h:∀ d:Nat,(Op.equalIn (d + 1) 133 (.func k #[] #[]) .nilFunc).run Tryz.prog w = .ok false w:=fun d=>by
  simp [Op.equalIn,run_underlying hu]
 simp only [binOp]
 simp [Op.equal,Op.maxDepth,h 9999]
end Go.Proofs.YtgadhchejmlfjaaGreatDoor.Mac
end
