/- Parts of the proof of TopReaches. -/
import Derived.Test.YtgadhchejmlfjaaGreatDoorD1
import Derived.Test.YtgadhchejmlfjaaGreatDoorB6
import Derived.RegionTactic
import Derived.BigRegion
import Derived.ChangeAlike
import Derived.StillTailTactics
set_option linter.unusedVariables false
set_option maxRecDepth 20000
section
namespace Go.Proofs.YtgadhchejmlfjaaGreatDoor.Mac
open Go.RowKit Go.Esc
theorem join_getD (l:List (Option Int)) (k:Nat):l[k]?.getD none = (l[k]?).join:=by cases l[k]? <;> rfl
theorem sendL_at (l:List (Option Int)) (k:Nat) (due:Int) (hl:l.length = 64) (hk:k < 64) (k':Nat) (hk':k' < 64):Sig.sendD (fun k=>(l[k]?).join) k due k' = ((sendL l k due)[k']?).join:=by
 show (if k' = k then (match (l[k]?).join with | none=>some due | some d=>if due < d then some due else some d) else (l[k']?).join) = _
 unfold sendL
 rw [join_getD]
 generalize hx:(l[k]?).join = o
 cases o with
 | none=>
  dsimp only
  rw [List.getElem?_set]
  by_cases e:k' = k
  ·subst e;simp [hl,hk]
  ·simp [e,Ne.symm e]
 | some d=>
  dsimp only
  by_cases hd:due < d
  ·simp only [hd,if_true]
   rw [List.getElem?_set]
   by_cases e:k' = k
   ·subst e;simp [hl,hk]
   ·simp [e,Ne.symm e]
  ·simp only [hd,if_false]
   by_cases e:k' = k
   ·rw [if_pos e,e,hx]
   ·rw [if_neg e]
theorem sendL_len (l:List (Option Int)) (k:Nat) (due:Int):(sendL l k due).length = l.length:=by
 unfold sendL;split
 ·simp
 ·split <;> simp
theorem dueB_eq (l:List (Option Int)) (k:Nat) (now:Int):Sig.dueB (fun k=>(l[k]?).join) k now = dueB l k now:=by
 show (match (l[k]?).join with | none=>false | some d=>decide (d ≤ now)) = _
 unfold dueB
 rw [join_getD]
 rfl
theorem dueL_at (l:List (Option Int)) (k:Nat) (now:Int) (hl:l.length = 64) (hk:k < 64) (k':Nat) (hk':k' < 64):Sig.dueD (fun k=>(l[k]?).join) k now k' = ((dueL l k now)[k']?).join:=by
 show (if k' = k then (match (l[k]?).join with | none=>none | some d=>if d ≤ now then none else some d) else (l[k']?).join) = _
 unfold dueL dueB
 rw [join_getD]
 generalize hx:(l[k]?).join = o
 cases o with
 | none=>
  dsimp only
  by_cases e:k' = k
  ·rw [if_pos e,e];simp [hx]
  ·rw [if_neg e];simp
 | some d=>
  dsimp only
  by_cases hd:d ≤ now
  ·simp only [hd,decide_true,if_true]
   rw [List.getElem?_set]
   by_cases e:k' = k
   ·subst e;simp [hl,hk]
   ·simp [e,Ne.symm e]
  ·simp only [hd,decide_false,if_false]
   by_cases e:k' = k
   ·rw [if_pos e,e];simp [hx]
   ·rw [if_neg e];simp
theorem dueL_len (l:List (Option Int)) (k:Nat) (now:Int):(dueL l k now).length = l.length:=by
 unfold dueL;split <;> simp
section
variable {mb:Nat} {V:Vr} {own:Nat → Nat} {w:World} {s:St}
theorem Rep.boxS (h:Rep mb V own w s) {v:Value} {D:Nat → Option Int} {l:List (Option Int)} {w':World} (ht:∀ j,Sig.Bf V.box v j → own j = 11) (hl:l.length = 64) (hD:∀ k,k < 64 → D k = (l[k]?).join) (hp:Sig.BoxP V.box v D w w'):∃ own',Rep mb V own' w' { s with box:=l } ∧ Ext own w own' w':=by
 obtain ⟨v',n',m',q',hT,a1,a2,hO,hG⟩:=hp
 obtain ⟨own',b1,b2,b3,b4⟩:=tagged (t:=11) (S':=Sig.Bf V.box v') hO.size h.fresh (fun j hj=>hT.lt hj) (fun j hj hlt=>(hG j hj).elim (ht j) (fun x=>by omega))
 exact ⟨own',(h.turn (x:=11) (.inl rfl) hO (fun j hj=>by rw [ht j hj];rfl) (by decide) b1 (fun j hj=>(b3 j hj).imp id (fun e=>by rw [e];decide)) b4).putBox l ⟨v',n',m',q',hT.congrD hD,a1,a2,hl,b2⟩,hO.mono (fun j _ hj=>by rw [ht j hj];decide),b1⟩
def DoesB (mb:Nat) (V:Vr) (own:Nat → Nat) (w:World) (s':St) (e:Ending) (w':World):Prop:=
 (∃ r,e = .returned (.bool r)) ∧ ∃ own',Rep mb V own' w' s' ∧ Ext own w own' w'
theorem Rep.send (h:Rep mb V own w s) (k:Nat) (hk:k < 64) (due:Int):Calls Tryz.prog 311 #[ptr V.box,.int .i64 k,.int .i64 due] w (DoesB mb V own w { s with box:=sendL s.box k due }):=by
 obtain ⟨v,n,m,q,hT,a1,a2,a3,ht⟩:=h.box (by decide)
 refine (Sig.send_any _ v _ n m q k due w hT a1 a2 hk).mono ?_
 rintro e w' ⟨⟨r,rfl⟩,hp⟩
 exact ⟨⟨r,rfl⟩,h.boxS ht ((sendL_len _ _ _).trans a3) (fun k' hk'=>sendL_at _ k due a3 hk k' hk') hp⟩
theorem Rep.due (h:Rep mb V own w s) (k:Nat) (hk:k < 64) (now:Int):Calls Tryz.prog 55 #[ptr V.box,.int .i64 k,.int .i64 now] w (DoesV mb V own w (.bool (dueB s.box k now)) { s with box:=dueL s.box k now }):=by
 obtain ⟨v,n,m,q,hT,a1,a2,a3,ht⟩:=h.box (by decide)
 refine (Sig.due_any _ v _ n m q k now w hT a1 a2 hk).mono ?_
 rintro e w' ⟨rfl,hp⟩
 rw [dueB_eq]
 exact ⟨rfl,h.boxS ht ((dueL_len _ _ _).trans a3) (fun k' hk'=>dueL_at _ k now a3 hk k' hk') hp⟩
end
end Go.Proofs.YtgadhchejmlfjaaGreatDoor.Mac
end
section
namespace Go.Proofs.YtgadhchejmlfjaaGreatDoor.Mac
open Go.RowKit Go.Esc
open Go.Proofs.YtgadhchejmlfjaaGreatDoor.Pstat (Pr pz)
open Go.Proofs.YtgadhchejmlfjaaGreatDoor.Vm (Ins)
section
variable {mb:Nat} {V:Vr} {own:Nat → Nat} {w:World} {s:St}
theorem Rep.mblk (h:Rep mb V own w s):Blk w mb (mcells V s.sc) 121:=h.mach (by decide)
theorem Rep.mlt (h:Rep mb V own w s):mb < w.heap.size:=h.mblk.lt
theorem Rep.mfree (h:Rep mb V own w s) (k:Nat):w.frozen? ⟨mb,k,none⟩ = false:=h.mblk.free k
theorem Rep.c0 (h:Rep mb V own w s):w.cell? ⟨mb,0,none⟩ = some (ptr V.procs):=h.mblk.cell 0
theorem Rep.c1 (h:Rep mb V own w s):w.cell? ⟨mb,1,none⟩ = some (V.pv):=h.mblk.cell 1
theorem Rep.c2 (h:Rep mb V own w s):w.cell? ⟨mb,2,none⟩ = some (.int .i64 s.sc.cp):=h.mblk.cell 2
theorem Rep.c3 (h:Rep mb V own w s):w.cell? ⟨mb,3,none⟩ = some (.int .i64 s.sc.cg):=h.mblk.cell 3
theorem Rep.c4 (h:Rep mb V own w s):w.cell? ⟨mb,4,none⟩ = some (.int .i64 s.sc.cm):=h.mblk.cell 4
theorem Rep.c5 (h:Rep mb V own w s):w.cell? ⟨mb,5,none⟩ = some (V.gsv):=h.mblk.cell 5
theorem Rep.c6 (h:Rep mb V own w s):w.cell? ⟨mb,6,none⟩ = some (V.msv):=h.mblk.cell 6
theorem Rep.c7 (h:Rep mb V own w s):w.cell? ⟨mb,7,none⟩ = some (V.askv):=h.mblk.cell 7
theorem Rep.c8 (h:Rep mb V own w s):w.cell? ⟨mb,8,none⟩ = some (ptr V.stat):=h.mblk.cell 8
theorem Rep.c9 (h:Rep mb V own w s):w.cell? ⟨mb,9,none⟩ = some (ptr V.all):=h.mblk.cell 9
theorem Rep.c10 (h:Rep mb V own w s):w.cell? ⟨mb,10,none⟩ = some (ptr V.idM):=h.mblk.cell 10
theorem Rep.c11 (h:Rep mb V own w s):w.cell? ⟨mb,11,none⟩ = some (ptr V.idP):=h.mblk.cell 11
theorem Rep.c12 (h:Rep mb V own w s):w.cell? ⟨mb,12,none⟩ = some (ptr V.sema):=h.mblk.cell 12
theorem Rep.c13 (h:Rep mb V own w s):w.cell? ⟨mb,13,none⟩ = some (ptr V.box):=h.mblk.cell 13
theorem Rep.c14 (h:Rep mb V own w s):w.cell? ⟨mb,14,none⟩ = some (.int .i64 s.sc.pick):=h.mblk.cell 14
theorem Rep.c15 (h:Rep mb V own w s):w.cell? ⟨mb,15,none⟩ = some (.int .i64 s.sc.delay):=h.mblk.cell 15
theorem Rep.c16 (h:Rep mb V own w s):w.cell? ⟨mb,16,none⟩ = some (.int .i64 s.sc.draw):=h.mblk.cell 16
theorem Rep.c17 (h:Rep mb V own w s):w.cell? ⟨mb,17,none⟩ = some (.int .i64 s.sc.now):=h.mblk.cell 17
theorem Rep.c18 (h:Rep mb V own w s):w.cell? ⟨mb,18,none⟩ = some (.bool s.sc.stopped):=h.mblk.cell 18
theorem Rep.c19 (h:Rep mb V own w s):w.cell? ⟨mb,19,none⟩ = some (.int .i64 s.sc.wait):=h.mblk.cell 19
theorem Rep.c20 (h:Rep mb V own w s):w.cell? ⟨mb,20,none⟩ = some (gptr V.gb s.sc.holder):=h.mblk.cell 20
theorem Rep.c21 (h:Rep mb V own w s):w.cell? ⟨mb,21,none⟩ = some (.int .i64 s.sc.kind):=h.mblk.cell 21
theorem Rep.c22 (h:Rep mb V own w s):w.cell? ⟨mb,22,none⟩ = some (.int .i64 s.sc.eg):=h.mblk.cell 22
theorem Rep.c23 (h:Rep mb V own w s):w.cell? ⟨mb,23,none⟩ = some (.int .i64 s.sc.efn):=h.mblk.cell 23
theorem Rep.c24 (h:Rep mb V own w s):w.cell? ⟨mb,24,none⟩ = some (.int .i64 s.sc.epc):=h.mblk.cell 24
theorem Rep.c25 (h:Rep mb V own w s):w.cell? ⟨mb,25,none⟩ = some (.int .i64 s.sc.en):=h.mblk.cell 25
theorem Rep.c26 (h:Rep mb V own w s):w.cell? ⟨mb,26,none⟩ = some (.bool s.sc.seen):=h.mblk.cell 26
end
theorem mset_stopped {w:World} {mb:Nat} {V:Vr} {c:Sc} (h:Blk w mb (mcells V c) 121) (u:Bool):Blk (w.setCell ⟨mb,18,none⟩ (.bool u)) mb (mcells V { c with stopped:=u }) 121:=h.set 18 _
theorem mset_wait {w:World} {mb:Nat} {V:Vr} {c:Sc} (h:Blk w mb (mcells V c) 121) (u:Int):Blk (w.setCell ⟨mb,19,none⟩ (.int .i64 u)) mb (mcells V { c with wait:=u }) 121:=h.set 19 _
theorem mset_holder {w:World} {mb:Nat} {V:Vr} {c:Sc} (h:Blk w mb (mcells V c) 121) (u:Int):Blk (w.setCell ⟨mb,20,none⟩ (gptr V.gb u)) mb (mcells V { c with holder:=u }) 121:=h.set 20 _
section
variable {mb:Nat} {V:Vr} {own:Nat → Nat} {w:World} {s:St} {j:Nat} {y:M1} {xb:Nat}
theorem lt_of_some {α:Type} {l:List α} {i:Nat} {x:α} (h:l[i]? = some x):i < l.length:=(List.getElem?_eq_some_iff.1 h).1
theorem Rep.xis (h:Rep mb V own w s) (hx:own xb = 22 + 5 * j) (hj:s.ms[j]? = some y):xb = V.xb j:=h.ux j (lt_of_some hj) xb hx
theorem Rep.xblk (h:Rep mb V own w s) (hx:own xb = 22 + 5 * j) (hj:s.ms[j]? = some y):Blk w xb (xcells V.gb j y) 125:=by
 have:=h.ms (by decide) j (lt_of_some hj)
 rw [hj] at this
 rw [h.xis hx hj]
 exact this
theorem Rep.xg (h:Rep mb V own w s) (hj:s.ms[j]? = some y):0 ≤ y.g ∧ y.g ≤ s.gs.length:=by
 have:=h.mg j (lt_of_some hj)
 rw [hj] at this
 exact this
theorem Rep.xne (h:Rep mb V own w s) (hx:own xb = 22 + 5 * j):¬ xb = mb ∧ ¬ mb = xb:=by
 have:=h.om
 constructor <;> (rintro rfl;omega)
theorem xc0 {gb:Nat → Nat} (h:Blk w xb (xcells gb j y) 125):w.cell? ⟨xb,0,none⟩ = some (.int .i64 j):=h.cell 0
theorem xc1 {gb:Nat → Nat} (h:Blk w xb (xcells gb j y) 125):w.cell? ⟨xb,1,none⟩ = some (.int .i64 y.p):=h.cell 1
theorem xc2 {gb:Nat → Nat} (h:Blk w xb (xcells gb j y) 125):w.cell? ⟨xb,2,none⟩ = some (gptr gb y.g):=h.cell 2
theorem xc3 {gb:Nat → Nat} (h:Blk w xb (xcells gb j y) 125):w.cell? ⟨xb,3,none⟩ = some (.int .i64 y.phase):=h.cell 3
theorem xc4 {gb:Nat → Nat} (h:Blk w xb (xcells gb j y) 125):w.cell? ⟨xb,4,none⟩ = some (.bool y.armed):=h.cell 4
theorem xc5 {gb:Nat → Nat} (h:Blk w xb (xcells gb j y) 125):w.cell? ⟨xb,5,none⟩ = some (.int .i64 y.used):=h.cell 5
theorem xc7 {gb:Nat → Nat} (h:Blk w xb (xcells gb j y) 125):w.cell? ⟨xb,7,none⟩ = some (.int .i64 y.looks):=h.cell 7
theorem xset_p {gb:Nat → Nat} (h:Blk w xb (xcells gb j y) 125) (u:Int):Blk (w.setCell ⟨xb,1,none⟩ (.int .i64 u)) xb (xcells gb j { y with p:=u }) 125:=h.set 1 _
theorem xset_phase {gb:Nat → Nat} (h:Blk w xb (xcells gb j y) 125) (u:Int):Blk (w.setCell ⟨xb,3,none⟩ (.int .i64 u)) xb (xcells gb j { y with phase:=u }) 125:=h.set 3 _
theorem xset_armed {gb:Nat → Nat} (h:Blk w xb (xcells gb j y) 125) (u:Bool):Blk (w.setCell ⟨xb,4,none⟩ (.bool u)) xb (xcells gb j { y with armed:=u }) 125:=h.set 4 _
theorem xset_used {gb:Nat → Nat} (h:Blk w xb (xcells gb j y) 125) (u:Int):Blk (w.setCell ⟨xb,5,none⟩ (.int .i64 u)) xb (xcells gb j { y with used:=u }) 125:=h.set 5 _
theorem xset_looks {gb:Nat → Nat} (h:Blk w xb (xcells gb j y) 125) (u:Int):Blk (w.setCell ⟨xb,7,none⟩ (.int .i64 u)) xb (xcells gb j { y with looks:=u }) 125:=h.set 7 _
theorem xset_nil {gb:Nat → Nat} (h:Blk w xb (xcells gb j y) 125):Blk (w.setCell ⟨xb,2,none⟩ (.pointer none)) xb (xcells gb j { y with g:=0 }) 125:=h.set 2 _
end
section
variable {mb:Nat} {V:Vr} {own:Nat → Nat} {w:World} {s:St} {i:Nat} {x:G} {b:Nat}
theorem Rep.gis (h:Rep mb V own w s) (hx:own b = 20 + 5 * i) (hi:s.gs[i]? = some x):b = V.gb i:=h.ug i (lt_of_some hi) b hx
theorem Rep.gat (h:Rep mb V own w s) (hx:own b = 20 + 5 * i) (hi:s.gs[i]? = some x):GAt own w b i x:=by
 have:=h.gs (by decide) i (lt_of_some hi)
 rw [hi] at this
 rw [h.gis hx hi]
 exact this
theorem gc0 {sv:Value} (h:Blk w b (gcells i sv x) 130):w.cell? ⟨b,0,none⟩ = some (.int .i64 ((i:Int) + 1)):=h.cell 0
theorem gc1 {sv:Value} (h:Blk w b (gcells i sv x) 130):w.cell? ⟨b,1,none⟩ = some (.int .i64 x.word):=h.cell 1
theorem gc2 {sv:Value} (h:Blk w b (gcells i sv x) 130):w.cell? ⟨b,2,none⟩ = some (.int .i64 x.fn):=h.cell 2
theorem gc3 {sv:Value} (h:Blk w b (gcells i sv x) 130):w.cell? ⟨b,3,none⟩ = some (.int .i64 x.pc):=h.cell 3
theorem gc4 {sv:Value} (h:Blk w b (gcells i sv x) 130):w.cell? ⟨b,4,none⟩ = some (.int .i64 (rg x 0)):=h.cell 4
theorem gc16 {sv:Value} (h:Blk w b (gcells i sv x) 130):w.cell? ⟨b,16,none⟩ = some (.bool x.sema):=h.cell 16
theorem gc17 {sv:Value} (h:Blk w b (gcells i sv x) 130):w.cell? ⟨b,17,none⟩ = some (.bool x.begun):=h.cell 17
theorem gc18 {sv:Value} (h:Blk w b (gcells i sv x) 130):w.cell? ⟨b,18,none⟩ = some (.int .i64 x.asker):=h.cell 18
theorem gset_word {sv:Value} (h:Blk w b (gcells i sv x) 130) (u:Int):Blk (w.setCell ⟨b,1,none⟩ (.int .i64 u)) b (gcells i sv { x with word:=u }) 130:=h.set 1 _
theorem gset_sema {sv:Value} (h:Blk w b (gcells i sv x) 130) (u:Bool):Blk (w.setCell ⟨b,16,none⟩ (.bool u)) b (gcells i sv { x with sema:=u }) 130:=h.set 16 _
theorem gset_begun {sv:Value} (h:Blk w b (gcells i sv x) 130) (u:Bool):Blk (w.setCell ⟨b,17,none⟩ (.bool u)) b (gcells i sv { x with begun:=u }) 130:=h.set 17 _
theorem gset_asker {sv:Value} (h:Blk w b (gcells i sv x) 130) (u:Int):Blk (w.setCell ⟨b,18,none⟩ (.int .i64 u)) b (gcells i sv { x with asker:=u }) 130:=h.set 18 _
end
end Go.Proofs.YtgadhchejmlfjaaGreatDoor.Mac
end
section
namespace Go.Proofs.YtgadhchejmlfjaaGreatDoor.Mac
open Go.RowKit Go.Esc
open Go.Proofs.YtgadhchejmlfjaaGreatDoor.Pstat (Pr pz)
open Go.Proofs.YtgadhchejmlfjaaGreatDoor.Vm (Ins)
abbrev unit:Value:=.tuple #[]
theorem RepX.drew {y:Nat} {mb:Nat} {V:Vr} {own:Nat → Nat} {w:World} {s:St} (h:RepX y mb V own w s):RepX y mb V own w.drew s:=h.below ⟨rfl,rfl,rfl,Nat.le_refl _,fun _ _=>rfl⟩
theorem RepX.drewN {y:Nat} {mb:Nat} {V:Vr} {own:Nat → Nat} {w:World} {s:St} (h:RepX y mb V own w s) (n:Nat):RepX y mb V own (w.drewN n) s:=h.below ⟨rfl,rfl,rfl,Nat.le_refl _,fun _ _=>rfl⟩
theorem flip_same {P:Program} {f:Nat} {a:Array Value} {w:World} {v:Value} (h:Calls P f a w fun e w'=>e = .returned v ∧ w = w'):Calls P f a w fun e w'=>e = .returned v ∧ w' = w:=h.mono fun e w' h=>⟨h.1,h.2.symm⟩
theorem Ext.drew {own own':Nat → Nat} {w w':World} (h:Ext own w own' w'):Ext own w own' w'.drew:=h.trans (Ext.below ⟨rfl,rfl,rfl,Nat.le_refl _,fun _ _=>rfl⟩)
theorem Rep.drew {mb:Nat} {V:Vr} {own:Nat → Nat} {w:World} {s:St} (h:Rep mb V own w s):Rep mb V own w.drew s:=RepX.drew h
theorem Rep.drewN {mb:Nat} {V:Vr} {own:Nat → Nat} {w:World} {s:St} (h:Rep mb V own w s) (n:Nat):Rep mb V own (w.drewN n) s:=RepX.drewN h n
theorem Rep.below {mb:Nat} {V:Vr} {own:Nat → Nat} {w w':World} {s:St} (h:Rep mb V own w s) (hb:Below w.heap.size w w'):Rep mb V own w' s:=RepX.below h hb
theorem Rep.loc {mb:Nat} {V:Vr} {own:Nat → Nat} {w w':World} {s:St} {S:Nat → Prop} (h:Rep mb V own w s) (o:Only S w w') (hS:∀ j,S j → own j = 0):Rep mb V own w' s:=RepX.loc h o hS
theorem Rep.alloc {mb:Nat} {V:Vr} {own:Nat → Nat} {w:World} {s:St} (h:Rep mb V own w s) (o:Obj):Rep mb V own (w.alloc o) s:=RepX.below h (below_alloc (Below.refl _ _) o)
theorem Ext.alloc {own own':Nat → Nat} {w w':World} (h:Ext own w own' w') (o:Obj):Ext own w own' (w'.alloc o):=h.trans (Ext.below (below_alloc (Below.refl _ _) o))
theorem Ext.drewN {own own':Nat → Nat} {w w':World} (h:Ext own w own' w') (n:Nat):Ext own w own' (w'.drewN n):=h.trans (Ext.below ⟨rfl,rfl,rfl,Nat.le_refl _,fun _ _=>rfl⟩)
theorem oset {a w:World} {b:Nat} (h:Only (fun j=>j = b) a w) (i:Nat) (u:Value):Only (fun j=>j = b) a (w.setCell ⟨b,i,none⟩ u):=h.set (.inr rfl) i u
theorem orefl (b:Nat) (w:World):Only (fun j=>j = b) w w:=Only.refl _ w
theorem word_isW {x t:Int} (h:Gst.Word x) (t1:1 ≤ t) (t6:t ≤ 6):Gst.Word (isW x t):=by
 have ht:t = 1 ∨ t = 2 ∨ t = 3 ∨ t = 4 ∨ t = 5 ∨ t = 6:=by omega
 have key:∀ x ∈ ([0,1,2,3,4,5,6,9,11,12,13]:List Int),∀ t ∈ ([1,2,3,4,5,6]:List Int),isW x t ∈ ([0,1,2,3,4,5,6,9,11,12,13]:List Int):=by decide +kernel
 have hx:x ∈ ([0,1,2,3,4,5,6,9,11,12,13]:List Int):=by simpa [Gst.Word] using h
 have:=key x hx t (by simpa using ht)
 simpa [Gst.Word] using this
def GIs (b i:Nat) (sv:Value) (x:G) (w:World) (e:Ending) (w':World):Prop:=e = .returned unit ∧ Blk w' b (gcells i sv x) 130 ∧ Only (fun j=>j = b) w w'
set_option maxHeartbeats 1000000 in
theorem is_blk (b i:Nat) (sv:Value) (x:G) (t:Int) (w:World) (hB:Blk w b (gcells i sv x) 130) (hw:Gst.Word x.word) (t1:1 ≤ t) (t6:t ≤ 6):Calls Tryz.prog 116 #[ptr b,.int .i64 t] w (GIs b i sv { x with word:=isW x.word t } w):=by
 have c1:=gc1 hB
 have f1:=hB.free 1
 have hbl:=hB.lt
 have HM:=Lib.hid (fun w=>Gst.move_any x.word t w hw t1 t6)
 have HB:=Lib.hid hB
 unfold isW
 clear hB hw t1 t6
 by_cases hf:Gst.moveF x.word t = 0
 ·rw [if_pos hf]
  have hv:Gst.moveV x.word t = Gst.moveW x.word t:=by unfold Gst.moveV;rw [if_pos hf]
  rw [hv,hf] at HM
  clear hf hv
  generalize Gst.moveW x.word t = u at *
  go_enter Tryz.func116,Tryz.ntmps116
  go_wp2_with (go_at_call 170;refine (HM.out _).mono ?_;rintro e w1 ⟨rfl,hb1⟩;obtain ⟨cc1,ff1⟩:=bcell hb1;have HK:=Lib.hid hb1;clear hb1)
  go_end0
  exact ⟨rfl,gset_word (HB.out.below HK.out HB.out.lt) u,((Only.refl (fun j=>j = b) w).below HK.out).set (.inr rfl) _ _⟩
 ·rw [if_neg hf]
  have hf0:(Gst.moveF x.word t == 0) = false:=by simpa using hf
  generalize Gst.moveF x.word t = u at *
  clear hf
  go_enter Tryz.func116,Tryz.ntmps116
  go_wp2_with (go_at_call 170;refine (HM.out _).mono ?_;rintro e w1 ⟨rfl,hb1⟩;obtain ⟨cc1,ff1⟩:=bcell hb1;have HK:=Lib.hid hb1;clear hb1)
  go_end0
  exact ⟨rfl,HB.out.below HK.out HB.out.lt,(Only.refl (fun j=>j = b) w).below HK.out⟩
section
variable {mb:Nat} {V:Vr} {own:Nat → Nat} {w:World} {s:St}
theorem only_ext {own:Nat → Nat} {w w':World} {b:Nat} (o:Only (fun j=>j = b) w w') (hb:own b ≠ 0 ∧ own b ≠ 14):Ext own w own w':=Ext.loc o (fun j hj _=>by rw [show j = b from hj];exact hb)
theorem Rep.is (h:Rep mb V own w s) {b i:Nat} {x:G} (hb:own b = 20 + 5 * i) (hi:s.gs[i]? = some x) (t:Int) (t1:1 ≤ t) (t6:t ≤ 6):Calls Tryz.prog 116 #[ptr b,.int .i64 t] w (DoesV mb V own w unit (s.setG i { x with word:=isW x.word t })):=by
 obtain ⟨h1,h2,sv,h3,h4⟩:=h.gat hb hi
 refine (is_blk b i sv x t w h3 h2 t1 t6).mono ?_
 rintro e w' ⟨rfl,hB,hO⟩
 have hbi:=h.gis hb hi
 refine ⟨rfl,own,h.putG (lt_of_some hi) (by rw [← hbi];exact hO) _ ⟨h1,word_isW h2 t1 t6,sv,by rw [← hbi];exact hB,h4⟩,only_ext hO (by omega)⟩
set_option maxHeartbeats 1000000 in
theorem Rep.scanned (h:Rep mb V own w s) {b i:Nat} {x:G} (hb:own b = 20 + 5 * i) (hi:s.gs[i]? = some x):Calls Tryz.prog 193 #[ptr b] w fun e w'=>e = .returned (.bool (decide (8 ≤ x.word))) ∧ w = w':=by
 obtain ⟨h1,h2,sv,h3,h4⟩:=h.gat hb hi
 have c1:=gc1 h3
 have HM:=Lib.hid (fun w=>Gst.scanned_any x.word w h2)
 clear h hb hi h1 h2 h3 h4
 generalize decide (8 ≤ x.word) = u at *
 go_enter Tryz.func193,Tryz.ntmps193
 go_wp2_with (go_at_call 96;refine (HM.out _).mono ?_;rintro e w1 ⟨rfl,rfl⟩)
 go_ret
 exact ⟨rfl,rfl⟩
set_option maxHeartbeats 1000000 in
theorem off_blk (gb:Nat → Nat) (xb j:Nat) (y:M1) (w:World) (hB:Blk w xb (xcells gb j y) 125):Calls Tryz.prog 183 #[ptr xb] w fun e w'=>e = .returned (gptr gb y.g) ∧ w' = (w.setCell ⟨xb,2,none⟩ (.pointer none)).setCell ⟨xb,3,none⟩ (.int .i64 1):=by
 have c2:=xc2 hB
 have c3:=xc3 hB
 have f2:=hB.free 2
 have f3:=hB.free 3
 clear hB
 generalize gptr gb y.g = u at *
 go_enter Tryz.func183,Tryz.ntmps183
 go_wp2
 go_ret
 exact ⟨rfl,rfl⟩
theorem Rep.off (h:Rep mb V own w s) {xb j:Nat} {y:M1} (hx:own xb = 22 + 5 * j) (hj:s.ms[j]? = some y):Calls Tryz.prog 183 #[ptr xb] w (DoesV mb V own w (gptr V.gb y.g) (s.setX j { y with g:=0,phase:=1 })):=by
 have hB:=h.xblk hx hj
 refine (off_blk V.gb xb j y w hB).mono ?_
 rintro e w' ⟨rfl,rfl⟩
 have hxi:=h.xis hx hj
 subst hxi
 refine ⟨rfl,own,h.putX (lt_of_some hj) (oset (oset (orefl _ w) _ _) _ _) _ ⟨Int.le_refl 0,Int.natCast_nonneg _⟩ (xset_phase (xset_nil hB) 1),only_ext (oset (oset (orefl _ w) _ _) _ _) (by omega)⟩
theorem Rep.gp (h:Rep mb V own w s) {id:Int} (h1:1 ≤ id) (h2:id ≤ s.gs.length):gptr V.gb id = ptr (V.gb (id - 1).toNat) ∧ own (V.gb (id - 1).toNat) = 20 + 5 * (id - 1).toNat:=by
 refine ⟨?_,h.og _ (by omega)⟩
 unfold gptr
 rw [if_neg (by omega)]
theorem AskP.at {w:World} {v:Value} {l:List Pc} (h:AskP w v l) {i:Nat} {a:Pc} (hi:l[i]? = some a):∃ g cap,v = .slice (some ⟨g,0,none⟩) l.length cap ∧ g < w.heap.size ∧ w.cell? ⟨g,i * 3,none⟩ = some (.bool a.pre) ∧ w.cell? ⟨g,i * 3 + 1,none⟩ = some (.bool a.bar) ∧ w.cell? ⟨g,i * 3 + 2,none⟩ = some (.int .i64 a.count) ∧
  w.frozen? ⟨g,i * 3,none⟩ = false ∧ w.frozen? ⟨g,i * 3 + 1,none⟩ = false ∧ w.frozen? ⟨g,i * 3 + 2,none⟩ = false:=by
 obtain ⟨g,cap,cs,rfl,hB,h1,h2,h3,h4,h5⟩:=h
 have hil:=lt_of_some hi
 have hc:∀ k,k < l.length * 3 → w.cell? ⟨g,k,none⟩ = (askc l)[k]?:=fun k hk=>by
  rw [hB.cell,← h5,List.getElem?_take_of_lt hk,Array.getElem?_toList]
 obtain ⟨e0,e1,e2⟩:=askc_at l i hil
 rw [hi] at e0 e1 e2
 exact ⟨g,cap,rfl,hB.lt,(hc _ (by omega)).trans e0,(hc _ (by omega)).trans e1,(hc _ (by omega)).trans e2,hB.free _,hB.free _,hB.free _⟩
theorem askc_set (l:List Pc) (x:Pc):∀ i,i < l.length → askc (l.set i x) = (((askc l).set (i * 3) (.bool x.pre)).set (i * 3 + 1) (.bool x.bar)).set (i * 3 + 2) (.int .i64 x.count):=by
 induction l with
 | nil=>intro i hi;simp at hi
 | cons y l ih=>
  intro i hi
  cases i with
  | zero=>simp [askc]
  | succ i=>
   have h:=ih i (by simpa using hi)
   rw [List.set_cons_succ,askc,h,show (i + 1) * 3 = (i * 3) + 1 + 1 + 1 by omega]
   simp [askc]
theorem askc_same {l:List Pc} {i:Nat} {a:Pc} (hi:l[i]? = some a):(((askc l).set (i * 3) (.bool a.pre)).set (i * 3 + 1) (.bool a.bar)).set (i * 3 + 2) (.int .i64 a.count) = askc l:=by
 rw [← askc_set l a i (lt_of_some hi)]
 congr 1
 apply List.ext_getElem?
 intro k
 rw [List.getElem?_set]
 by_cases e:i = k
 ·subst e;rw [if_pos rfl,if_pos (lt_of_some hi),hi]
 ·simp [e]
theorem AskP.put {w:World} {g n cap:Nat} {l:List Pc} (h:AskP w (.slice (some ⟨g,0,none⟩) n cap) l) {i:Nat} {a:Pc} (hi:l[i]? = some a) (k:Nat) (hk:k < 3) (u:Value) (a':Pc) (ha:[Value.bool a'.pre,Value.bool a'.bar,Value.int .i64 a'.count] = [Value.bool a.pre,Value.bool a.bar,Value.int .i64 a.count].set k u) :
  AskP (w.setCell ⟨g,i * 3 + k,none⟩ u) (.slice (some ⟨g,0,none⟩) n cap) (l.set i a'):=by
 obtain ⟨g',cap',cs,he,hB,h1,h2,h3,h4,h5⟩:=h
 simp only [Value.slice.injEq,Option.some.injEq,Addr.mk.injEq] at he
 obtain ⟨⟨rfl,_⟩,rfl,rfl⟩:=he
 have hil:=lt_of_some hi
 refine ⟨g,cap,_,by rw [List.length_set],hB.set (i * 3 + k) u,by rw [List.length_set];exact h1,by simpa using h2,by simpa using h3,by rw [List.length_set];simpa using h4,?_⟩
 rw [List.length_set,askc_set l a' i hil]
 have hs:=askc_same hi
 have e1:(cs.setIfInBounds (i * 3 + k) u).toList.take (l.length * 3) = (askc l).set (i * 3 + k) u:=by rw [← h5];simp [List.take_set]
 rw [e1]
 have hk':k = 0 ∨ k = 1 ∨ k = 2:=by omega
 rw [← hs]
 rcases hk' with rfl | rfl | rfl
 ·simp only [List.set_cons_zero,List.cons.injEq,and_true] at ha
  obtain ⟨rfl,e2,e3⟩:=ha
  rw [e2,e3]
  simp [List.set_comm]
 ·simp only [List.set_cons_succ,List.set_cons_zero,List.cons.injEq,and_true] at ha
  obtain ⟨e2,rfl,e3⟩:=ha
  rw [e2,e3]
  simp [List.set_comm]
 ·simp only [List.set_cons_succ,List.set_cons_zero,List.cons.injEq,and_true] at ha
  obtain ⟨e2,e3,rfl⟩:=ha
  rw [e2,e3]
  simp [List.set_comm]
theorem Rep.ask (h:Rep mb V own w s) {p:Nat} {a:Pc} (hp:s.asked[p]? = some a):∃ g cap,V.askv = .slice (some ⟨g,0,none⟩) s.asked.length cap ∧ own g = 4 ∧ ¬ g = mb ∧ ¬ mb = g ∧ g < w.heap.size ∧ w.cell? ⟨g,p * 3,none⟩ = some (.bool a.pre) ∧ w.cell? ⟨g,p * 3 + 1,none⟩ = some (.bool a.bar) ∧ w.cell? ⟨g,p * 3 + 2,none⟩ = some (.int .i64 a.count) ∧
  w.frozen? ⟨g,p * 3,none⟩ = false ∧ w.frozen? ⟨g,p * 3 + 1,none⟩ = false ∧ w.frozen? ⟨g,p * 3 + 2,none⟩ = false:=by
 obtain ⟨h1,h2⟩:=h.askr (by decide)
 obtain ⟨g,cap,hv,r⟩:=h1.at hp
 have hg:own g = 4:=h2 g (by rw [hv];rfl)
 have hm:=h.om
 exact ⟨g,cap,hv,hg,by rintro rfl;omega,by rintro rfl;omega,r⟩
theorem Rep.putAsk {w':World} (h:Rep mb V own w s) {g n cap:Nat} (hv:V.askv = .slice (some ⟨g,0,none⟩) n cap) (o:Only (fun j=>j = g) w w') (l:List Pc) (hl:AskP w' V.askv l):Rep mb V own w' { s with asked:=l } ∧ Ext own w own w':=by
 obtain ⟨h1,h2⟩:=h.askr (by decide)
 have hg:own g = 4:=h2 g (by rw [hv];rfl)
 exact ⟨(h.turn0 (x:=4) (.inl rfl) o (fun j hj=>by rw [show j = g from hj,hg];rfl) (by decide)).putAsk l ⟨hl,h2⟩,only_ext o (by omega)⟩
theorem Rep.putSc {w':World} (h:Rep mb V own w s) (o:Only (fun j=>j = mb) w w') (c:Sc) (hh:0 ≤ c.holder ∧ c.holder ≤ s.gs.length) (hb:Blk w' mb (mcells V c) 121):Rep mb V own w' (s.setSc c) ∧ Ext own w own w':=
 ⟨(h.turn0 (x:=1) (.inl rfl) o (fun j hj=>by rw [show j = mb from hj,h.om];rfl) (by decide)).putM c hh hb,only_ext o (by rw [h.om];decide)⟩
end
end Go.Proofs.YtgadhchejmlfjaaGreatDoor.Mac
end
section
namespace Go.Proofs.YtgadhchejmlfjaaGreatDoor.Mac
open Go.RowKit Go.Esc
open Go.Proofs.YtgadhchejmlfjaaGreatDoor.Pstat (Pr pz)
open Go.Proofs.YtgadhchejmlfjaaGreatDoor.Vm (Ins)
theorem opt_if {α:Type} {c:Prop} [Decidable c] {a:Option α} {x:α} (h:(if c then a else none) = some x):c ∧ a = some x:=by
 by_cases hc:c
 ·rw [if_pos hc] at h;exact ⟨hc,h⟩
 ·rw [if_neg hc] at h;cases h
section
variable {mb:Nat} {V:Vr} {own:Nat → Nat} {w:World} {s:St}
set_option maxHeartbeats 1000000 in
theorem Rep.serve (h:Rep mb V own w s) {p:Int} {s':St} (hs:serveM s p = some s'):Calls Tryz.prog 171 #[ptr mb,.int .i64 p] w (DoesV mb V own w unit s'):=by
 unfold serveM at hs
 obtain ⟨hp,hs⟩:=opt_if hs
 obtain ⟨k,rfl⟩:∃ k:Nat,p = k:=⟨p.toNat,by omega⟩
 rw [Int.toNat_natCast] at hs
 cases ha:s.asked[k]? with
 | none=>rw [ha] at hs;cases hs
 | some a=>
  rw [ha] at hs
  simp only [Option.some.injEq] at hs
  subst hs
  obtain ⟨g,cap,hv,hg,n1,n2,hgl,a0,a1,a2,f0,f1,f2⟩:=h.ask ha
  have c7:=h.c7
  rw [hv] at c7
  have c19:=h.c19
  have fm:=h.mfree 19
  have q:(k:Int) < (s.asked.length:Int):=by have:=lt_of_some ha;omega
  have HH:=Lib.hid h
  have HA:=Lib.hid ha
  have HV:=Lib.hid hv
  have hml:=h.mlt
  clear h ha hv hp hg
  go_enter Tryz.func171,Tryz.ntmps171
  go_wp2
  go_end0
  obtain ⟨hA1,hA2⟩:=HH.out.askr (by decide)
  rw [HV.out] at hA1
  have e1:({ a with bar:=false }:Pc) = ⟨a.pre,false,a.count⟩:=rfl
  have A1:=hA1.put HA.out 1 (by decide) (.bool false) ⟨a.pre,false,a.count⟩ rfl
  have A2:=A1.put (i:=k) (a:=⟨a.pre,false,a.count⟩) (by rw [List.getElem?_set];simp;exact lt_of_some HA.out) 2 (by decide) (.int .i64 (wrap64 (a.count + 1))) ⟨a.pre,false,wrap64 (a.count + 1)⟩ rfl
  rw [List.set_set] at A2
  obtain ⟨R1,E1⟩:=HH.out.putAsk HV.out (oset (oset (orefl g w) _ _) _ _) _ (by rw [HV.out];exact A2)
  obtain ⟨R2,E2⟩:=R1.putSc (oset (orefl mb _) _ _) { s.sc with wait:=wrap64 (s.sc.wait - 1) } R1.hold (mset_wait R1.mblk _)
  exact ⟨rfl,own,R2,E1.trans E2⟩
theorem Rep.mrow (h:Rep mb V own w s) {k:Nat} (hk:k < s.ms.length):∃ g cap,V.msv = .slice (some ⟨g,0,none⟩) s.ms.length cap ∧ w.cell? ⟨g,k,none⟩ = some (ptr (V.xb k)) ∧ g < w.heap.size ∧ own g = 3:=by
 obtain ⟨h1,h2⟩:=h.msr (by decide)
 rcases h1.open with ⟨_,h0⟩ | ⟨g,cap,hv,_,hg,_,hc⟩
 ·omega
 ·exact ⟨g,cap,hv,by rw [hc k (by omega),prow_at _ _ _ hk],hg,h2 g (by rw [hv];rfl)⟩
theorem Rep.grow (h:Rep mb V own w s) {k:Nat} (hk:k < s.gs.length):∃ g cap,V.gsv = .slice (some ⟨g,0,none⟩) s.gs.length cap ∧ w.cell? ⟨g,k,none⟩ = some (ptr (V.gb k)) ∧ g < w.heap.size ∧ own g = 2:=by
 obtain ⟨h1,h2⟩:=h.gsr (by decide)
 rcases h1.open with ⟨_,h0⟩ | ⟨g,cap,hv,_,hg,_,hc⟩
 ·omega
 ·exact ⟨g,cap,hv,by rw [hc k (by omega),prow_at _ _ _ hk],hg,h2 g (by rw [hv];rfl)⟩
theorem Rep.msl (h:Rep mb V own w s):∃ a cap,V.msv = .slice a s.ms.length cap:=by
 obtain ⟨h1,h2⟩:=h.msr (by decide)
 rcases h1.open with ⟨hv,h0⟩ | ⟨g,cap,hv,_⟩
 ·exact ⟨none,0,by rw [hv,h0]⟩
 ·exact ⟨_,cap,hv⟩
theorem Rep.gsl (h:Rep mb V own w s):∃ a cap,V.gsv = .slice a s.gs.length cap:=by
 obtain ⟨h1,h2⟩:=h.gsr (by decide)
 rcases h1.open with ⟨hv,h0⟩ | ⟨g,cap,hv,_⟩
 ·exact ⟨none,0,by rw [hv,h0]⟩
 ·exact ⟨_,cap,hv⟩
theorem mset_event {w:World} {mb:Nat} {V:Vr} {c:Sc} (h:Blk w mb (mcells V c) 121) (k u f p n:Int):Blk ((((((w.setCell ⟨mb,21,none⟩ (.int .i64 k)).setCell ⟨mb,22,none⟩ (.int .i64 u)).setCell ⟨mb,23,none⟩ (.int .i64 f)).setCell ⟨mb,24,none⟩ (.int .i64 p)).setCell ⟨mb,25,none⟩ (.int .i64 n)).setCell ⟨mb,26,none⟩ (.bool true)) mb (mcells V { c with kind:=k,eg:=u,efn:=f,epc:=p,en:=n,seen:=true }) 121:=
 (((((h.set 21 (.int .i64 k)).set 22 (.int .i64 u)).set 23 (.int .i64 f)).set 24 (.int .i64 p)).set 25 (.int .i64 n)).set 26 (.bool true)
theorem see_fin {mb:Nat} {V:Vr} {own:Nat → Nat} {w W:World} {s':St} {tmps:Array Value} (R:Rep mb V own W s') (E:Ext own w own W):bodyPost Tryz.prog Tryz.f260 (DoesV mb V own w unit s') Exit.normal { tmps:=tmps,defers:=[] } W.drew:=by
 have R':=R.drew
 have E':=E.drew
 go_end0
 exact ⟨rfl,own,R',E'⟩
theorem see_end {mb:Nat} {V:Vr} {own:Nat → Nat} {w:World} {s:St} {k u n f p:Int} (h:Rep mb V own w s) {tmps:Array Value}:bodyPost Tryz.prog Tryz.f260 (DoesV mb V own w unit (s.setSc { s.sc with kind:=k,eg:=u,efn:=f,epc:=p,en:=n,seen:=true })) Exit.normal { tmps:=tmps,defers:=[] }
  ((((((w.setCell ⟨mb,21,none⟩ (.int .i64 k)).setCell ⟨mb,22,none⟩ (.int .i64 u)).setCell ⟨mb,23,none⟩ (.int .i64 f)).setCell ⟨mb,24,none⟩ (.int .i64 p)).setCell ⟨mb,25,none⟩ (.int .i64 n)).setCell ⟨mb,26,none⟩ (.bool true)).drew:=by
 have hO:=oset (oset (oset (oset (oset (oset (orefl mb w) 21 (.int .i64 k)) 22 (.int .i64 u)) 23 (.int .i64 f)) 24 (.int .i64 p)) 25 (.int .i64 n)) 26 (.bool true)
 obtain ⟨R,E⟩:=h.putSc hO { s.sc with kind:=k,eg:=u,efn:=f,epc:=p,en:=n,seen:=true } h.hold (mset_event h.mblk k u f p n)
 exact see_fin R E
set_option maxHeartbeats 2000000 in
theorem Rep.see (h:Rep mb V own w s) (k:Int) {b i:Nat} {x:G} (hb:own b = 20 + 5 * i) (hi:s.gs[i]? = some x) (n:Int):Calls Tryz.prog 260 #[ptr mb,.int .i64 k,ptr b,.int .i64 n] w (DoesV mb V own w unit (s.setSc { s.sc with kind:=k,eg:=(i:Int) + 1,efn:=x.fn,epc:=x.pc,en:=n,seen:=true })):=by
 obtain ⟨h1,h2,sv,h3,h4⟩:=h.gat hb hi
 have g0:=gc0 h3
 have g2:=gc2 h3
 have g3:=gc3 h3
 have c21:=h.c21
 have c22:=h.c22
 have c23:=h.c23
 have c24:=h.c24
 have c25:=h.c25
 have c26:=h.c26
 have f21:=h.mfree 21
 have f22:=h.mfree 22
 have f23:=h.mfree 23
 have f24:=h.mfree 24
 have f25:=h.mfree 25
 have f26:=h.mfree 26
 have HH:=Lib.hid h
 clear h h1 h2 h3 h4 hb hi
 generalize hu:(i:Int) + 1 = u at *
 have HU:=Lib.hid hu
 clear hu
 go_enter Tryz.func260,Tryz.ntmps260
 go_wp2
 go_region
 all_goals exact see_end HH.out
set_option maxHeartbeats 2000000 in
theorem Rep.who_some (h:Rep mb V own w s) {p:Int} {k:Nat} (hk:whoM s p = some k):Calls Tryz.prog 257 #[ptr mb,.int .i64 p] w fun e w'=>e = .returned (ptr (V.xb k)) ∧ w = w':=by
 unfold whoM at hk
 obtain ⟨⟨h0,h1⟩,hk⟩:=opt_if hk
 simp only [Option.some.injEq] at hk
 obtain ⟨k',hk'⟩:∃ k':Nat,Pstat.whoL s.stat p = k':=⟨(Pstat.whoL s.stat p).toNat,by omega⟩
 have HW:=Lib.hid (h.swho p)
 rw [hk'] at h0 h1 hk HW
 obtain rfl:k' = k:=by omega
 have hlt:k' < s.ms.length:=by omega
 obtain ⟨g,cap,hv,hc,hg,_⟩:=h.mrow hlt
 have c6:=h.c6
 rw [hv] at c6
 have c8:=h.c8
 have hd:decide (k' < s.ms.length) = true:=by simpa using hlt
 have q:(k':Int) < (s.ms.length:Int):=by omega
 clear h hv hk' h0 h1 hk hlt
 go_enter Tryz.func257,Tryz.ntmps257
 go_wp2_with (go_at_call 59;refine HW.out.mono ?_;rintro e w1 ⟨rfl,rfl⟩)
 go_ret
 exact ⟨rfl,rfl⟩
set_option maxHeartbeats 2000000 in
theorem Rep.who_none (h:Rep mb V own w s) {p:Int} (hk:whoM s p = none):Calls Tryz.prog 257 #[ptr mb,.int .i64 p] w fun e w'=>e = .returned (.pointer none) ∧ w = w':=by
 unfold whoM at hk
 have HW:=Lib.hid (h.swho p)
 have c8:=h.c8
 have c6:=h.c6
 obtain ⟨a,cap,hv⟩:=h.msl
 rw [hv] at c6
 by_cases h0:0 ≤ Pstat.whoL s.stat p
 ·by_cases h1:Pstat.whoL s.stat p < s.ms.length
  ·rw [if_pos ⟨h0,h1⟩] at hk;cases hk
  ·obtain ⟨k',hk'⟩:∃ k':Nat,Pstat.whoL s.stat p = k':=⟨(Pstat.whoL s.stat p).toNat,by omega⟩
   rw [hk'] at h0 h1 HW
   have hd:decide (k' < s.ms.length) = false:=by simp;omega
   clear h hv hk' h0 h1 hk
   go_enter Tryz.func257,Tryz.ntmps257
   go_wp2_with (go_at_call 59;refine HW.out.mono ?_;rintro e w1 ⟨rfl,rfl⟩)
   go_ret
   exact ⟨rfl,rfl⟩
 ·have hd:decide (0 ≤ Pstat.whoL s.stat p) = false:=by simpa using h0
  clear h hv h0 hk
  generalize Pstat.whoL s.stat p = u at *
  go_enter Tryz.func257,Tryz.ntmps257
  go_wp2_with (go_at_call 59;refine HW.out.mono ?_;rintro e w1 ⟨rfl,rfl⟩)
  go_ret
  exact ⟨rfl,rfl⟩
set_option maxHeartbeats 2000000 in
theorem Rep.free (h:Rep mb V own w s):Calls Tryz.prog 298 #[ptr mb] w fun e w'=>e = .returned (.int .i64 (freeM s)) ∧ ∃ n,w' = w.drewN n:=by
 have HL:=Lib.hid (fun m=>flip_same (h.drewN m).mlen)
 have c10:=h.c10
 have c4:=h.c4
 have c6:=h.c6
 obtain ⟨a,cap,hv⟩:=h.msl
 rw [hv] at c6
 unfold freeM
 clear h hv
 generalize s.idleM.length = n1 at *
 generalize s.ms.length = n2 at *
 generalize s.sc.cm = n3 at *
 go_enter Tryz.func298,Tryz.ntmps298
 go_wp2
 go_quiet ((go_at_call 262;exact Calls.quiet_of_same (HL.out _)))
 go_wp2
 go_ret
 exact ⟨rfl,_,rfl⟩
theorem xset4 {w:World} {xb j:Nat} {y:M1} {gb:Nat → Nat} (h:Blk w xb (xcells gb j y) 125):Blk ((((w.setCell ⟨xb,1,none⟩ (.int .i64 (-1))).setCell ⟨xb,2,none⟩ (.pointer none)).setCell ⟨xb,3,none⟩ (.int .i64 0)).setCell ⟨xb,4,none⟩ (.bool false)) xb (xcells gb j { y with p:=-1,g:=0,phase:=0,armed:=false }) 125:=
 (((h.set 1 (.int .i64 (-1))).set 2 (.pointer none)).set 3 (.int .i64 0)).set 4 (.bool false)
set_option maxHeartbeats 2000000 in
theorem Rep.park (h:Rep mb V own w s) {xb j:Nat} {s':St} (hx:own xb = 22 + 5 * j) (hs:parkM s j = some s'):Calls Tryz.prog 174 #[ptr mb,ptr xb] w (DoesV mb V own w unit s'):=by
 unfold parkM at hs
 cases hj:s.ms[j]? with
 | none=>rw [hj] at hs;cases hs
 | some y=>
  rw [hj] at hs
  simp only [Option.some.injEq] at hs
  subst hs
  have hB:=h.xblk hx hj
  have hxi:=h.xis hx hj
  subst hxi
  have c0:=xc0 hB
  have c1:=xc1 hB
  have c2:=xc2 hB
  have c3:=xc3 hB
  have c4:=xc4 hB
  have f1:=hB.free 1
  have f2:=hB.free 2
  have f3:=hB.free 3
  have f4:=hB.free 4
  have m10:=h.c10
  obtain ⟨n1,n2⟩:=h.xne hx
  have hO:=oset (oset (oset (oset (orefl (V.xb j) w) 1 (.int .i64 (-1))) 2 (.pointer none)) 3 (.int .i64 0)) 4 (.bool false)
  have R:=h.putX (lt_of_some hj) hO { y with p:=-1,g:=0,phase:=0,armed:=false } ⟨Int.le_refl 0,Int.natCast_nonneg _⟩ (xset4 hB)
  have HE:=Lib.hid (only_ext hO (by omega:own (V.xb j) ≠ 0 ∧ own (V.xb j) ≠ 14))
  have HP:=Lib.hid (R.drew.mput j)
  clear h hB hj hx R hO
  go_enter Tryz.func174,Tryz.ntmps174
  go_wp2
  go_region_with (first | (go_at_call 48;refine HP.out.mono ?_;rintro e w1 ⟨rfl,own1,hR,hE⟩;have HR:Hid (DoesV mb V own w unit _ (.returned unit) w1):=⟨rfl,own1,hR,(HE.out.drew).trans hE⟩;clear hR hE))
  all_goals
   go_end0
   exact HR.out
end
end Go.Proofs.YtgadhchejmlfjaaGreatDoor.Mac
end
section
namespace Go.Proofs.YtgadhchejmlfjaaGreatDoor.Mac
open Go.RowKit Go.Esc
open Go.Proofs.YtgadhchejmlfjaaGreatDoor.Pstat (Pr pz)
open Go.Proofs.YtgadhchejmlfjaaGreatDoor.Vm (Ins)
section
variable {mb:Nat} {V:Vr} {own:Nat → Nat} {w:World} {s:St}
set_option maxHeartbeats 4000000 in
theorem Rep.asks (h:Rep mb V own w s) {xb j:Nat} {s':St} (hx:own xb = 22 + 5 * j) (hs:asksM s j = some s'):Calls Tryz.prog 258 #[ptr mb,ptr xb] w (DoesV mb V own w unit s'):=by
 unfold asksM at hs
 cases hj:s.ms[j]? with
 | none=>rw [hj] at hs;cases hs
 | some y=>
  rw [hj] at hs
  obtain ⟨hj64,hs⟩:=opt_if hs
  have hB:=h.xblk hx hj
  have c0:=xc0 hB
  have c1:=xc1 hB
  have m15:=h.c15
  have m17:=h.c17
  have m13:=h.c13
  obtain ⟨n1,n2⟩:=h.xne hx
  have hmod:=fun (w:World)=>Num.mod_any s.sc.delay 65 w (by decide)
  have HMod:=Lib.hid hmod
  clear hmod
  by_cases hp:y.p = -1
  ·rw [if_pos hp] at hs
   simp only [Option.some.injEq] at hs
   subst hs
   have hd:(y.p != -1) = false:=by simp [hp]
   have HS:=Lib.hid (fun due=>h.drew.send j hj64 due)
   have HE:=Lib.hid (Ext.refl own w).drew
   clear h hB hj hx hp
   go_enter Tryz.func258,Tryz.ntmps258
   go_wp2
   refine wp_region_still_tail 19 (by kernel_rfl) (by kernel_rfl) ?_
   simp only [List.take_succ_cons,List.take_zero,List.drop_succ_cons,List.drop_zero]
   repeat still_step
   still_call (flip_same (HMod.out _))
   repeat still_step
   refine wpStill_nil ?_
   change wpList _ _ _ _ _ (World.drew _)
   go_wp2_with (go_at_call 311;refine (HS.out _).mono ?_;rintro e w1 ⟨⟨r,rfl⟩,own1,hR,hE⟩;have HR:Hid (DoesV mb V own w unit _ (.returned unit) w1):=⟨rfl,own1,hR,HE.out.trans hE⟩;clear hR hE)
   go_end0
   exact HR.out
  ·rw [if_neg hp] at hs
   obtain ⟨hp0,hs⟩:=opt_if hs
   obtain ⟨k,hk⟩:∃ k:Nat,y.p = k:=⟨y.p.toNat,by omega⟩
   rw [hk,Int.toNat_natCast] at hs
   cases ha:s.asked[k]? with
   | none=>rw [ha] at hs;cases hs
   | some a=>
    rw [ha] at hs
    simp only [Option.some.injEq] at hs
    subst hs
    obtain ⟨g,cap,hv,hg,n3,n4,hgl,a0,a1,a2,f0,f1,f2⟩:=h.ask ha
    rw [hk] at c1
    have c7:=h.c7
    rw [hv] at c7
    have hd:((k:Int) != -1) = true:=by simp
    have q:(k:Int) < (s.asked.length:Int):=by have:=lt_of_some ha;omega
    have n5:¬ xb = g:=by rintro rfl;omega
    have n6:¬ g = xb:=fun e=>n5 e.symm
    obtain ⟨hA1,hA2⟩:=h.askr (by decide)
    rw [hv] at hA1
    have A1:=hA1.put ha 0 (by decide) (.bool true) ⟨true,a.bar,a.count⟩ rfl
    rw [Nat.add_zero] at A1
    obtain ⟨R1,E1⟩:=h.putAsk hv (oset (orefl g w) _ _) _ (by rw [hv];exact A1)
    have HR1:=Lib.hid R1.drew
    have HE:=Lib.hid E1.drew.drew
    have HX:=Lib.hid (And.intro hx hj)
    clear h hB hj hx hp ha hv hA1 hA2 A1 R1 E1 hk hp0
    go_enter Tryz.func258,Tryz.ntmps258
    go_wp2
    go_region
    generalize (w.setCell ⟨g,k * 3,none⟩ (.bool true)).drew = W at *
    clear m15 m17 m13 c0 c1 a0 a1 a2 f0 f1 f2 hgl
    have HS:=Lib.hid (fun due=>HR1.out.drew.send j hj64 due)
    have m15:=HR1.out.c15
    have m17:=HR1.out.c17
    have m13:=HR1.out.c13
    have c0:=xc0 (HR1.out.xblk HX.out.1 HX.out.2)
    go_wp2
    refine wp_region_still_tail 19 (by kernel_rfl) (by kernel_rfl) ?_
    simp only [List.take_succ_cons,List.take_zero,List.drop_succ_cons,List.drop_zero]
    repeat still_step
    still_call (flip_same (HMod.out _))
    repeat still_step
    refine wpStill_nil ?_
    change wpList _ _ _ _ _ (World.drew _)
    go_wp2_with (go_at_call 311;refine (HS.out _).mono ?_;rintro e w1 ⟨⟨r,rfl⟩,own1,hR,hE⟩;have HR:Hid (DoesV mb V own w unit _ (.returned unit) w1):=⟨rfl,own1,hR,HE.out.trans hE⟩;clear hR hE)
    go_end0
    exact HR.out
end
end Go.Proofs.YtgadhchejmlfjaaGreatDoor.Mac
end
