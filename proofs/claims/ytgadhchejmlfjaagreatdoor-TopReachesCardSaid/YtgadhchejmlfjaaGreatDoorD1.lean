/- Parts of the proof of TopReaches. -/
import Derived.Test.YtgadhchejmlfjaaGreatDoorB5
import Derived.Test.YtgadhchejmlfjaaGreatDoorA7
import Derived.Test.YtgadhchejmlfjaaGreatDoorA8
import Derived.Test.YtgadhchejmlfjaaGreatDoorA9
import Derived.Test.YtgadhchejmlfjaaGreatDoorB1
import Derived.Test.YtgadhchejmlfjaaGreatDoorB3
set_option linter.unusedVariables false
set_option maxRecDepth 20000
section
namespace Go.Proofs.YtgadhchejmlfjaaGreatDoor.Mac
open Go.RowKit Go.Esc
open Go.Proofs.YtgadhchejmlfjaaGreatDoor.Pstat (Pr pz)
open Go.Proofs.YtgadhchejmlfjaaGreatDoor.Vm (Ins)
structure Fn where
 code:List Ins
 safe:List Bool
structure G where
 word:Int
 fn:Int
 pc:Int
 regs:List Int
 done:Bool
 blocked:Bool
 token:Bool
 sema:Bool
 begun:Bool
 asker:Int
structure M1 where
 p:Int
 g:Int
 phase:Int
 armed:Bool
 used:Int
 left:Int
 looks:Int
structure Pc where
 pre:Bool
 bar:Bool
 count:Int
structure Rs where
 nx:Int
 row:List Int
structure Sc where
 cp:Int
 cg:Int
 cm:Int
 pick:Int
 delay:Int
 draw:Int
 now:Int
 stopped:Bool
 wait:Int
 holder:Int
 kind:Int
 eg:Int
 efn:Int
 epc:Int
 en:Int
 seen:Bool
structure St where
 funcs:List Fn
 sc:Sc
 gs:List G
 ms:List M1
 asked:List Pc
 rings:List Rs
 stat:List Pr
 all:List Int
 idleM:List Int
 idleP:List Int
 owner:Int
 waits:List Int
 box:List (Option Int)
def g0:G:=⟨0,0,0,[],false,false,false,false,false,0⟩
def m0:M1:=⟨0,0,0,false,0,0,0⟩
def p0:Pc:=⟨false,false,0⟩
def r0:Rs:=⟨0,[]⟩
def f0:Fn:=⟨[],[]⟩
def i0:Ins:=⟨0,0,0,0,0⟩
structure Vr where
 procs:Nat
 stat:Nat
 all:Nat
 idM:Nat
 idP:Nat
 sema:Nat
 box:Nat
 gsv:Value
 msv:Value
 askv:Value
 pv:Value
 gb:Nat → Nat
 xb:Nat → Nat
@[reducible] def ptr (b:Nat):Value:=.pointer (some ⟨b,0,none⟩)
@[reducible] def gptr (gb:Nat → Nat) (id:Int):Value:=if id = 0 then .pointer none else .pointer (some ⟨gb (id - 1).toNat,0,none⟩)
def mcells (V:Vr) (c:Sc):Array Value:=
 #[ptr V.procs,V.pv,.int .i64 c.cp,.int .i64 c.cg,.int .i64 c.cm,V.gsv,V.msv,V.askv,ptr V.stat,ptr V.all,ptr V.idM,ptr V.idP,ptr V.sema,ptr V.box,
  .int .i64 c.pick,.int .i64 c.delay,.int .i64 c.draw,.int .i64 c.now,.bool c.stopped,.int .i64 c.wait,gptr V.gb c.holder,
  .int .i64 c.kind,.int .i64 c.eg,.int .i64 c.efn,.int .i64 c.epc,.int .i64 c.en,.bool c.seen]
def xcells (gb:Nat → Nat) (j:Nat) (y:M1):Array Value:=
 #[.int .i64 j,.int .i64 y.p,gptr gb y.g,.int .i64 y.phase,.bool y.armed,.int .i64 y.used,.int .i64 y.left,.int .i64 y.looks]
def rg (x:G) (k:Nat):Int:=x.regs[k]?.getD 0
def gcells (i:Nat) (sv:Value) (x:G):Array Value:=
 #[.int .i64 ((i:Int) + 1),.int .i64 x.word,.int .i64 x.fn,.int .i64 x.pc,.int .i64 (rg x 0),.int .i64 (rg x 1),.int .i64 (rg x 2),.int .i64 (rg x 3),.int .i64 (rg x 4),.int .i64 (rg x 5),.int .i64 (rg x 6),.int .i64 (rg x 7),
  sv,.bool x.done,.bool x.blocked,.bool x.token,.bool x.sema,.bool x.begun,.int .i64 x.asker]
def askc:List Pc → List Value
 | []=>[]
 | x :: l=>[.bool x.pre,.bool x.bar,.int .i64 x.count] ++ askc l
theorem askc_len (l:List Pc):(askc l).length = l.length * 3:=by
 induction l with
 | nil=>rfl
 | cons x l ih=>simp [askc,ih];omega
theorem askc_at (l:List Pc):∀ i,i < l.length → (askc l)[i * 3]? = some (.bool (l[i]?.getD p0).pre) ∧ (askc l)[i * 3 + 1]? = some (.bool (l[i]?.getD p0).bar) ∧ (askc l)[i * 3 + 2]? = some (.int .i64 (l[i]?.getD p0).count):=by
 induction l with
 | nil=>intro i hi;simp at hi
 | cons x l ih=>
  intro i hi
  cases i with
  | zero=>simp [askc]
  | succ i=>
   have:=ih i (by simpa using hi)
   rw [show (i + 1) * 3 = (i * 3) + 1 + 1 + 1 by omega]
   simpa [askc] using this
def AskP (w:World) (v:Value) (l:List Pc):Prop:=
 ∃ g cap cs,v = .slice (some ⟨g,0,none⟩) l.length cap ∧ Blk w g cs 139 ∧ l.length ≤ cap ∧ cap * 3 ≤ cs.size ∧ cs.size ≤ maxLen ∧ (cap * 3 = cs.size ∨ cap = l.length) ∧ cs.toList.take (l.length * 3) = askc l
theorem AskP.only {S:Nat → Prop} {w w':World} {v:Value} {l:List Pc} (h:AskP w v l) (o:Only S w w') (hs:Off S v):AskP w' v l:=by
 obtain ⟨g,cap,cs,rfl,h2,r⟩:=h
 exact ⟨g,cap,cs,rfl,h2.only o (hs g rfl),r⟩
def prow (n:Nat) (f:Nat → Nat):List Value:=(List.range n).map fun i=>ptr (f i)
theorem prow_at (n:Nat) (f:Nat → Nat) (i:Nat) (h:i < n):(prow n f)[i]?.getD undef = ptr (f i):=by simp [prow,h]
theorem prow_len (n:Nat) (f:Nat → Nat):(prow n f).length = n:=by simp [prow]
theorem prow_succ (n:Nat) (f:Nat → Nat):prow (n + 1) f = prow n f ++ [ptr (f n)]:=by simp [prow,List.range_succ]
theorem prow_congr (n:Nat) {f g:Nat → Nat} (h:∀ i,i < n → f i = g i):prow n f = prow n g:=by
 unfold prow;exact List.map_congr_left fun i hi=>by rw [h i (List.mem_range.1 hi)]
def kind (t:Nat):Nat:=if t < 20 then t else if (t - 20) % 5 ≤ 1 then 12 else if (t - 20) % 5 = 2 then 13 else 5
theorem kind_lt {t:Nat} (h:t < 20):kind t = t:=by unfold kind;rw [if_pos h]
theorem kind_g (i:Nat):kind (20 + 5 * i) = 12:=by unfold kind;rw [if_neg (by omega),if_pos (by omega)]
theorem kind_x (i:Nat):kind (22 + 5 * i) = 13:=by unfold kind;rw [if_neg (by omega),if_neg (by omega),if_pos (by omega)]
theorem kind_r (i:Nat):kind (23 + 5 * i) = 5:=by unfold kind;rw [if_neg (by omega),if_neg (by omega),if_neg (by omega)]
theorem kind_ra (i:Nat):kind (24 + 5 * i) = 5:=by unfold kind;rw [if_neg (by omega),if_neg (by omega),if_neg (by omega)]
structure FnAt (own:Nat → Nat) (w:World) (pb po k:Nat) (f:Fn):Prop where
 at_:∃ cb co cc sb so sc,w.cell? ⟨pb,po + k * 2,none⟩ = some (.slice (some ⟨cb,co,none⟩) f.code.length cc) ∧ w.cell? ⟨pb,po + k * 2 + 1,none⟩ = some (.slice (some ⟨sb,so,none⟩) f.safe.length sc) ∧
  cb < w.heap.size ∧ sb < w.heap.size ∧ own cb = 14 ∧ own sb = 14 ∧
  (∀ i,i < f.code.length → w.cell? ⟨cb,co + i * 5,none⟩ = some (.int .i64 (f.code[i]?.getD i0).op) ∧ w.cell? ⟨cb,co + i * 5 + 1,none⟩ = some (.int .i64 (f.code[i]?.getD i0).a) ∧ w.cell? ⟨cb,co + i * 5 + 2,none⟩ = some (.int .i64 (f.code[i]?.getD i0).b) ∧ w.cell? ⟨cb,co + i * 5 + 3,none⟩ = some (.int .i64 (f.code[i]?.getD i0).c) ∧ w.cell? ⟨cb,co + i * 5 + 4,none⟩ = some (.int .i64 (f.code[i]?.getD i0).n)) ∧
  (∀ i,i < f.safe.length → w.cell? ⟨sb,so + i,none⟩ = some (.bool (f.safe[i]?.getD false)))
def Pg (own:Nat → Nat) (w:World) (pv:Value) (l:List Fn):Prop:=
 ∃ pb po pc,pv = .slice (some ⟨pb,po,none⟩) l.length pc ∧ pb < w.heap.size ∧ own pb = 14 ∧ ∀ k,k < l.length → FnAt own w pb po k (l[k]?.getD f0)
structure RgP (own:Nat → Nat) (w:World) (p:Nat) (rv:Value) (R:Nat → Procs.Rn) (l:List Rs):Prop where
 prc:Procs.Prc w p rv l.length R
 is:∀ i,i < l.length → (R i).nx = (l[i]?.getD r0).nx ∧ (R i).row = (l[i]?.getD r0).row
 op:own p = 5
 orv:∀ j,rv.ownBlock = some j → own j = 5
 ob:∀ i,i < l.length → own (R i).b = 23 + 5 * i
 og:∀ i,i < l.length → own (R i).g = 24 + 5 * i
 ub:∀ i,i < l.length → ∀ b,own b = 23 + 5 * i → b = (R i).b
def BxP (own:Nat → Nat) (w:World) (b:Nat) (l:List (Option Int)):Prop:=
 ∃ v n m q,Sig.Hx b v (fun k=>(l[k]?).join) n m q w ∧ n ≤ m ∧ n ≤ 64 ∧ l.length = 64 ∧ (∀ j,Sig.Bf b v j → own j = 11)
def Stk (own:Nat → Nat) (w:World) (i:Nat) (sv:Value):Prop:=sv = .slice none 0 0
structure GAt (own:Nat → Nat) (w:World) (b i:Nat) (x:G):Prop where
 len:x.regs.length = 8
 wd:Gst.Word x.word
 blk:∃ sv,Blk w b (gcells i sv x) 130 ∧ Stk own w i sv
structure RepX (x:Nat) (mb:Nat) (V:Vr) (own:Nat → Nat) (w:World) (s:St):Prop where
 fresh:∀ j,w.heap.size ≤ j → own j = 0
 om:own mb = 1
 prog:Pg own w V.pv s.funcs
 laid:Isa.Laid w ∧ own 0 = 14
 hold:0 ≤ s.sc.holder ∧ s.sc.holder ≤ s.gs.length
 gsr:x ≠ 2 → Rdv w 0 119 1 V.gsv s.gs.length (prow s.gs.length V.gb) ∧ ∀ j,V.gsv.ownBlock = some j → own j = 2
 msr:x ≠ 3 → Rdv w 0 123 1 V.msv s.ms.length (prow s.ms.length V.xb) ∧ ∀ j,V.msv.ownBlock = some j → own j = 3
 askr:x ≠ 4 → AskP w V.askv s.asked ∧ ∀ j,V.askv.ownBlock = some j → own j = 4
 mach:x ≠ 1 → Blk w mb (mcells V s.sc) 121
 rings:x ≠ 5 → ∃ rv R,RgP own w V.procs rv R s.rings
 stat:x ≠ 6 → ∃ tv,Pstat.Tb w V.stat tv s.stat ∧ ∀ j,Pstat.Tf V.stat tv j → own j = 6
 all:x ≠ 7 → ∃ S,Glob.Queue w V.all S s.all ∧ ∀ j,S j → own j = 7
 idM:x ≠ 8 → ∃ g,Idle.St w V.idM g 64 s.idleM ∧ ∀ j,Idle.TwoOf V.idM g j → own j = 8
 idP:x ≠ 9 → ∃ g,Idle.St w V.idP g 256 s.idleP ∧ ∀ j,Idle.TwoOf V.idP g j → own j = 9
 sema:x ≠ 10 → ∃ v,Sema.Sm w V.sema s.owner v s.waits ∧ ∀ j,Sema.Sf V.sema v j → own j = 10
 box:x ≠ 11 → BxP own w V.box s.box
 gs:x ≠ 12 → ∀ i,i < s.gs.length → GAt own w (V.gb i) i (s.gs[i]?.getD g0)
 ms:x ≠ 13 → ∀ j,j < s.ms.length → Blk w (V.xb j) (xcells V.gb j (s.ms[j]?.getD m0)) 125
 mg:∀ j,j < s.ms.length → 0 ≤ (s.ms[j]?.getD m0).g ∧ (s.ms[j]?.getD m0).g ≤ s.gs.length
 og:∀ i,i < s.gs.length → own (V.gb i) = 20 + 5 * i
 ug:∀ i,i < s.gs.length → ∀ b,own b = 20 + 5 * i → b = V.gb i
 ox:∀ j,j < s.ms.length → own (V.xb j) = 22 + 5 * j
 ux:∀ j,j < s.ms.length → ∀ b,own b = 22 + 5 * j → b = V.xb j
 lg:∀ b i,own b = 20 + 5 * i → i < s.gs.length
 lx:∀ b i,own b = 22 + 5 * i → i < s.ms.length
 lim:s.gs.length ≤ 64 ∧ s.ms.length ≤ 64 ∧ s.rings.length ≤ 256
abbrev Rep:=RepX 0
structure Ext (own:Nat → Nat) (w:World) (own':Nat → Nat) (w':World):Prop where
 only:Only (fun j=>own j ≠ 0 ∧ own j ≠ 14) w w'
 same:∀ j,j < w.heap.size → own' j = own j
theorem Ext.refl (own:Nat → Nat) (w:World):Ext own w own w:=⟨Only.refl _ _,fun _ _=>rfl⟩
theorem Ext.trans {o1 o2 o3:Nat → Nat} {w1 w2 w3:World} (h:Ext o1 w1 o2 w2) (k:Ext o2 w2 o3 w3):Ext o1 w1 o3 w3:=
 ⟨h.only.andThen k.only (fun j hj hs=>by rw [h.same j hj] at hs;exact hs),fun j hj=>(k.same j (Nat.lt_of_lt_of_le hj h.only.size)).trans (h.same j hj)⟩
structure Fw (V V':Vr):Prop where
 procs:V'.procs = V.procs
 stat:V'.stat = V.stat
 all:V'.all = V.all
 idM:V'.idM = V.idM
 idP:V'.idP = V.idP
 sema:V'.sema = V.sema
 box:V'.box = V.box
 pv:V'.pv = V.pv
theorem Fw.refl (V:Vr):Fw V V:=⟨rfl,rfl,rfl,rfl,rfl,rfl,rfl,rfl⟩
theorem Fw.trans {A B C:Vr} (h:Fw A B) (k:Fw B C):Fw A C:=⟨k.procs.trans h.procs,k.stat.trans h.stat,k.all.trans h.all,k.idM.trans h.idM,k.idP.trans h.idP,k.sema.trans h.sema,k.box.trans h.box,k.pv.trans h.pv⟩
structure Fx (V V':Vr):Prop extends Fw V V' where
 gsv:V'.gsv = V.gsv
 gb:V'.gb = V.gb
theorem Fx.refl (V:Vr):Fx V V:=⟨Fw.refl V,rfl,rfl⟩
theorem Fx.trans {A B C:Vr} (h:Fx A B) (k:Fx B C):Fx A C:=⟨h.toFw.trans k.toFw,k.gsv.trans h.gsv,k.gb.trans h.gb⟩
def Does (mb:Nat) (V:Vr) (own:Nat → Nat) (w:World) (r:Value) (s':St) (e:Ending) (w':World):Prop:=
 e = .returned r ∧ ∃ V' own',Rep mb V' own' w' s' ∧ Ext own w own' w' ∧ Fx V V'
def DoesW (mb:Nat) (V:Vr) (own:Nat → Nat) (w:World) (r:Value) (s':St) (e:Ending) (w':World):Prop:=
 e = .returned r ∧ ∃ V' own',Rep mb V' own' w' s' ∧ Ext own w own' w' ∧ Fw V V'
def DoesV (mb:Nat) (V:Vr) (own:Nat → Nat) (w:World) (r:Value) (s':St) (e:Ending) (w':World):Prop:=
 e = .returned r ∧ ∃ own',Rep mb V own' w' s' ∧ Ext own w own' w'
theorem DoesV.does {mb:Nat} {V:Vr} {own:Nat → Nat} {w:World} {r:Value} {s':St} {e:Ending} {w':World} (h:DoesV mb V own w r s' e w'):Does mb V own w r s' e w':=by
 obtain ⟨he,own',hR,hE⟩:=h;exact ⟨he,V,own',hR,hE,Fx.refl V⟩
theorem Pg.turn {own own':Nat → Nat} {S:Nat → Prop} {w w':World} {pv:Value} {l:List Fn} (h:Pg own w pv l) (o:Only S w w') (hS:∀ j,S j → own j ≠ 14) (he:∀ j,j < w.heap.size → own' j = own j):Pg own' w' pv l:=by
 obtain ⟨pb,po,pc,h1,h2,h3,h4⟩:=h
 have hc:∀ b i,b < w.heap.size → own b = 14 → w'.cell? ⟨b,i,none⟩ = w.cell? ⟨b,i,none⟩:=fun b i hb ho=>World.cell?_of_block (o.block b hb (fun hs=>hS b hs ho))
 refine ⟨pb,po,pc,h1,Nat.lt_of_lt_of_le h2 o.size,by rw [he pb h2];exact h3,fun k hk=>?_⟩
 obtain ⟨cb,co,cc,sb,so,sc,a1,a2,a3,a4,a5,a6,a7,a8⟩:=(h4 k hk).at_
 refine ⟨cb,co,cc,sb,so,sc,(hc pb _ h2 h3).trans a1,(hc pb _ h2 h3).trans a2,Nat.lt_of_lt_of_le a3 o.size,Nat.lt_of_lt_of_le a4 o.size,by rw [he cb a3];exact a5,by rw [he sb a4];exact a6,fun i hi=>?_,fun i hi=>(hc sb _ a4 a6).trans (a8 i hi)⟩
 simp only [hc cb _ a3 a5]
 exact a7 i hi
theorem RgP.turn {own own':Nat → Nat} {S:Nat → Prop} {w w':World} {p:Nat} {rv:Value} {R:Nat → Procs.Rn} {l:List Rs} (h:RgP own w p rv R l) (o:Only S w w') (hS:∀ j,S j → kind (own j) ≠ 5) (he:∀ j,j < w.heap.size → own' j = own j)
  (hn:∀ j,w.heap.size ≤ j → kind (own' j) ≠ 5):RgP own' w' p rv R l:=by
 have hk:∀ j,Procs.Pf p rv l.length R j → kind (own j) = 5:=by
  rintro j (rfl | hj | ⟨i,hi,hj | hj⟩)
  ·rw [h.op];rfl
  ·rw [h.orv j hj];rfl
  ·rw [hj,h.ob i hi,kind_r]
  ·rw [hj,h.og i hi,kind_ra]
 have hlt:∀ j,Procs.Pf p rv l.length R j → own' j = own j:=fun j hj=>he j (h.prc.lt hj)
 refine ⟨h.prc.only o (fun j hj hs=>hS j hs (hk j hj)),h.is,(hlt _ (.inl rfl)).trans h.op,fun j hj=>(hlt j (.inr (.inl hj))).trans (h.orv j hj),fun i hi=>(hlt _ (.inr (.inr ⟨i,hi,.inl rfl⟩))).trans (h.ob i hi),fun i hi=>(hlt _ (.inr (.inr ⟨i,hi,.inr rfl⟩))).trans (h.og i hi),fun i hi b hb=>?_⟩
 rcases Nat.lt_or_ge b w.heap.size with hlt | hge
 ·rw [he b hlt] at hb;exact h.ub i hi b hb
 ·exact absurd (by rw [hb,kind_r]:kind (own' b) = 5) (hn b hge)
theorem RepX.turn {y x:Nat} {mb:Nat} {V:Vr} {own own':Nat → Nat} {w w':World} {s:St} {S:Nat → Prop} (h:RepX y mb V own w s) (hyx:y = 0 ∨ y = x) (o:Only S w w') (hS:∀ j,S j → kind (own j) = x) (hx:x < 14)
  (he:∀ j,j < w.heap.size → own' j = own j) (hn:∀ j,w.heap.size ≤ j → own' j = 0 ∨ (1 < own' j ∧ own' j < 12 ∧ own' j = x)) (hf:∀ j,w'.heap.size ≤ j → own' j = 0):RepX x mb V own' w' s:=by
 have hy:∀ t,x ≠ t → t ≠ 0 → y ≠ t:=fun t hx0 h0=>by rcases hyx with rfl | rfl;exact fun e=>h0 e.symm;exact hx0
 have hlt:∀ {j t:Nat},own j = t → t ≠ 0 → j < w.heap.size:=fun {j t} h1 h2=>by
  rcases Nat.lt_or_ge j w.heap.size with h3 | h3
  ·exact h3
  ·exact absurd ((h.fresh j h3).symm.trans h1).symm h2
 have hsame:∀ {j t:Nat},own j = t → t ≠ 0 → own' j = t:=fun {j t} h1 h2=>(he j (hlt h1 h2)).trans h1
 have hno:∀ {j t:Nat},own j = t → kind t ≠ x → ¬ S j:=fun {j t} h1 h2 hs=>h2 (by rw [← h1];exact hS j hs)
 refine ⟨hf,hsame h.om (by decide),h.prog.turn o (fun j hs e=>?_) he,⟨h.laid.1.only o (hno h.laid.2 (by rw [kind_lt (by decide)];omega)),hsame h.laid.2 (by decide)⟩,h.hold,fun hx0=>?_,fun hx0=>?_,fun hx0=>?_,fun hx0=>?_,fun hx0=>?_,fun hx0=>?_,fun hx0=>?_,fun hx0=>?_,fun hx0=>?_,fun hx0=>?_,fun hx0=>?_,fun hx0=>?_,fun hx0=>?_,h.mg,fun i hi=>hsame (h.og i hi) (by omega),fun i hi b hb=>?_,fun i hi=>hsame (h.ox i hi) (by omega),fun i hi b hb=>?_,fun b i hb=>?_,fun b i hb=>?_,h.lim⟩
 ·have:=hS j hs;rw [e,kind_lt (by decide)] at this;omega
 ·obtain ⟨h1,h2⟩:=h.gsr (hy 2 hx0 (by decide))
  exact ⟨h1.off o (fun j hj=>hno (h2 j hj) (fun e=>hx0 e.symm)),fun j hj=>hsame (h2 j hj) (by decide)⟩
 ·obtain ⟨h1,h2⟩:=h.msr (hy 3 hx0 (by decide))
  exact ⟨h1.off o (fun j hj=>hno (h2 j hj) (fun e=>hx0 e.symm)),fun j hj=>hsame (h2 j hj) (by decide)⟩
 ·obtain ⟨h1,h2⟩:=h.askr (hy 4 hx0 (by decide))
  exact ⟨h1.only o (fun j hj=>hno (h2 j hj) (fun e=>hx0 e.symm)),fun j hj=>hsame (h2 j hj) (by decide)⟩
 ·exact (h.mach (hy 1 hx0 (by decide))).only o (hno h.om (fun e=>hx0 e.symm))
 ·obtain ⟨rv,R,h1⟩:=h.rings (hy 5 hx0 (by decide))
  refine ⟨rv,R,h1.turn o (fun j hs=>by rw [hS j hs];exact hx0) he (fun j hj=>?_)⟩
  rcases hn j hj with h0 | ⟨h0,h2,h3⟩
  ·rw [h0];decide
  ·rw [kind_lt (by omega),h3];exact hx0
 ·obtain ⟨tv,h1,h2⟩:=h.stat (hy 6 hx0 (by decide))
  exact ⟨tv,h1.only o (fun j hj=>hno (h2 j hj) (fun e=>hx0 e.symm)),fun j hj=>hsame (h2 j hj) (by decide)⟩
 ·obtain ⟨tv,h1,h2⟩:=h.all (hy 7 hx0 (by decide))
  exact ⟨tv,h1.only o (fun j hj=>hno (h2 j hj) (fun e=>hx0 e.symm)),fun j hj=>hsame (h2 j hj) (by decide)⟩
 ·obtain ⟨tv,h1,h2⟩:=h.idM (hy 8 hx0 (by decide))
  exact ⟨tv,h1.only o (hno (h2 _ (.inl rfl)) (fun e=>hx0 e.symm)) (hno (h2 _ (.inr rfl)) (fun e=>hx0 e.symm)),fun j hj=>hsame (h2 j hj) (by decide)⟩
 ·obtain ⟨tv,h1,h2⟩:=h.idP (hy 9 hx0 (by decide))
  exact ⟨tv,h1.only o (hno (h2 _ (.inl rfl)) (fun e=>hx0 e.symm)) (hno (h2 _ (.inr rfl)) (fun e=>hx0 e.symm)),fun j hj=>hsame (h2 j hj) (by decide)⟩
 ·obtain ⟨tv,h1,h2⟩:=h.sema (hy 10 hx0 (by decide))
  exact ⟨tv,h1.only o (fun j hj=>hno (h2 j hj) (fun e=>hx0 e.symm)),fun j hj=>hsame (h2 j hj) (by decide)⟩
 ·obtain ⟨v,n,m,q,h1,h2,h3,h4,h5⟩:=h.box (hy 11 hx0 (by decide))
  exact ⟨v,n,m,q,h1.only o (fun j hj=>hno (h5 j hj) (fun e=>hx0 e.symm)),h2,h3,h4,fun j hj=>hsame (h5 j hj) (by decide)⟩
 ·intro i hi
  obtain ⟨h1,h0,sv,h2,h3⟩:=h.gs (hy 12 hx0 (by decide)) i hi
  exact ⟨h1,h0,sv,h2.only o (hno (h.og i hi) (by rw [kind_g];exact fun e=>hx0 e.symm)),h3⟩
 ·intro i hi
  exact (h.ms (hy 13 hx0 (by decide)) i hi).only o (hno (h.ox i hi) (by rw [kind_x];exact fun e=>hx0 e.symm))
 ·rcases Nat.lt_or_ge b w.heap.size with h3 | h3
  ·rw [he b h3] at hb;exact h.ug i hi b hb
  ·rcases hn b h3 with h4 | h4 <;> omega
 ·rcases Nat.lt_or_ge b w.heap.size with h3 | h3
  ·rw [he b h3] at hb;exact h.ux i hi b hb
  ·rcases hn b h3 with h4 | h4 <;> omega
 ·rcases Nat.lt_or_ge b w.heap.size with h3 | h3
  ·rw [he b h3] at hb;exact h.lg b i hb
  ·rcases hn b h3 with h4 | h4 <;> omega
 ·rcases Nat.lt_or_ge b w.heap.size with h3 | h3
  ·rw [he b h3] at hb;exact h.lx b i hb
  ·rcases hn b h3 with h4 | h4 <;> omega
theorem RepX.turn0 {y x:Nat} {mb:Nat} {V:Vr} {own:Nat → Nat} {w w':World} {s:St} {S:Nat → Prop} (h:RepX y mb V own w s) (hyx:y = 0 ∨ y = x) (o:Only S w w') (hS:∀ j,S j → kind (own j) = x) (hx:x < 14):RepX x mb V own w' s:=
 h.turn hyx o hS hx (fun _ _=>rfl) (fun j hj=>.inl (h.fresh j hj)) (fun j hj=>h.fresh j (Nat.le_trans o.size hj))
theorem RepX.loc {y:Nat} {mb:Nat} {V:Vr} {own:Nat → Nat} {w w':World} {s:St} {S:Nat → Prop} (h:RepX y mb V own w s) (o:Only S w w') (hS:∀ j,S j → own j = 0):RepX y mb V own w' s:=by
 have hlt:∀ {j t:Nat},own j = t → t ≠ 0 → ¬ S j:=fun {j t} h1 h2 hs=>h2 (h1.symm.trans (hS j hs))
 refine ⟨fun j hj=>h.fresh j (Nat.le_trans o.size hj),h.om,h.prog.turn o (fun j hs e=>by rw [hS j hs] at e;cases e) (fun _ _=>rfl),⟨h.laid.1.only o (hlt h.laid.2 (by decide)),h.laid.2⟩,h.hold,fun hx0=>?_,fun hx0=>?_,fun hx0=>?_,fun hx0=>?_,fun hx0=>?_,fun hx0=>?_,fun hx0=>?_,fun hx0=>?_,fun hx0=>?_,fun hx0=>?_,fun hx0=>?_,fun hx0=>?_,fun hx0=>?_,h.mg,h.og,h.ug,h.ox,h.ux,h.lg,h.lx,h.lim⟩
 ·obtain ⟨h1,h2⟩:=h.gsr hx0
  exact ⟨h1.off o (fun j hj=>hlt (h2 j hj) (by decide)),h2⟩
 ·obtain ⟨h1,h2⟩:=h.msr hx0
  exact ⟨h1.off o (fun j hj=>hlt (h2 j hj) (by decide)),h2⟩
 ·obtain ⟨h1,h2⟩:=h.askr hx0
  exact ⟨h1.only o (fun j hj=>hlt (h2 j hj) (by decide)),h2⟩
 ·exact (h.mach hx0).only o (hlt h.om (by decide))
 ·obtain ⟨rv,R,h1⟩:=h.rings hx0
  refine ⟨rv,R,h1.turn o (fun j hs=>by rw [hS j hs];decide) (fun _ _=>rfl) (fun j hj=>by rw [h.fresh j hj];decide)⟩
 ·obtain ⟨tv,h1,h2⟩:=h.stat hx0
  exact ⟨tv,h1.only o (fun j hj=>hlt (h2 j hj) (by decide)),h2⟩
 ·obtain ⟨tv,h1,h2⟩:=h.all hx0
  exact ⟨tv,h1.only o (fun j hj=>hlt (h2 j hj) (by decide)),h2⟩
 ·obtain ⟨tv,h1,h2⟩:=h.idM hx0
  exact ⟨tv,h1.only o (hlt (h2 _ (.inl rfl)) (by decide)) (hlt (h2 _ (.inr rfl)) (by decide)),h2⟩
 ·obtain ⟨tv,h1,h2⟩:=h.idP hx0
  exact ⟨tv,h1.only o (hlt (h2 _ (.inl rfl)) (by decide)) (hlt (h2 _ (.inr rfl)) (by decide)),h2⟩
 ·obtain ⟨tv,h1,h2⟩:=h.sema hx0
  exact ⟨tv,h1.only o (fun j hj=>hlt (h2 j hj) (by decide)),h2⟩
 ·obtain ⟨v,n,m,q,h1,h2,h3,h4,h5⟩:=h.box hx0
  exact ⟨v,n,m,q,h1.only o (fun j hj=>hlt (h5 j hj) (by decide)),h2,h3,h4,h5⟩
 ·intro i hi
  obtain ⟨h1,h0,sv,h2,h3⟩:=h.gs hx0 i hi
  exact ⟨h1,h0,sv,h2.only o (hlt (h.og i hi) (by omega)),h3⟩
 ·intro i hi
  exact (h.ms hx0 i hi).only o (hlt (h.ox i hi) (by omega))
theorem RepX.below {y:Nat} {mb:Nat} {V:Vr} {own:Nat → Nat} {w w':World} {s:St} (h:RepX y mb V own w s) (hb:Below w.heap.size w w'):RepX y mb V own w' s:=
 h.loc (S:=fun _=>False) ((Only.refl _ w).below hb) (fun _ x=>x.elim)
theorem Ext.loc {own:Nat → Nat} {w w':World} {S:Nat → Prop} (o:Only S w w') (hS:∀ j,S j → j < w.heap.size → own j ≠ 0 ∧ own j ≠ 14):Ext own w own w':=⟨o.mono (fun j hj hs=>hS j hs hj),fun _ _=>rfl⟩
theorem Ext.below {own:Nat → Nat} {w w':World} (hb:Below w.heap.size w w'):Ext own w own w':=⟨(Only.refl _ w).below hb,fun _ _=>rfl⟩
theorem tagged {own:Nat → Nat} {w w':World} {S':Nat → Prop} {t:Nat} (hs:w.heap.size ≤ w'.heap.size) (hf:∀ j,w.heap.size ≤ j → own j = 0) (hlt:∀ j,S' j → j < w'.heap.size) (hold:∀ j,S' j → j < w.heap.size → own j = t) :
  ∃ own':Nat → Nat,(∀ j,j < w.heap.size → own' j = own j) ∧ (∀ j,S' j → own' j = t) ∧ (∀ j,w.heap.size ≤ j → own' j = 0 ∨ own' j = t) ∧ (∀ j,w'.heap.size ≤ j → own' j = 0):=by
 classical
 refine ⟨fun j=>if j < w.heap.size then own j else if S' j then t else 0,fun j hj=>if_pos hj,fun j hj=>?_,fun j hj=>?_,fun j hj=>?_⟩
 ·dsimp only
  by_cases h:j < w.heap.size
  ·rw [if_pos h];exact hold j hj h
  ·rw [if_neg h,if_pos hj]
 ·dsimp only
  rw [if_neg (by omega)]
  by_cases h:S' j
  ·rw [if_pos h];exact .inr rfl
  ·rw [if_neg h];exact .inl rfl
 ·dsimp only
  rw [if_neg (by omega),if_neg (fun h=>by have:=hlt j h;omega)]
section
variable {mb:Nat} {V:Vr} {own:Nat → Nat} {w:World} {s:St}
theorem RepX.putM (h:RepX 1 mb V own w s) (c:Sc) (hh:0 ≤ c.holder ∧ c.holder ≤ s.gs.length) (hb:Blk w mb (mcells V c) 121):Rep mb V own w { s with sc:=c }:=
 ⟨h.fresh,h.om,h.prog,h.laid,hh,fun _=>h.gsr (by decide),fun _=>h.msr (by decide),fun _=>h.askr (by decide),fun _=>hb,fun _=>h.rings (by decide),fun _=>h.stat (by decide),fun _=>h.all (by decide),fun _=>h.idM (by decide),fun _=>h.idP (by decide),fun _=>h.sema (by decide),fun _=>h.box (by decide),fun _=>h.gs (by decide),fun _=>h.ms (by decide),h.mg,h.og,h.ug,h.ox,h.ux,h.lg,h.lx,h.lim⟩
theorem RepX.putAsk (h:RepX 4 mb V own w s) (l:List Pc) (hb:AskP w V.askv l ∧ ∀ j,V.askv.ownBlock = some j → own j = 4):Rep mb V own w { s with asked:=l }:=
 ⟨h.fresh,h.om,h.prog,h.laid,h.hold,fun _=>h.gsr (by decide),fun _=>h.msr (by decide),fun _=>hb,fun _=>h.mach (by decide),fun _=>h.rings (by decide),fun _=>h.stat (by decide),fun _=>h.all (by decide),fun _=>h.idM (by decide),fun _=>h.idP (by decide),fun _=>h.sema (by decide),fun _=>h.box (by decide),fun _=>h.gs (by decide),fun _=>h.ms (by decide),h.mg,h.og,h.ug,h.ox,h.ux,h.lg,h.lx,h.lim⟩
theorem RepX.putRings (h:RepX 5 mb V own w s) (l:List Rs) (hlm:l.length ≤ 256) (hb:∃ rv R,RgP own w V.procs rv R l):Rep mb V own w { s with rings:=l }:=
 ⟨h.fresh,h.om,h.prog,h.laid,h.hold,fun _=>h.gsr (by decide),fun _=>h.msr (by decide),fun _=>h.askr (by decide),fun _=>h.mach (by decide),fun _=>hb,fun _=>h.stat (by decide),fun _=>h.all (by decide),fun _=>h.idM (by decide),fun _=>h.idP (by decide),fun _=>h.sema (by decide),fun _=>h.box (by decide),fun _=>h.gs (by decide),fun _=>h.ms (by decide),h.mg,h.og,h.ug,h.ox,h.ux,h.lg,h.lx,⟨h.lim.1,h.lim.2.1,hlm⟩⟩
theorem RepX.putStat (h:RepX 6 mb V own w s) (l:List Pr) (hb:∃ tv,Pstat.Tb w V.stat tv l ∧ ∀ j,Pstat.Tf V.stat tv j → own j = 6):Rep mb V own w { s with stat:=l }:=
 ⟨h.fresh,h.om,h.prog,h.laid,h.hold,fun _=>h.gsr (by decide),fun _=>h.msr (by decide),fun _=>h.askr (by decide),fun _=>h.mach (by decide),fun _=>h.rings (by decide),fun _=>hb,fun _=>h.all (by decide),fun _=>h.idM (by decide),fun _=>h.idP (by decide),fun _=>h.sema (by decide),fun _=>h.box (by decide),fun _=>h.gs (by decide),fun _=>h.ms (by decide),h.mg,h.og,h.ug,h.ox,h.ux,h.lg,h.lx,h.lim⟩
theorem RepX.putAll (h:RepX 7 mb V own w s) (l:List Int) (hb:∃ S,Glob.Queue w V.all S l ∧ ∀ j,S j → own j = 7):Rep mb V own w { s with all:=l }:=
 ⟨h.fresh,h.om,h.prog,h.laid,h.hold,fun _=>h.gsr (by decide),fun _=>h.msr (by decide),fun _=>h.askr (by decide),fun _=>h.mach (by decide),fun _=>h.rings (by decide),fun _=>h.stat (by decide),fun _=>hb,fun _=>h.idM (by decide),fun _=>h.idP (by decide),fun _=>h.sema (by decide),fun _=>h.box (by decide),fun _=>h.gs (by decide),fun _=>h.ms (by decide),h.mg,h.og,h.ug,h.ox,h.ux,h.lg,h.lx,h.lim⟩
theorem RepX.putIdM (h:RepX 8 mb V own w s) (l:List Int) (hb:∃ g,Idle.St w V.idM g 64 l ∧ ∀ j,Idle.TwoOf V.idM g j → own j = 8):Rep mb V own w { s with idleM:=l }:=
 ⟨h.fresh,h.om,h.prog,h.laid,h.hold,fun _=>h.gsr (by decide),fun _=>h.msr (by decide),fun _=>h.askr (by decide),fun _=>h.mach (by decide),fun _=>h.rings (by decide),fun _=>h.stat (by decide),fun _=>h.all (by decide),fun _=>hb,fun _=>h.idP (by decide),fun _=>h.sema (by decide),fun _=>h.box (by decide),fun _=>h.gs (by decide),fun _=>h.ms (by decide),h.mg,h.og,h.ug,h.ox,h.ux,h.lg,h.lx,h.lim⟩
theorem RepX.putIdP (h:RepX 9 mb V own w s) (l:List Int) (hb:∃ g,Idle.St w V.idP g 256 l ∧ ∀ j,Idle.TwoOf V.idP g j → own j = 9):Rep mb V own w { s with idleP:=l }:=
 ⟨h.fresh,h.om,h.prog,h.laid,h.hold,fun _=>h.gsr (by decide),fun _=>h.msr (by decide),fun _=>h.askr (by decide),fun _=>h.mach (by decide),fun _=>h.rings (by decide),fun _=>h.stat (by decide),fun _=>h.all (by decide),fun _=>h.idM (by decide),fun _=>hb,fun _=>h.sema (by decide),fun _=>h.box (by decide),fun _=>h.gs (by decide),fun _=>h.ms (by decide),h.mg,h.og,h.ug,h.ox,h.ux,h.lg,h.lx,h.lim⟩
theorem RepX.putSema (h:RepX 10 mb V own w s) (ow:Int) (l:List Int) (hb:∃ v,Sema.Sm w V.sema ow v l ∧ ∀ j,Sema.Sf V.sema v j → own j = 10):Rep mb V own w { s with owner:=ow,waits:=l }:=
 ⟨h.fresh,h.om,h.prog,h.laid,h.hold,fun _=>h.gsr (by decide),fun _=>h.msr (by decide),fun _=>h.askr (by decide),fun _=>h.mach (by decide),fun _=>h.rings (by decide),fun _=>h.stat (by decide),fun _=>h.all (by decide),fun _=>h.idM (by decide),fun _=>h.idP (by decide),fun _=>hb,fun _=>h.box (by decide),fun _=>h.gs (by decide),fun _=>h.ms (by decide),h.mg,h.og,h.ug,h.ox,h.ux,h.lg,h.lx,h.lim⟩
theorem RepX.putBox (h:RepX 11 mb V own w s) (l:List (Option Int)) (hb:BxP own w V.box l):Rep mb V own w { s with box:=l }:=
 ⟨h.fresh,h.om,h.prog,h.laid,h.hold,fun _=>h.gsr (by decide),fun _=>h.msr (by decide),fun _=>h.askr (by decide),fun _=>h.mach (by decide),fun _=>h.rings (by decide),fun _=>h.stat (by decide),fun _=>h.all (by decide),fun _=>h.idM (by decide),fun _=>h.idP (by decide),fun _=>h.sema (by decide),fun _=>hb,fun _=>h.gs (by decide),fun _=>h.ms (by decide),h.mg,h.og,h.ug,h.ox,h.ux,h.lg,h.lx,h.lim⟩
end
theorem getD_set {α:Type} (l:List α) (i j:Nat) (x d:α):(l.set i x)[j]?.getD d = if i = j ∧ j < l.length then x else l[j]?.getD d:=by
 rw [List.getElem?_set]
 by_cases h:i = j
 ·subst h
  by_cases h2:i < l.length
  ·simp [h2]
  ·simp [h2]
 ·simp [h]
theorem Rep.putG {mb:Nat} {V:Vr} {own:Nat → Nat} {w w':World} {s:St} (h:Rep mb V own w s) {i:Nat} (hi:i < s.gs.length) (o:Only (fun j=>j = V.gb i) w w') (x:G) (hx:GAt own w' (V.gb i) i x):Rep mb V own w' { s with gs:=s.gs.set i x }:=by
 have h':=h.turn0 (x:=12) (.inl rfl) o (fun j hj=>by rw [hj,h.og i hi,kind_g]) (by decide)
 have hl:(s.gs.set i x).length = s.gs.length:=by simp
 refine ⟨h'.fresh,h'.om,h'.prog,h'.laid,by rw [hl];exact h.hold,fun _=>by rw [hl];exact h'.gsr (by decide),fun _=>h'.msr (by decide),fun _=>h'.askr (by decide),fun _=>h'.mach (by decide),fun _=>h'.rings (by decide),fun _=>h'.stat (by decide),fun _=>h'.all (by decide),fun _=>h'.idM (by decide),fun _=>h'.idP (by decide),fun _=>h'.sema (by decide),fun _=>h'.box (by decide),fun _ k hk=>?_,fun _=>h'.ms (by decide),fun j hj=>by rw [hl];exact h.mg j hj,fun k hk=>h.og k (by rw [hl] at hk;exact hk),fun k hk=>h.ug k (by rw [hl] at hk;exact hk),h.ox,h.ux,fun b k hb=>by rw [hl];exact h.lg b k hb,h.lx,by rw [hl];exact h.lim⟩
 rw [hl] at hk
 show GAt own w' (V.gb k) k ((s.gs.set i x)[k]?.getD g0)
 rw [getD_set]
 by_cases e:i = k
 ·subst e;rw [if_pos ⟨rfl,hk⟩];exact hx
 ·rw [if_neg (fun hh=>e hh.1)]
  obtain ⟨h1,h0,sv,h2,h3⟩:=h.gs (by decide) k hk
  refine ⟨h1,h0,sv,h2.only o (fun e2=>e ?_),h3⟩
  have a1:=h.og i hi
  have a2:=h.og k hk
  rw [show V.gb k = V.gb i from e2] at a2
  omega
theorem Rep.putX {mb:Nat} {V:Vr} {own:Nat → Nat} {w w':World} {s:St} (h:Rep mb V own w s) {i:Nat} (hi:i < s.ms.length) (o:Only (fun j=>j = V.xb i) w w') (x:M1) (hg:0 ≤ x.g ∧ x.g ≤ s.gs.length) (hx:Blk w' (V.xb i) (xcells V.gb i x) 125):Rep mb V own w' { s with ms:=s.ms.set i x }:=by
 have h':=h.turn0 (x:=13) (.inl rfl) o (fun j hj=>by rw [hj,h.ox i hi,kind_x]) (by decide)
 have hl:(s.ms.set i x).length = s.ms.length:=by simp
 refine ⟨h'.fresh,h'.om,h'.prog,h'.laid,h.hold,fun _=>h'.gsr (by decide),fun _=>by rw [hl];exact h'.msr (by decide),fun _=>h'.askr (by decide),fun _=>h'.mach (by decide),fun _=>h'.rings (by decide),fun _=>h'.stat (by decide),fun _=>h'.all (by decide),fun _=>h'.idM (by decide),fun _=>h'.idP (by decide),fun _=>h'.sema (by decide),fun _=>h'.box (by decide),fun _=>h'.gs (by decide),fun _ k hk=>?_,fun k hk=>?_,h.og,h.ug,fun k hk=>h.ox k (by rw [hl] at hk;exact hk),fun k hk=>h.ux k (by rw [hl] at hk;exact hk),h.lg,fun b k hb=>by rw [hl];exact h.lx b k hb,by rw [hl];exact h.lim⟩
 ·rw [hl] at hk
  show Blk w' (V.xb k) (xcells V.gb k ((s.ms.set i x)[k]?.getD m0)) 125
  rw [getD_set]
  by_cases e:i = k
  ·subst e;rw [if_pos ⟨rfl,hk⟩];exact hx
  ·rw [if_neg (fun hh=>e hh.1)]
   refine (h.ms (by decide) k hk).only o (fun e2=>e ?_)
   have a1:=h.ox i hi
   have a2:=h.ox k hk
   rw [show V.xb k = V.xb i from e2] at a2
   omega
 ·rw [hl] at hk
  show 0 ≤ ((s.ms.set i x)[k]?.getD m0).g ∧ ((s.ms.set i x)[k]?.getD m0).g ≤ s.gs.length
  rw [getD_set]
  by_cases e:i = k
  ·subst e;rw [if_pos ⟨rfl,hk⟩];exact hg
  ·rw [if_neg (fun hh=>e hh.1)];exact h.mg k hk
end Go.Proofs.YtgadhchejmlfjaaGreatDoor.Mac
end
section
namespace Go.Proofs.YtgadhchejmlfjaaGreatDoor.Mac
open Go.RowKit Go.Esc
open Go.Proofs.YtgadhchejmlfjaaGreatDoor.Pstat (Pr pz)
section
variable {mb:Nat} {V:Vr} {own:Nat → Nat} {w:World} {s:St}
theorem Rep.statP (h:Rep mb V own w s) {f:Int} {l:List Pr} {e:Ending} {w':World} {tv:Value} (ht:∀ j,Pstat.Tf V.stat tv j → own j = 6) (hp:Pstat.PostT V.stat tv l f w e w'):DoesV mb V own w (.int .i64 f) { s with stat:=l } e w':=by
 obtain ⟨rfl,tv',hT,hO,hG⟩:=hp
 obtain ⟨own',a1,a2,a3,a4⟩:=tagged (t:=6) hO.size h.fresh (fun j hj=>hT.lt hj) (fun j hj hlt=>(hG j hj).elim (ht j) (fun x=>by omega))
 exact ⟨rfl,own',(h.turn (x:=6) (.inl rfl) hO (fun j hj=>by rw [ht j hj];rfl) (by decide) a1 (fun j hj=>(a3 j hj).imp id (fun e=>by rw [e];decide)) a4).putStat l ⟨tv',hT,a2⟩,hO.mono (fun j _ hj=>by rw [ht j hj];decide),a1⟩
theorem Rep.enter (h:Rep mb V own w s) (p:Int):Calls Tryz.prog 301 #[ptr V.stat,.int .i64 p] w (DoesV mb V own w (.int .i64 (Pstat.turnF s.stat p (fun s wh=>s == 1))) { s with stat:=Pstat.turnL s.stat p (fun s wh=>(2,wh)) (fun s wh=>s == 1) }):=by
 obtain ⟨tv,hT,ht⟩:=h.stat (by decide);exact (Pstat.enter_any _ _ _ p w hT).mono (fun e w' hp=>h.statP ht hp)
theorem Rep.srelease (h:Rep mb V own w s) (p:Int):Calls Tryz.prog 172 #[ptr V.stat,.int .i64 p] w (DoesV mb V own w (.int .i64 (Pstat.turnF s.stat p (fun s wh=>s == 1))) { s with stat:=Pstat.turnL s.stat p (fun s wh=>(0, -1)) (fun s wh=>s == 1) }):=by
 obtain ⟨tv,hT,ht⟩:=h.stat (by decide);exact (Pstat.release_any _ _ _ p w hT).mono (fun e w' hp=>h.statP ht hp)
theorem Rep.sstop (h:Rep mb V own w s) (p:Int):Calls Tryz.prog 173 #[ptr V.stat,.int .i64 p] w (DoesV mb V own w (.int .i64 (Pstat.turnF s.stat p (fun s wh=>Pstat.stopB s))) { s with stat:=Pstat.turnL s.stat p Pstat.stopX (fun s wh=>Pstat.stopB s) }):=by
 obtain ⟨tv,hT,ht⟩:=h.stat (by decide);exact (Pstat.stop_any _ _ _ p w hT).mono (fun e w' hp=>h.statP ht hp)
theorem Rep.sgo (h:Rep mb V own w s) (p:Int):Calls Tryz.prog 299 #[ptr V.stat,.int .i64 p] w (DoesV mb V own w (.int .i64 (Pstat.turnF s.stat p (fun s wh=>s == 3))) { s with stat:=Pstat.turnL s.stat p (fun s wh=>Pstat.goX wh) (fun s wh=>s == 3) }):=by
 obtain ⟨tv,hT,ht⟩:=h.stat (by decide);exact (Pstat.go_any _ _ _ p w hT).mono (fun e w' hp=>h.statP ht hp)
theorem Rep.stake (h:Rep mb V own w s) (p m:Int):Calls Tryz.prog 49 #[ptr V.stat,.int .i64 p,.int .i64 m] w (DoesV mb V own w (.int .i64 (Pstat.byF s.stat p m (fun s wh=>s == 0))) { s with stat:=Pstat.byL s.stat p m (fun s wh=>(1,m)) (fun s wh=>s == 0) }):=by
 obtain ⟨tv,hT,ht⟩:=h.stat (by decide);exact (Pstat.take_any _ _ _ p m w hT).mono (fun e w' hp=>h.statP ht hp)
theorem Rep.sget (h:Rep mb V own w s) (p:Int):Calls Tryz.prog 58 #[ptr V.stat,.int .i64 p] w fun e w'=>e = .returned (.int .i64 (Pstat.getL s.stat p)) ∧ w = w':=by
 obtain ⟨tv,hT,ht⟩:=h.stat (by decide);exact Pstat.get_any _ _ _ p w hT
theorem Rep.swho (h:Rep mb V own w s) (p:Int):Calls Tryz.prog 59 #[ptr V.stat,.int .i64 p] w fun e w'=>e = .returned (.int .i64 (Pstat.whoL s.stat p)) ∧ w = w':=by
 obtain ⟨tv,hT,ht⟩:=h.stat (by decide);exact Pstat.who_any _ _ _ p w hT
theorem Rep.allS (h:Rep mb V own w s) {S S':Nat → Prop} {L:List Int} {w':World} (ht:∀ j,S j → own j = 7) (hQ:Glob.Queue w' V.all S' L) (hO:Only S w w') (hG:Glob.Gr S S' w):∃ own',Rep mb V own' w' { s with all:=L } ∧ Ext own w own' w' ∧ ∀ j,S' j → own' j = 7:=by
 obtain ⟨own',a1,a2,a3,a4⟩:=tagged (t:=7) hO.size h.fresh (fun j hj=>hQ.lt hj) (fun j hj hlt=>(hG j hj).elim (ht j) (fun x=>by omega))
 exact ⟨own',(h.turn (x:=7) (.inl rfl) hO (fun j hj=>by rw [ht j hj];rfl) (by decide) a1 (fun j hj=>(a3 j hj).imp id (fun e=>by rw [e];decide)) a4).putAll L ⟨S',hQ,a2⟩,⟨hO.mono (fun j _ hj=>by rw [ht j hj];decide),a1⟩,a2⟩
theorem Rep.aput (h:Rep mb V own w s) (u:Value) (l:List Int) (hu:Slw w u l) (ho:l ≠ [] → ∀ j,u.ownBlock = some j → own j ≠ 7) (hl:s.all.length + l.length < 10000000) :
  Calls Tryz.prog 243 #[ptr V.all,u] w (DoesV mb V own w (.int .i64 ((s.all ++ Glob.right l).length:Nat)) { s with all:=s.all ++ Glob.right l }):=by
 obtain ⟨S,hQ,ht⟩:=h.all (by decide)
 refine (Glob.put_any2 _ S _ u l w hQ hu (fun hne j hj hs=>ho hne j hj (ht j hs)) hl).mono ?_
 rintro e w' ⟨rfl,S',hQ',hO,hG⟩
 obtain ⟨own',hR,hE,_⟩:=h.allS ht hQ' hO hG
 exact ⟨rfl,own',hR,hE⟩
theorem Rep.aput1 (h:Rep mb V own w s) (x:Int) (hl:s.all.length < 1000000) :
  Calls Tryz.prog 243 #[ptr V.all,.slice (some ⟨w.heap.size,0,none⟩) 1 1] (w.alloc (.cells #[.int .i64 x] 3)) fun e w'=>(∃ n,e = .returned (.int .i64 n)) ∧ ∃ own',Rep mb V own' w' { s with all:=s.all ++ Glob.right [x] } ∧ Ext own w own' w':=by
 obtain ⟨S,hQ,ht⟩:=h.all (by decide)
 refine (Glob.put_one w _ S _ x hQ (by omega)).mono ?_
 rintro e w' ⟨⟨n,rfl⟩,S',hQ',hO,hG⟩
 obtain ⟨own',hR,hE,_⟩:=h.allS ht hQ' hO hG
 exact ⟨⟨n,rfl⟩,own',hR,hE⟩
theorem Rep.aget (h:Rep mb V own w s) (hl:s.all.length < 1000000):Calls Tryz.prog 240 #[ptr V.all] w (DoesV mb V own w (.tuple #[.int .i64 (s.all.headD 0),.bool (!s.all.isEmpty)]) { s with all:=s.all.tail }):=by
 obtain ⟨S,hQ,ht⟩:=h.all (by decide)
 refine (Glob.get_any _ S _ w hQ (by omega)).mono ?_
 rintro e w' ⟨rfl,S',hQ',hO,hG⟩
 obtain ⟨own',hR,hE,_⟩:=h.allS ht hQ' hO hG
 exact ⟨rfl,own',hR,hE⟩
def DoesL (mb:Nat) (V:Vr) (own:Nat → Nat) (w:World) (l:List Int) (s':St) (e:Ending) (w':World):Prop:=
 ∃ v,e = .returned v ∧ OwnI w' w.heap.size v l ∧ ∃ own',Rep mb V own' w' s' ∧ Ext own w own' w' ∧ ∀ j,v.ownBlock = some j → own' j = 0
theorem Rep.abatch (h:Rep mb V own w s) (p m:Int) (hl:s.all.length < 1000000):Calls Tryz.prog 242 #[ptr V.all,.int .i64 p,.int .i64 m] w (DoesL mb V own w (s.all.take (manyZ s.all.length p m).toNat) { s with all:=s.all.drop (manyZ s.all.length p m).toNat }):=by
 obtain ⟨S,hQ,ht⟩:=h.all (by decide)
 refine (Glob.batch_any _ S _ p m w hQ (by omega)).mono ?_
 rintro e w' ⟨v,S',rfl,hv,hQ',hO,hG,hOff⟩
 classical
 obtain ⟨own',hR,hE,h7⟩:=h.allS ht hQ' hO hG
 refine ⟨v,rfl,hv,?_⟩
 refine ⟨fun j=>if w.heap.size ≤ j ∧ ¬ S' j then 0 else own' j,?_,⟨hE.only,fun j hj=>?_⟩,fun j hj=>if_pos ⟨(hv.lt j hj).1,hOff j hj⟩⟩
 rotate_left
 ·rw [if_neg (by omega)];exact hE.same j hj
 have hO2:=hO
 refine (h.turn (x:=7) (.inl rfl) hO (fun j hj=>by rw [ht j hj];rfl) (by decide) (fun j hj=>?_) (fun j hj=>?_) (fun j hj=>?_)).putAll _ ⟨S',hQ',fun j hj=>?_⟩
 ·rw [if_neg (by omega)];exact hE.same j hj
 ·by_cases h1:S' j
  ·rw [if_neg (fun hh=>hh.2 h1),h7 j h1];right;decide
  ·rw [if_pos ⟨hj,h1⟩];exact .inl rfl
 ·by_cases h1:S' j
  ·have:=hQ'.lt h1;omega
  ·rw [if_pos ⟨Nat.le_trans hO.size hj,h1⟩]
 ·rw [if_neg (fun hh=>hh.2 hj)];exact h7 j hj
theorem Rep.alen (h:Rep mb V own w s) (hl:s.all.length < 1000000):Calls Tryz.prog 284 #[ptr V.all] w fun e w'=>e = .returned (.int .i64 s.all.length) ∧ ∃ n,w' = w.drewN n:=by
 obtain ⟨S,hQ,ht⟩:=h.all (by decide)
 exact Glob.len_any _ S _ w hQ (by omega)
theorem Rep.alist (h:Rep mb V own w s) (hl:s.all.length < 1000000):Calls Tryz.prog 61 #[ptr V.all] w (Glob.ListPost s.all w):=by
 obtain ⟨S,hQ,ht⟩:=h.all (by decide)
 exact Glob.list_any _ S _ w hQ (by omega)
theorem Rep.mput (h:Rep mb V own w s) (id:Int):Calls Tryz.prog 48 #[ptr V.idM,.int .i64 id] w (DoesV mb V own w (.bool (Idle.putB 64 s.idleM id)) { s with idleM:=Idle.putL 64 s.idleM id }):=by
 obtain ⟨g,hT,ht⟩:=h.idM (by decide)
 refine (Idle.put_any _ g 64 _ id w hT).mono ?_
 rintro e w' ⟨rfl,hT',hO⟩
 exact ⟨rfl,own,(h.turn0 (x:=8) (.inl rfl) hO (fun j hj=>by rw [ht j hj];rfl) (by decide)).putIdM _ ⟨g,hT',ht⟩,Ext.loc hO (fun j hj _=>by rw [ht j hj];decide)⟩
theorem Rep.pput (h:Rep mb V own w s) (id:Int):Calls Tryz.prog 48 #[ptr V.idP,.int .i64 id] w (DoesV mb V own w (.bool (Idle.putB 256 s.idleP id)) { s with idleP:=Idle.putL 256 s.idleP id }):=by
 obtain ⟨g,hT,ht⟩:=h.idP (by decide)
 refine (Idle.put_any _ g 256 _ id w hT).mono ?_
 rintro e w' ⟨rfl,hT',hO⟩
 exact ⟨rfl,own,(h.turn0 (x:=9) (.inl rfl) hO (fun j hj=>by rw [ht j hj];rfl) (by decide)).putIdP _ ⟨g,hT',ht⟩,Ext.loc hO (fun j hj _=>by rw [ht j hj];decide)⟩
theorem Rep.pdrop (h:Rep mb V own w s) (id:Int):Calls Tryz.prog 191 #[ptr V.idP,.int .i64 id] w (DoesV mb V own w (.bool (decide (id ∈ s.idleP))) { s with idleP:=s.idleP.erase id }):=by
 obtain ⟨g,hT,ht⟩:=h.idP (by decide)
 refine (Idle.drop_any _ g 256 _ id w hT).mono ?_
 rintro e w' ⟨rfl,hT',hO⟩
 exact ⟨rfl,own,(h.turn0 (x:=9) (.inl rfl) hO (fun j hj=>by rw [ht j hj];rfl) (by decide)).putIdP _ ⟨g,hT',ht⟩,Ext.loc hO (fun j hj _=>by rw [ht j hj];decide)⟩
theorem Rep.mget (h:Rep mb V own w s):Calls Tryz.prog 334 #[ptr V.idM] w (DoesV mb V own w (.tuple #[.int .i64 (s.idleM.headD 0),.bool (!s.idleM.isEmpty)]) { s with idleM:=s.idleM.tail }):=by
 obtain ⟨g,hT,ht⟩:=h.idM (by decide)
 refine (Idle.get_any _ g 64 _ w hT).mono ?_
 rintro e w' ⟨rfl,hT',hO⟩
 exact ⟨rfl,own,(h.turn0 (x:=8) (.inl rfl) hO (fun j hj=>by rw [ht j hj];rfl) (by decide)).putIdM _ ⟨g,hT',ht⟩,Ext.loc hO (fun j hj _=>by rw [ht j hj];decide)⟩
theorem Rep.mlen (h:Rep mb V own w s):Calls Tryz.prog 262 #[ptr V.idM] w fun e w'=>e = .returned (.int .i64 s.idleM.length) ∧ w = w':=by
 obtain ⟨g,hT,ht⟩:=h.idM (by decide);exact Idle.len_any _ g 64 _ w hT
theorem Rep.plen (h:Rep mb V own w s):Calls Tryz.prog 262 #[ptr V.idP] w fun e w'=>e = .returned (.int .i64 s.idleP.length) ∧ w = w':=by
 obtain ⟨g,hT,ht⟩:=h.idP (by decide);exact Idle.len_any _ g 256 _ w hT
theorem Rep.ppeek (h:Rep mb V own w s):Calls Tryz.prog 189 #[ptr V.idP] w fun e w'=>e = .returned (.tuple #[.int .i64 (s.idleP.headD 0),.bool (!s.idleP.isEmpty)]) ∧ w = w':=by
 obtain ⟨g,hT,ht⟩:=h.idP (by decide)
 cases hs:s.idleP with
 | nil=>rw [hs] at hT;exact Idle.peek_nil _ g 256 w hT
 | cons a x=>rw [hs] at hT;exact Idle.peek_cons _ g 256 a x w hT
theorem Rep.semaS (h:Rep mb V own w s) {v:Value} {ow:Int} {l:List Int} {w':World} (ht:∀ j,Sema.Sf V.sema v j → own j = 10) (hp:Sema.Sp V.sema ow v l w w'):∃ own',Rep mb V own' w' { s with owner:=ow,waits:=l } ∧ Ext own w own' w':=by
 obtain ⟨v',hT,hO,hG⟩:=hp
 obtain ⟨own',a1,a2,a3,a4⟩:=tagged (t:=10) (S':=Sema.Sf V.sema v') hO.size h.fresh (fun j hj=>by rcases hj with rfl | hj;exact hT.blk.lt;exact hT.live j hj) (fun j hj hlt=>by
  rcases hj with rfl | hj
  ·exact ht _ (.inl rfl)
  ·exact (hG j hj).elim (fun x=>ht j (.inr x)) (fun x=>by omega))
 exact ⟨own',(h.turn (x:=10) (.inl rfl) hO (fun j hj=>by rw [ht j hj];rfl) (by decide) a1 (fun j hj=>(a3 j hj).imp id (fun e=>by rw [e];decide)) a4).putSema ow l ⟨v',hT,a2⟩,hO.mono (fun j _ hj=>by rw [ht j hj];decide),a1⟩
theorem Rep.acquire (h:Rep mb V own w s) (g:Int) (hl:s.waits.length < 1000000):Calls Tryz.prog 294 #[ptr V.sema,.int .i64 g] w (DoesV mb V own w (.tuple #[.bool (Sema.acqB s.owner g),.int .i64 (Sema.acqF g)]) { s with owner:=Sema.acqO s.owner g,waits:=Sema.acqL s.owner s.waits g }):=by
 obtain ⟨v,hT,ht⟩:=h.sema (by decide)
 refine (Sema.acquire_any _ _ v _ g w hT hl).mono ?_
 rintro e w' ⟨rfl,hp⟩
 obtain ⟨own',hR,hE⟩:=h.semaS ht hp
 exact ⟨rfl,own',hR,hE⟩
theorem Rep.semrel (h:Rep mb V own w s) (g:Int) (hl:s.waits.length < 1000000):Calls Tryz.prog 261 #[ptr V.sema,.int .i64 g] w (DoesV mb V own w (.tuple #[.int .i64 (Sema.relV s.owner s.waits g),.int .i64 (Sema.relF s.owner g)]) { s with owner:=Sema.relO s.owner s.waits g,waits:=Sema.relL s.owner s.waits g }):=by
 obtain ⟨v,hT,ht⟩:=h.sema (by decide)
 refine (Sema.release_any _ _ v _ g w hT hl).mono ?_
 rintro e w' ⟨rfl,hp⟩
 obtain ⟨own',hR,hE⟩:=h.semaS ht hp
 exact ⟨rfl,own',hR,hE⟩
def upR (R:Nat → Procs.Rn) (i:Nat) (nx:Int) (row:List Int):Nat → Procs.Rn:=fun k=>if k = i then ⟨(R i).b,(R i).g,nx,row⟩ else R k
theorem upR_b (R:Nat → Procs.Rn) (i:Nat) (nx:Int) (row:List Int) (k:Nat):(upR R i nx row k).b = (R k).b:=by
 unfold upR;by_cases e:k = i
 ·rw [if_pos e,e]
 ·rw [if_neg e]
theorem upR_g (R:Nat → Procs.Rn) (i:Nat) (nx:Int) (row:List Int) (k:Nat):(upR R i nx row k).g = (R k).g:=by
 unfold upR;by_cases e:k = i
 ·rw [if_pos e,e]
 ·rw [if_neg e]
theorem RgP.set {own:Nat → Nat} {w w':World} {p:Nat} {rv:Value} {R:Nat → Procs.Rn} {l:List Rs} (h:RgP own w p rv R l) (i:Nat) (hi:i < l.length) {nx:Int} {row:List Int} (hw:Ring.Rw w' (R i).b (R i).g 256 nx row) (o:Only (Ring.Sg (R i).b (R i).g) w w') :
  RgP own w' p rv (upR R i nx row) (l.set i ⟨nx,row⟩):=by
 have hl:(l.set i (⟨nx,row⟩:Rs)).length = l.length:=by simp
 refine ⟨⟨?_,?_,?_,?_,?_,?_,?_⟩,?_,h.op,h.orv,?_,?_,?_⟩
 ·exact h.prc.blk.only o (h.prc.rp i hi)
 ·rw [hl]
  have:Procs.ptrs l.length (upR R i nx row) = Procs.ptrs l.length R:=by
   unfold Procs.ptrs
   exact List.map_congr_left fun k _=>by rw [upR_b]
  rw [this]
  exact h.prc.own.off o (h.prc.rr i hi)
 ·intro k hk
  rw [hl] at hk
  rw [upR_b,upR_g]
  by_cases e:k = i
  ·subst e;simp only [upR,if_true];exact hw
  ·simp only [upR,if_neg e]
   exact (h.prc.ring k hk).only o (fun j hj=>h.prc.dis k i hk hi e j hj)
 ·exact h.prc.np
 ·intro k hk;rw [hl] at hk;rw [upR_b,upR_g];exact h.prc.rp k hk
 ·intro k hk;rw [hl] at hk;rw [upR_b,upR_g];exact h.prc.rr k hk
 ·intro a b ha hb' hne;rw [hl] at ha hb';rw [upR_b,upR_g,upR_b,upR_g];exact h.prc.dis a b ha hb' hne
 ·intro k hk
  rw [hl] at hk
  rw [getD_set]
  by_cases e:k = i
  ·subst e;simp [hk,upR]
  ·rw [if_neg (fun hh=>e hh.1.symm)];simp only [upR,if_neg e];exact h.is k hk
 ·intro k hk;rw [hl] at hk;rw [upR_b];exact h.ob k hk
 ·intro k hk;rw [hl] at hk;rw [upR_g];exact h.og k hk
 ·intro k hk b hb';rw [hl] at hk;rw [upR_b];exact h.ub k hk b hb'
theorem Rep.ring (h:Rep mb V own w s) (p:Nat) (hp:p < s.rings.length):Calls Tryz.prog 50 #[ptr V.procs,.int .i64 p] w fun e w'=>(∃ b,e = .returned (ptr b) ∧ own b = 23 + 5 * p) ∧ w = w':=by
 obtain ⟨rv,R,hT⟩:=h.rings (by decide)
 refine (Procs.ring_any _ rv _ R p w hT.prc).mono ?_
 rintro e w' ⟨rfl,rfl⟩
 refine ⟨⟨(R p).b,?_,hT.ob p hp⟩,rfl⟩
 unfold Procs.ringP
 rw [if_pos ⟨by omega,by omega⟩,Int.toNat_natCast]
theorem Rep.prlen (h:Rep mb V own w s):Calls Tryz.prog 57 #[ptr V.procs] w fun e w'=>e = .returned (.int .i64 s.rings.length) ∧ w = w':=by
 obtain ⟨rv,R,hT⟩:=h.rings (by decide)
 exact Procs.len_any _ rv _ R w hT.prc
def totN (l:List Rs):Nat → Nat
 | 0=>0
 | n + 1=>totN l n + (Ring.allL (l[n]?.getD r0).nx (l[n]?.getD r0).row).length
theorem RgP.tot {own:Nat → Nat} {w:World} {p:Nat} {rv:Value} {R:Nat → Procs.Rn} {l:List Rs} (h:RgP own w p rv R l) (n:Nat) (hn:n ≤ l.length):Procs.tot R n = totN l n:=by
 induction n with
 | zero=>rfl
 | succ n ih=>simp only [Procs.tot,totN,ih (by omega),Procs.lenR,(h.is n (by omega)).1,(h.is n (by omega)).2]
theorem Rep.total (h:Rep mb V own w s):Calls Tryz.prog 292 #[ptr V.procs] w fun e w'=>e = .returned (.int .i64 (totN s.rings s.rings.length)) ∧ ∃ m,w' = w.drewN m:=by
 obtain ⟨rv,R,hT⟩:=h.rings (by decide)
 rw [← hT.tot _ (Nat.le_refl _)]
 exact Procs.total_any _ rv _ R w hT.prc h.lim.2.2
def qsM (l:List Rs):List (List Int):=l.map fun r=>Ring.allL r.nx r.row
theorem RgP.qs {own:Nat → Nat} {w:World} {p:Nat} {rv:Value} {R:Nat → Procs.Rn} {l:List Rs} (h:RgP own w p rv R l):Procs.qs R l.length = qsM l:=by
 unfold Procs.qs qsM
 apply List.ext_getElem
 ·simp
 ·intro i h1 h2
  have hi:i < l.length:=by simpa using h2
  have:=h.is i hi
  simp only [List.getElem_map,List.getElem_range,this.1,this.2]
  rw [List.getElem?_eq_getElem hi];rfl
theorem Rep.queues (h:Rep mb V own w s):Calls Tryz.prog 60 #[ptr V.procs] w (Procs.QsPost (qsM s.rings) w):=by
 obtain ⟨rv,R,hT⟩:=h.rings (by decide)
 rw [← hT.qs]
 exact Procs.queues_any _ rv _ R w hT.prc h.lim.2.2
def rAt (s:St) (p:Nat):Rs:=s.rings[p]?.getD r0
theorem Rep.ringS (h:Rep mb V own w s) {rv:Value} {R:Nat → Procs.Rn} (hT:RgP own w V.procs rv R s.rings) {p:Nat} (hp:p < s.rings.length) {nx:Int} {row:List Int} {w':World} (hw:Ring.Rw w' (R p).b (R p).g 256 nx row) (o:Only (Ring.Sg (R p).b (R p).g) w w') :
  Rep mb V own w' { s with rings:=s.rings.set p ⟨nx,row⟩ } ∧ Ext own w own w':=by
 have hk:∀ j,Ring.Sg (R p).b (R p).g j → kind (own j) = 5 ∧ own j ≠ 0 ∧ own j ≠ 14:=by
  rintro j (rfl | rfl)
  ·rw [hT.ob p hp];exact ⟨kind_r p,by omega⟩
  ·rw [hT.og p hp];exact ⟨kind_ra p,by omega⟩
 exact ⟨(h.turn0 (x:=5) (.inl rfl) o (fun j hj=>(hk j hj).1) (by decide)).putRings _ (by rw [List.length_set];exact h.lim.2.2) ⟨rv,_,hT.set p hp hw o⟩,Ext.loc o (fun j hj _=>(hk j hj).2)⟩
theorem Rep.rout (h:Rep mb V own w s) {rv:Value} {R:Nat → Procs.Rn} (hT:RgP own w V.procs rv R s.rings) {p:Nat} (hp:p < s.rings.length) {nx:Int} {row out:List Int} {e:Ending} {w':World} (hq:Ring.OutPost (R p).b (R p).g 256 nx row out w e w'):DoesL mb V own w out { s with rings:=s.rings.set p ⟨nx,row⟩ } e w':=by
 obtain ⟨v,rfl,hv,hw,o⟩:=hq
 obtain ⟨h1,h2⟩:=h.ringS hT hp hw o
 exact ⟨v,rfl,hv,own,h1,h2,fun j hj=>h.fresh j (hv.lt j hj).1⟩
theorem Rep.rput (h:Rep mb V own w s) {p rb:Nat} (hp:p < s.rings.length) (hb:own rb = 23 + 5 * p) (x:Int) (nxt:Bool):Calls Tryz.prog 51 #[ptr rb,.int .i64 x,.bool nxt] w (DoesL mb V own w (Ring.putO 256 (rAt s p).nx (rAt s p).row x nxt) { s with rings:=s.rings.set p ⟨Ring.putN (rAt s p).nx x nxt,Ring.putR 256 (rAt s p).nx (rAt s p).row x nxt⟩ }):=by
 obtain ⟨rv,R,hT⟩:=h.rings (by decide)
 rw [hT.ub p hp rb hb]
 have hw:=hT.prc.ring p hp
 rw [(hT.is p hp).1,(hT.is p hp).2] at hw
 exact (Ring.put_any _ _ _ _ _ x nxt w hw).mono (fun e w' hq=>h.rout hT hp hq)
theorem Rep.rgrab (h:Rep mb V own w s) {p rb:Nat} (hp:p < s.rings.length) (hb:own rb = 23 + 5 * p):Calls Tryz.prog 246 #[ptr rb] w (DoesL mb V own w (Ring.grabO (rAt s p).nx (rAt s p).row) { s with rings:=s.rings.set p ⟨Ring.grabN (rAt s p).nx (rAt s p).row,Ring.grabR (rAt s p).row⟩ }):=by
 obtain ⟨rv,R,hT⟩:=h.rings (by decide)
 rw [hT.ub p hp rb hb]
 have hw:=hT.prc.ring p hp
 rw [(hT.is p hp).1,(hT.is p hp).2] at hw
 exact (Ring.grab_any _ _ _ _ _ w hw).mono (fun e w' hq=>h.rout hT hp hq)
theorem Rep.rdrain (h:Rep mb V own w s) {p rb:Nat} (hp:p < s.rings.length) (hb:own rb = 23 + 5 * p):Calls Tryz.prog 300 #[ptr rb] w (DoesL mb V own w (Ring.allL (rAt s p).nx (rAt s p).row) { s with rings:=s.rings.set p ⟨0,[]⟩ }):=by
 obtain ⟨rv,R,hT⟩:=h.rings (by decide)
 rw [hT.ub p hp rb hb]
 have hw:=hT.prc.ring p hp
 rw [(hT.is p hp).1,(hT.is p hp).2] at hw
 exact (Ring.drain_any _ _ _ _ _ w hw).mono (fun e w' hq=>h.rout hT hp hq)
theorem Rep.rfill (h:Rep mb V own w s) {p rb:Nat} (hp:p < s.rings.length) (hb:own rb = 23 + 5 * p) (u:Value) (l:List Int) (hu:Slw w u l) (ho:l ≠ [] → ∀ j,u.ownBlock = some j → own j = 0) (hl:l.length < 1000000):Calls Tryz.prog 244 #[ptr rb,u] w (DoesL mb V own w (Ring.fillO 256 (rAt s p).row l) { s with rings:=s.rings.set p ⟨(rAt s p).nx,Ring.fillR 256 (rAt s p).row l⟩ }):=by
 obtain ⟨rv,R,hT⟩:=h.rings (by decide)
 rw [hT.ub p hp rb hb]
 have hw:=hT.prc.ring p hp
 rw [(hT.is p hp).1,(hT.is p hp).2] at hw
 refine (Ring.fill_any _ _ _ _ _ u l w hw hu (fun hne j hj hs=>?_) (by omega)).mono (fun e w' hq=>h.rout hT hp hq)
 have:=ho hne j hj
 rcases hs with rfl | rfl
 ·rw [hT.ob p hp] at this;omega
 ·rw [hT.og p hp] at this;omega
theorem Rep.rget (h:Rep mb V own w s) {p rb:Nat} (hp:p < s.rings.length) (hb:own rb = 23 + 5 * p):Calls Tryz.prog 241 #[ptr rb] w (DoesV mb V own w (.tuple #[.int .i64 (Ring.getV (rAt s p).nx (rAt s p).row),.bool (Ring.getB (rAt s p).nx (rAt s p).row)]) { s with rings:=s.rings.set p ⟨0,Ring.getR (rAt s p).nx (rAt s p).row⟩ }):=by
 obtain ⟨rv,R,hT⟩:=h.rings (by decide)
 rw [hT.ub p hp rb hb]
 have hw:=hT.prc.ring p hp
 rw [(hT.is p hp).1,(hT.is p hp).2] at hw
 refine (Ring.get_any _ _ _ _ _ w hw).mono ?_
 rintro e w' ⟨rfl,hw',o⟩
 obtain ⟨h1,h2⟩:=h.ringS hT hp hw' o
 exact ⟨rfl,own,h1,h2⟩
def sendL (l:List (Option Int)) (m:Nat) (due:Int):List (Option Int):=match l[m]?.getD none with
 | none=>l.set m (some due)
 | some d=>if due < d then l.set m (some due) else l
def dueB (l:List (Option Int)) (m:Nat) (now:Int):Bool:=match l[m]?.getD none with
 | none=>false
 | some d=>decide (d ≤ now)
def dueL (l:List (Option Int)) (m:Nat) (now:Int):List (Option Int):=if dueB l m now then l.set m none else l
end
end Go.Proofs.YtgadhchejmlfjaaGreatDoor.Mac
end
section
namespace Go.Proofs.YtgadhchejmlfjaaGreatDoor.Mac
open Go.RowKit Go.Esc
open Go.Proofs.YtgadhchejmlfjaaGreatDoor.Pstat (Pr pz)
open Go.Proofs.YtgadhchejmlfjaaGreatDoor.Vm (Ins)
def isW (x t:Int):Int:=if Gst.moveF x t = 0 then Gst.moveW x t else x
def St.setG (s:St) (i:Nat) (x:G):St:={ s with gs:=s.gs.set i x }
def St.setX (s:St) (j:Nat) (y:M1):St:={ s with ms:=s.ms.set j y }
def St.mv (s:St) (i:Nat) (t:Int):St:=match s.gs[i]? with
 | some x=>s.setG i { x with word:=isW x.word t }
 | none=>s
def St.put (s:St) (l:List Int):St:={ s with all:=s.all ++ Glob.right l }
def St.setSc (s:St) (c:Sc):St:={ s with sc:=c }
def serveM (s:St) (p:Int):Option St:=
 if 0 ≤ p then
  match s.asked[p.toNat]? with
  | some a=>some { s with asked:=s.asked.set p.toNat ⟨a.pre,false,wrap64 (a.count + 1)⟩,sc:={ s.sc with wait:=wrap64 (s.sc.wait - 1) } }
  | none=>none
 else none
def asksM (s:St) (j:Nat):Option St:=
 match s.ms[j]? with
 | none=>none
 | some y=>
  if j < 64 then
   if y.p = -1 then some { s with box:=sendL s.box j (wrap64 (s.sc.now + modZ s.sc.delay 65)) }
   else if 0 ≤ y.p then
    match s.asked[y.p.toNat]? with
    | some a=>some { s with asked:=s.asked.set y.p.toNat ⟨true,a.bar,a.count⟩,box:=sendL s.box j (wrap64 (s.sc.now + modZ s.sc.delay 65)) }
    | none=>none
   else none
  else none
def whoM (s:St) (p:Int):Option Nat:=if 0 ≤ Pstat.whoL s.stat p ∧ Pstat.whoL s.stat p < s.ms.length then some (Pstat.whoL s.stat p).toNat else none
def freeM (s:St):Int:=wrap64 (wrap64 (s.idleM.length + s.sc.cm) - s.ms.length)
def haveM (s:St) (p:Int) (j:Nat):Option St:=
 match s.ms[j]? with
 | some y=>some { s with stat:=Pstat.byL s.stat p j (fun _ _=>(1,j)) (fun s _=>s == 0),ms:=s.ms.set j { y with p:=p,g:=0,phase:=1 } }
 | none=>none
def beginM (s:St) (p:Int):Option (Bool × St):=
 match s.idleM with
 | []=>if s.sc.cm ≤ s.ms.length then some (false,s) else
   if s.ms.length < 64 then (haveM { s with ms:=s.ms ++ [m0] } p s.ms.length).map fun s=>(true,s) else none
 | id :: r=>if 0 ≤ id then (haveM { s with idleM:=r } p id.toNat).map fun s=>(true,s) else none
def parkM (s:St) (j:Nat):Option St:=
 match s.ms[j]? with
 | some y=>some { s with ms:=s.ms.set j { y with p:=-1,g:=0,phase:=0,armed:=false },idleM:=Idle.putL 64 s.idleM j }
 | none=>none
def looksN (l:List M1):Nat:=l.countP fun y=>y.phase == 1
def wakeM (s:St):Option St:=
 if s.sc.stopped then some s else if 200000 ≤ s.all.length then none else
  match s.idleP with
  | []=>some s
  | p :: _=>if looksN s.ms = 0 ∧ 0 < totN s.rings s.rings.length + s.all.length then
    match beginM s p with
    | some (true,s')=>some { s' with idleP:=s'.idleP.erase p }
    | some (false,s')=>some s'
    | none=>none
   else some s
def queueM (s:St) (p:Int) (i:Nat) (first:Bool):Option St:=
 if i < s.gs.length ∧ s.all.length < 100000 then
  if p = -1 then wakeM ((s.mv i 1).put [(i:Int) + 1])
  else if 0 ≤ p ∧ p < s.rings.length then
   wakeM (({ s.mv i 1 with rings:=s.rings.set p.toNat ⟨Ring.putN (rAt s p.toNat).nx ((i:Int) + 1) first,Ring.putR 256 (rAt s p.toNat).nx (rAt s p.toNat).row ((i:Int) + 1) first⟩ }:St).put (Ring.putO 256 (rAt s p.toNat).nx (rAt s p.toNat).row ((i:Int) + 1) first))
  else none
 else none
def unaskL (id:Int):Nat → Nat → St → Option St
 | 0,_,s=>some s
 | n + 1,k,s=>
  match s.gs[k]? with
  | some x=>if x.asker = id then
    let s1:=s.setG k { x with asker:=0 }
    if x.word = 5 then (queueM s1 (-1) k false).bind (unaskL id n (k + 1)) else unaskL id n (k + 1) s1
   else unaskL id n (k + 1) s
  | none=>none
def unaskM (s:St) (i:Nat):Option St:=unaskL ((i:Int) + 1) s.gs.length 0 s
def offM (s:St) (j:Nat):Option (Nat × St):=
 match s.ms[j]? with
 | some y=>if 1 ≤ y.g then some ((y.g - 1).toNat,s.setX j { y with g:=0,phase:=1 }) else none
 | none=>none
def backM (s:St) (j:Nat):Option St:=(offM s j).bind fun r=>queueM r.2 (-1) r.1 false
def executeM (s:St) (j i:Nat):Option St:=
 match s.gs[i]?,s.ms[j]? with
 | some x,some y=>
  if 8 ≤ x.word then (if s.all.length < 100000 then some (s.put [(i:Int) + 1]) else none)
  else if x.asker ≠ 0 then unaskM (s.mv i 5) i
  else wakeM ((s.mv i 2).setX j { y with g:=(i:Int) + 1,phase:=2,used:=0 })
 | _,_=>none
def fillM (s:St) (p:Nat) (l:List Int):St:=
 ({ s with rings:=s.rings.set p ⟨(rAt s p).nx,Ring.fillR 256 (rAt s p).row l.tail⟩ }:St).put (Ring.fillO 256 (rAt s p).row l.tail)
def stealM (p:Nat):List Int → St → Option (Int × St)
 | [],s=>some (0,s)
 | q :: r,s=>
  if 0 ≤ q ∧ q < s.rings.length then
   let o:=Ring.grabO (rAt s q.toNat).nx (rAt s q.toNat).row
   let s1:St:={ s with rings:=s.rings.set q.toNat ⟨Ring.grabN (rAt s q.toNat).nx (rAt s q.toNat).row,Ring.grabR (rAt s q.toNat).row⟩ }
   match o with
   | []=>stealM p r s1
   | x :: _=>some (x,fillM s1 p o)
  else none
def batchN (s:St):Nat:=(manyZ s.all.length s.rings.length 128).toNat
def found2 (s:St) (p:Nat) (yp:Int):Option (Int × St):=
 if Ring.getB (rAt s p).nx (rAt s p).row then some (Ring.getV (rAt s p).nx (rAt s p).row,{ s with rings:=s.rings.set p ⟨0,Ring.getR (rAt s p).nx (rAt s p).row⟩ })
 else
  let s2:St:={ s with rings:=s.rings.set p ⟨0,Ring.getR (rAt s p).nx (rAt s p).row⟩ }
  let s3:St:={ s2 with all:=s2.all.drop (batchN s2) }
  match s2.all.take (batchN s2) with
  | x :: r=>some (x,fillM s3 p (x :: r))
  | []=>stealM p (othersL s3.rings.length yp s3.sc.draw) s3
def foundM (s:St) (j:Nat):Option (Int × St):=
 match s.ms[j]? with
 | none=>none
 | some y=>
  if 0 ≤ y.p ∧ y.p < s.rings.length ∧ s.all.length < 100000 then
   if (wrap64 (y.looks + 1)).tmod 4 = 0 ∧ s.all.isEmpty = false then some (s.all.headD 0,{ s.setX j { y with looks:=wrap64 (y.looks + 1) } with all:=s.all.tail })
   else found2 (s.setX j { y with looks:=wrap64 (y.looks + 1) }) y.p.toNat y.p
  else none
def releaseP (s:St) (p:Int):St:={ s with stat:=Pstat.turnL s.stat p (fun _ _=>(0, -1)) (fun s _=>s == 1) }
def stopP (s:St) (p:Int):St:={ s with stat:=Pstat.turnL s.stat p Pstat.stopX (fun s _=>Pstat.stopB s) }
def goP (s:St) (p:Int):St:={ s with stat:=Pstat.turnL s.stat p (fun _ wh=>Pstat.goX wh) (fun s _=>s == 3) }
def lookM (s:St) (j:Nat):Option St:=
 match s.ms[j]? with
 | none=>none
 | some y=>
  if 0 ≤ y.p then
   match s.asked[y.p.toNat]? with
   | none=>none
   | some a=>
    if a.bar then serveM s y.p
    else if s.sc.stopped then
     let s1:=stopP (releaseP s y.p) y.p
     parkM (s1.setSc { s1.sc with wait:=wrap64 (s1.sc.wait - 1) }) j
    else
     match foundM s j with
     | none=>none
     | some (id,s1)=>
      if id = 0 then
       let s2:=releaseP s1 y.p
       parkM { s2 with idleP:=Idle.putL 256 s2.idleP y.p } j
      else if 1 ≤ id ∧ id ≤ s1.gs.length then executeM s1 j (id - 1).toNat else none
  else none
def againL (j:Nat):Nat → Nat → St → Option St
 | 0,_,s=>some s
 | n + 1,p,s=>
  match whoM s p with
  | some k=>if k ≠ j ∧ Pstat.getL s.stat p = 1 then (asksM s k).bind (againL j n (p + 1)) else againL j n (p + 1) s
  | none=>againL j n (p + 1) s
def againM (s:St) (j:Nat):Option St:=againL j s.rings.length 0 s
def stopsL (j:Nat):Nat → Nat → St → Option St
 | 0,_,s=>some s
 | n + 1,p,s=>
  let st:=Pstat.getL s.stat p
  if st = 2 then
   match whoM s p with
   | some k=>match s.ms[k]? with
    | some y=>let s1:=stopP (s.setX k { y with p:=-1 }) p
     stopsL j n (p + 1) { s1 with idleP:=s1.idleP.erase (p:Int) }
    | none=>none
   | none=>none
  else if st = 0 then
   let s1:=stopP s p
   stopsL j n (p + 1) { s1 with idleP:=s1.idleP.erase (p:Int) }
  else if st = 1 then
   match s.ms[j]? with
   | none=>none
   | some y=>
    if (p:Int) = y.p then stopsL j n (p + 1) (stopP s p)
    else
     match whoM s p with
     | some k=>(asksM (s.setSc { s.sc with wait:=wrap64 (s.sc.wait + 1) }) k).bind (stopsL j n (p + 1))
     | none=>none
  else stopsL j n (p + 1) s
def stopsM (s:St) (j:Nat):Option St:=
 match s.ms[j]? with
 | none=>none
 | some y=>stopsL j s.rings.length 0 ((s.setSc { s.sc with stopped:=true }).setX j { y with phase:=3 })
def seeM (s:St) (k:Int) (i:Nat) (n:Int):Option St:=
 match s.gs[i]? with
 | some x=>some (s.setSc { s.sc with kind:=k,eg:=(i:Int) + 1,efn:=x.fn,epc:=x.pc,en:=n,seen:=true })
 | none=>none
def enterM (s:St) (j:Nat) (op:Int):Option St:=
 match s.ms[j]? with
 | none=>none
 | some y=>
  if 1 ≤ y.g ∧ s.waits.length < 100000 then
   match s.gs[(y.g - 1).toNat]? with
   | none=>none
   | some x=>
    let s1:St:={ s with owner:=Sema.acqO s.owner y.g,waits:=Sema.acqL s.owner s.waits y.g }
    if Sema.acqB s.owner y.g then
     (seeM s1 1 (y.g - 1).toNat 0).bind fun s2=>
      let s3:=(s2.setG (y.g - 1).toNat { x with begun:=true }).setSc { s2.sc with wait:=0 }
      if op = 19 then none else stopsM s3 j
    else
     (offM (s1.setG (y.g - 1).toNat { x with sema:=true }) j).map fun r=>r.2.mv r.1 4
  else none
def semrelM (s:St) (i:Nat):Option St:=
 if s.waits.length < 100000 then
  let id:=Sema.relV s.owner s.waits ((i:Int) + 1)
  let s1:St:={ s with owner:=Sema.relO s.owner s.waits ((i:Int) + 1),waits:=Sema.relL s.owner s.waits ((i:Int) + 1) }
  if id = 0 then some s1
  else if 1 ≤ id then
   match s1.gs[(id - 1).toNat]? with
   | none=>none
   | some x=>
    let s2:=s1.setG (id - 1).toNat { x with sema:=false }
    if 8 ≤ x.word then some s2 else queueM s2 (-1) (id - 1).toNat false
  else none
 else none
def worldL (self:Int):List Int → Nat → Int → List Int × List Int
 | [],_,_=>([],[])
 | n :: r,i,ms=>
  if (i:Int) = self then worldL self r (i + 1) ms
  else if 0 < n ∧ 0 < ms then let o:=worldL self r (i + 1) (ms - 1);((i:Int) :: o.1,o.2)
  else let o:=worldL self r (i + 1) ms;(o.1,(i:Int) :: o.2)
def worldM (waits:List Int) (self machines:Int):List Int × List Int:=worldL self waits 0 machines
def goL:List Int → St → Option St
 | [],s=>some s
 | p :: r,s=>(beginM (goP s p) p).bind fun x=>goL r x.2
def idleL:List Int → St → Option St
 | [],s=>some s
 | p :: r,s=>
  if 0 ≤ p ∧ p < s.rings.length ∧ s.all.length < 100000 then
   let s1:=goP s p
   let s2:St:={ s1 with idleP:=Idle.putL 256 s1.idleP p }
   idleL r (({ s2 with rings:=s2.rings.set p.toNat ⟨0,[]⟩ }:St).put (Ring.allL (rAt s2 p.toNat).nx (rAt s2 p.toNat).row))
  else none
def startM (s:St) (j:Nat):Option St:=
 match s.ms[j]? with
 | none=>none
 | some y=>
  if 1 ≤ s.sc.holder ∧ s.sc.holder ≤ s.gs.length then
   let i:=(s.sc.holder - 1).toNat
   let s1:=s.setSc { s.sc with holder:=0,stopped:=false }
   let plan:=worldM ((qsM s1.rings).map fun l=>(l.length:Int)) y.p (freeM s1)
   (goL plan.1 s1).bind fun s2=>(idleL plan.2 s2).bind fun s3=>
    match s3.ms[j]? with
    | none=>none
    | some y3=>(semrelM (goP s3 y3.p) i).bind wakeM
  else none
def insAt (s:St) (x:G):Option Ins:=if 0 ≤ x.fn ∧ 0 ≤ x.pc then (s.funcs[x.fn.toNat]?).bind fun f=>f.code[x.pc.toNat]? else none
def doG (x:G) (i:Ins) (ans:Int):Option (G × Int):=
 if i.op = 2 ∨ i.op = 3 ∨ i.op = 4 ∨ i.op = 5 ∨ i.op = 8 ∨ i.op = 9 ∨ i.a ≠ 0 ∨ x.done then none else
  let asks:=(Isa.row i.op).asks
  let regs:=if i.op = 1 then x.regs.set 0 i.n else if asks then x.regs.set 0 ans else x.regs
  let n:=if i.op = 15 then rg x 0 else if asks then ans else 0
  if i.op = 14 then some ({ x with fn:=0,pc:=0,regs:=[0,0,0,0,0,0,0,0],done:=true },0)
  else some ({ x with regs:=regs,pc:=Vm.mvPc i.op i.n (rg x 0) (wrap64 (x.pc + 1)) },n)
def commitM (s:St) (j:Nat) (ans:Int):Option St:=
 match s.ms[j]? with
 | none=>none
 | some y=>
  if 1 ≤ y.g then
   let i:=(y.g - 1).toNat
   match s.gs[i]? with
   | none=>none
   | some x=>
    (insAt s x).bind fun ins=>(doG x ins ans).bind fun r=>(seeM s 2 i r.2).bind fun s1=>
     let s2:=s1.setG i { r.1 with begun:=false }
     let u:=wrap64 (y.used + 1)
     let s3:=s2.setX j { y with used:=u }
     (if u = 20 then asksM s3 j else some s3).bind fun s4=>
      if r.1.done then
       (if s4.sc.holder = y.g then startM s4 j else some s4).bind fun s5=>
        (offM s5 j).map fun q=>q.2.mv q.1 6
      else some s4
  else none
def stopM (s:St) (j:Nat):Option St:=
 match s.ms[j]? with
 | none=>none
 | some y=>if 0 < s.sc.wait then againM s j else commitM ((s.setX j { y with phase:=2 }).setSc { s.sc with holder:=y.g }) j 0
def bornM (s:St) (fn arg:Int):St:={ s with gs:=s.gs ++ [⟨1,fn,0,[arg,0,0,0,0,0,0,0],false,false,false,false,false,0⟩] }
def answerM (s:St) (j i:Nat) (ins:Ins):Option (Int × St):=
 match s.ms[j]?,s.gs[i]? with
 | some y,some x=>
  if ins.op = 10 ∧ ins.a = 0 then
   if s.sc.cg ≤ s.gs.length then some (-1,s)
   else if s.gs.length < 64 then (queueM (bornM s ins.n (rg x 0)) y.p s.gs.length true).map fun s'=>((s.gs.length:Int) + 1,s') else none
  else if ins.op = 13 ∨ ins.op = 21 ∨ ins.op = 22 ∨ ins.op = 10 then none
  else if ins.op = 23 then some ((i:Int) + 1,s)
  else some (0,s)
 | _,_=>none
def doM (s:St) (j:Nat) (ins:Ins):Option St:=
 match s.ms[j]? with
 | none=>none
 | some y=>
  let alone:=decide (s.sc.holder = y.g)
  if ins.op = 17 ∨ ins.op = 19 then (if alone then commitM s j 0 else enterM s j ins.op)
  else if ins.op = 18 then (commitM s j 0).bind fun s1=>if alone then startM s1 j else some s1
  else if ins.op = 11 then (commitM s j 0).bind fun s1=>if alone then some s1 else backM s1 j
  else if ins.op = 12 ∨ ins.op = 16 ∨ ins.op = 20 then none
  else if 1 ≤ y.g then (answerM s j (y.g - 1).toNat ins).bind fun r=>commitM r.2 j r.1
  else none
def clearM (s:St) (j:Nat) (p:Int):Option St:=
 match s.ms[j]?,s.asked[p.toNat]? with
 | some y,some a=>if 0 ≤ p then some { s with ms:=s.ms.set j { y with armed:=false },asked:=s.asked.set p.toNat ⟨false,a.bar,a.count⟩ } else none
 | _,_=>none
def runM (s:St) (j:Nat):Option St:=
 match s.ms[j]? with
 | none=>none
 | some y0=>
  if 1 ≤ y0.g then
   match s.gs[(y0.g - 1).toNat]? with
   | none=>none
   | some x=>
    (insAt s x).bind fun ins=>
     if s.sc.holder = y0.g then doM s j ins
     else
      let y:=if x.begun then { y0 with used:=min y0.used 19 } else y0
      let s1:=if x.begun then s.setX j y else s
      if 0 ≤ y.p then
       match s1.asked[y.p.toNat]?,s1.funcs[x.fn.toNat]? with
       | some a,some f=>
        let act:=Dec.decideZ f.code.length f.safe x.pc y.armed a.pre a.bar s1.sc.stopped (decide (x.asker ≠ 0)) (decide (20 ≤ y.used))
        if act = 1 then serveM s1 y.p
        else if act = 2 then none
        else if act = 3 then (clearM s1 j y.p).bind fun s2=>backM s2 j
        else if act = 4 then clearM s1 j y.p
        else doM s1 j ins
       | _,_=>none
      else none
  else none
def stepM (s:St) (pick delay draw:Int):Option St:=
 let s1:=s.setSc { s.sc with now:=wrap64 (s.sc.now + 1),pick:=pick,delay:=delay,draw:=draw,kind:=0,eg:=0,efn:=0,epc:=0,en:=0,seen:=false }
 let j:=(modZ pick s1.ms.length).toNat
 match s1.ms[j]? with
 | none=>none
 | some y=>
  if y.phase = 0 then some s1
  else if j < 64 then
   let s2:St:={ s1 with box:=dueL s1.box j s1.sc.now,ms:=s1.ms.set j { y with armed:=dueB s1.box j s1.sc.now || y.armed } }
   if y.phase = 1 then lookM s2 j
   else if y.phase = 2 then runM s2 j
   else if y.phase = 3 then stopM s2 j
   else none
  else none
def newM (funcs:List Fn) (cp cg cm:Int):St:=
 let n:=cp.toNat
 { funcs:=funcs,sc:=⟨cp,cg,cm,0,0,0,0,false,0,0,0,0,0,0,0,false⟩,gs:=[⟨1,0,0,[0,0,0,0,0,0,0,0],false,false,false,false,false,0⟩],ms:=[⟨0,0,1,false,0,0,0⟩],asked:=List.replicate n p0,rings:=⟨0,[1]⟩ :: List.replicate (n - 1) r0,stat:=(1,0) :: List.replicate (n - 1) (0, -1),all:=[],idleM:=[],idleP:=(List.range (n - 1)).map fun (i:Nat)=>(i:Int) + 1,owner:=0,waits:=[],box:=List.replicate 64 none }
end Go.Proofs.YtgadhchejmlfjaaGreatDoor.Mac
end
