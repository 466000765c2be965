/- Parts of the proof of TopReaches. -/
import Derived.ArgAppend
import Derived.Below
import Derived.ChangeSame
import Derived.ControlIn
import Derived.Deep.Fields
import Derived.Deep.OwnRows
import Derived.Deep.RegionLaw
import Derived.Deep.Slices
import Derived.Laws.AppendOwnNone
import Derived.Laws.OwnMore
import Derived.Lib.Hide
import Derived.Maps.AppendAt
import Derived.Maps.Range
import Derived.OneCell
import Derived.OrdersIn
import Derived.OwnWalk
import Derived.OwnWalkIn
import Derived.ProofKit
import Derived.RangeFuncBox
import Derived.RangeFuncCalls
import Derived.WalkKit
import Derived.WalkSmall
import Derived.WalkSpells
import Derived.Test.YtgadhchejmlfjaaGreatDoorRows
import Derived.Deep.QuietTactic
import Derived.BigQuiet
import Derived.BigGuard
import Derived.WalkLawsBesides
import Derived.Outline
set_option linter.unusedVariables false
set_option maxRecDepth 20000
section
namespace Go.Esc
open Go.RowKit
def Blk (w:World) (b:Nat) (cs:Array Value) (t:TypeId):Prop:=w.heap[b]? = some (.cells cs t (0,0))
theorem Blk.cell {w:World} {b:Nat} {cs:Array Value} {t:TypeId} (h:Blk w b cs t) (i:Nat):w.cell? ⟨b,i,none⟩ = cs[i]?:=by
 unfold Blk at h;simp [World.cell?,h]
theorem Blk.free {w:World} {b:Nat} {cs:Array Value} {t:TypeId} (h:Blk w b cs t) (i:Nat):w.frozen? ⟨b,i,none⟩ = false:=by
 unfold Blk at h;simp [World.frozen?,h]
theorem Blk.lt {w:World} {b:Nat} {cs:Array Value} {t:TypeId} (h:Blk w b cs t):b < w.heap.size:=lt_of_block h
theorem Blk.kept {w w':World} {b:Nat} {cs:Array Value} {t:TypeId} {row:Option Nat} (h:Blk w b cs t) (hg:w.grownBy w' row) (hne:some b ≠ row):Blk w' b cs t:=
 (hg.block b h.lt hne).trans h
theorem Blk.below {w w':World} {b B:Nat} {cs:Array Value} {t:TypeId} (h:Blk w b cs t) (hb:Below B w w') (hlt:b < B):Blk w' b cs t:=
 (hb.block b hlt).trans h
theorem Blk.alloc {w:World} {b:Nat} {cs:Array Value} {t:TypeId} (h:Blk w b cs t) (o:Obj):Blk (w.alloc o) b cs t:=
 h.kept (World.grownBy_alloc w o none) (by simp)
theorem Blk.drew {w:World} {b:Nat} {cs:Array Value} {t:TypeId} (h:Blk w b cs t):Blk w.drew b cs t:=h
theorem Blk.new (w:World) (cs:Array Value) (t:TypeId):Blk (w.alloc (.cells cs t)) w.heap.size cs t:=
 by show (w.heap.push _)[w.heap.size]? = _;simp
theorem Blk.new' {w:World} {b:Nat} (cs:Array Value) (t:TypeId) (h:w.heap.size = b):Blk (w.alloc (.cells cs t)) b cs t:=h ▸ Blk.new w cs t
theorem Blk.set {w:World} {b:Nat} {cs:Array Value} {t:TypeId} (h:Blk w b cs t) (i:Nat) (u:Value):Blk (w.setCell ⟨b,i,none⟩ u) b (cs.setIfInBounds i u) t:=by
 have hlt:=h.lt
 unfold Blk at h ⊢
 have h':w.heap[b] = .cells cs t (0,0):=by simpa [Array.getElem?_eq_getElem hlt] using h
 show (w.heap.modify b _)[b]? = _
 rw [Array.getElem?_eq_getElem (by simpa using hlt),Array.getElem_modify_self,h']
 rfl
theorem Blk.setOther {w:World} {b c i:Nat} {cs:Array Value} {t:TypeId} (h:Blk w b cs t) (hne:b ≠ c) (u:Value):Blk (w.setCell ⟨c,i,none⟩ u) b cs t:=
 (Below.heap_setCell w ⟨c,i,none⟩ u b hne).trans h
theorem grown_refl (w:World) (row:Option Nat):w.grownBy w row:=⟨rfl,rfl,rfl,Nat.le_refl _,fun _ _ _=>rfl⟩
theorem grown_set (w:World) (b i:Nat) (u:Value):w.grownBy (w.setCell ⟨b,i,none⟩ u) (some b):=
 ⟨rfl,rfl,rfl,by simp [World.setCell],fun k _ hne=>Below.heap_setCell w ⟨b,i,none⟩ u k (fun e=>hne (by simp [e]))⟩
theorem grown_drew (w:World) (row:Option Nat):w.grownBy w.drew row:=⟨rfl,rfl,rfl,Nat.le_refl _,fun _ _ _=>rfl⟩
theorem grown_of_below {w w':World} (h:Below w.heap.size w w') (row:Option Nat):w.grownBy w' row:=
 ⟨h.os,h.tape,h.output,h.size,fun k hk _=>h.block k hk⟩
theorem Blk.set2_0 {w:World} {b:Nat} {x y u:Value} {t:TypeId} (h:Blk w b #[x,y] t):Blk (w.setCell ⟨b,0,none⟩ u) b #[u,y] t:=h.set 0 u
theorem Blk.set2_1 {w:World} {b:Nat} {x y u:Value} {t:TypeId} (h:Blk w b #[x,y] t):Blk (w.setCell ⟨b,1,none⟩ u) b #[x,u] t:=h.set 1 u
theorem below_alloc {a w:World} (h:Below a.heap.size a w) (o:Obj):Below a.heap.size a (w.alloc o):=h.alloc h.size o
theorem below_set {a w:World} {c:Nat} (h:Below a.heap.size a w) (hc:a.heap.size ≤ c) (i:Nat) (u:Value):Below a.heap.size a (w.setCell ⟨c,i,none⟩ u):=h.setCell hc u
theorem below_grown {a w w':World} {row:Option Nat} (h:Below a.heap.size a w) (hg:w.grownBy w' row) (hr:∀ k,row = some k → a.heap.size ≤ k):Below a.heap.size a w':=h.grown hg h.size hr
theorem below_below {a w w':World} (h:Below a.heap.size a w) (hg:Below w.heap.size w w'):Below a.heap.size a w':=h.trans (hg.mono h.size)
theorem bcell {W w1:World} (hb:Below W.heap.size W w1):(∀ b o,b < W.heap.size → w1.cell? ⟨b,o,none⟩ = W.cell? ⟨b,o,none⟩) ∧ (∀ b o,b < W.heap.size → w1.frozen? ⟨b,o,none⟩ = W.frozen? ⟨b,o,none⟩):=
 ⟨fun b o h=>hb.cell (p:=⟨b,o,none⟩) h,fun b o h=>hb.frozen (p:=⟨b,o,none⟩) h⟩
theorem ret_int {k:IntKind} {a b:Int} (h:a = b):Ending.returned (.int k a) = .returned (.int k b):=by rw [h]
theorem ret_bool {a b:Bool} (h:a = b):Ending.returned (.bool a) = .returned (.bool b):=by rw [h]
open Go.RowKit
theorem undrew {w w':World} (h:Below w.drew.heap.size w.drew w'):Below w.heap.size w w':=⟨h.os,h.tape,h.output,h.size,h.block⟩
open Go.ChangeShapes Go.WideShapes Go.Deep Go.RowKit
def Row (w:World) (a:Option Addr) (len nf:Nat) (f:Nat → Nat → Int):Prop:=
 len = 0 ∨ ∃ b off,a = some ⟨b,off,none⟩ ∧ b < w.heap.size ∧ len ≤ maxLen ∧
  (∀ i j,i < len → j < nf → w.cell? ⟨b,off + (i * nf + j),none⟩ = some (.int .i64 (f i j))) ∧ ∀ i j,i < len → j < nf → (Lit.int .i64 (f i j)).wf = true
theorem lt_of_cell {w:World} {a:Addr} {v:Value} (h:w.cell? a = some v):a.block < w.heap.size:=by
 unfold World.cell? at h
 rcases Nat.lt_or_ge a.block w.heap.size with h' | h'
 ·exact h'
 ·simp [Array.getElem?_eq_none h'] at h
section
variable {H:Type} {enc:TypeId × Value → H} {P:Program} {w:World} {base:Nat} {spare:Nat → Bool} {held:Bool}
theorem row_of {a:Addr} {len nf:Nat} (hnf:0 < nf) (hlen:len ≤ maxLen)
  (h:∀ i j,i < len → j < nf → ∃ z:Int,w.cell? (a.add (i * nf + j)) = some (.int .i64 z) ∧ (Lit.int .i64 z).wf = true):∃ f,Row w (some a) len nf f:=by
 classical
 rcases Nat.eq_zero_or_pos len with h0 | hp
 ·exact ⟨fun _ _=>0,.inl h0⟩
 ·obtain ⟨z0,hz0,_⟩:=h 0 0 hp hnf
  obtain ⟨b,off,spot⟩:=a
  have hspot:spot = none:=by simpa [Addr.add] using World.cell?_spot hz0
  subst hspot
  refine ⟨fun i j=>if hh:i < len ∧ j < nf then Classical.choose (h i j hh.1 hh.2) else 0,.inr ⟨b,off,rfl,?_,hlen,fun i j hi hj=>?_,fun i j hi hj=>?_⟩⟩
  ·have:=lt_of_cell hz0
   simpa [Addr.add] using this
  ·dsimp only;rw [dif_pos (And.intro hi hj),← add_plain];exact (Classical.choose_spec (h i j hi hj)).1
  ·dsimp only;rw [dif_pos (And.intro hi hj)];exact (Classical.choose_spec (h i j hi hj)).2
theorem open_introw {t e:TypeId} {fuel:Nat} {cs:List Value} {x:DataW H × List MemPlace} (ht:P.underlying t = some (.slice e)) (he:P.underlying e = some (.int .i64)) (hC:P.cellsOf e = 1)
  (h:DataW.trod enc P w base spare held fuel t cs = some x) :
  ∃ a len cap,cs = [.slice a len cap] ∧ ∃ f,Row w a len 1 f:=by
 rcases open_slice1 ht hC h with ⟨rfl,_⟩ | ⟨a,len,cap,m,n,V,D,Pl,rfl,_,hl,hm,hmm,_,hi⟩
 ·exact ⟨none,0,0,rfl,fun _ _=>0,.inl rfl⟩
 ·refine ⟨some a,len,cap,rfl,row_of Nat.one_pos (Nat.le_trans hl hm) fun i j hil hj=>?_⟩
  have him:i < m:=by rw [hmm];split <;> omega
  obtain ⟨hc,ht'⟩:=hi i him
  obtain ⟨z,e0,_,wz⟩:=DataW.trod_int he ht'
  have:i * 1 + j = i:=by omega
  rw [this]
  exact ⟨z,by rw [hc];simpa using e0,wz⟩
end
open Go.RowKit
def Sl (w:World) (v:Value) (l:List Int):Prop:=
 ∃ a cap,v = .slice a l.length cap ∧ l.length ≤ maxLen ∧
  (l = [] ∨ ∃ b off,a = some ⟨b,off,none⟩ ∧ b < w.heap.size ∧ ∀ i,i < l.length → w.cell? ⟨b,off + i,none⟩ = some (.int .i64 (l[i]?.getD 0)))
def OwnI (w:World) (base:Nat) (v:Value) (l:List Int):Prop:=w.ownsRow base 3 1 v l.length (l.map (Value.int .i64))
theorem Sl.nil (w:World):Sl w (.slice none 0 0) []:=⟨none,0,rfl,Nat.zero_le _,.inl rfl⟩
theorem Sl.moved {w w':World} {v:Value} {l:List Int} (h:Sl w v l) (hs:w.heap.size ≤ w'.heap.size) (hk:∀ b off,v = .slice (some ⟨b,off,none⟩) l.length (match v with | .slice _ _ c=>c | _=>0) → l ≠ [] → b < w.heap.size → w'.heap[b]? = w.heap[b]?):Sl w' v l:=by
 obtain ⟨a,cap,rfl,hm,h⟩:=h
 refine ⟨a,cap,rfl,hm,?_⟩
 rcases h with h | ⟨b,off,rfl,hb,hc⟩
 ·exact .inl h
 ·by_cases hl:l = []
  ·exact .inl hl
  ·refine .inr ⟨b,off,rfl,by omega,fun i hi=>?_⟩
   rw [World.cell?_of_block (w:=w) (hk b off rfl hl hb)]
   exact hc i hi
theorem Sl.below {w w':World} {v:Value} {l:List Int} (h:Sl w v l) (hb:Below w.heap.size w w'):Sl w' v l:=
 h.moved hb.size fun b _ _ _ hlt=>hb.block b hlt
theorem Sl.drewN {w:World} {v:Value} {l:List Int} (h:Sl w v l) (n:Nat):Sl (w.drewN n) v l:=h
theorem Sl.drew {w:World} {v:Value} {l:List Int} (h:Sl w v l):Sl w.drew v l:=h
theorem Sl.alloc {w:World} {v:Value} {l:List Int} (h:Sl w v l) (o:Obj):Sl (w.alloc o) v l:=h.below (below_alloc (Below.refl _ _) o)
theorem Sl.ofOwn {w:World} {base:Nat} {v:Value} {l:List Int} (h:OwnI w base v l):Sl w v l:=by
 obtain ⟨_,⟨rfl,h0⟩ | ⟨g,cap,cur,rfl,_,hg,hn,hm,hs,ht⟩⟩:=h
 ·have:l = []:=List.length_eq_zero_iff.1 h0
  subst this
  exact Sl.nil w
 ·refine ⟨_,cap,rfl,Nat.le_trans hn hm,.inr ⟨g,0,rfl,(Array.getElem?_eq_some_iff.1 hg).1,fun i hi=>?_⟩⟩
  rw [Nat.mul_one] at ht hs
  have h1:(cur.toList.take l.length)[i]? = (l.map (Value.int .i64))[i]?:=by rw [ht]
  rw [List.getElem?_take_of_lt hi,List.getElem?_map,List.getElem?_eq_getElem hi] at h1
  simp [World.cell?,hg]
  simpa [hi] using h1
theorem OwnI.nil (w:World) (base:Nat):OwnI w base (.slice none 0 0) []:=World.ownsRow_nil w base 3 1
theorem OwnI.lt {w:World} {base:Nat} {v:Value} {l:List Int} (h:OwnI w base v l):∀ k,v.ownBlock = some k → base ≤ k ∧ k < w.heap.size:=World.ownsRow.lt h
theorem OwnI.kept {w w':World} {base:Nat} {v:Value} {l:List Int} {row:Option Nat} (h:OwnI w base v l) (hg:w.grownBy w' row) (hne:v.ownBlock = none ∨ v.ownBlock ≠ row):OwnI w' base v l:=World.ownsRow.kept h hg hne
theorem OwnI.below {w w':World} {base:Nat} {v:Value} {l:List Int} (h:OwnI w base v l) (hb:Below w.heap.size w w'):OwnI w' base v l:=
 h.kept (grown_of_below hb none) (by cases hv:v.ownBlock <;> simp)
theorem OwnI.mono {w:World} {base base':Nat} {v:Value} {l:List Int} (h:OwnI w base v l) (hb:base' ≤ base):OwnI w base' v l:=by
 obtain ⟨h1,h2 | ⟨g,cap,cur,hv,hg,hh,r⟩⟩:=h
 ·exact ⟨h1,.inl h2⟩
 ·exact ⟨h1,.inr ⟨g,cap,cur,hv,Nat.le_trans hb hg,hh,r⟩⟩
theorem OwnI.drewN {w:World} {base:Nat} {v:Value} {l:List Int} (h:OwnI w base v l) (n:Nat):OwnI (w.drewN n) base v l:=h
theorem Sl.new (w:World) (l:List Int) (c:Nat) (h:l.length ≤ maxLen):Sl (w.alloc (.cells (l.map (Value.int .i64)).toArray 3)) (.slice (some ⟨w.heap.size,0,none⟩) l.length c) l:=by
 refine ⟨_,c,rfl,h,.inr ⟨_,0,rfl,by simp,fun i hi=>?_⟩⟩
 rw [(Blk.new w _ 3).cell]
 simp [hi]
open Go.RowKit
def Cells (w:World) (g m:Nat) (t:TypeId) (F:Nat → Value):Prop:=∃ cs,Blk w g cs t ∧ cs.size = m ∧ ∀ i,i < m → cs[i]? = some (F i)
theorem Cells.lt {w:World} {g m:Nat} {t:TypeId} {F:Nat → Value} (h:Cells w g m t F):g < w.heap.size:=by obtain ⟨cs,hb,_⟩:=h;exact hb.lt
theorem Cells.cell {w:World} {g m:Nat} {t:TypeId} {F:Nat → Value} (h:Cells w g m t F) {i:Nat} (hi:i < m):w.cell? ⟨g,i,none⟩ = some (F i):=by
 obtain ⟨cs,hb,_,hc⟩:=h;rw [hb.cell];exact hc i hi
theorem Cells.free {w:World} {g m:Nat} {t:TypeId} {F:Nat → Value} (h:Cells w g m t F) (i:Nat):w.frozen? ⟨g,i,none⟩ = false:=by
 obtain ⟨cs,hb,_⟩:=h;exact hb.free i
theorem Cells.kept {w w':World} {g m:Nat} {t:TypeId} {F:Nat → Value} {row:Option Nat} (h:Cells w g m t F) (hg:w.grownBy w' row) (hne:some g ≠ row):Cells w' g m t F:=by
 obtain ⟨cs,hb,r⟩:=h;exact ⟨cs,hb.kept hg hne,r⟩
theorem Cells.below {w w':World} {g m B:Nat} {t:TypeId} {F:Nat → Value} (h:Cells w g m t F) (hb:Below B w w') (hlt:g < B):Cells w' g m t F:=by
 obtain ⟨cs,hc,r⟩:=h;exact ⟨cs,hc.below hb hlt,r⟩
theorem Cells.alloc {w:World} {g m:Nat} {t:TypeId} {F:Nat → Value} (h:Cells w g m t F) (o:Obj):Cells (w.alloc o) g m t F:=by
 obtain ⟨cs,hc,r⟩:=h;exact ⟨cs,hc.alloc o,r⟩
theorem Cells.congr {w:World} {g m:Nat} {t:TypeId} {F G:Nat → Value} (h:Cells w g m t F) (hFG:∀ i,i < m → F i = G i):Cells w g m t G:=by
 obtain ⟨cs,hc,hs,r⟩:=h;exact ⟨cs,hc,hs,fun i hi=>by rw [r i hi,hFG i hi]⟩
theorem Cells.set {w:World} {g m:Nat} {t:TypeId} {F:Nat → Value} (h:Cells w g m t F) {i:Nat} (hi:i < m) (u:Value):Cells (w.setCell ⟨g,i,none⟩ u) g m t (fun k=>if k = i then u else F k):=by
 obtain ⟨cs,hc,hs,r⟩:=h
 refine ⟨_,hc.set i u,by simpa using hs,fun k hk=>?_⟩
 rw [Array.getElem?_setIfInBounds]
 by_cases he:i = k
 ·subst he;simp [hs,hi]
 ·have:¬ k = i:=fun e=>he e.symm
  simp [he,this,r k hk]
theorem Cells.setOther {w:World} {g m c i:Nat} {t:TypeId} {F:Nat → Value} (h:Cells w g m t F) (hne:g ≠ c) (u:Value):Cells (w.setCell ⟨c,i,none⟩ u) g m t F:=by
 obtain ⟨cs,hc,r⟩:=h;exact ⟨cs,hc.setOther hne u,r⟩
theorem Cells.made (w:World) (m:Nat) (t:TypeId) (z:Value):Cells (w.alloc (.cells (madeCells #[z] m) t)) w.heap.size m t (fun _=>z):=by
 refine ⟨_,Blk.new w _ t,?_,fun i hi=>?_⟩
 ·exact size_madeCells _ _
 ·simp [madeCells,hi,Nat.mod_one]
open Go.RowKit
section
variable {P:Program} {t:TypeId} (ht:P.underlying t = some (.slice 3)) (hinfo:(P.info? 3).map (fun i=>(i.zero,i.size,i.bytes)) = some (some (.int .i64 0),1,8))
include ht hinfo
theorem app1 (base:Nat) (W:World) (x:Int) {ops:Array Oper} {rest:List Oper} {o:Oper} {a:Act} {Q:Exit → Act → World → Prop} (hgd:o.guard = none) (s y:Operand)
  (ho:o.op = .call { callee:=.builtin .append,args:=#[s,y],argTypes:=#[t,t] }) (v:Value) (l:List Int) (hs:a.eval s = v) (hy:a.eval y = .slice (some ⟨W.heap.size,0,none⟩) 1 1)
  (hown:OwnI W base v l) (hbase:base ≤ W.heap.size) (hlen:l.length < 100000000)
  (h:∀ v' w',OwnI w' base v' (l ++ [x]) → W.grownBy w' v.ownBlock → (∃ g cap,v' = .slice (some ⟨g,0,none⟩) (l.length + 1) cap) → wpList P ops Q rest (a.put o.dst v') w') :
  wpList P ops Q (o :: rest) a (W.alloc (.cells #[.int .i64 x] 3)):=by
 obtain ⟨i0,hi,hz0,hz1,hz2⟩:=info_parts hinfo
 have hown0:W.ownsRow base 3 1 v l.length (l.map (Value.int .i64)):=hown
 refine wpList_append_own _ hgd s y t ho base 3 i0 (.int .i64 0) 1 8 ht hi hz0 hz1 hz2 rfl (by decide) v l.length _ hs (hown0.alloc _) ⟨W.heap.size,0,none⟩ 1 1 [.int .i64 x] hy rfl (cell_one_new _ _ _) (by simp [Value.oneCell']) (by unfold maxLen;omega) (by omega) (by simp;omega) ?_
 intro v' w' h1 h2 _
 refine h v' w' (by unfold OwnI;simpa using h1) ?_ ?_
 ·exact (World.grownBy_alloc W _ _).trans h2
 ·obtain ⟨g,cap,rfl⟩:=ownsRow_succ h1
  exact ⟨g,cap,rfl⟩
end
def modZ (i n:Int):Int:=if n < 1 then 0 else i % n
theorem modZ_lo (i n:Int):0 ≤ modZ i n:=by
 unfold modZ;split
 ·omega
 ·exact Int.emod_nonneg _ (by omega)
theorem modZ_hi (i n:Int) (h:1 ≤ n):modZ i n < n:=by
 unfold modZ;rw [if_neg (by omega)];exact Int.emod_lt_of_pos _ (by omega)
theorem modZ_idem (i n:Int) (h:1 ≤ n):modZ (modZ i n) n = modZ i n:=by
 unfold modZ;rw [if_neg (by omega),if_neg (by omega),Int.emod_emod_of_dvd _ (Int.dvd_refl _)]
theorem tmod_two (i n:Int) (h:1 ≤ n):(i.tmod n + n).tmod n = i % n:=by
 have h0:0 ≤ i.tmod n + n:=by have:=Int.lt_tmod_of_pos i (show (0:Int) < n by omega);omega
 rw [Int.tmod_eq_emod_of_nonneg h0,Int.add_emod_right,Int.tmod_eq_emod]
 split
 ·simp
 ·have:((n.natAbs:Nat):Int) = n:=by omega
  rw [this]
  simp
def walkAt (n start step:Int) (k:Nat):Int:=(modZ start n + k * step) % n
def walkBad (n step:Int):Prop:=n < 1 ∨ 1024 < n ∨ step < 1 ∨ 1024 < step
instance (n step:Int):Decidable (walkBad n step):=by unfold walkBad;infer_instance
def walkL (n start step:Int):List Int:=if walkBad n step then [] else (List.range n.toNat).map (walkAt n start step)
theorem walkAt_zero (n start step:Int) (h:1 ≤ n):walkAt n start step 0 = modZ start n:=by
 unfold walkAt
 have h1:=modZ_lo start n
 have h2:=modZ_hi start n h
 simp only [Int.natCast_zero,Int.zero_mul,Int.add_zero]
 exact Int.emod_eq_of_lt h1 h2
theorem walkAt_succ (n start step:Int) (k:Nat):walkAt n start step (k + 1) = (walkAt n start step k + step) % n:=by
 unfold walkAt
 rw [Int.emod_add_emod]
 congr 1
 push_cast
 rw [Int.add_mul]
 omega
theorem walkAt_lo (n start step:Int) (k:Nat) (h:1 ≤ n):0 ≤ walkAt n start step k:=Int.emod_nonneg _ (by omega)
theorem walkAt_hi (n start step:Int) (k:Nat) (h:1 ≤ n):walkAt n start step k < n:=Int.emod_lt_of_pos _ (by omega)
theorem walkL_len (n start step:Int):(walkL n start step).length ≤ 1024:=by
 unfold walkL;split
 ·simp
 ·rename_i h;unfold walkBad at h;simp;omega
open Go.RowKit
structure Only (S:Nat → Prop) (w w':World):Prop where
 os:w'.os = w.os
 tape:w'.tape = w.tape
 output:w'.output = w.output
 size:w.heap.size ≤ w'.heap.size
 block:∀ k,k < w.heap.size → ¬ S k → w'.heap[k]? = w.heap[k]?
theorem Only.refl (S:Nat → Prop) (w:World):Only S w w:=⟨rfl,rfl,rfl,Nat.le_refl _,fun _ _ _=>rfl⟩
theorem Only.trans {S:Nat → Prop} {a b c:World} (h:Only S a b) (k:Only S b c):Only S a c:=
 ⟨k.os.trans h.os,k.tape.trans h.tape,k.output.trans h.output,Nat.le_trans h.size k.size,fun i hi hs=>(k.block i (Nat.lt_of_lt_of_le hi h.size) hs).trans (h.block i hi hs)⟩
theorem Only.mono {S T:Nat → Prop} {a b:World} (h:Only S a b) (hs:∀ k,k < a.heap.size → S k → T k):Only T a b:=
 ⟨h.os,h.tape,h.output,h.size,fun i hi ht=>h.block i hi (fun x=>ht (hs i hi x))⟩
theorem Only.andThen {S T:Nat → Prop} {a b c:World} (h:Only S a b) (k:Only T b c) (ht:∀ k,k < a.heap.size → T k → S k):Only S a c:=
 ⟨k.os.trans h.os,k.tape.trans h.tape,k.output.trans h.output,Nat.le_trans h.size k.size,fun i hi hs=>(k.block i (Nat.lt_of_lt_of_le hi h.size) (fun x=>hs (ht i hi x))).trans (h.block i hi hs)⟩
theorem Only.alloc {S:Nat → Prop} {a w:World} (h:Only S a w) (o:Obj):Only S a (w.alloc o):=
 ⟨h.os,h.tape,h.output,Nat.le_trans h.size (by simp),fun i hi hs=>(Below.heap_alloc w o i (Nat.lt_of_lt_of_le hi h.size)).trans (h.block i hi hs)⟩
theorem Only.drew {S:Nat → Prop} {a w:World} (h:Only S a w):Only S a w.drew:=⟨h.os,h.tape,h.output,h.size,h.block⟩
theorem Only.drewN {S:Nat → Prop} {a w:World} (h:Only S a w) (n:Nat):Only S a (w.drewN n):=⟨h.os,h.tape,h.output,h.size,h.block⟩
theorem Only.set {S:Nat → Prop} {a w:World} {c:Nat} (h:Only S a w) (hc:a.heap.size ≤ c ∨ S c) (i:Nat) (u:Value):Only S a (w.setCell ⟨c,i,none⟩ u):=
 ⟨h.os,h.tape,h.output,Nat.le_trans h.size (by simp [World.setCell]),fun k hk hs=>by
  rw [Below.heap_setCell w ⟨c,i,none⟩ u k (fun e=>hc.elim (fun h1=>absurd (show k = c from e) (by omega)) (fun h1=>hs (by rw [show k = c from e];exact h1)))]
  exact h.block k hk hs⟩
theorem Only.grown {S:Nat → Prop} {a w w':World} {row:Option Nat} (h:Only S a w) (hg:w.grownBy w' row) (hr:∀ k,row = some k → a.heap.size ≤ k ∨ S k):Only S a w':=
 ⟨hg.os.trans h.os,hg.tape.trans h.tape,hg.output.trans h.output,Nat.le_trans h.size hg.size,fun k hk hs=>by
  rw [hg.block k (Nat.lt_of_lt_of_le hk h.size) (fun e=>(hr k e.symm).elim (fun h1=>absurd hk (by omega)) hs)]
  exact h.block k hk hs⟩
theorem Only.below {S:Nat → Prop} {a w w':World} (h:Only S a w) (hb:Below w.heap.size w w'):Only S a w':=
 h.grown (grown_of_below hb none) (fun k e=>by cases e)
theorem Only.toBelow {S:Nat → Prop} {w w':World} (h:Only S w w') {B:Nat} (hB:B ≤ w.heap.size) (hs:∀ k,S k → B ≤ k):Below B w w':=
 ⟨h.os,h.tape,h.output,h.size,fun k hk=>h.block k (Nat.lt_of_lt_of_le hk hB) (fun x=>by have:=hs k x;omega)⟩
theorem below_only {S:Nat → Prop} {a w w':World} (h:Below a.heap.size a w) (k:Only S w w') (hs:∀ k,S k → a.heap.size ≤ k):Below a.heap.size a w':=
 h.trans (k.toBelow h.size hs)
theorem Blk.only {S:Nat → Prop} {w w':World} {b:Nat} {cs:Array Value} {t:TypeId} (h:Blk w b cs t) (k:Only S w w') (hs:¬ S b):Blk w' b cs t:=(k.block b h.lt hs).trans h
theorem Cells.only {S:Nat → Prop} {w w':World} {g m:Nat} {t:TypeId} {F:Nat → Value} (h:Cells w g m t F) (k:Only S w w') (hs:¬ S g):Cells w' g m t F:=by
 obtain ⟨cs,hb,r⟩:=h;exact ⟨cs,hb.only k hs,r⟩
def Slf (w:World) (B:Nat) (v:Value) (l:List Int):Prop:=
 ∃ a cap,v = .slice a l.length cap ∧ ((a = none → cap = 0) ∧ l.length ≤ cap) ∧ l.length ≤ maxLen ∧
  (l = [] ∨ ∃ b off,a = some ⟨b,off,none⟩ ∧ B ≤ b ∧ b < w.heap.size ∧ ∀ i,i < l.length → w.cell? ⟨b,off + i,none⟩ = some (.int .i64 (l[i]?.getD 0)))
theorem Slf.nil (w:World) (B:Nat):Slf w B (.slice none 0 0) []:=⟨none,0,rfl,⟨fun _=>rfl,Nat.le_refl _⟩,Nat.zero_le _,.inl rfl⟩
theorem Slf.mono {w:World} {B B':Nat} {v:Value} {l:List Int} (h:Slf w B v l) (hB:B' ≤ B):Slf w B' v l:=by
 obtain ⟨a,cap,hv,hn,hm,h | ⟨b,off,ha,h1,hb,hc⟩⟩:=h
 ·exact ⟨a,cap,hv,hn,hm,.inl h⟩
 ·exact ⟨a,cap,hv,hn,hm,.inr ⟨b,off,ha,by omega,hb,hc⟩⟩
theorem Slf.only {S:Nat → Prop} {w w':World} {B:Nat} {v:Value} {l:List Int} (h:Slf w B v l) (k:Only S w w') (hs:∀ b,B ≤ b → ¬ S b):Slf w' B v l:=by
 obtain ⟨a,cap,hv,hn,hm,h | ⟨b,off,ha,h1,hb,hc⟩⟩:=h
 ·exact ⟨a,cap,hv,hn,hm,.inl h⟩
 ·exact ⟨a,cap,hv,hn,hm,.inr ⟨b,off,ha,h1,Nat.lt_of_lt_of_le hb k.size,fun i hi=>(World.cell?_of_block (k.block b hb (hs b h1))).trans (hc i hi)⟩⟩
theorem Slf.below {w w':World} {B:Nat} {v:Value} {l:List Int} (h:Slf w B v l) (hb:Below w.heap.size w w'):Slf w' B v l:=
 h.only (S:=fun _=>False) ((Only.refl _ w).below hb) (fun _ _ x=>x)
theorem Slf.ofOwn {w:World} {base:Nat} {v:Value} {l:List Int} (h:OwnI w base v l):Slf w base v l:=by
 have hs:=Sl.ofOwn h
 have h0:=h
 obtain ⟨_,⟨rfl,hz⟩ | ⟨g,cap,cur,rfl,hb,hg,hnc,_⟩⟩:=h
 ·have:l = []:=List.length_eq_zero_iff.1 hz
  subst this
  exact Slf.nil w base
 ·obtain ⟨a,cap',he,hm,h1 | ⟨b,off,rfl,hb',hc⟩⟩:=hs
  ·exact ⟨_,_,rfl,⟨(fun h=>by cases h),hnc⟩,hm,.inl h1⟩
  ·simp only [Value.slice.injEq] at he
   obtain ⟨he,_,rfl⟩:=he
   cases he
   exact ⟨_,_,rfl,⟨(fun h=>by cases h),hnc⟩,hm,.inr ⟨_,_,rfl,hb,hb',hc⟩⟩
theorem Slf.none0 (w:World) (B:Nat) (ad:Addr) (c:Nat):Slf w B (.slice (some ad) 0 c) []:=⟨some ad,c,rfl,⟨(fun h=>by cases h),Nat.zero_le _⟩,Nat.zero_le _,.inl rfl⟩
theorem Slf.drop {w:World} {B:Nat} {b off cap cap':Nat} {l:List Int} {n:Nat} (h:Slf w B (.slice (some ⟨b,off,none⟩) l.length cap) l) (k:Nat) (hk:k ≤ l.length) (hn:n = l.length - k) (hc':n ≤ cap'):Slf w B (.slice (some ⟨b,off + k,none⟩) n cap') (l.drop k):=by
 subst hn
 obtain ⟨a,c,hv,_,hm,h⟩:=h
 simp only [Value.slice.injEq] at hv
 obtain ⟨rfl,_,_⟩:=hv
 refine ⟨some ⟨b,off + k,none⟩,cap',by simp,⟨(fun h=>by cases h),by simpa using hc'⟩,by simp;omega,?_⟩
 rcases h with rfl | ⟨b',off',he,h1,hb,hc⟩
 ·left;simp
 ·cases he
  refine .inr ⟨b,off + k,rfl,h1,hb,fun i hi=>?_⟩
  have hi':k + i < l.length:=by simp at hi;omega
  rw [Nat.add_assoc,hc (k + i) hi',List.getElem?_drop]
theorem Slf.open {w:World} {B:Nat} {v:Value} {l:List Int} (h:Slf w B v l):(v = .slice none 0 0 ∧ l = []) ∨ (∃ ad cap,v = .slice (some ad) 0 cap ∧ l = []) ∨
  ∃ b off cap,v = .slice (some ⟨b,off,none⟩) l.length cap ∧ l ≠ [] ∧ l.length ≤ cap ∧ B ≤ b ∧ b < w.heap.size ∧ ∀ i,i < l.length → w.cell? ⟨b,off + i,none⟩ = some (.int .i64 (l[i]?.getD 0)):=by
 obtain ⟨a,cap,rfl,hn,hm,h⟩:=h
 by_cases hl:l = []
 ·subst hl
  cases a with
  | none=>rw [hn.1 rfl];exact .inl ⟨rfl,rfl⟩
  | some ad=>exact .inr (.inl ⟨ad,cap,rfl,rfl⟩)
 ·rcases h with h | ⟨b,off,rfl,h1,hb,hc⟩
  ·exact absurd h hl
  ·exact .inr (.inr ⟨b,off,cap,rfl,hl,hn.2,h1,hb,hc⟩)
section
variable {P:Program} {t:TypeId} (ht:P.underlying t = some (.slice 3)) (hinfo:(P.info? 3).map (fun i=>(i.zero,i.size,i.bytes)) = some (some (.int .i64 0),1,8))
include ht hinfo
end
theorem OwnI.only {S:Nat → Prop} {w w':World} {base:Nat} {v:Value} {l:List Int} (h:OwnI w base v l) (k:Only S w w') (hs:∀ b,base ≤ b → ¬ S b):OwnI w' base v l:=by
 obtain ⟨h1,h2 | ⟨g,cap,cur,hv,hg,hh,r⟩⟩:=h
 ·exact ⟨h1,.inl h2⟩
 ·exact ⟨h1,.inr ⟨g,cap,cur,hv,hg,(k.block g (Array.getElem?_eq_some_iff.1 hh).1 (hs g hg)).trans hh,r⟩⟩
open Go.RowKit
def Slw (w:World) (v:Value) (l:List Int):Prop:=
 ∃ a cap,v = .slice a l.length cap ∧ ((a = none → cap = 0) ∧ l.length ≤ cap) ∧ l.length ≤ maxLen ∧
  (l = [] ∨ ∃ b off,a = some ⟨b,off,none⟩ ∧ b < w.heap.size ∧ ∀ i,i < l.length → w.cell? ⟨b,off + i,none⟩ = some (.int .i64 (l[i]?.getD 0)))
def Off (S:Nat → Prop) (v:Value):Prop:=∀ j,v.ownBlock = some j → ¬ S j
theorem Off.nil (S:Nat → Prop):Off S (.slice none 0 0):=by intro j h;simp [Value.ownBlock] at h
theorem Off.mono {S T:Nat → Prop} {v:Value} (h:Off S v) (hs:∀ j,T j → S j):Off T v:=fun j hj ht=>h j hj (hs j ht)
theorem Slw.nil (w:World):Slw w (.slice none 0 0) []:=⟨none,0,rfl,⟨fun _=>rfl,Nat.le_refl _⟩,Nat.zero_le _,.inl rfl⟩
theorem Slw.none0 (w:World) (ad:Addr) (c:Nat):Slw w (.slice (some ad) 0 c) []:=⟨some ad,c,rfl,⟨(fun h=>by cases h),Nat.zero_le _⟩,Nat.zero_le _,.inl rfl⟩
theorem Slw.len {w:World} {v:Value} {l:List Int} (h:Slw w v l):∃ a cap,v = .slice a l.length cap:=by
 obtain ⟨a,cap,hv,_⟩:=h;exact ⟨a,cap,hv⟩
theorem Slw.only {S:Nat → Prop} {w w':World} {v:Value} {l:List Int} (h:Slw w v l) (k:Only S w w') (hs:Off S v):Slw w' v l:=by
 obtain ⟨a,cap,hv,hn,hm,h | ⟨b,off,ha,hb,hc⟩⟩:=h
 ·exact ⟨a,cap,hv,hn,hm,.inl h⟩
 ·subst hv ha
  exact ⟨_,cap,rfl,hn,hm,.inr ⟨b,off,rfl,Nat.lt_of_lt_of_le hb k.size,fun i hi=>(World.cell?_of_block (k.block b hb (hs b rfl))).trans (hc i hi)⟩⟩
theorem Slw.below {w w':World} {v:Value} {l:List Int} (h:Slw w v l) (hb:Below w.heap.size w w'):Slw w' v l:=
 h.only (S:=fun _=>False) ((Only.refl _ w).below hb) (fun _ _ x=>x)
theorem Slw.drewN {w:World} {v:Value} {l:List Int} (h:Slw w v l) (n:Nat):Slw (w.drewN n) v l:=h
theorem Slw.drew {w:World} {v:Value} {l:List Int} (h:Slw w v l):Slw w.drew v l:=h
theorem Slw.alloc {w:World} {v:Value} {l:List Int} (h:Slw w v l) (o:Obj):Slw (w.alloc o) v l:=h.below (below_alloc (Below.refl _ _) o)
theorem Slw.ofSlf {w:World} {B:Nat} {v:Value} {l:List Int} (h:Slf w B v l):Slw w v l:=by
 obtain ⟨a,cap,hv,hn,hm,h | ⟨b,off,ha,_,hb,hc⟩⟩:=h
 ·exact ⟨a,cap,hv,hn,hm,.inl h⟩
 ·exact ⟨a,cap,hv,hn,hm,.inr ⟨b,off,ha,hb,hc⟩⟩
theorem Slw.ofOwn {w:World} {base:Nat} {v:Value} {l:List Int} (h:OwnI w base v l):Slw w v l:=Slw.ofSlf (Slf.ofOwn h)
theorem Slw.toSlf {w:World} {v:Value} {l:List Int} (h:Slw w v l):Slf w 0 v l:=by
 obtain ⟨a,cap,hv,hn,hm,h | ⟨b,off,ha,hb,hc⟩⟩:=h
 ·exact ⟨a,cap,hv,hn,hm,.inl h⟩
 ·exact ⟨a,cap,hv,hn,hm,.inr ⟨b,off,ha,Nat.zero_le _,hb,hc⟩⟩
theorem Slw.lt {w:World} {v:Value} {l:List Int} (h:Slw w v l) (hl:l ≠ []):∀ j,v.ownBlock = some j → j < w.heap.size:=by
 obtain ⟨a,cap,rfl,hn,hm,h | ⟨b,off,rfl,hb,hc⟩⟩:=h
 ·exact absurd h hl
 ·intro j hj;simp [Value.ownBlock] at hj;omega
theorem Slw.drop {w:World} {b off cap cap':Nat} {l:List Int} {n:Nat} (h:Slw w (.slice (some ⟨b,off,none⟩) l.length cap) l) (k:Nat) (hk:k ≤ l.length) (hn:n = l.length - k) (hc':n ≤ cap'):Slw w (.slice (some ⟨b,off + k,none⟩) n cap') (l.drop k):=
 Slw.ofSlf (h.toSlf.drop k hk hn hc')
theorem Slw.take {w:World} {a:Option Addr} {cap:Nat} {l:List Int} (h:Slw w (.slice a l.length cap) l) (k:Nat) (hk:k ≤ l.length):Slw w (.slice a k cap) (l.take k):=by
 obtain ⟨a',cap',he,hn,hm,h1⟩:=h
 simp only [Value.slice.injEq] at he
 obtain ⟨rfl,_,rfl⟩:=he
 refine ⟨a,cap,by simp;omega,⟨hn.1,by simp;omega⟩,by simp;omega,?_⟩
 rcases h1 with rfl | ⟨b,off,ha,hb,hc⟩
 ·left;simp
 ·refine .inr ⟨b,off,ha,hb,fun i hi=>?_⟩
  have hi':i < k ∧ i < l.length:=by simp at hi;omega
  rw [hc i hi'.2,List.getElem?_take_of_lt hi'.1]
theorem Slw.open {w:World} {v:Value} {l:List Int} (h:Slw w v l):(v = .slice none 0 0 ∧ l = []) ∨ (∃ ad cap,v = .slice (some ad) 0 cap ∧ l = []) ∨
  ∃ b off cap,v = .slice (some ⟨b,off,none⟩) l.length cap ∧ l ≠ [] ∧ l.length ≤ cap ∧ b < w.heap.size ∧ ∀ i,i < l.length → w.cell? ⟨b,off + i,none⟩ = some (.int .i64 (l[i]?.getD 0)):=by
 rcases h.toSlf.open with h | h | ⟨b,off,cap,h1,h2,h3,_,h4,h5⟩
 ·exact .inl h
 ·exact .inr (.inl h)
 ·exact .inr (.inr ⟨b,off,cap,h1,h2,h3,h4,h5⟩)
theorem Slw.new (w:World) (l:List Int) (h:l.length ≤ maxLen):Slw (w.alloc (.cells (l.map (Value.int .i64)).toArray 3)) (.slice (some ⟨w.heap.size,0,none⟩) l.length l.length) l:=by
 refine ⟨_,_,rfl,⟨(fun h=>by cases h),Nat.le_refl _⟩,h,.inr ⟨_,0,rfl,by simp,fun i hi=>?_⟩⟩
 rw [(Blk.new w _ 3).cell]
 simp [hi]
theorem OwnI.shrink {w:World} {base:Nat} {g m cap:Nat} {l:List Int} (h:OwnI w base (.slice (some ⟨g,0,none⟩) m cap) l) (k:Nat) (hk:k ≤ l.length):OwnI w base (.slice (some ⟨g,0,none⟩) k cap) (l.take k):=by
 obtain ⟨h1,⟨hv,_⟩ | ⟨g',cap',cur,hv,hb,hg,hn,hm,hs,ht⟩⟩:=h
 ·simp at hv
 ·simp only [Value.slice.injEq] at hv
  obtain ⟨he,_,rfl⟩:=hv
  cases he
  rw [Nat.mul_one] at ht
  have hkl:(l.take k).length = k:=by simp;omega
  refine ⟨by simp,.inr ⟨g,cap,cur,by rw [hkl],hb,hg,by rw [hkl];omega,hm,hs,?_⟩⟩
  rw [hkl,Nat.mul_one,List.map_take,← ht,List.take_take]
  congr 1
  omega
theorem OwnI.off {S:Nat → Prop} {w w':World} {base:Nat} {v:Value} {l:List Int} (h:OwnI w base v l) (k:Only S w w') (hs:Off S v):OwnI w' base v l:=by
 obtain ⟨h1,h2 | ⟨g,cap,cur,hv,hg,hh,r⟩⟩:=h
 ·exact ⟨h1,.inl h2⟩
 ·exact ⟨h1,.inr ⟨g,cap,cur,hv,hg,(k.block g (Array.getElem?_eq_some_iff.1 hh).1 (hs g (by rw [hv];rfl))).trans hh,r⟩⟩
theorem OwnI.open {w:World} {base:Nat} {v:Value} {l:List Int} (h:OwnI w base v l):(v = .slice none 0 0 ∧ l = []) ∨
  ∃ g cap,v = .slice (some ⟨g,0,none⟩) l.length cap ∧ base ≤ g ∧ g < w.heap.size ∧ l.length ≤ cap ∧ ∀ i,i < l.length → w.cell? ⟨g,i,none⟩ = some (.int .i64 (l[i]?.getD 0)):=by
 have hs:=Sl.ofOwn h
 obtain ⟨_,⟨rfl,hz⟩ | ⟨g,cap,cur,rfl,hb,hg,hnc,hcm,hcs,hct⟩⟩:=h
 ·exact .inl ⟨rfl,List.length_eq_zero_iff.1 hz⟩
 ·refine .inr ⟨g,cap,rfl,hb,(Array.getElem?_eq_some_iff.1 hg).1,hnc,fun i hi=>?_⟩
  obtain ⟨a,cap',he,_,h1 | ⟨b,off,rfl,_,hc⟩⟩:=hs
  ·simp [h1] at hi
  ·simp only [Value.slice.injEq] at he
   obtain ⟨he,_⟩:=he
   cases he
   have:=hc i hi
   rwa [Nat.zero_add] at this
open Go.RowKit
section
variable {P:Program} {t:TypeId} (ht:P.underlying t = some (.slice 3)) (hinfo:(P.info? 3).map (fun i=>(i.zero,i.size,i.bytes)) = some (some (.int .i64 0),1,8))
include ht hinfo
def Appd (W:World) (base:Nat) (v:Value) (l m:List Int) (v':Value) (w':World):Prop:=
 OwnI w' base v' (l ++ m) ∧ W.grownBy w' v.ownBlock ∧ ∀ j,v'.ownBlock = some j → v.ownBlock = some j ∨ W.heap.size ≤ j
theorem run_appX (base:Nat) (W:World) (ty:TypeId) (v:Value) (l:List Int) (u:Value) (m:List Int) (hown:OwnI W base v l) (hu:Slw W u m) (hbase:base ≤ W.heap.size) (hlen:l.length + m.length < 100000000) :
  ∃ v' w',(Builtin.append_ #[t,t] ty #[v,u]).run P W = .ok v' w' ∧ Appd W base v l m v' w':=by
 obtain ⟨i0,hi,hz0,hz1,hz2⟩:=info_parts hinfo
 have hown0:W.ownsRow base 3 1 v l.length (l.map (Value.int .i64)):=hown
 by_cases hm:u = .slice none 0 0
 ·subst hm
  have:m = []:=by
   obtain ⟨a,cap,h,_⟩:=hu
   simp only [Value.slice.injEq] at h
   exact List.length_eq_zero_iff.1 h.2.1.symm
  subst this
  refine ⟨v,W,run_append_owned_none (P:=P) (w:=W) base t ty 3 i0 1 ht hi v l.length _ hown0,by simpa using hown,grown_refl _ _,fun j h=>.inl h⟩
 ·obtain ⟨ad,c,rfl,hnews⟩:∃ ad c,u = .slice (some ad) m.length c ∧ ∀ (j:Nat) (x:Value),(m.map (Value.int .i64))[j]? = some x → W.cell? (ad.add j) = some x:=by
   rcases hu.open with ⟨h,_⟩ | ⟨ad,cap,rfl,rfl⟩ | ⟨b,off,cap,rfl,_,_,_,hc⟩
   ·exact absurd h hm
   ·exact ⟨ad,cap,rfl,by simp⟩
   ·refine ⟨_,cap,rfl,fun j x hj=>?_⟩
    rw [List.getElem?_map] at hj
    obtain ⟨z,hz,rfl⟩:=Option.map_eq_some_iff.1 hj
    have hjl:j < m.length:=(List.getElem?_eq_some_iff.1 hz).1
    rw [Go.WideShapes.add_plain,hc j hjl,hz]
    rfl
  have hone:∀ x ∈ m.map (Value.int .i64),x.oneCell' = true:=by simp [Value.oneCell']
  rcases hown.open with ⟨rfl,rfl⟩ | ⟨g,cap,rfl,hbg,hg,hcap,hcells⟩
  ·obtain ⟨v',w',hr,h1,h2,_⟩:=run_append_own (P:=P) W W.heap.size t ty 3 i0 (.int .i64 0) 1 8 ht hi hz0 hz1 hz2 rfl (by decide) (.slice none 0 0) 0 [] (World.ownsRow_nil W _ 3 1) ad m.length c _ (by simp) hnews hone (by unfold maxLen;omega) (by omega) (Nat.le_refl _)
   have h1':OwnI w' W.heap.size v' ([] ++ m):=by unfold OwnI;simpa using h1
   exact ⟨v',w',hr,h1'.mono hbase,h2,fun j hj=>.inr (h1'.lt j hj).1⟩
  ·by_cases hroom:l.length + m.length ≤ cap
   ·obtain ⟨w',hr,h1,h2⟩:=run_append_fits (P:=P) W base t ty 3 i0 1 ht hi hz1 g l.length cap _ hown0 ad m.length c _ (by simp) hnews hone hroom
    exact ⟨_,w',hr,by unfold OwnI;simpa using h1,h2,fun j hj=>.inl hj⟩
   ·obtain ⟨v',w',hr,h1,h2⟩:=run_append_arg_grows (P:=P) W t ty 3 i0 (.int .i64 0) 1 8 ht hi hz0 hz1 hz2 rfl (by decide) ⟨g,0,none⟩ l.length cap (l.map (Value.int .i64)) (by simp) (fun j x hj=>by
      rw [List.getElem?_map] at hj
      obtain ⟨z,hz,rfl⟩:=Option.map_eq_some_iff.1 hj
      have hjl:j < l.length:=(List.getElem?_eq_some_iff.1 hz).1
      rw [Go.WideShapes.add_plain,Nat.zero_add,hcells j hjl,hz]
      rfl) ad m.length c _ (by simp) hnews (by omega) (by unfold maxLen;omega) (by omega)
    have h1':OwnI w' W.heap.size v' (l ++ m):=by unfold OwnI;simpa using h1
    exact ⟨v',w',hr,h1'.mono hbase,⟨h2.os,h2.tape,h2.output,h2.size,fun k hk _=>h2.block k hk (by simp)⟩,fun j hj=>.inr (h1'.lt j hj).1⟩
theorem appX (base:Nat) (W:World) {ops:Array Oper} {rest:List Oper} {o:Oper} {a:Act} {Q:Exit → Act → World → Prop} (hgd:o.guard = none) (s y:Operand)
  (ho:o.op = .call { callee:=.builtin .append,args:=#[s,y],argTypes:=#[t,t] }) (v:Value) (l:List Int) (u:Value) (m:List Int) (hs:a.eval s = v) (hy:a.eval y = u)
  (hown:OwnI W base v l) (hu:Slw W u m) (hbase:base ≤ W.heap.size) (hlen:l.length + m.length < 100000000)
  (h:∀ v' w',Appd W base v l m v' w' → wpList P ops Q rest (a.put o.dst v') w') :
  wpList P ops Q (o :: rest) a W:=by
 refine wpList_plain hgd fun K hK=>?_
 obtain ⟨v',w',hr,hA⟩:=run_appX ht hinfo base W o.type v l u m hown hu hbase hlen
 unfold Oper.wp
 simp [execOp,ho,resolve,invoke,builtin,hs,hy,hr,Result.andThen]
 exact hK _ _ (h v' w' hA)
theorem stepX (base:Nat) (W:World) {ops:Array Oper} {o:Oper} {a:Act} {K:Act → World → Prop} {Q:Exit → Act → World → Prop} {E:Prop} (hgd:o.guard = none) (s y:Operand)
  (ho:o.op = .call { callee:=.builtin .append,args:=#[s,y],argTypes:=#[t,t] }) (v:Value) (l:List Int) (u:Value) (m:List Int) (hs:a.eval s = v) (hy:a.eval y = u)
  (hown:OwnI W base v l) (hu:Slw W u m) (hbase:base ≤ W.heap.size) (hlen:l.length + m.length < 100000000)
  (h:∀ v' w',Appd W base v l m v' w' → K (a.put o.dst v') w') :
  if Region.wanted o (yielded ops a.tmps) = true then Oper.wp P o a W K Q else E:=by
 have hw:Region.wanted o (yielded ops a.tmps) = true:=by simp [Region.wanted,hgd]
 rw [if_pos hw]
 obtain ⟨v',w',hr,hA⟩:=run_appX ht hinfo base W o.type v l u m hown hu hbase hlen
 unfold Oper.wp
 simp [execOp,ho,resolve,invoke,builtin,hs,hy,hr,Result.andThen]
 exact h v' w' hA
end
theorem Slw.new1 (w:World) (x:Int):Slw (w.alloc (.cells #[.int .i64 x] 3)) (.slice (some ⟨w.heap.size,0,none⟩) 1 1) [x]:=Slw.new w [x] (by simp [maxLen])
theorem OwnI.alloc {w:World} {base:Nat} {v:Value} {l:List Int} (h:OwnI w base v l) (o:Obj):OwnI (w.alloc o) base v l:=h.below (below_alloc (Below.refl _ _) o)
theorem OwnI.new {w:World} {l:List Int} (h:l.length ≤ maxLen):OwnI (w.alloc (.cells (l.map (Value.int .i64)).toArray 3)) w.heap.size (.slice (some ⟨w.heap.size,0,none⟩) l.length l.length) l:=
 ⟨by simp,.inr ⟨w.heap.size,l.length,_,rfl,Nat.le_refl _,Blk.new w _ 3,Nat.le_refl _,h,by simp,by rw [Nat.mul_one];exact List.take_of_length_le (by simp)⟩⟩
theorem Appd.some {W w':World} {base:Nat} {v v':Value} {l:List Int} {x:Int} (h:Appd W base v l [x] v' w'):∃ g cap,v' = .slice (some ⟨g,0,none⟩) (l.length + 1) cap:=by
 rcases h.1.open with ⟨_,h0⟩ | ⟨g,cap,h0,_⟩
 ·simp at h0
 ·exact ⟨g,cap,by rw [h0];simp⟩
open Go.RowKit
def AppdV (W:World) (base:Nat) (e:TypeId) (size:Nat) (v:Value) (n:Nat) (xs ys:List Value) (v':Value) (w':World):Prop:=
 w'.ownsRow base e size v' (n + 1) (xs ++ ys) ∧ W.grownBy w' v.ownBlock ∧ ∀ j,v'.ownBlock = some j → v.ownBlock = some j ∨ W.heap.size ≤ j
theorem rowv_mono {w:World} {base base':Nat} {e:TypeId} {size:Nat} {v:Value} {n:Nat} {xs:List Value} (h:w.ownsRow base e size v n xs) (hb:base' ≤ base):w.ownsRow base' e size v n xs:=by
 obtain ⟨h1,h2 | ⟨g,cap,cur,hv,hg,hh,r⟩⟩:=h
 ·exact ⟨h1,.inl h2⟩
 ·exact ⟨h1,.inr ⟨g,cap,cur,hv,Nat.le_trans hb hg,hh,r⟩⟩
theorem rowv_off {S:Nat → Prop} {w w':World} {base:Nat} {e:TypeId} {size:Nat} {v:Value} {n:Nat} {xs:List Value} (h:w.ownsRow base e size v n xs) (k:Only S w w') (hs:Off S v):w'.ownsRow base e size v n xs:=by
 obtain ⟨h1,h2 | ⟨g,cap,cur,hv,hg,hh,r⟩⟩:=h
 ·exact ⟨h1,.inl h2⟩
 ·exact ⟨h1,.inr ⟨g,cap,cur,hv,hg,(k.block g (Array.getElem?_eq_some_iff.1 hh).1 (hs g (by rw [hv];rfl))).trans hh,r⟩⟩
theorem rowv_below {w w':World} {base:Nat} {e:TypeId} {size:Nat} {v:Value} {n:Nat} {xs:List Value} (h:w.ownsRow base e size v n xs) (hb:Below w.heap.size w w'):w'.ownsRow base e size v n xs:=
 World.ownsRow.kept h (grown_of_below hb none) (by cases hv:v.ownBlock <;> simp)
theorem rowv_open {w:World} {base:Nat} {e:TypeId} {size:Nat} {v:Value} {n:Nat} {xs:List Value} (h:w.ownsRow base e size v n xs):(v = .slice none 0 0 ∧ n = 0) ∨
  ∃ g cap,v = .slice (some ⟨g,0,none⟩) n cap ∧ base ≤ g ∧ g < w.heap.size ∧ n ≤ cap ∧ ∀ i,i < n * size → w.cell? ⟨g,i,none⟩ = some (xs[i]?.getD undef):=by
 obtain ⟨h1,h2 | ⟨g,cap,cur,rfl,hg,hh,hn,hm,hc,ht⟩⟩:=h
 ·exact .inl h2
 ·refine .inr ⟨g,cap,rfl,hg,(Array.getElem?_eq_some_iff.1 hh).1,hn,fun i hi=>?_⟩
  have hB:Blk w g cur e:=hh
  rw [hB.cell,← ht,List.getElem?_take_of_lt hi]
  have:i < cur.size:=by rw [hc];exact Nat.lt_of_lt_of_le hi (Nat.mul_le_mul_right _ hn)
  simp [this]
def Rdv (w:World) (base:Nat) (e:TypeId) (size:Nat) (v:Value) (n:Nat) (xs:List Value):Prop:=
 w.ownsRow base e size v n xs ∨ ∃ g,v = .slice (some ⟨g,0,none⟩) n n ∧ base ≤ g ∧ g < w.heap.size ∧ xs.length = n * size ∧ ∀ i,i < n * size → w.cell? ⟨g,i,none⟩ = some (xs[i]?.getD undef)
theorem Rdv.mono {w:World} {base base':Nat} {e:TypeId} {size:Nat} {v:Value} {n:Nat} {xs:List Value} (h:Rdv w base e size v n xs) (hb:base' ≤ base):Rdv w base' e size v n xs:=by
 rcases h with h | ⟨g,h1,h2,h3⟩
 ·exact .inl (rowv_mono h hb)
 ·exact .inr ⟨g,h1,Nat.le_trans hb h2,h3⟩
theorem Rdv.off {S:Nat → Prop} {w w':World} {base:Nat} {e:TypeId} {size:Nat} {v:Value} {n:Nat} {xs:List Value} (h:Rdv w base e size v n xs) (k:Only S w w') (hs:Off S v):Rdv w' base e size v n xs:=by
 rcases h with h | ⟨g,h1,h2,h3,h4,h5⟩
 ·exact .inl (rowv_off h k hs)
 ·exact .inr ⟨g,h1,h2,Nat.lt_of_lt_of_le h3 k.size,h4,fun i hi=>(World.cell?_of_block (k.block g h3 (hs g (by rw [h1];rfl)))).trans (h5 i hi)⟩
theorem Rdv.below {w w':World} {base:Nat} {e:TypeId} {size:Nat} {v:Value} {n:Nat} {xs:List Value} (h:Rdv w base e size v n xs) (hb:Below w.heap.size w w'):Rdv w' base e size v n xs:=
 h.off (S:=fun _=>False) ((Only.refl _ w).below hb) (fun _ _ x=>x)
theorem Rdv.len {w:World} {base:Nat} {e:TypeId} {size:Nat} {v:Value} {n:Nat} {xs:List Value} (h:Rdv w base e size v n xs):xs.length = n * size:=by
 rcases h with h | ⟨g,_,_,_,h,_⟩
 ·exact h.1
 ·exact h
theorem Rdv.open {w:World} {base:Nat} {e:TypeId} {size:Nat} {v:Value} {n:Nat} {xs:List Value} (h:Rdv w base e size v n xs):(v = .slice none 0 0 ∧ n = 0) ∨
  ∃ g cap,v = .slice (some ⟨g,0,none⟩) n cap ∧ base ≤ g ∧ g < w.heap.size ∧ n ≤ cap ∧ ∀ i,i < n * size → w.cell? ⟨g,i,none⟩ = some (xs[i]?.getD undef):=by
 rcases h with h | ⟨g,h1,h2,h3,h4,h5⟩
 ·exact rowv_open h
 ·exact .inr ⟨g,n,h1,h2,h3,Nat.le_refl _,h5⟩
theorem Rdv.lt {w:World} {base:Nat} {e:TypeId} {size:Nat} {v:Value} {n:Nat} {xs:List Value} (h:Rdv w base e size v n xs):∀ k,v.ownBlock = some k → base ≤ k ∧ k < w.heap.size:=by
 intro k hk
 rcases h.open with ⟨rfl,_⟩ | ⟨g,cap,rfl,h1,h2,_⟩
 ·cases hk
 ·cases hk;exact ⟨h1,h2⟩
theorem Rdv.cut {w:World} {base g n cap:Nat} {e:TypeId} {size:Nat} {xs:List Value} (h:Rdv w base e size (.slice (some ⟨g,0,none⟩) n cap) n xs) (m:Nat) (hm:m ≤ n):Rdv w base e size (.slice (some ⟨g,0,none⟩) m m) m (xs.take (m * size)):=by
 have hl:=h.len
 have hmn:m * size ≤ n * size:=Nat.mul_le_mul_right _ hm
 rcases h.open with ⟨h0,_⟩ | ⟨g',cap',h0,h1,h2,h3,h4⟩
 ·cases h0
 ·cases h0
  refine .inr ⟨g,rfl,h1,h2,by rw [List.length_take];omega,fun i hi=>?_⟩
  rw [h4 i (by omega),List.getElem?_take_of_lt hi]
section
variable {P:Program} {t e:TypeId} {size bytes:Nat} {z:Value} (ht:P.underlying t = some (.slice e)) (hinfo:(P.info? e).map (fun i=>(i.zero,i.size,i.bytes)) = some (some z,size,bytes)) (hzs:z.cells.size = size) (hsz:0 < size) (hby:bytes ≤ 1000)
include ht hinfo hzs hsz hby
theorem run_appV (base:Nat) (W:World) (ty:TypeId) (v:Value) (n:Nat) (xs:List Value) (ad:Addr) (c:Nat) (ys:List Value) (hown:Rdv W base e size v n xs) (hyl:ys.length = size) (hnews:∀ (j:Nat) (x:Value),ys[j]? = some x → W.cell? (ad.add j) = some x) (hone:∀ x ∈ ys,x.oneCell' = true) (hbase:base ≤ W.heap.size) (hlen:n < 100000000) :
  ∃ v' w',(Builtin.append_ #[t,t] ty #[v,.slice (some ad) 1 c]).run P W = .ok v' w' ∧ AppdV W base e size v n xs ys v' w':=by
 obtain ⟨i0,hi,hz0,hz1,hz2⟩:∃ i,P.info? e = some i ∧ i.zero = some z ∧ i.size = size ∧ i.bytes = bytes:=by
  obtain ⟨i,hi,hh⟩:=Option.map_eq_some_iff.1 hinfo
  simp only [Prod.mk.injEq] at hh
  exact ⟨i,hi,hh.1,hh.2.1,hh.2.2⟩
 have hbyt:(n + 1) * bytes ≤ 140737488355328:=by
  have:=Nat.mul_le_mul (show n + 1 ≤ 100000000 by omega) hby
  omega
 have h63:n + 1 ≤ maxLen:=by unfold maxLen;omega
 rcases hown with hown | ⟨g,rfl,hbg,hg,hxl,hcells⟩
 rotate_left
 ·obtain ⟨v',w',hr,h1,h2⟩:=run_append_arg_grows (P:=P) W t ty e i0 z size bytes ht hi hz0 hz1 hz2 hzs hsz ⟨g,0,none⟩ n n xs hxl (fun j x hj=>by
    have hjl:j < n * size:=by have:=(List.getElem?_eq_some_iff.1 hj).1;rw [hxl] at this;exact this
    rw [Go.WideShapes.add_plain,Nat.zero_add,hcells j hjl,hj]
    rfl) ad 1 c ys (by simpa using hyl) hnews (by omega) h63 hbyt
  exact ⟨v',w',hr,rowv_mono h1 hbase,⟨h2.os,h2.tape,h2.output,h2.size,fun k hk _=>h2.block k hk (by simp)⟩,fun j hj=>.inr (World.ownsRow.lt h1 j hj).1⟩
 rcases rowv_open hown with ⟨rfl,rfl⟩ | ⟨g,cap,rfl,hbg,hg,hcap,hcells⟩
 ·have hx:xs = []:=by have:=hown.1;simpa using this
  subst hx
  obtain ⟨v',w',hr,h1,h2,_⟩:=run_append_own (P:=P) W W.heap.size t ty e i0 z size bytes ht hi hz0 hz1 hz2 hzs hsz (.slice none 0 0) 0 [] (World.ownsRow_nil W _ e size) ad 1 c ys (by simpa using hyl) hnews hone (by omega) (by omega) (Nat.le_refl _)
  exact ⟨v',w',hr,rowv_mono h1 hbase,h2,fun j hj=>.inr (World.ownsRow.lt h1 j hj).1⟩
 ·by_cases hroom:n + 1 ≤ cap
  ·obtain ⟨w',hr,h1,h2⟩:=run_append_fits (P:=P) W base t ty e i0 size ht hi hz1 g n cap _ hown ad 1 c ys (by simpa using hyl) hnews hone hroom
   exact ⟨_,w',hr,h1,h2,fun j hj=>.inl hj⟩
  ·obtain ⟨v',w',hr,h1,h2⟩:=run_append_arg_grows (P:=P) W t ty e i0 z size bytes ht hi hz0 hz1 hz2 hzs hsz ⟨g,0,none⟩ n cap xs hown.1 (fun j x hj=>by
     have hjl:j < n * size:=by have:=(List.getElem?_eq_some_iff.1 hj).1;rw [hown.1] at this;exact this
     rw [Go.WideShapes.add_plain,Nat.zero_add,hcells j hjl,hj]
     rfl) ad 1 c ys (by simpa using hyl) hnews (by omega) h63 hbyt
   exact ⟨v',w',hr,rowv_mono h1 hbase,⟨h2.os,h2.tape,h2.output,h2.size,fun k hk _=>h2.block k hk (by simp)⟩,fun j hj=>.inr (World.ownsRow.lt h1 j hj).1⟩
theorem appV (base:Nat) (W:World) {ops:Array Oper} {rest:List Oper} {o:Oper} {a:Act} {Q:Exit → Act → World → Prop} (hgd:o.guard = none) (s y:Operand)
  (ho:o.op = .call { callee:=.builtin .append,args:=#[s,y],argTypes:=#[t,t] }) (v:Value) (n:Nat) (xs:List Value) (ad:Addr) (c:Nat) (ys:List Value) (hs:a.eval s = v) (hy:a.eval y = .slice (some ad) 1 c)
  (hown:Rdv W base e size v n xs) (hyl:ys.length = size) (hnews:∀ (j:Nat) (x:Value),ys[j]? = some x → W.cell? (ad.add j) = some x) (hone:∀ x ∈ ys,x.oneCell' = true) (hbase:base ≤ W.heap.size) (hlen:n < 100000000)
  (h:∀ v' w',AppdV W base e size v n xs ys v' w' → wpList P ops Q rest (a.put o.dst v') w') :
  wpList P ops Q (o :: rest) a W:=by
 refine wpList_plain hgd fun K hK=>?_
 obtain ⟨v',w',hr,hA⟩:=run_appV ht hinfo hzs hsz hby base W o.type v n xs ad c ys hown hyl hnews hone hbase hlen
 unfold Oper.wp
 simp [execOp,ho,resolve,invoke,builtin,hs,hy,hr,Result.andThen]
 exact hK _ _ (h v' w' hA)
theorem stepV (base:Nat) (W:World) {ops:Array Oper} {o:Oper} {a:Act} {K:Act → World → Prop} {Q:Exit → Act → World → Prop} {E:Prop} (hgd:o.guard = none) (s y:Operand)
  (ho:o.op = .call { callee:=.builtin .append,args:=#[s,y],argTypes:=#[t,t] }) (v:Value) (n:Nat) (xs:List Value) (ad:Addr) (c:Nat) (ys:List Value) (hs:a.eval s = v) (hy:a.eval y = .slice (some ad) 1 c)
  (hown:Rdv W base e size v n xs) (hyl:ys.length = size) (hnews:∀ (j:Nat) (x:Value),ys[j]? = some x → W.cell? (ad.add j) = some x) (hone:∀ x ∈ ys,x.oneCell' = true) (hbase:base ≤ W.heap.size) (hlen:n < 100000000)
  (h:∀ v' w',AppdV W base e size v n xs ys v' w' → K (a.put o.dst v') w') :
  if Region.wanted o (yielded ops a.tmps) = true then Oper.wp P o a W K Q else E:=by
 have hw:Region.wanted o (yielded ops a.tmps) = true:=by simp [Region.wanted,hgd]
 rw [if_pos hw]
 obtain ⟨v',w',hr,hA⟩:=run_appV ht hinfo hzs hsz hby base W o.type v n xs ad c ys hown hyl hnews hone hbase hlen
 unfold Oper.wp
 simp [execOp,ho,resolve,invoke,builtin,hs,hy,hr,Result.andThen]
 exact h v' w' hA
end
theorem AppdV.some {W w':World} {base:Nat} {e:TypeId} {size:Nat} {v v':Value} {n:Nat} {xs ys:List Value} (h:AppdV W base e size v n xs ys v' w'):∃ g cap,v' = .slice (some ⟨g,0,none⟩) (n + 1) cap:=by
 rcases rowv_open h.1 with ⟨_,h0⟩ | ⟨g,cap,h0,_⟩
 ·simp at h0
 ·exact ⟨g,cap,h0⟩
variable {P:Program} {l n:Nat}
end Go.Esc
end
section

end
