/- Parts of the proof of TopReaches. -/
import Derived.Test.YtgadhchejmlfjaaGreatDoorD2
import Derived.Test.YtgadhchejmlfjaaGreatDoorE4
import Derived.Test.YtgadhchejmlfjaaGreatDoorE5
import Derived.Test.YtgadhchejmlfjaaGreatDoorC5
import Derived.Test.YtgadhchejmlfjaaGreatDoorC4
import Derived.Test.YtgadhchejmlfjaaGreatDoorB8
set_option linter.unusedVariables false
set_option maxRecDepth 20000
section
namespace Go.Proofs.YtgadhchejmlfjaaGreatDoor.Mac
open Go.RowKit Go.Esc
open Go.Proofs.YtgadhchejmlfjaaGreatDoor.Vm (Ins)
open Go.Proofs.YtgadhchejmlfjaaGreatDoor.Scr (es robinL)
open Go.Proofs.YtgadhchejmlfjaaGreatDoor.Evt (Ev e0 EvIn EvFine printE)
theorem rM_round {D:Nat → Int} {n i:Nat} {x y:St × Bool × Bool} (h:rM D (n + 1) i x = some y) :
  ∃ s1,stepM x.1 i 0 (D i) = some s1 ∧ (0 < s1.gs.length ∧ 0 < s1.ms.length ∧ s1.rings.length ≤ s1.asked.length ∧ s1.all.length < 100000) ∧ (heldB s1 = true → goodB s1 = true) ∧ rM D n (i + 1) (s1,x.2.1 || heldB s1,x.2.2 || doneB s1) = some y:=by
 unfold rM at h
 obtain ⟨s1,h1,h⟩:=bind_some h
 obtain ⟨z,h2,h⟩:=bind_some h
 unfold nextB at h2
 split at h2
 ·rename_i hc
  simp only [Option.some.injEq] at h2
  subst h2
  exact ⟨s1,h1,hc.1,hc.2,h⟩
 ·cases h2
theorem runs_of:∀ (l:List (Int × Int × Int)) (s:St) (o:List (Int × Int × Int × Int × Int)),runsM' l s = some o → ∃ out s',runsM l s = some (out,s') ∧ out.map evT = o
 | [],s,o,h=>by
  unfold runsM' at h
  simp only [Option.some.injEq] at h
  subst h
  exact ⟨[],s,rfl,rfl⟩
 | x :: l,s,o,h=>by
  unfold runsM' at h
  obtain ⟨s1,h1,h⟩:=bind_some h
  cases h2:runsM' l s1 with
  | none=>rw [h2] at h;cases h
  | some o2=>
   rw [h2] at h
   simp only [Option.map_some,Option.some.injEq] at h
   obtain ⟨out,s',h3,h4⟩:=runs_of l s1 o2 h2
   refine ⟨if s1.sc.seen then s1 :: out else out,s',?_,?_⟩
   ·unfold runsM
    rw [h1]
    simp only [Option.bind_some,h3,Option.map_some]
   ·rw [← h]
    cases s1.sc.seen <;> simp [h4]
theorem ev_cells:∀ l:List St,l.flatMap evC = (l.map evT).flatMap fun x=>[.int .i64 x.1,.int .i64 x.2.1,.int .i64 x.2.2.1,.int .i64 x.2.2.2.1,.int .i64 x.2.2.2.2]
 | []=>rfl
 | x :: l=>by
  rw [List.flatMap_cons,List.map_cons,List.flatMap_cons,ev_cells l]
  rfl
theorem flat_at {α:Type} (f:α → List Value) (k:Nat) (d:α) (hf:∀ x,(f x).length = k):∀ (l:List α) (i r:Nat),i < l.length → r < k → (l.flatMap f)[i * k + r]? = (f (l[i]?.getD d))[r]?
 | [],_,_,h,_=>absurd h (Nat.not_lt_zero _)
 | x :: l,0,r,_,hr=>by
  rw [List.flatMap_cons,Nat.zero_mul,Nat.zero_add,List.getElem?_append_left (by rw [hf];exact hr)]
  rfl
 | x :: l,i + 1,r,h,hr=>by
  rw [List.flatMap_cons,List.getElem?_append_right (by rw [hf,Nat.add_mul];omega),show (i + 1) * k + r - (f x).length = i * k + r by rw [hf,Nat.add_mul];omega]
  exact flat_at f k d hf l i r (by simpa using h) hr
theorem row_at {w:World} {base:Nat} {e:TypeId} {size:Nat} {v:Value} {n:Nat} {xs:List Value} (h:w.ownsRow base e size v n xs) {j:Nat} (hj:j < n * size):∃ g cap,v = .slice (some ⟨g,0,none⟩) n cap ∧ base ≤ g ∧ g < w.heap.size ∧ w.cell? ⟨g,j,none⟩ = xs[j]?:=by
 have hn:0 < n:=Nat.pos_of_ne_zero fun e=>by rw [e,Nat.zero_mul] at hj;omega
 obtain ⟨g,cap,cur,h1,h2,h3,h4⟩:=row_full h hn
 refine ⟨g,cap,h1,h2,h3.lt,?_⟩
 rw [h3.cell,← h4,List.getElem?_take_of_lt hj,Array.getElem?_toList]
theorem en_row {w:World} {base:Nat} {v:Value} {l:List (Int × Int × Int)} (h:w.ownsRow base 36 3 v l.length (es l)) (hl:0 < l.length):∃ g cap,v = .slice (some ⟨g,0,none⟩) l.length cap ∧ base ≤ g ∧ g < w.heap.size ∧ EnIn w g 0 l:=by
 obtain ⟨g,cap,cur,h1,h2,h3,h4⟩:=row_full h hl
 have hat:∀ i r,i < l.length → r < 3 → w.cell? ⟨g,i * 3 + r,none⟩ = ((fun x:Int × Int × Int=>[Value.int .i64 x.1,.int .i64 x.2.1,.int .i64 x.2.2]) (l[i]?.getD (0,0,0)))[r]?:=fun i r hi hr=>by
  rw [h3.cell,← Array.getElem?_toList,← List.getElem?_take_of_lt (show i * 3 + r < l.length * 3 by omega),h4]
  exact flat_at _ 3 (0,0,0) (fun _=>rfl) l i r hi hr
 exact ⟨g,cap,h1,h2,h3.lt,fun k hk=>by
  rw [Nat.zero_add]
  exact ⟨hat k 0 hk (by decide),hat k 1 hk (by decide),hat k 2 hk (by decide)⟩⟩
theorem ev_row {w:World} {base:Nat} {v:Value} {l:List Ev} (h:w.ownsRow base 38 5 v l.length (l.flatMap fun x=>[.int .i64 x.1,.int .i64 x.2.1,.int .i64 x.2.2.1,.int .i64 x.2.2.2.1,.int .i64 x.2.2.2.2])) (hl:0 < l.length) :
  ∃ g cap,v = .slice (some ⟨g,0,none⟩) l.length cap ∧ base ≤ g ∧ g < w.heap.size ∧ EvIn w g 0 l:=by
 obtain ⟨g,cap,cur,h1,h2,h3,h4⟩:=row_full h hl
 have hat:∀ i r,i < l.length → r < 5 → w.cell? ⟨g,i * 5 + r,none⟩ = ((fun x:Ev=>[Value.int .i64 x.1,.int .i64 x.2.1,.int .i64 x.2.2.1,.int .i64 x.2.2.2.1,.int .i64 x.2.2.2.2]) (l[i]?.getD e0))[r]?:=fun i r hi hr=>by
  rw [h3.cell,← Array.getElem?_toList,← List.getElem?_take_of_lt (show i * 5 + r < l.length * 5 by omega),h4]
  exact flat_at _ 5 e0 (fun _=>rfl) l i r hi hr
 exact ⟨g,cap,h1,h2,h3.lt,fun k hk=>by
  rw [Nat.zero_add]
  exact ⟨hat k 0 hk (by decide),hat k 1 hk (by decide),hat k 2 hk (by decide),hat k 3 hk (by decide),hat k 4 hk (by decide)⟩⟩
def old14 (n:Nat):Nat → Nat:=fun j=>if j < n then 14 else 0
def fnsOf (p:List (List Ins × List Bool)):List Fn:=p.map fun f=>⟨f.1,f.2⟩
theorem fnsOf_at (p:List (List Ins × List Bool)) (k:Nat) (hk:k < p.length):(fnsOf p)[k]?.getD f0 = ⟨(p[k]?.getD ([],[])).1,(p[k]?.getD ([],[])).2⟩:=by
 simp [fnsOf,hk]
theorem old_of {w1 w:World} {pb po pc:Nat} {p:List (List Ins × List Bool)} (hB:Below w1.heap.size w1 w) (hL:Isa.Laid w1) (h0:0 < w1.heap.size) (hP:Val.PrIn w1 pb po p):Old (old14 w1.heap.size) w (.slice (some ⟨pb,po,none⟩) p.length pc) (fnsOf p):=by
 have hin:∀ j,j < w1.heap.size → old14 w1.heap.size j = 14:=fun j hj=>if_pos hj
 refine ⟨fun j=>?_,fun j hj=>if_neg (Nat.not_lt.2 (Nat.le_trans hB.size hj)),⟨pb,po,pc,by simp [fnsOf],Nat.lt_of_lt_of_le hP.1 hB.size,hin pb hP.1,fun k hk=>?_⟩,hL.below hB,hin 0 h0⟩
 ·unfold old14;split
  ·exact .inr rfl
  ·exact .inl rfl
 ·have hk':k < p.length:=by simpa [fnsOf] using hk
  obtain ⟨cb,co,cc,sb,so,sc,a1,a2,a3,a4⟩:=hP.2 k hk'
  obtain ⟨b,o,c,e,hsb,hs⟩:=a4
  simp only [Value.slice.injEq,Option.some.injEq,Addr.mk.injEq,and_true,true_and] at e
  obtain ⟨⟨rfl,rfl⟩,rfl⟩:=e
  rw [fnsOf_at p k hk']
  refine ⟨cb,co,cc,sb,so,sc,(hB.cell (p:=⟨pb,po + k * 2,none⟩) hP.1).trans a1,(hB.cell (p:=⟨pb,po + k * 2 + 1,none⟩) hP.1).trans a2,Nat.lt_of_lt_of_le a3.1 hB.size,Nat.lt_of_lt_of_le hsb hB.size,hin cb a3.1,hin sb hsb,fun i hi=>(a3.below hB).2 i hi,fun i hi=>?_⟩
  exact (hB.cell (p:=⟨sb,so + i,none⟩) hsb).trans (hs i hi)
def guardE:List Ev:=[(2,1,0,0,0),(1,1,0,1,0),(2,1,0,1,0),(2,1,0,2,1),(2,1,0,3,0),(2,1,0,4,0)]
theorem guardE_fine:∀ x ∈ guardE,EvFine x:=by
 intro x hx
 simp only [guardE,List.mem_cons,List.not_mem_nil,or_false] at hx
 rcases hx with rfl | rfl | rfl | rfl | rfl | rfl <;> exact ⟨⟨by simp,by decide,by decide,by decide⟩,by decide,by decide⟩
theorem robin_few:∀ x ∈ robinL 1500 0,Txt.Few x:=by
 intro x hx
 obtain ⟨i,hi,rfl⟩:=List.mem_map.1 hx
 have:=List.mem_range.1 hi
 exact ⟨⟨by simp only;omega,by simp only;omega⟩,⟨by simp only;omega,by simp only;omega⟩,⟨by simp only;omega,by simp only;omega⟩⟩
theorem robin_len:(robinL 1500 0).length = 1500:=by simp [robinL]
theorem guard_fns:fnsOf [(Txt.guardL,Txt.guardS)] = guardP:=by kernel_rfl
theorem guard_new:newG_ guardP 1 1 1 = newM guardP 1 1 1:=by kernel_rfl
theorem rounds_new:newG_ roundsP 4 4 4 = newM roundsP 4 4 4:=by kernel_rfl
theorem guard_runs:∃ out s',runsM (robinL 1500 0) (newG_ guardP 1 1 1) = some (out,s') ∧ out.map evT = guardE:=by
 rw [guard_new]
 exact runs_of _ _ _ guard_run
end Go.Proofs.YtgadhchejmlfjaaGreatDoor.Mac
end
section
namespace Go.Proofs.YtgadhchejmlfjaaGreatDoor.Con
open Go.RowKit Go.Esc
open Go.Proofs.YtgadhchejmlfjaaGreatDoor.Isa (Laid)
open Go.Proofs.YtgadhchejmlfjaaGreatDoor.Mac
open Go.Proofs.YtgadhchejmlfjaaGreatDoor.Scr (es robinL)
open Go.Proofs.YtgadhchejmlfjaaGreatDoor.Evt (EvIn printE)
open Go.Proofs.YtgadhchejmlfjaaGreatDoor.Txt (Mx lineB printB guardL guardS guardT)
abbrev jobV (P C S:ByteArray):Value:=.agg #[.string P,.string C,.string S]
abbrev LdV (g cap lb lc:Nat):Value:=.agg #[.slice (some ⟨g,0,none⟩) 1 cap,.int .i64 1,.int .i64 1,.int .i64 1,.slice (some ⟨lb,0,none⟩) 1500 lc]
structure LdS (w:World) (g lb:Nat) (w1 w':World):Prop where
 one:Below w.heap.size w w1
 laid:Laid w1
 prog:Val.PrIn w1 g 0 [(guardL,guardS)]
 two:Below w1.heap.size w1 w'
 ge:w1.heap.size ≤ lb
 lt:lb < w'.heap.size
 en:Mac.EnIn w' lb 0 (robinL 1500 0)
theorem LdS.all {w:World} {g lb:Nat} {w1 w':World} (h:LdS w g lb w1 w'):Below w.heap.size w w':=h.one.trans (h.two.mono h.one.size)
theorem LdS.go {w:World} {g lb:Nat} {w1 w' W:World} (h:LdS w g lb w1 w') (hB:Below w'.heap.size w' W):LdS w g lb w1 W:=
 ⟨h.one,h.laid,h.prog,h.two.trans (hB.mono h.two.size),h.ge,Nat.lt_of_lt_of_le h.lt hB.size,fun k hk=>by
  obtain ⟨a,b,c⟩:=h.en k hk
  exact ⟨(hB.cell (p:=⟨lb,0 + k * 3,none⟩) h.lt).trans a,(hB.cell (p:=⟨lb,0 + k * 3 + 1,none⟩) h.lt).trans b,(hB.cell (p:=⟨lb,0 + k * 3 + 2,none⟩) h.lt).trans c⟩⟩
def LdP (w:World) (e:Ending) (w':World):Prop:=∃ g cap lb lc w1,e = .returned (.tuple #[LdV g cap lb lc,.nilIface]) ∧ LdS w g lb w1 w'
theorem guard_check (w:World) (g cap:Nat) (hL:Laid w) (hP:Val.PrIn w g 0 [(guardL,guardS)]):Calls Tryz.prog 40 #[.agg #[.slice (some ⟨g,0,none⟩) 1 cap]] w fun e w'=>e = .returned (.tuple #[.int .i64 (-1),.int .i64 (-1),.int .i64 0]) ∧ Below w.heap.size w w':=
 Val.pcheck_any g 0 cap [(guardL,guardS)] w hL hP (by kernel_rfl)
theorem robin_parse (w:World) (hm:Mx w):Calls Tryz.prog 210 #[.string ⟨(printB (robinL 1500 0)).toArray⟩] w fun e w'=>∃ lb lc,e = .returned (.tuple #[.slice (some ⟨lb,0,none⟩) 1500 lc,.int .i64 0,.int .i64 0]) ∧ w.heap.size ≤ lb ∧ lb < w'.heap.size ∧ Mac.EnIn w' lb 0 (robinL 1500 0) ∧ Below w.heap.size w w':=by
 refine (Txt.parse_any (robinL 1500 0) w robin_few (by rw [robin_len];decide) hm).mono ?_
 rintro e w' ⟨v,rfl,hO,hB⟩
 obtain ⟨g,cap,rfl,hg,hl,hE⟩:=en_row hO (by rw [robin_len];decide)
 rw [robin_len]
 exact ⟨g,cap,rfl,hg,hl,hE,hB⟩
theorem five_set {W:World} {b:Nat} {x0 x1 x2 x3 x4 u0 u1 u2 u3 u4:Value} {t:TypeId} (h:Blk W b #[x0,x1,x2,x3,x4] t):Blk (((((W.setCell ⟨b,0,none⟩ u0).setCell ⟨b,1,none⟩ u1).setCell ⟨b,2,none⟩ u2).setCell ⟨b,3,none⟩ u3).setCell ⟨b,4,none⟩ u4) b #[u0,u1,u2,u3,u4] t:=sn5_4 (sn5_3 (sn5_2 (sn5_1 (sn5_0 h))))
theorem five_below {w W:World} {b:Nat} {u0 u1 u2 u3 u4:Value} (h:Below w.heap.size w W) (hb:w.heap.size ≤ b):Below w.heap.size w (((((W.setCell ⟨b,0,none⟩ u0).setCell ⟨b,1,none⟩ u1).setCell ⟨b,2,none⟩ u2).setCell ⟨b,3,none⟩ u3).setCell ⟨b,4,none⟩ u4):=
 ((((h.setCell hb _).setCell hb _).setCell hb _).setCell hb _).setCell hb _
theorem below_both {B:Nat} {a b:World} (h:Below B a b) (p:Addr) (v:Value):Below B (a.setCell p v) (b.setCell p v):=
 ⟨h.os,h.tape,h.output,by simp [World.setCell];exact h.size,fun k hk=>by simp [World.setCell,Array.getElem?_modify,h.block k hk]⟩
theorem five_both {B:Nat} {a w:World} (h:Below B a w) (b:Nat) (u0 u1 u2 u3 u4:Value):Below B (((((a.setCell ⟨b,0,none⟩ u0).setCell ⟨b,1,none⟩ u1).setCell ⟨b,2,none⟩ u2).setCell ⟨b,3,none⟩ u3).setCell ⟨b,4,none⟩ u4) (((((w.setCell ⟨b,0,none⟩ u0).setCell ⟨b,1,none⟩ u1).setCell ⟨b,2,none⟩ u2).setCell ⟨b,3,none⟩ u3).setCell ⟨b,4,none⟩ u4):=
 below_both (below_both (below_both (below_both (below_both h _ _) _ _) _ _) _ _) _ _
theorem five_only {W:World} {b:Nat} {u0 u1 u2 u3 u4:Value}:Only (fun j=>j = b) W (((((W.setCell ⟨b,0,none⟩ u0).setCell ⟨b,1,none⟩ u1).setCell ⟨b,2,none⟩ u2).setCell ⟨b,3,none⟩ u3).setCell ⟨b,4,none⟩ u4):=oset (oset (oset (oset (oset (orefl b W) 0 _) 1 _) 2 _) 3 _) 4 _
theorem five_size {W:World} {b:Nat} {u0 u1 u2 u3 u4:Value}:(((((W.setCell ⟨b,0,none⟩ u0).setCell ⟨b,1,none⟩ u1).setCell ⟨b,2,none⟩ u2).setCell ⟨b,3,none⟩ u3).setCell ⟨b,4,none⟩ u4).heap.size = W.heap.size:=by simp [World.setCell]
theorem load_end {w W0 w1 w4:World} {g lb b:Nat} {cv sv:Value} {u0 u1 u2 u3 u4 x0 x1 x2 x3 x4:Value} (hL:Laid w) (h0:Below w.heap.size w W0) (hF:Txt.FnS W0 g cv sv guardL guardS w1) (hB:Below w1.heap.size w1 w4) (hb:w.heap.size ≤ b) (hb1:Blk w1 b #[x0,x1,x2,x3,x4] 165) (hl:w1.heap.size ≤ lb) (hl4:lb < w4.heap.size) (hE:Mac.EnIn w4 lb 0 (robinL 1500 0)) :
  LdS w g lb (((((w1.setCell ⟨b,0,none⟩ u0).setCell ⟨b,1,none⟩ u1).setCell ⟨b,2,none⟩ u2).setCell ⟨b,3,none⟩ u3).setCell ⟨b,4,none⟩ u4) (((((w4.setCell ⟨b,0,none⟩ u0).setCell ⟨b,1,none⟩ u1).setCell ⟨b,2,none⟩ u2).setCell ⟨b,3,none⟩ u3).setCell ⟨b,4,none⟩ u4):=by
 have h1:=five_below (u0:=u0) (u1:=u1) (u2:=u2) (u3:=u3) (u4:=u4) (below_below h0 hF.below) hb
 have o1:=five_only (W:=w1) (b:=b) (u0:=u0) (u1:=u1) (u2:=u2) (u3:=u3) (u4:=u4)
 have o4:=five_only (W:=w4) (b:=b) (u0:=u0) (u1:=u1) (u2:=u2) (u3:=u3) (u4:=u4)
 have K:KT [165] w1 _:=Val.KT.only o1 (fun j hj=>⟨_,165,(show j = b from hj) ▸ hb1,by decide⟩)
 have hP:=hF.prInK K (by decide) (by decide) (by decide) (by decide) (by decide)
 have h5:=five_both hB b u0 u1 u2 u3 u4
 refine ⟨h1,hL.below h1,hP,?_,?_,?_,fun k hk=>?_⟩
 ·rw [five_size];exact h5
 ·rw [five_size];exact hl
 ·rw [five_size];exact hl4
 ·have hne:¬ lb = b:=by have:=hb1.lt;omega
  have hc:∀ i,World.cell? (((((w4.setCell ⟨b,0,none⟩ u0).setCell ⟨b,1,none⟩ u1).setCell ⟨b,2,none⟩ u2).setCell ⟨b,3,none⟩ u3).setCell ⟨b,4,none⟩ u4) ⟨lb,i,none⟩ = w4.cell? ⟨lb,i,none⟩:=fun i=>World.cell?_of_block (o4.block lb hl4 hne)
  rw [hc,hc,hc]
  exact hE k hk
set_option maxHeartbeats 8000000 in
theorem load_any (w:World) (hL:Laid w) (hm:Mx w):Calls Tryz.prog 139 #[jobV ⟨guardT.toArray⟩ ⟨(lineB (1,1,1)).toArray⟩ ⟨(printB (robinL 1500 0)).toArray⟩] w (LdP w):=by
 have H1:=Lib.hid (fun W (hB:Below w.heap.size w W)=>Txt.guard_parse W (hL.below hB) (hm.below hB))
 have H3:=Lib.hid (fun W (hB:Below w.heap.size w W)=>Txt.conf_any 1 1 1 W (by decide) (by decide) (by decide) (hm.below hB))
 have H4:=Lib.hid (fun W (hB:Below w.heap.size w W)=>robin_parse W (hm.below hB))
 have HL:=Lib.hid (And.intro hL hm)
 clear hL hm
 generalize (⟨guardT.toArray⟩:ByteArray) = P at *
 generalize (⟨(lineB (1,1,1)).toArray⟩:ByteArray) = C at *
 generalize (⟨(printB (robinL 1500 0)).toArray⟩:ByteArray) = S at *
 obtain ⟨W0,hW0⟩:∃ W0,(w.alloc (.cells #[.string P,.string C,.string S] 63)).alloc (.cells #[.slice none 0 0,.int .i64 0,.int .i64 0,.int .i64 0,.slice none 0 0] 165) = W0:=⟨_,rfl⟩
 have hb:Below w.heap.size w W0:=by rw [← hW0];exact below_alloc (below_alloc (Below.refl _ _) _) _
 have b1:Blk W0 w.heap.size #[.string P,.string C,.string S] 63:=by rw [← hW0];exact (Blk.new w _ 63).below (below_alloc (Below.refl _ _) _) (by simp)
 have b2:Blk W0 (w.heap.size + 1) #[.slice none 0 0,.int .i64 0,.int .i64 0,.int .i64 0,.slice none 0 0] 165:=by
  have k:=Blk.new (w.alloc (.cells #[.string P,.string C,.string S] 63)) #[.slice none 0 0,.int .i64 0,.int .i64 0,.int .i64 0,.slice none 0 0] 165
  rw [hW0] at k
  simpa using k
 have HC:Hid (∀ W,Below W0.heap.size W0 W → W.cell? ⟨w.heap.size,0,none⟩ = some (.string P) ∧ W.cell? ⟨w.heap.size,1,none⟩ = some (.string C) ∧ W.cell? ⟨w.heap.size,2,none⟩ = some (.string S)):=fun W hW=>by
  have k:=b1.below hW b1.lt
  exact ⟨k.cell 0,k.cell 1,k.cell 2⟩
 have H2:Hid (∀ W,Below W0.heap.size W0 W → Blk W (w.heap.size + 1) #[.slice none 0 0,.int .i64 0,.int .i64 0,.int .i64 0,.slice none 0 0] 165):=fun W hW=>b2.below hW b2.lt
 have HB:=Lib.hid hb
 have l0:=b2.lt
 obtain ⟨a0,a1,a2⟩:=HC.out W0 (Below.refl _ _)
 clear hb b1 b2
 go_enter Tryz.func139,Tryz.ntmps139
 go_wp2_with (first
  | (go_at_call 207;refine (H1.out _ HB.out).mono ?_;rintro e w1 ⟨g,cap,cv,sv,rfl,hF⟩;obtain ⟨b0,b1,b2⟩:=HC.out w1 hF.below;have l1:w.heap.size < w1.heap.size:=(by have:=hF.below.size;omega);have l2:w.heap.size + 1 < w1.heap.size:=(by have:=hF.below.size;omega);have HF:=Lib.hid hF;clear hF a0 a1 a2)
  | (go_at_call 40;refine (guard_check _ g cap ((HL.out.1.below (HB.out.trans (HF.out.below.mono HB.out.size))).below (below_alloc (Below.refl _ _) _)) ((HF.out.prIn (by decide) (by decide)).below (below_alloc (Below.refl _ _) _))).mono ?_;rintro e w2 ⟨rfl,hB⟩;have hBa:=(below_alloc (Below.refl w1.heap.size w1) _).trans (hB.mono (by simp));have HB2:=Lib.hid hBa;obtain ⟨d0,d1,d2⟩:=HC.out w2 (below_below HF.out.below hBa);have q4:w2.cell? ⟨w1.heap.size,0,none⟩ = some (.slice (some ⟨g,0,none⟩) 1 cap):=(hB.cell (p:=⟨w1.heap.size,0,none⟩) (by simp)).trans ((Blk.new w1 #[.slice (some ⟨g,0,none⟩) 1 cap] 26).cell 0);have l3:w.heap.size < w2.heap.size:=(by have:=hBa.size;omega);have l4:w1.heap.size < w2.heap.size:=(by have:=hB.size;simp at this;omega);clear hB hBa b0 b1 b2)
  | (go_at_call 209;refine (H3.out _ (below_below (below_below HB.out HF.out.below) HB2.out)).mono ?_;rintro e w3 ⟨rfl,hB⟩;have HB3:=Lib.hid (below_below HB2.out hB);obtain ⟨g0,g1,g2⟩:=HC.out w3 (below_below HF.out.below HB3.out);have q5:=(hB.cell (p:=⟨w1.heap.size,0,none⟩) l4).trans q4;have l5:w.heap.size < w3.heap.size:=(by have:=hB.size;omega);have l6:w1.heap.size < w3.heap.size:=(by have:=hB.size;omega);clear hB d0 d1 d2 q4)
  | (go_at_call 210;refine (H4.out _ (below_below (below_below HB.out HF.out.below) (HB3.out.alloc HB3.out.size _))).mono ?_;rintro e w4 ⟨lb,lc,rfl,h1,h2,h3,hB⟩;have HB4:=Lib.hid (below_below (HB3.out.alloc HB3.out.size _) hB);have q6:=(hB.cell (p:=⟨w1.heap.size,0,none⟩) (by simp;omega)).trans ((World.cell?_alloc_past _ _ _ l6).trans q5);have k3:=(Blk.new w3 #[.int .i64 1,.int .i64 1,.int .i64 1] 34).below hB (by simp);have m0:=k3.cell 0;have m1:=k3.cell 1;have m2:=k3.cell 2;have h5:=H2.out w4 (below_below HF.out.below HB4.out);have f0:=h5.free 0;have f1:=h5.free 1;have f2:=h5.free 2;have f3:=h5.free 3;have f4:=h5.free 4;have z0:=h5.cell 0;have z1:=h5.cell 1;have z2:=h5.cell 2;have z3:=h5.cell 3;have z4:=h5.cell 4;have HE:=Lib.hid (And.intro h1 (And.intro h2 (And.intro h3 (And.intro hB h5))));simp only [List.getElem?_toArray,List.getElem?_cons_zero,List.getElem?_cons_succ] at m0 m1 m2 z0 z1 z2 z3 z4;clear h1 h2 h3 hB h5 k3 g0 g1 g2 q5))
 have hq:=load_end (u0:=.slice (some ⟨g,0,none⟩) 1 cap) (u1:=.int .i64 1) (u2:=.int .i64 1) (u3:=.int .i64 1) (u4:=.slice (some ⟨lb,0,none⟩) 1500 lc) HL.out.1 HB.out HF.out HB4.out (Nat.le_succ _) (H2.out w1 HF.out.below) (Nat.le_trans (HB3.out.alloc HB3.out.size _).size HE.out.1) HE.out.2.1 HE.out.2.2.1
 have h5:=five_set (u0:=.slice (some ⟨g,0,none⟩) 1 cap) (u1:=.int .i64 1) (u2:=.int .i64 1) (u3:=.int .i64 1) (u4:=.slice (some ⟨lb,0,none⟩) 1500 lc) HE.out.2.2.2.2
 have c0:=h5.cell 0
 have c1:=h5.cell 1
 have c2:=h5.cell 2
 have c3:=h5.cell 3
 have c4:=h5.cell 4
 simp only [List.getElem?_toArray,List.getElem?_cons_zero,List.getElem?_cons_succ] at c0 c1 c2 c3 c4
 exact bodyPost_ret (v:=.tuple #[LdV g cap lb lc,.nilIface]) (by simp [results,Tryz.results139,go_sem,c0,c1,c2,c3,c4]) rfl ⟨g,cap,lb,lc,_,rfl,hq⟩
theorem guard_mach {w0 w:World} {g cap lb:Nat} {w1:World} (h:LdS w0 g lb w1 w):Calls Tryz.prog 10 #[.agg #[.slice (some ⟨g,0,none⟩) 1 cap],.agg #[.int .i64 1,.int .i64 1,.int .i64 1]] w (NewQ (old14 w1.heap.size) w guardP 1 1 1 (.slice (some ⟨g,0,none⟩) 1 cap)):=by
 have hO:=old_of (pc:=cap) h.two h.laid (Nat.lt_of_le_of_lt (Nat.zero_le _) h.prog.1) h.prog
 rw [guard_fns] at hO
 exact new_any (old14 w1.heap.size) guardP g 0 cap 1 1 1 1 w hO (fun W hB=>guard_check W g cap ((h.laid.below h.two).below hB) ((h.prog.below h.two).below hB)) (by decide) (by decide) (by decide)
def RnP (w:World) (e:Ending) (w':World):Prop:=∃ mv eb ec,e = .returned (.tuple #[mv,.slice (some ⟨eb,0,none⟩) 6 ec]) ∧ EvIn w' eb 0 guardE ∧ eb < w'.heap.size ∧ Below w.heap.size w w'
theorem guard_ran {w0 w wn:World} {g lb lc mb:Nat} {w1:World} {V:Vr} {own:Nat → Nat} (h:LdS w0 g lb w1 w) (hR:Rep mb V own wn (newG_ guardP 1 1 1)) (ho:∀ j,j < w.heap.size → own j = old14 w1.heap.size j) (hB:Below w.heap.size w wn) :
  Calls Tryz.prog 69 #[ptr mb,.slice (some ⟨lb,0,none⟩) 1500 lc] wn fun e w'=>∃ eb ec,e = .returned (.slice (some ⟨eb,0,none⟩) 6 ec) ∧ EvIn w' eb 0 guardE ∧ eb < w'.heap.size ∧ Below w.heap.size w w':=by
 obtain ⟨out,s',hr,ho2⟩:=guard_runs
 have hl:=robin_len
 have hE:=(h.go hB).en
 have k:=hR.runs (lc:=lc) hr hE (h.go hB).lt (by rw [ho lb h.lt];exact if_neg (Nat.not_lt.2 h.ge)) (by rw [hl];decide)
 rw [hl] at k
 refine k.mono ?_
 rintro e w' ⟨v,V1,own1,rfl,hrow,hz,hR1,hX,hF⟩
 have hlen:out.length = guardE.length:=by rw [← ho2,List.length_map]
 rw [hlen,ev_cells,ho2] at hrow
 obtain ⟨eb,ec,rfl,h1,h2,h3⟩:=ev_row hrow (by decide)
 exact ⟨eb,ec,rfl,h3,h2,below_ext hB (fun j hj=>by unfold old14;split;exact .inr rfl;exact .inl rfl) ho hX⟩
theorem ld_box (w:World) (g cap lb lc:Nat):Blk (w.alloc (.cells #[.slice (some ⟨g,0,none⟩) 1 cap,.int .i64 1,.int .i64 1,.int .i64 1,.slice (some ⟨lb,0,none⟩) 1500 lc] 165)) w.heap.size #[.slice (some ⟨g,0,none⟩) 1 cap,.int .i64 1,.int .i64 1,.int .i64 1,.slice (some ⟨lb,0,none⟩) 1500 lc] 165:=Blk.new w _ 165
set_option maxHeartbeats 8000000 in
theorem ran_any {w0 w:World} {g cap lb lc:Nat} {w1:World} (h:LdS w0 g lb w1 w):Calls Tryz.prog 79 #[LdV g cap lb lc] w (RnP w):=by
 have hb:=below_alloc (Below.refl w.heap.size w) (.cells #[.slice (some ⟨g,0,none⟩) 1 cap,.int .i64 1,.int .i64 1,.int .i64 1,.slice (some ⟨lb,0,none⟩) 1500 lc] 165)
 have H:=Lib.hid (h.go hb)
 have HN:=Lib.hid (guard_mach (cap:=cap) (h.go hb))
 have HK:=Lib.hid (ld_box w g cap lb lc)
 have HB:=Lib.hid hb
 clear h hb
 go_enter Tryz.func79,Tryz.ntmps79
 go_wp2_with (first
  | (go_at_call 10;refine HN.out.mono ?_;rintro e wn ⟨mb,V,own,rfl,hR,hmb,ho,hB,_⟩;have HR:=Lib.hid (guard_ran (lc:=lc) H.out hR ho hB);have q4:=(HK.out.below hB HK.out.lt).cell 4;simp only [List.getElem?_toArray,List.getElem?_cons_zero,List.getElem?_cons_succ] at q4;clear hR hmb ho hB)
  | (go_at_call 69;refine HR.out.mono ?_;rintro e w2 ⟨eb,ec,rfl,h1,h2,h3⟩;have HE:=Lib.hid (And.intro h1 (And.intro h2 h3));clear h1 h2 h3))
 go_ret2
 exact ⟨_,eb,ec,rfl,HE.out.1,HE.out.2.1,HB.out.trans (HE.out.2.2.mono HB.out.size)⟩
set_option maxHeartbeats 8000000 in
theorem run1_any {w0 w:World} {g cap lb lc:Nat} {w1:World} (h:LdS w0 g lb w1 w) (hp:Shf.Pow w):Calls Tryz.prog 100 #[LdV g cap lb lc] w fun e w'=>e = .returned (.string ⟨(printE guardE).toArray⟩) ∧ Below w.heap.size w w':=by
 have hb:=below_alloc (Below.refl w.heap.size w) (.cells #[.slice (some ⟨g,0,none⟩) 1 cap,.int .i64 1,.int .i64 1,.int .i64 1,.slice (some ⟨lb,0,none⟩) 1500 lc] 165)
 have HR:=Lib.hid (ran_any (cap:=cap) (lc:=lc) (h.go hb))
 have HP:=Lib.hid (Txt.Pow.below hp hb)
 have HB:=Lib.hid hb
 clear h hp hb
 go_enter Tryz.func100,Tryz.ntmps100
 go_wp2_with (first
  | (go_at_call 79;refine HR.out.mono ?_;rintro e w1 ⟨mv,eb,ec,rfl,h1,h2,h3⟩;have HE:=Lib.hid (Evt.eprint_any guardE eb 0 ec _ h1 h2 guardE_fine (by decide) (Txt.Pow.below HP.out h3));have HB1:=Lib.hid (HB.out.trans (h3.mono HB.out.size));clear h1 h2 h3)
  | (go_at_call 101;refine HE.out.mono ?_;rintro e w2 ⟨rfl,h4⟩;have HB2:=Lib.hid (below_below HB1.out h4);clear h4))
 go_ret
 exact ⟨rfl,HB2.out⟩
set_option maxHeartbeats 8000000 in
theorem told_any (w:World) (hL:Laid w) (hm:Mx w) (hp:Shf.Pow w):Calls Tryz.prog 77 #[jobV ⟨guardT.toArray⟩ ⟨(lineB (1,1,1)).toArray⟩ ⟨(printB (robinL 1500 0)).toArray⟩,.func (.func 100) #[] #[]] w fun e w'=>e = .returned (.string ⟨(printE guardE).toArray⟩) ∧ Below w.heap.size w w':=by
 have HLd:=Lib.hid (fun W (hB:Below w.heap.size w W)=>load_any W (hL.below hB) (hm.below hB))
 have HP:=Lib.hid hp
 clear hL hm hp
 generalize (⟨guardT.toArray⟩:ByteArray) = P at *
 generalize (⟨(lineB (1,1,1)).toArray⟩:ByteArray) = C at *
 generalize (⟨(printB (robinL 1500 0)).toArray⟩:ByteArray) = S at *
 have HB:=Lib.hid (below_alloc (Below.refl w.heap.size w) (.cells #[.string P,.string C,.string S] 63))
 go_enter Tryz.func77,Tryz.ntmps77
 go_wp2_with (first
  | (go_at_call 139;refine (HLd.out _ HB.out).mono ?_;rintro e wl ⟨g,cap,lb,lc,w1,rfl,h1⟩;have hba:=below_alloc (Below.refl wl.heap.size wl) (.cells #[.slice (some ⟨g,0,none⟩) 1 cap,.int .i64 1,.int .i64 1,.int .i64 1,.slice (some ⟨lb,0,none⟩) 1500 lc] 165);have hall:=below_below (below_below HB.out h1.all) hba;have HR:=Lib.hid (run1_any (cap:=cap) (lc:=lc) (h1.go hba) (Txt.Pow.below HP.out hall));have HBl:=Lib.hid hall;clear h1 hba hall)
  | (go_at_call 100;refine HR.out.mono ?_;rintro e w2 ⟨rfl,h4⟩;have HB2:=Lib.hid (below_below HBl.out h4);clear h4))
 go_ret
 exact ⟨rfl,HB2.out⟩
set_option maxHeartbeats 8000000 in
theorem run_any (w:World) (hL:Laid w) (hm:Mx w) (hp:Shf.Pow w):Calls Tryz.prog 34 #[jobV ⟨guardT.toArray⟩ ⟨(lineB (1,1,1)).toArray⟩ ⟨(printB (robinL 1500 0)).toArray⟩] w fun e w'=>e = .returned (.string ⟨(printE guardE).toArray⟩) ∧ Below w.heap.size w w':=by
 have HT:=Lib.hid (fun W (hB:Below w.heap.size w W)=>told_any W (hL.below hB) (hm.below hB) (Txt.Pow.below hp hB))
 clear hL hm hp
 generalize (⟨guardT.toArray⟩:ByteArray) = P at *
 generalize (⟨(lineB (1,1,1)).toArray⟩:ByteArray) = C at *
 generalize (⟨(printB (robinL 1500 0)).toArray⟩:ByteArray) = S at *
 have HB:=Lib.hid (below_alloc (Below.refl w.heap.size w) (.cells #[.string P,.string C,.string S] 63))
 go_enter Tryz.func34,Tryz.ntmps34
 go_wp2_with (go_at_call 77;refine (HT.out _ HB.out).mono ?_;rintro e w2 ⟨rfl,h4⟩;have HB2:=Lib.hid (below_below HB.out h4);clear h4)
 go_ret
 exact ⟨rfl,HB2.out⟩
end Go.Proofs.YtgadhchejmlfjaaGreatDoor.Con
end
section
namespace Go.Proofs.YtgadhchejmlfjaaGreatDoor.Top
open Go.RowKit Go.Esc
open Go.Proofs.YtgadhchejmlfjaaGreatDoor.Isa (Laid)
open Go.Proofs.YtgadhchejmlfjaaGreatDoor.Mac
open Go.Proofs.YtgadhchejmlfjaaGreatDoor.Con
open Go.Proofs.YtgadhchejmlfjaaGreatDoor.Scr (es robinL)
open Go.Proofs.YtgadhchejmlfjaaGreatDoor.Evt (printE)
open Go.Proofs.YtgadhchejmlfjaaGreatDoor.Txt (Mx lineB printB guardL guardS guardT)
theorem robin_text (w:World):Calls Tryz.prog 33 #[.int .i64 1500,.int .i64 0] w fun e w'=>∃ lb lc,e = .returned (.slice (some ⟨lb,0,none⟩) 1500 lc) ∧ Mac.EnIn w' lb 0 (robinL 1500 0) ∧ lb < w'.heap.size ∧ Below w.heap.size w w':=by
 refine (Scr.robin_any 1500 0 w (by decide)).mono ?_
 rintro e w' ⟨v,rfl,hO,hB⟩
 have hl:=robin_len
 obtain ⟨g,cap,rfl,hg,hlt,hE⟩:=en_row (l:=robinL 1500 0) (by rw [hl];exact hO) (by rw [hl];decide)
 rw [hl]
 exact ⟨g,cap,rfl,hE,hlt,hB⟩
theorem robin_print (w:World) (lb lc:Nat) (hE:Mac.EnIn w lb 0 (robinL 1500 0)) (hlt:lb < w.heap.size) (hp:Shf.Pow w):Calls Tryz.prog 20 #[.slice (some ⟨lb,0,none⟩) 1500 lc] w fun e w'=>e = .returned (.string ⟨(printB (robinL 1500 0)).toArray⟩) ∧ Below w.heap.size w w':=by
 have k:=Txt.print_any (robinL 1500 0) lb 0 lc w hE hlt robin_few (by rw [robin_len];decide) hp
 rw [robin_len] at k
 exact k
theorem conf_text:(⟨#[49,32,49,32,49]⟩:ByteArray) = ⟨(lineB (1,1,1)).toArray⟩:=by
 rw [show lineB (1,1,1) = [49,32,49,32,49] by kernel_rfl]
def eventT:List UInt8:=[99,111,109,109,105,116,32,49,32,48,32,48,32,48,10,98,101,103,105,110,32,49,32,48,32,49,10,99,111,109,109,105,116,32,49,32,48,32,49,32,48,10,99,111,109,109,105,116,32,49,32,48,32,50,32,49,10,99,111,109,109,105,116,32,49,32,48,32,51,32,48,10,99,111,109,109,105,116,32,49,32,48,32,52,32,48,10]
theorem event_text:printE guardE = eventT:=by kernel_rfl
theorem guard_q:Gnn.guardQ.map Val.mendF = [(guardL,guardS)]:=by kernel_rfl
set_option maxHeartbeats 8000000 in
theorem alive_any (w:World) (hL:Laid w) (hm:Mx w) (hp:Shf.Pow w):Calls Tryz.prog 8 #[] w fun e w'=>e = .returned (.bool true) ∧ Below w.heap.size w w':=by
 have H0:=Lib.hid (And.intro hL (And.intro hm hp))
 clear hL hm hp
 have HRun:=Lib.hid (fun W (hB:Below w.heap.size w W)=>run_any W (H0.out.1.below hB) (H0.out.2.1.below hB) (Txt.Pow.below H0.out.2.2 hB))
 rw [event_text,← conf_text] at HRun
 have HPr:=Lib.hid (fun W pb pc (hB:Below w.heap.size w W) (hP:Val.PrIn W pb 0 [(guardL,guardS)])=>Txt.guard_print pb 0 pc W (H0.out.1.below hB) (Txt.Pow.below H0.out.2.2 hB) hP)
 have HRb:=Lib.hid (fun W lb lc (hB:Below w.heap.size w W) hE hlt=>robin_print W lb lc hE hlt (Txt.Pow.below H0.out.2.2 hB))
 unfold eventT at HRun
 generalize (⟨guardT.toArray⟩:ByteArray) = P at *
 generalize (⟨(printB (robinL 1500 0)).toArray⟩:ByteArray) = S at *
 go_enter Tryz.func8,Tryz.ntmps8
 go_wp2_with (first
  | (go_at_call 32;refine (Gnn.guard_any _ H0.out.1).mono ?_;rintro e w1 ⟨pb,pc,rfl,hP,hB⟩;rw [guard_q] at hP;have HP:=Lib.hid (And.intro (hP.below (below_alloc (Below.refl w1.heap.size w1) (.cells #[.slice (some ⟨pb,0,none⟩) 1 pc] 26))) (hB.alloc hB.size (.cells #[.slice (some ⟨pb,0,none⟩) 1 pc] 26)));clear hP hB)
  | (go_at_call 18;refine (HPr.out _ pb pc HP.out.2 HP.out.1).mono ?_;rintro e w2 ⟨rfl,hB⟩;have HB2:=Lib.hid (below_below HP.out.2 hB);clear hB)
  | (go_at_call 33;refine (robin_text _).mono ?_;rintro e w3 ⟨lb,lc,rfl,hE,hlt,hB⟩;have HB3:=Lib.hid (below_below HB2.out hB);have HE:=Lib.hid (And.intro hE hlt);clear hE hlt hB)
  | (go_at_call 20;refine (HRb.out _ lb lc HB3.out HE.out.1 HE.out.2).mono ?_;rintro e w4 ⟨rfl,hB⟩;have HB4:=Lib.hid (below_below HB3.out hB);clear hB)
  | (go_at_call 34;refine (HRun.out _ (HB4.out.alloc HB4.out.size _)).mono ?_;rintro e w5 ⟨rfl,hB⟩;have HB5:=Lib.hid (below_below (HB4.out.alloc HB4.out.size _) hB);clear hB))
 go_ret
 exact ⟨rfl,HB5.out⟩
end Go.Proofs.YtgadhchejmlfjaaGreatDoor.Top
end
