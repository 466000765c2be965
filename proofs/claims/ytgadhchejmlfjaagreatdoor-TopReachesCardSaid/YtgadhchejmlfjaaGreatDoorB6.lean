/- Parts of the proof of TopReaches. -/
import Derived.Test.YtgadhchejmlfjaaGreatDoorB5
import Derived.Test.YtgadhchejmlfjaaGreatDoorA8
import Derived.BigGuard
set_option linter.unusedVariables false
set_option maxRecDepth 20000
section
namespace Go.Proofs.YtgadhchejmlfjaaGreatDoor.Sig
open Go.RowKit Go.Esc
open Go.Proofs.YtgadhchejmlfjaaGreatDoor.Pstat (Pr ys pz)
theorem only_self {a w:World} {b:Nat} (h:Only (fun j=>j = b) a w) (i:Nat) (u:Value):Only (fun j=>j = b) a (w.setCell ⟨b,i,none⟩ u):=h.set (.inr rfl) i u
theorem Hx.congrD {b:Nat} {v:Value} {D D':Nat → Option Int} {n m:Nat} {q:Pr} {w:World} (h:Hx b v D n m q w) (hd:∀ k,k < 64 → D k = D' k):Hx b v D' n m q w:=by
 obtain ⟨l,F,hb,hl,h1,h2,h3⟩:=h.bx
 exact ⟨l,F,hb,hl,fun i hi=>by rw [← hd _ (by have:=hb.at_ i (by omega);omega)];exact h1 i hi,fun k hk hF=>by rw [← hd k hk];exact h2 k hk hF,h3⟩
theorem Hx.unpin {b:Nat} {v:Value} {D:Nat → Option Int} {n m:Nat} {q:Pr} {w:World} (h:Hx b v D n m q w) (m':Nat) (q':Pr) (hm:n ≤ m'):Hx b v D n m' q' w:=by
 obtain ⟨l,F,hb,hl,h1,h2,h3⟩:=h.bx
 exact ⟨l,F,hb,hl,h1,h2,fun x=>by omega⟩
theorem Hx.lt {b:Nat} {v:Value} {D:Nat → Option Int} {n m:Nat} {q:Pr} {w:World} (h:Hx b v D n m q w) {j:Nat} (hj:Bf b v j):j < w.heap.size:=by
 obtain ⟨l,F,hb,_⟩:=h.bx
 rcases hj with rfl | hj
 ·exact hb.cs.lt
 ·exact (World.ownsRow.lt hb.row j hj).2
theorem Hx.room {b:Nat} {v:Value} {D:Nat → Option Int} {n m:Nat} {q:Pr} {w:World} (h:Hx b v D n m q w) (k:Nat) (hk:k < 64) (hD:D k = none):n < 64:=by
 obtain ⟨l,F,hb,hl,h1,h2,h3⟩:=h.bx
 have hnd:((k:Int) :: l.map (·.1)).Nodup:=by
  refine List.nodup_cons.2 ⟨fun hm=>?_,?_⟩
  ·obtain ⟨x,hx,hxk⟩:=List.mem_map.1 hm
   obtain ⟨i,hi,rfl⟩:=List.mem_iff_getElem.1 hx
   have:=h1 i (by omega)
   rw [List.getElem?_eq_getElem hi] at this
   simp only [Option.getD_some,hxk,Int.toNat_natCast,hD] at this
   cases this
  ·refine List.pairwise_iff_getElem.2 fun i j hi hj hij=>?_
   simp only [List.length_map] at hi hj
   simp only [List.getElem_map]
   intro e
   have a1:=hb.at_ i hi
   have a2:=hb.at_ j hj
   rw [List.getElem?_eq_getElem hi] at a1
   rw [List.getElem?_eq_getElem hj] at a2
   simp only [Option.getD_some] at a1 a2
   rw [e] at a1
   have:=a1.2.2.symm.trans a2.2.2
   omega
 have:=pigeon 64 _ hnd (fun x hx=>by
  rcases List.mem_cons.1 hx with rfl | hx
  ·omega
  ·obtain ⟨y,hy,rfl⟩:=List.mem_map.1 hx
   obtain ⟨i,hi,rfl⟩:=List.mem_iff_getElem.1 hy
   have a1:=hb.at_ i hi
   rw [List.getElem?_eq_getElem hi] at a1
   simp only [Option.getD_some] at a1
   omega)
 simp at this
 omega
theorem Hx.where_ {b:Nat} {v:Value} {D:Nat → Option Int} {n m:Nat} {q:Pr} {w:World} (h:Hx b v D n m q w) (k:Nat) (hk:k < 64) :
  (D k = none ∧ w.cell? ⟨b,1 + k,none⟩ = some (.int .i64 (-1))) ∨ ∃ (i g c cap:Nat) (d:Int),v = .slice (some ⟨g,0,none⟩) c cap ∧ i < n ∧ c = n ∧ D k = some d ∧ w.cell? ⟨b,1 + k,none⟩ = some (.int .i64 i) ∧ w.cell? ⟨g,i * 2,none⟩ = some (.int .i64 k) ∧ w.cell? ⟨g,i * 2 + 1,none⟩ = some (.int .i64 d) ∧ g < w.heap.size ∧ g ≠ b ∧ Hx b v D n i (k,d) w:=by
 obtain ⟨l,F,hb,hl,h1,h2,h3⟩:=h.bx
 have a1:=hb.cs.cell (i:=1 + k) (by omega)
 simp only [show ¬ 1 + k = 0 by omega,if_false,Nat.add_sub_cancel_left] at a1
 rcases hb.idx k hk with h0 | ⟨i,hi,hil,hik⟩
 ·exact .inl ⟨h2 k hk h0,by rw [a1,h0]⟩
 ·have hv:∃ g c cap,v = .slice (some ⟨g,0,none⟩) c cap:=by
   rcases rowv_open hb.row with ⟨_,hz⟩ | ⟨g,cap,hv,_⟩
   ·omega
   ·exact ⟨g,_,cap,hv⟩
  obtain ⟨g,c,cap,rfl⟩:=hv
  obtain ⟨x0,x1,hg,hc⟩:=hb.cell i hil
  have hD:=h1 i (by omega)
  rw [hik,Int.toNat_natCast] at hD
  rw [hik] at x0
  refine .inr ⟨i,g,c,cap,(l[i]?.getD pz).2,rfl,by omega,by omega,hD,by rw [a1,hi],x0,x1,hg,fun e=>hb.ne (by rw [e];rfl),⟨l,F,hb,hl,h1,h2,fun _=>?_⟩⟩
  rw [← hik]
def PushP (b:Nat) (v:Value) (D:Nat → Option Int) (n:Nat) (x:Pr) (w:World) (e:Ending) (w':World):Prop:=
 e = .returned (.tuple #[]) ∧ ∃ g cap,Hx b (.slice (some ⟨g,0,none⟩) (n + 1) cap) (fun k=>if k = x.1.toNat then some x.2 else D k) (n + 1) (n + 1) pz w' ∧ Only (Bf b v) w w' ∧ (v.ownBlock = some g ∨ w.heap.size ≤ g)
theorem info222:(Tryz.prog.info? 222).map (fun i=>(i.zero,i.size,i.bytes)) = some (some (.agg #[.int .i64 0,.int .i64 0]),2,16):=by kernel_rfl
theorem new2 (w:World) (x y:Value) (t:TypeId):∀ (j:Nat) (z:Value),[x,y][j]? = some z → (w.alloc (.cells #[x,y] t)).cell? ((⟨w.heap.size,0,none⟩:Addr).add j) = some z:=by
 intro j z hj
 rw [Go.WideShapes.add_plain,(Blk.new w #[x,y] t).cell]
 simpa using hj
theorem new2' {w:World} {b:Nat} (x y:Value) (t:TypeId) (h:w.heap.size = b):∀ (j:Nat) (z:Value),[x,y][j]? = some z → (w.alloc (.cells #[x,y] t)).cell? ((⟨b,0,none⟩:Addr).add j) = some z:=h ▸ new2 w x y t
theorem Bx.push {w w1 w3:World} {b:Nat} {v v':Value} {l:List Pr} {F:Nat → Int} {kx:Nat} {x2:Int} (h:Bx w b v l F) (hx:kx < 64) (hF:F kx = -1) (o:Only (fun j=>j = b) w w1) (hc:Cells w1 b 65 213 (fun i=>if i = 0 then v else .int .i64 (if i - 1 = kx then (l.length:Int) else F (i - 1))))
  (hA:AppdV w1 0 222 2 v l.length (ys l) [.int .i64 kx,.int .i64 x2] v' w3):Bx (w3.setCell ⟨b,0,none⟩ v') b v' (l ++ [((kx:Int),x2)]) (fun k=>if k = kx then (l.length:Int) else F k) ∧ Only (Bf b v) w (w3.setCell ⟨b,0,none⟩ v') ∧ w3.cell? ⟨b,0,none⟩ = some v ∧ w3.frozen? ⟨b,0,none⟩ = false:=by
 have hvb:∀ j,v.ownBlock = some j → j < w.heap.size:=fun j hj=>(World.ownsRow.lt h.row j hj).2
 have hbl:=h.cs.lt
 have hne:v'.ownBlock ≠ some b:=fun e=>(hA.2.2 b e).elim h.ne (fun x=>by have:=o.size;omega)
 have hc3:=hc.kept hA.2.1 (fun e=>h.ne e.symm)
 refine ⟨⟨?_,?_,hne,?_,?_⟩,?_,by simpa using hc3.cell (i:=0) (by decide),hc3.free 0⟩
 ·refine (hc3.set (i:=0) (by decide) v').congr fun k hk=>?_
  by_cases e:k = 0
  ·simp [e]
  ·simp [e]
 ·have h1:=hA.1
  rw [show l.length + 1 = (l ++ [((kx:Int),x2)]).length by simp,show ys l ++ [.int .i64 kx,.int .i64 x2] = ys (l ++ [((kx:Int),x2)]) by rw [Pstat.ys_append];rfl] at h1
  exact rowv_off h1 ((Only.refl (fun j=>j = b) w3).set (.inr rfl) _ _) (fun j hj e=>hne (by rw [hj,show j = b from e]))
 ·intro i hi
  have hi':i < l.length + 1:=by simpa using hi
  by_cases e:i = l.length
  ·subst e
   rw [get_last]
   exact ⟨by simp,by simp;omega,by simp⟩
  ·rw [get_init l _ i (by omega)]
   obtain ⟨z0,z1,z2⟩:=h.at_ i (by omega)
   refine ⟨z0,z1,?_⟩
   rw [if_neg (fun e2=>by rw [e2,hF] at z2;omega)]
   exact z2
 ·intro k hk
  by_cases e:k = kx
  ·rw [if_pos e]
   exact .inr ⟨l.length,rfl,by simp,by rw [get_last,e]⟩
  ·rw [if_neg e]
   rcases h.idx k hk with h0 | ⟨i,h1,h2,h3⟩
   ·exact .inl h0
   ·exact .inr ⟨i,h1,by simp;omega,by rw [get_init l _ i h2];exact h3⟩
 ·exact ((o.mono (T:=Bf b v) (fun j _ e=>.inl e)).grown hA.2.1 (fun j hj=>.inr (.inr hj))).set (.inr (.inl rfl)) _ _
theorem ta_run (x y:Int) (w:World):Sem.run Tryz.prog (Instr.typeAssert (.iface 222 (.agg #[.int .i64 x,.int .i64 y])) 20 222 true) w = .ok (.tuple #[.agg #[.int .i64 x,.int .i64 y],.bool true]) w:=by kernel_rfl
theorem Hx.push_end {b:Nat} {v:Value} {D:Nat → Option Int} {l:List Pr} {F:Nat → Int} {w w':World} {g cap kx:Nat} {x2:Int} (h1:∀ i,i < l.length → D (l[i]?.getD pz).1.toNat = some (l[i]?.getD pz).2) (h2:∀ k,k < 64 → F k = -1 → D k = none) (hb:Bx w b v l F) (hF:F kx = -1)
  (hb':Bx w' b (.slice (some ⟨g,0,none⟩) (l.length + 1) cap) (l ++ [((kx:Int),x2)]) (fun k=>if k = kx then (l.length:Int) else F k)):Hx b (.slice (some ⟨g,0,none⟩) (l.length + 1) cap) (fun k=>if k = kx then some x2 else D k) (l.length + 1) (l.length + 1) pz w':=by
 refine ⟨_,_,hb',by simp,fun i hi=>?_,fun k hk hk2=>?_,fun x=>absurd x (Nat.lt_irrefl _)⟩
 ·by_cases e:i = l.length
  ·subst e;rw [get_last];simp
  ·rw [get_init l _ i (by omega)]
   have:=hb.at_ i (by omega)
   rw [if_neg (fun e2=>by rw [e2,hF] at this;omega)]
   exact h1 i (by omega)
 ·by_cases e:k = kx
  ·rw [if_pos e] at hk2;omega
  ·rw [if_neg e] at hk2 ⊢;exact h2 k hk hk2
set_option maxHeartbeats 4000000 in
theorem Hx.push {b:Nat} {v:Value} {D:Nat → Option Int} {n m:Nat} {q:Pr} {w:World} (h:Hx b v D n m q w) (x:Pr) (h0:0 ≤ x.1) (h64:x.1 < 64) (hD:D x.1.toNat = none):Calls Tryz.prog 403 #[.pointer (some ⟨b,0,none⟩),.iface 222 (.agg #[.int .i64 x.1,.int .i64 x.2])] w (PushP b v D n x w):=by
 have hroom:=h.room x.1.toNat (by omega) hD
 obtain ⟨l,F,hb,rfl,h1,h2,h3⟩:=h.bx
 obtain ⟨x1,x2⟩:=x
 obtain ⟨kx,rfl⟩:∃ k:Nat,x1 = k:=⟨x1.toNat,by simp at h0;omega⟩
 simp only [Int.toNat_natCast] at hD hroom h64
 have hkx:kx < 64:=by omega
 have hF:F kx = -1:=by
  rcases hb.idx kx hkx with h0 | ⟨i,hi,hil,hik⟩
  ·exact h0
  ·have:=h1 i (by omega)
   rw [hik,Int.toNat_natCast,hD] at this
   cases this
 obtain ⟨a,cap,rfl⟩:∃ a cap,v = .slice a l.length cap:=by rcases rowv_open hb.row with ⟨rfl,hz⟩ | ⟨g,cap,rfl,_⟩;exact ⟨none,0,by rw [hz]⟩;exact ⟨_,cap,rfl⟩
 have c0:=hb.cs.cell (i:=0) (by decide)
 simp only [if_true] at c0
 have f0:=hb.cs.free 0
 have a1:=hb.cs.cell (i:=1 + kx) (by omega)
 simp only [show ¬ 1 + kx = 0 by omega,if_false] at a1
 have f1:=hb.cs.free (1 + kx)
 have hbl:=hb.cs.lt
 have q3:(kx:Int) < 64:=by omega
 have n1:¬ b = w.heap.size:=by omega
 have hW1:Cells ((w.setCell ⟨b,1 + kx,none⟩ (.int .i64 l.length)).alloc (.cells #[.int .i64 kx,.int .i64 x2] 222)) b 65 213 (fun i=>if i = 0 then .slice a l.length cap else .int .i64 (if i - 1 = kx then (l.length:Int) else F (i - 1))):=by
  refine Cells.alloc ((hb.cs.set (i:=1 + kx) (by omega) _).congr fun k hk=>?_) _
  by_cases e1:k = 1 + kx
  ·subst e1;simp
  ·rw [if_neg e1]
   by_cases e3:k = 0
   ·simp [e3]
   ·have a1:¬ k - 1 = kx:=by omega
    simp [e3,a1]
 have HB:=Lib.hid hb
 have HW1:=Lib.hid hW1
 have HK:=Lib.hid (And.intro hkx hF)
 have H1:=Lib.hid h1
 have H2:=Lib.hid h2
 have hta:=ta_run kx x2
 have HRow:Hid (∀ W,Only (fun j=>j = b) w W → W.ownsRow 0 222 2 (.slice a l.length cap) l.length (ys l)):=fun W hW=>rowv_off HB.out.row hW (fun j hj e=>HB.out.ne (by rw [hj,show j = b from e]))
 clear h hb hW1 h1 h2 h3 hF hD
 go_enter Tryz.func403,Tryz.ntmps403
 go_wp2
 go_region
 go_wp2
 go_region_law (refine stepV Tryz.underlying208 info222 rfl (by decide) (by decide) 0 _ rfl (.tmp 28) (.tmp 30) rfl (.slice a l.length cap) l.length (ys l) ⟨w.heap.size + 1,0,none⟩ 1 [.int .i64 kx,.int .i64 x2] (by simp [Act.eval]) (by simp [Act.eval]) (.inl (HRow.out _ (by (repeat (first | exact Only.refl _ _ | refine Only.drew ?_ | refine Only.alloc ?_ _ | refine only_self ?_ _ _))))) rfl (new2' (w:=(w.setCell ⟨b,1 + kx,none⟩ (.int .i64 l.length)).alloc (.cells #[.int .i64 kx,.int .i64 x2] 222)) _ _ 222 (by simp [World.setCell])) (by simp [Value.oneCell']) (Nat.zero_le _) (by omega) ?_;intro v' w3 hA;obtain ⟨g',cap',rfl⟩:=hA.some;obtain ⟨hBx,hOn,q0,qf0⟩:=HB.out.push HK.out.1 HK.out.2 (by (repeat (first | exact Only.refl _ _ | refine Only.drew ?_ | refine Only.alloc ?_ _ | refine only_self ?_ _ _))) (w1:=(((w.setCell ⟨b,1 + kx,none⟩ (.int .i64 l.length)).alloc (.cells #[.int .i64 kx,.int .i64 x2] 222)).alloc (.cells #[.int .i64 kx,.int .i64 x2] 222)).drew.drew) (HW1.out.alloc _) hA;have HR:Hid (PushP b (.slice a l.length cap) D l.length (kx,x2) w (.returned (.tuple #[])) (w3.setCell ⟨b,0,none⟩ (.slice (some ⟨g',0,none⟩) (l.length + 1) cap'))):=⟨rfl,g',cap',Hx.push_end H1.out H2.out HB.out HK.out.2 hBx,hOn,(hA.2.2 g' rfl).imp id (fun x=>Nat.le_trans (by simp [World.setCell] <;> omega) x)⟩;clear hA hBx hOn)
 all_goals
  go_wp2
  go_end0
  exact HR.out
set_option maxHeartbeats 4000000 in
theorem Hx.hpush {b:Nat} {v:Value} {D:Nat → Option Int} {n m:Nat} {q:Pr} {w:World} (h:Hx b v D n m q w) (x:Pr) (h0:0 ≤ x.1) (h64:x.1 < 64) (hD:D x.1.toNat = none):Calls Tryz.prog 345 #[.iface 224 (.pointer (some ⟨b,0,none⟩)),.iface 222 (.agg #[.int .i64 x.1,.int .i64 x.2])] w (PushP b v D n x w):=by
 have hML:=mLen ⟨b,0,none⟩
 have hMP:=mPush ⟨b,0,none⟩
 have hn:=h.room x.1.toNat (by omega) hD
 have HP:=Lib.hid (h.push x h0 h64 hD)
 obtain ⟨x1,x2⟩:=x
 have q5:(n:Int) + 1 - 1 = n:=by omega
 clear h h0 h64 hD
 go_enter Tryz.func345,Tryz.ntmps345
 go_wp2_with (first | (go_at_call 403;refine HP.out.mono ?_;rintro e w1 ⟨rfl,g,cap,hH,hO,hg⟩;have HH:=Lib.hid hH;have HO:=Lib.hid hO;have HG:=Lib.hid hg;clear hH hO hg) | (go_at_call 398;refine HH.out.len.mono ?_;rintro e w2 ⟨rfl,rfl⟩))
 refine (up_any b g (n + 1) cap _ (n + 1) (n + 1) pz n w1 HH.out (Nat.lt_succ_self _) (Nat.lt_succ_self _) hn).mono ?_
 rintro e w3 ⟨rfl,hH3,hO3⟩
 have HR:Hid (PushP b v D n (x1,x2) w (.returned (.tuple #[])) w3):=⟨rfl,g,cap,hH3,HO.out.andThen hO3 (fun k hk hb=>hb.elim .inl (fun e=>by have e2:g = k:=by { simpa [Value.ownBlock] using e };subst e2;exact HG.out.elim .inr (fun x=>absurd x (by omega)))),HG.out⟩
 clear hH3 hO3
 go_wp2
 go_end0
 exact HR.out
theorem Hx.swapPin {b g c cap:Nat} {D:Nat → Option Int} {n i:Nat} {q:Pr} {w:World} (h:Hx b (.slice (some ⟨g,0,none⟩) c cap) D (n + 1) i q w) (hi:i < n) :
  Calls Tryz.prog 404 #[.pointer (some ⟨b,0,none⟩),.int .i64 i,.int .i64 n] w (SwapH b (.slice (some ⟨g,0,none⟩) c cap) D (n + 1) n q w):=by
 obtain ⟨l,F,hb,hl,h1,h2,h3⟩:=h.bx
 have hi':i < l.length:=by omega
 have hj':n < l.length:=by omega
 refine (swap_any b g c cap l F i n w hb hi' hj' (by omega)).mono ?_
 rintro e w' ⟨rfl,hb',ho⟩
 refine ⟨rfl,⟨swapL l i n,swapF F l i n,hb',by rw [swapL_len];exact hl,?_,?_,?_⟩,ho⟩
 ·intro k hk
  rw [swapL_at l i n k hi' hj']
  by_cases e1:k = n
  ·rw [if_pos e1];exact h1 i (by omega)
  ·rw [if_neg e1]
   by_cases e2:k = i
   ·rw [if_pos e2];exact h1 n (by omega)
   ·rw [if_neg e2];exact h1 k hk
 ·intro k hk hF
  unfold swapF at hF
  by_cases e1:k = (l[i]?.getD pz).1.toNat
  ·rw [if_pos e1] at hF;omega
  ·rw [if_neg e1] at hF
   by_cases e2:k = (l[n]?.getD pz).1.toNat
   ·rw [if_pos e2] at hF;omega
   ·rw [if_neg e2] at hF;exact h2 k hk hF
 ·intro hm
  rw [swapL_at l i n n hi' hj',if_pos rfl]
  exact h3 (by omega)
def RemP (b g cap:Nat) (c:Nat) (D:Nat → Option Int) (n:Nat) (q:Pr) (w:World) (e:Ending) (w':World):Prop:=
 (∃ v,e = .returned v) ∧ Hx b (.slice (some ⟨g,0,none⟩) n cap) (fun k=>if k = q.1.toNat then none else D k) n n q w' ∧ Only (Bf b (.slice (some ⟨g,0,none⟩) c cap)) w w'
set_option maxHeartbeats 4000000 in
theorem Hx.remove {b g c cap:Nat} {D:Nat → Option Int} {n i:Nat} {q:Pr} {w:World} (h:Hx b (.slice (some ⟨g,0,none⟩) c cap) D (n + 1) i q w) (hi:i ≤ n) (hn:n < 64):Calls Tryz.prog 122 #[.iface 224 (.pointer (some ⟨b,0,none⟩)),.int .i64 i] w (RemP b g cap c D n q w):=by
 have hML:=mLen ⟨b,0,none⟩
 have hMS:=mSwap ⟨b,0,none⟩
 have hMP:=mPop ⟨b,0,none⟩
 have HL:=Lib.hid h.len
 have q5:(n:Int) + 1 - 1 = n:=by omega
 have HP:=Lib.hid (fun W (hW:Hx b (.slice (some ⟨g,0,none⟩) c cap) D (n + 1) n q W)=>hW.pop hn)
 by_cases e:i = n
 ·subst e
  have HH:=Lib.hid h
  have hd:((i:Int) != (i:Int)) = false:=by simp
  clear h hi
  go_enter Tryz.func122,Tryz.ntmps122
  go_wp2_with (first | (go_at_call 398;refine HL.out.mono ?_;rintro e w2 ⟨rfl,rfl⟩) | (go_at_call 402;refine (HP.out _ HH.out).mono ?_;rintro e w3 ⟨⟨v,rfl⟩,hH,hO⟩;have HR:Hid (RemP b g cap c D i q w (.returned v) w3):=⟨⟨_,rfl⟩,hH,hO⟩;clear hH hO))
  go_ret
  exact HR.out
 ·have hd:((n:Int) != (i:Int)) = true:=by simp;omega
  have HS:=Lib.hid (h.swapPin (show i < n by omega))
  have HDn:=Lib.hid (fun W (hW:Hx b (.slice (some ⟨g,0,none⟩) c cap) D (n + 1) n q W)=>down_any b g c cap D (n + 1) n q i n W hW (by omega) (by omega) (by omega) (by omega))
  have HU:=Lib.hid (fun W (hW:Hx b (.slice (some ⟨g,0,none⟩) c cap) D (n + 1) n q W)=>up_any b g c cap D (n + 1) n q i W hW (by omega) (by omega) (by omega))
  clear h hi e
  go_enter Tryz.func122,Tryz.ntmps122
  go_wp2_with (first
   | (go_at_call 398;refine HL.out.mono ?_;rintro e w2 ⟨rfl,rfl⟩)
   | (go_at_call 404;refine HS.out.mono ?_;rintro e w3 ⟨rfl,hH,hO⟩;have HH:=Lib.hid hH;have HO:=Lib.hid hO;clear hH hO)
   | (go_at_call 194;refine (HDn.out _ HH.out).mono ?_;rintro e w4 ⟨x,rfl,hH,hO⟩;have HH4:=Lib.hid hH;have HO4:=Lib.hid (HO.out.trans hO);clear hH hO))
  ·refine (HU.out _ HH4.out).mono ?_
   rintro e w5 ⟨rfl,hH,hO⟩
   have HH5:=Lib.hid hH
   have HO5:=Lib.hid (HO4.out.trans hO)
   clear hH hO
   go_wp2_with (first | (go_at_call 402;refine (HP.out _ HH5.out).mono ?_;rintro e w6 ⟨⟨v,rfl⟩,hH,hO⟩;have HR:Hid (RemP b g cap c D n q w (.returned v) w6):=⟨⟨_,rfl⟩,hH,HO5.out.trans hO⟩;clear hH hO))
   go_ret
   exact HR.out
  ·refine (HP.out _ HH4.out).mono ?_
   rintro e w6 ⟨⟨v,rfl⟩,hH,hO⟩
   have HR:Hid (RemP b g cap c D n q w (.returned v) w6):=⟨⟨_,rfl⟩,hH,HO4.out.trans hO⟩
   clear hH hO
   go_wp2
   go_ret
   exact HR.out
end Go.Proofs.YtgadhchejmlfjaaGreatDoor.Sig
end
section
namespace Go.Proofs.YtgadhchejmlfjaaGreatDoor.Sig
open Go.RowKit Go.Esc
open Go.Proofs.YtgadhchejmlfjaaGreatDoor.Pstat (Pr ys pz)
theorem ys_set2 (l:List Pr) (y:Int):∀ i,i < l.length → ys (l.set i ((l[i]?.getD pz).1,y)) = (ys l).set (i * 2 + 1) (.int .i64 y):=by
 induction l with
 | nil=>intro i hi;simp at hi
 | cons x l ih=>
  intro i hi
  cases i with
  | zero=>simp [ys]
  | succ i=>
   have h:=ih i (by simpa using hi)
   rw [List.set_cons_succ,show (i + 1) * 2 + 1 = (i * 2 + 1) + 1 + 1 by omega]
   simp only [List.getElem?_cons_succ,ys]
   rw [h]
   simp
theorem row_setDue {w:World} {g n cap:Nat} {l:List Pr} (h:w.ownsRow 0 222 2 (.slice (some ⟨g,0,none⟩) n cap) l.length (ys l)) (i:Nat) (hi:i < l.length) (y:Int) :
  (w.setCell ⟨g,i * 2 + 1,none⟩ (.int .i64 y)).ownsRow 0 222 2 (.slice (some ⟨g,0,none⟩) n cap) (l.set i ((l[i]?.getD pz).1,y)).length (ys (l.set i ((l[i]?.getD pz).1,y))) ∧ w.frozen? ⟨g,i * 2 + 1,none⟩ = false:=by
 obtain ⟨hl,⟨h0,_⟩ | ⟨g',cap',cur,he,hb,hh,hn,hm,hs,ht⟩⟩:=h
 ·cases h0
 ·simp only [Value.slice.injEq,Option.some.injEq,Addr.mk.injEq] at he
  obtain ⟨⟨rfl,_⟩,rfl,rfl⟩:=he
  have hB:Blk w g cur 222:=hh
  refine ⟨⟨by rw [Pstat.ys_len],.inr ⟨g,cap,_,by rw [List.length_set],hb,hB.set (i * 2 + 1) (.int .i64 y),by rw [List.length_set];exact hn,hm,by simpa using hs,?_⟩⟩,hB.free _⟩
  rw [List.length_set,ys_set2 l y i hi,← ht]
  simp [List.take_set]
theorem Hx.setDue {b g c cap:Nat} {D:Nat → Option Int} {n i k:Nat} {d:Int} {w:World} (h:Hx b (.slice (some ⟨g,0,none⟩) c cap) D n i ((k:Int),d) w) (hi:i < n) (y:Int):Hx b (.slice (some ⟨g,0,none⟩) c cap) (fun k'=>if k' = k then some y else D k') n i ((k:Int),y) (w.setCell ⟨g,i * 2 + 1,none⟩ (.int .i64 y)) ∧ w.frozen? ⟨g,i * 2 + 1,none⟩ = false:=by
 obtain ⟨l,F,hb,hl,h1,h2,h3⟩:=h.bx
 have hil:i < l.length:=by omega
 have hq:=h3 hi
 obtain ⟨hr,hf⟩:=row_setDue hb.row i hil y
 have hgb:b ≠ g:=fun e=>hb.ne (by rw [e];rfl)
 have hk:(l[i]?.getD pz).1 = k:=by rw [hq]
 have hat:∀ m,m < l.length → ((l.set i ((l[i]?.getD pz).1,y))[m]?.getD pz).1 = (l[m]?.getD pz).1:=fun m hm=>by
  rw [List.getElem?_set]
  by_cases e:i = m
  ·subst e;simp [hil]
  ·simp [e]
 refine ⟨⟨l.set i ((l[i]?.getD pz).1,y),F,⟨hb.cs.setOther hgb _,hr,hb.ne,fun m hm=>?_,fun m hm=>?_⟩,by simp [hl],fun m hm=>?_,fun m hm hF=>?_,fun _=>?_⟩,hf⟩
 ·simp only [List.length_set] at hm
  rw [hat m hm];exact hb.at_ m hm
 ·rcases hb.idx m hm with h0 | ⟨j,a1,a2,a3⟩
  ·exact .inl h0
  ·exact .inr ⟨j,a1,by simpa using a2,by rw [hat j a2];exact a3⟩
 ·rw [hat m (by omega)]
  by_cases e:i = m
  ·subst e;rw [if_pos (by rw [hk];simp)];simp [hil]
  ·rw [if_neg (fun e2=>?_)]
   ·rw [h1 m hm,List.getElem?_set];simp [e]
   ·have a1:=hb.at_ i hil
    have a2:=hb.at_ m (by omega)
    rw [hk] at a1
    simp only [Int.toNat_natCast] at a1
    rw [e2,a1.2.2] at a2
    omega
 ·rw [if_neg (fun e=>?_)]
  ·exact h2 m hm hF
  ·have a1:=hb.at_ i hil
   rw [hk] at a1
   simp only [Int.toNat_natCast] at a1
   rw [e,a1.2.2] at hF
   omega
 ·rw [hk];simp [hil]
theorem Hx.drew {b:Nat} {v:Value} {D:Nat → Option Int} {n m:Nat} {q:Pr} {w:World} (h:Hx b v D n m q w):Hx b v D n m q w.drew:=h.below ⟨rfl,rfl,rfl,Nat.le_refl _,fun _ _=>rfl⟩
theorem Hx.c0 {b:Nat} {v:Value} {D:Nat → Option Int} {n m:Nat} {q:Pr} {w:World} (h:Hx b v D n m q w):w.cell? ⟨b,0,none⟩ = some v:=by
 obtain ⟨l,F,hb,_⟩:=h.bx
 have:=hb.cs.cell (i:=0) (by decide)
 simpa using this
def BoxP (b:Nat) (v:Value) (D:Nat → Option Int) (w w':World):Prop:=∃ v' n' m' q',Hx b v' D n' m' q' w' ∧ n' ≤ m' ∧ n' ≤ 64 ∧ Only (Bf b v) w w' ∧ ∀ j,Bf b v' j → Bf b v j ∨ w.heap.size ≤ j
def sendD (D:Nat → Option Int) (k:Nat) (due:Int) (k':Nat):Option Int:=if k' = k then (match D k with | none=>some due | some d=>if due < d then some due else some d) else D k'
def SendP (b:Nat) (v:Value) (D:Nat → Option Int) (w:World) (e:Ending) (w':World):Prop:=(∃ r,e = .returned (.bool r)) ∧ BoxP b v D w w'
set_option maxHeartbeats 4000000 in
theorem send_any (b:Nat) (v:Value) (D:Nat → Option Int) (n m:Nat) (q:Pr) (k:Nat) (due:Int) (w:World) (h:Hx b v D n m q w) (hm:n ≤ m) (hn:n ≤ 64) (hk:k < 64):Calls Tryz.prog 311 #[.pointer (some ⟨b,0,none⟩),.int .i64 k,.int .i64 due] w (SendP b v (sendD D k due) w):=by
 have q3:(k:Int) < 64:=by omega
 have d1:decide ((k:Int) < 0) = false:=by simp
 have d2:decide (64 ≤ (k:Int)) = false:=by simp;omega
 rcases h.where_ k hk with ⟨hD,c0⟩ | ⟨i,g,c,cap,d,rfl,hin,rfl,hD,ci,cg0,cg1,hg,hgb,hH⟩
 ·have HP:=Lib.hid (h.hpush ((k:Int),due) (by simp) (by simp;omega) (by simpa using hD))
  have hroom:=h.room k hk hD
  have hE:∀ k',(if k' = k then some due else D k') = sendD D k due k':=fun k'=>by unfold sendD;rw [hD]
  have HE:=Lib.hid (And.intro hE hroom)
  clear h hm hn hD hE hroom
  go_enter Tryz.func311,Tryz.ntmps311
  go_wp2_with (first | (go_at_call 345;refine HP.out.mono ?_;rintro e w1 ⟨rfl,g,cap,hH,hO,hg⟩;have HR:Hid (SendP b v (sendD D k due) w (.returned (.bool true)) w1):=⟨⟨_,rfl⟩,_,_,_,_,hH.congrD (fun k' _=>by simpa using HE.out.1 k'),Nat.le_refl _,by have:=HE.out.2;omega,hO,fun j hj=>hj.elim (fun e=>.inl (.inl e)) (fun e=>by have e2:g = j:=by { simpa [Value.ownBlock] using e };subst e2;exact hg.imp .inr id)⟩;clear hH hO hg))
  go_ret
  exact HR.out
 ·have cb0:=h.c0
  by_cases hdd:due < d
  ·have hd3:decide (due < d) = true:=by simpa using hdd
   obtain ⟨hS,hf⟩:=hH.setDue hin due
   have hE:∀ k',(if k' = k then some due else D k') = sendD D k due k':=fun k'=>by unfold sendD;rw [hD];simp [hdd]
   have HE:=Lib.hid (And.intro hE hn)
   have HF:=Lib.hid (fix_any b g c cap _ c c pz i _ (hS.unpin c pz (Nat.le_refl _)) hin (Nat.le_refl _) hn)
   have n1:((i:Int) == -1) = false:=by rw [beq_eq_false_iff_ne];omega
   have q4:(i:Int) < (c:Int):=by omega
   have HO:Hid (Only (Bf b (.slice (some ⟨g,0,none⟩) c cap)) w (w.setCell ⟨g,i * 2 + 1,none⟩ (.int .i64 due))):=(Only.refl _ w).set (.inr (.inr rfl)) _ _
   clear h hm hn hD hE hdd hH hS hin
   go_enter Tryz.func311,Tryz.ntmps311
   go_wp2_with (first | (go_at_call 346;refine HF.out.mono ?_;rintro e w1 ⟨rfl,hH,hO⟩;have HR:Hid (SendP b (.slice (some ⟨g,0,none⟩) c cap) (sendD D k due) w (.returned (.bool false)) w1):=⟨⟨_,rfl⟩,_,_,_,_,hH.congrD (fun k' _=>HE.out.1 k'),Nat.le_refl _,HE.out.2,HO.out.trans hO,fun j hj=>.inl hj⟩;clear hH hO))
   go_ret
   exact HR.out
  ·have hd3:decide (due < d) = false:=by simpa using hdd
   have hE:∀ k',D k' = sendD D k due k':=fun k'=>by
    unfold sendD;rw [hD];simp only [hdd,if_false];split
    ·next e=>rw [e,hD]
    ·rfl
   have n1:((i:Int) == -1) = false:=by rw [beq_eq_false_iff_ne];omega
   have q4:(i:Int) < (c:Int):=by omega
   have HR:Hid (SendP b (.slice (some ⟨g,0,none⟩) c cap) (sendD D k due) w (.returned (.bool false)) w):=⟨⟨_,rfl⟩,_,_,_,_,h.congrD (fun k' _=>hE k'),hm,hn,Only.refl _ _,fun j hj=>.inl hj⟩
   clear h hm hn hD hE hdd hH hin
   go_enter Tryz.func311,Tryz.ntmps311
   go_wp2
   go_ret
   exact HR.out
def dueD (D:Nat → Option Int) (k:Nat) (now:Int) (k':Nat):Option Int:=if k' = k then (match D k with | none=>none | some d=>if d ≤ now then none else some d) else D k'
def dueB (D:Nat → Option Int) (k:Nat) (now:Int):Bool:=match D k with | none=>false | some d=>decide (d ≤ now)
def DueP (b:Nat) (v:Value) (D:Nat → Option Int) (k:Nat) (now:Int) (w:World) (e:Ending) (w':World):Prop:=e = .returned (.bool (dueB D k now)) ∧ BoxP b v (dueD D k now) w w'
set_option maxHeartbeats 4000000 in
theorem due_any (b:Nat) (v:Value) (D:Nat → Option Int) (n m:Nat) (q:Pr) (k:Nat) (now:Int) (w:World) (h:Hx b v D n m q w) (hm:n ≤ m) (hn:n ≤ 64) (hk:k < 64):Calls Tryz.prog 55 #[.pointer (some ⟨b,0,none⟩),.int .i64 k,.int .i64 now] w (DueP b v D k now w):=by
 have q3:(k:Int) < 64:=by omega
 have d1:decide ((k:Int) < 0) = false:=by simp
 have d2:decide (64 ≤ (k:Int)) = false:=by simp;omega
 rcases h.where_ k hk with ⟨hD,c0⟩ | ⟨i,g,c,cap,d,rfl,hin,rfl,hD,ci,cg0,cg1,hg,hgb,hH⟩
 ·have hE:∀ k',D k' = dueD D k now k':=fun k'=>by
   unfold dueD;rw [hD];dsimp only;split
   ·next e=>rw [e,hD]
   ·rfl
  have HR:Hid (DueP b v D k now w (.returned (.bool false)) w):=⟨by unfold dueB;rw [hD],_,_,_,_,h.congrD (fun k' _=>hE k'),hm,hn,Only.refl _ _,fun j hj=>.inl hj⟩
  clear h hm hn hD hE
  go_enter Tryz.func55,Tryz.ntmps55
  go_wp2
  go_ret
  exact HR.out
 ·have cb0:=h.c0
  have n1:((i:Int) == -1) = false:=by rw [beq_eq_false_iff_ne];omega
  have q4:(i:Int) < (c:Int):=by omega
  by_cases hdd:d ≤ now
  ·have hd3:decide (now < d) = false:=by simp;omega
   obtain ⟨c1,rfl⟩:∃ c1,c = c1 + 1:=⟨c - 1,by omega⟩
   have hE:∀ k',(if k' = k then none else D k') = dueD D k now k':=fun k'=>by unfold dueD;rw [hD];simp [hdd]
   have hB:dueB D k now = true:=by unfold dueB;rw [hD];simpa using hdd
   have HE:=Lib.hid (And.intro hE (show c1 ≤ 64 by omega))
   have HF:=Lib.hid (hH.remove (by omega) (by omega))
   unfold DueP
   rw [hB]
   clear h hm hn hD hE hdd hH hin hB
   go_enter Tryz.func55,Tryz.ntmps55
   go_wp2_with (first | (go_at_call 122;refine HF.out.mono ?_;rintro e w1 ⟨⟨r,rfl⟩,hH,hO⟩;have HR:Hid (BoxP b (.slice (some ⟨g,0,none⟩) (c1 + 1) cap) (dueD D k now) w w1):=⟨_,_,_,_,hH.congrD (fun k' _=>by simpa using HE.out.1 k'),Nat.le_refl _,HE.out.2,hO,fun j hj=>.inl hj⟩;clear hH hO))
   go_ret
   exact ⟨rfl,HR.out⟩
  ·have hd3:decide (now < d) = true:=by simp;omega
   have hE:∀ k',D k' = dueD D k now k':=fun k'=>by
    unfold dueD;rw [hD];simp only [hdd,if_false];split
    ·next e=>rw [e,hD]
    ·rfl
   have HR:Hid (DueP b (.slice (some ⟨g,0,none⟩) c cap) D k now w (.returned (.bool false)) w):=⟨by unfold dueB;rw [hD];simp [hdd],_,_,_,_,h.congrD (fun k' _=>hE k'),hm,hn,Only.refl _ _,fun j hj=>.inl hj⟩
   clear h hm hn hD hE hdd hH hin
   go_enter Tryz.func55,Tryz.ntmps55
   go_wp2
   go_ret
   exact HR.out
end Go.Proofs.YtgadhchejmlfjaaGreatDoor.Sig
end
