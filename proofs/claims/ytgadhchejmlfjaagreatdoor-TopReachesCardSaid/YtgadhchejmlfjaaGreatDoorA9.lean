/- Contracts ported from other seats by program (tod.py): GcdPlain OncePlain DealPlain NumWalk NumAll Gcd NumOnceWalk Deal DealOrder DealIn DealOthers. -/
import Derived.Test.YtgadhchejmlfjaaGreatDoorA1
import Derived.BigGuard
import Derived.Deep.DeepCutAuto
import Derived.Deep.LoopGhost
import Derived.Deep.RegionWith
import Derived.LoopIn
import Derived.LoopNIn
import Derived.Maps.AppendAt
import Derived.OpenShut
import Derived.Outline
import Derived.OwnWalkIn
import Derived.RangeFuncBox
import Derived.RangeFuncLeaves
import Derived.RegionTactic
import Derived.Shelf.Abstract
import Derived.Stop.RegionWithIn
import Derived.TacticsInMore
import Derived.WalkKit
import Derived.WalkMore
set_option linter.unusedVariables false
set_option maxRecDepth 20000
namespace Go.Esc
def gcdZ (a b:Int):Int:=if a < 0 ∨ b < 0 then 0 else (Nat.gcd a.toNat b.toNat:Nat)
theorem gcdZ_nat (x y:Nat):gcdZ x y = (Nat.gcd x y:Nat):=by
 unfold gcdZ;rw [if_neg (by omega)];simp
theorem gcd_step (x y:Nat):Nat.gcd y (x % y) = Nat.gcd x y:=by
 rw [Nat.gcd_comm y (x % y),← Nat.gcd_rec y x,Nat.gcd_comm]
def copK (n:Int) (k:Nat):List Int:=((List.range k).map (fun i:Nat=>(i:Int) + 1)).filter fun i=>gcdZ i n == 1
def copL (n:Int):List Int:=if n < 1 ∨ 1024 < n then [] else copK n n.toNat
theorem copK_yes (n:Int) (k:Nat) (h:(gcdZ ((k:Int) + 1) n == 1) = true):copK n (k + 1) = copK n k ++ [(k:Int) + 1]:=by
 unfold copK;rw [List.range_succ,List.map_append,List.filter_append];simp [h]
theorem copK_no (n:Int) (k:Nat) (h:(gcdZ ((k:Int) + 1) n == 1) = false):copK n (k + 1) = copK n k:=by
 unfold copK;rw [List.range_succ,List.map_append,List.filter_append];simp [h]
theorem copK_len (n:Int) (k:Nat):(copK n k).length ≤ k:=by
 unfold copK
 have:=List.length_filter_le (fun i=>gcdZ i n == 1) ((List.range k).map (fun i:Nat=>(i:Int) + 1))
 simpa using this
theorem copL_pos {n:Int} (h1:1 ≤ n) (h2:n ≤ 1024):0 < (copL n).length:=by
 have:(1:Int) ∈ copL n:=by
  unfold copL
  rw [if_neg (by omega)]
  unfold copK
  refine List.mem_filter.2 ⟨List.mem_map.2 ⟨0,List.mem_range.2 (by omega),by simp⟩,?_⟩
  unfold gcdZ
  rw [if_neg (by omega)]
  simp
 exact List.length_pos_of_mem this
theorem copL_len (n:Int):(copL n).length ≤ 1024:=by
 unfold copL
 split
 ·simp
 ·rename_i h
  have:=copK_len n n.toNat
  omega
def dealBad (n:Int):Prop:=n < 1 ∨ 256 < n
instance (n:Int):Decidable (dealBad n):=by unfold dealBad;infer_instance
def waysZ (n:Int):Int:=if dealBad n then 0 else n * (copL n).length
def stepZ (n d:Int):Int:=(copL n)[(d / n).toNat]?.getD 0
def orderL (n draw:Int):List Int:=if dealBad n then [] else walkL n (modZ draw (waysZ n) % n) (stepZ n (modZ draw (waysZ n)))
def othersL (n self draw:Int):List Int:=(orderL n draw).filter (fun p=>p != self)
theorem ways_pos {n:Int} (h:¬ dealBad n):n ≤ waysZ n:=by
 have h':=h
 unfold dealBad at h'
 unfold waysZ
 rw [if_neg h]
 have:=copL_pos (n:=n) (by omega) (by omega)
 calc n = n * 1:=by omega
  _ ≤ n * ((copL n).length:Int):=Int.mul_le_mul_of_nonneg_left (by omega) (by omega)
theorem ways_hi {n:Int}:waysZ n ≤ 262144:=by
 unfold waysZ
 split
 ·omega
 ·rename_i h
  unfold dealBad at h
  have:=copL_len n
  calc n * ((copL n).length:Int) ≤ 256 * ((copL n).length:Int):=Int.mul_le_mul_of_nonneg_right (by omega) (by omega)
   _ ≤ 262144:=by omega
theorem draw_ok {n d:Int} (h:¬ dealBad n) (h0:0 ≤ d) (h1:d < waysZ n):(d / n).toNat < (copL n).length ∧ 0 ≤ d % n ∧ d % n < n ∧ 0 ≤ d / n:=by
 have h':=h
 unfold dealBad at h'
 unfold waysZ at h1
 rw [if_neg h] at h1
 refine ⟨?_,Int.emod_nonneg _ (by omega),Int.emod_lt_of_pos _ (by omega),Int.ediv_nonneg h0 (by omega)⟩
 have:d / n < (copL n).length:=Int.ediv_lt_of_lt_mul (by omega) (by rw [Int.mul_comm];exact h1)
 have:=Int.ediv_nonneg h0 (show 0 ≤ n by omega)
 omega
theorem orderL_len (n draw:Int):(orderL n draw).length ≤ 1024:=by
 unfold orderL
 split
 ·simp
 ·exact walkL_len _ _ _
end Go.Esc
namespace Go.Proofs.YtgadhchejmlfjaaGreatDoor.Num
open Go.RowKit Go.Shelf Go.Esc
attribute [local go_sem] Oper.semAt_some
set_option maxHeartbeats 400000 in
theorem mod_any (i n:Int) (w:World) (hn:n ≤ 4611686018427387904) :
  Calls Tryz.prog 53 #[.int .i64 i,.int .i64 n] w fun e w'=>e = .returned (.int .i64 (modZ i n)) ∧ w = w':=by
 by_cases h:n < 1
 ·go_enter Tryz.func53,Tryz.ntmps53
  go_wp2
  go_ret
  exact ⟨by simp [modZ,h],rfl⟩
 ·have h1:1 ≤ n:=by omega
  clear h
  have hz:(n == 0) = false:=by simp;omega
  go_enter Tryz.func53,Tryz.ntmps53
  go_wp2
  go_ret
  refine ⟨ret_int ?_,rfl⟩
  have h2:=Int.lt_tmod_of_pos i (show (0:Int) < n by omega)
  have h3:=Int.tmod_lt_of_pos i (show (0:Int) < n by omega)
  rw [IntWalk.wrap64_in _ ⟨by omega,by omega⟩,tmod_two i n h1,modZ,if_neg (by omega)]
set_option maxRecDepth 100000 in
set_option maxHeartbeats 1000000 in
theorem walk_inner (F:Fence) (n:Nat) (h54:F.fn 332) (hro:F.round = none) (a b c:Int) (w:World) :
  CallsIn F n Tryz.prog 332 #[.int .i64 a,.int .i64 b,.int .i64 c] w fun e w'=>
   e = .returned (.func (.func 357) #[] #[.pointer (some ⟨w.heap.size,0,none⟩),.pointer (some ⟨w.heap.size + 1 + 1,0,none⟩),.pointer (some ⟨w.heap.size + 1,0,none⟩)]) ∧
   w' = ((w.alloc (.cells #[.int .i64 a] 3)).alloc (.cells #[.int .i64 b] 3)).alloc (.cells #[.int .i64 c] 3):=by
 refine callsIn_of_wp Tryz.func332 rfl h54 ?_ hro
 simp only [Tryz.ntmps332,List.size_toArray,List.length_cons,List.length_nil,Nat.reduceAdd,Nat.reduceSub,Array.replicate_succ,Array.replicate_zero,List.push_toArray,List.append_toArray,List.nil_append,List.cons_append]
 gi_wp2
 go_ret
 exact ⟨rfl,rfl⟩
set_option maxHeartbeats 400000 in
theorem mod_in (F:Fence) (m:Nat) (h16:F.fn 53) (hro:F.round = none) (i n:Int) (w:World) (h1:1 ≤ n) (hn:n ≤ 4611686018427387904) :
  CallsIn F m Tryz.prog 53 #[.int .i64 i,.int .i64 n] w fun e w'=>e = .returned (.int .i64 (modZ i n)) ∧ w = w':=by
 have hz:(n == 0) = false:=by simp;omega
 refine callsIn_of_wp Tryz.func53 rfl h16 ?_ hro
 simp only [Tryz.ntmps53,List.size_toArray,List.length_cons,List.length_nil,Nat.reduceAdd,Nat.reduceSub,Array.replicate_succ,Array.replicate_zero,List.push_toArray,List.append_toArray,List.nil_append,List.cons_append]
 gi_wp2
 go_ret
 refine ⟨ret_int ?_,rfl⟩
 have h2:=Int.lt_tmod_of_pos i (show (0:Int) < n by omega)
 have h3:=Int.tmod_lt_of_pos i (show (0:Int) < n by omega)
 rw [IntWalk.wrap64_in _ ⟨by omega,by omega⟩,tmod_two i n h1,modZ,if_neg (by omega)]
def Keeps2 (b c:Nat) (W W':World):Prop:=(∀ v,W.cell? ⟨b,0,none⟩ = some v → W'.cell? ⟨b,0,none⟩ = some v) ∧ (∀ v,W.cell? ⟨c,0,none⟩ = some v → W'.cell? ⟨c,0,none⟩ = some v)
theorem keeps2_t {b c:Nat} {A B C:World} (h:Keeps2 b c A B) (k:Keeps2 b c B C):Keeps2 b c A C:=⟨fun v hv=>k.1 v (h.1 v hv),fun v hv=>k.2 v (h.2 v hv)⟩
theorem keeps2_b {b c:Nat} {w:World} (W:World) (l:Nat) (o o':Obj) (_:w.heap.size ≤ l) (h:W.heap[l]? = some o) (hc:o.isCells = false) (_:o.isWalk = false):Keeps2 b c W (W.putObj l o'):=
 ⟨fun _ hv=>cell_kept hv (grownBy_putObj' W l o') (fun r e=>by cases e;exact ⟨o,h,hc⟩),fun _ hv=>cell_kept hv (grownBy_putObj' W l o') (fun r e=>by cases e;exact ⟨o,h,hc⟩)⟩
theorem range_pre {k m:Nat} (h:k ≤ m):List.range k <+: List.range m:=⟨(List.range (m - k)).map (k + ·),by rw [← List.range_add];congr 1;omega⟩
theorem range_snoc (m:Nat) (start step:Int) (k:Nat):(List.range (k + 1)).map (walkAt m start step) = (List.range k).map (walkAt m start step) ++ [walkAt m start step k]:=by
 rw [List.range_succ,List.map_append];rfl
set_option maxRecDepth 100000 in
set_option maxHeartbeats 1000000 in
theorem walk1_in (F:Fence) (n:Nat) (h60:F.fn 357) (h16:F.fn 53) (hro:F.round = none) (hn:2 ≤ n) (l Bn Bs Bt:Nat) (m:Nat) (start step:Int) (hm1:1 ≤ m) (hm2:m ≤ 1024) (hs1:1 ≤ step) (hs2:step ≤ 1024) (J Jx:List Int → World → Prop)
  (hY:∀ pre x W,J pre W → pre.length < m → YieldAt F (n - 1) Tryz.prog l #[.int .i64 x] W fun e W'=>
   (e = .returned (.bool true) ∧ J (pre ++ [x]) W' ∧ Keeps2 Bn Bs W W') ∨ (e = .returned (.bool false) ∧ Jx (pre ++ [x]) W'))
  (W:World) (hBn:W.cell? ⟨Bn,0,none⟩ = some (.int .i64 m)) (hBs:W.cell? ⟨Bs,0,none⟩ = some (.int .i64 step)) (hBt:W.cell? ⟨Bt,0,none⟩ = some (.int .i64 start)) (h0:J [] W) :
  CallsIn F n Tryz.prog 357 #[.func (.yield l) #[] #[],.pointer (some ⟨Bn,0,none⟩),.pointer (some ⟨Bs,0,none⟩),.pointer (some ⟨Bt,0,none⟩)] W fun e W'=>(∃ v,e = .returned v) ∧
   ((∃ ys,ys = (List.range m).map (walkAt m start step) ∧ J ys W') ∨ (∃ pre,pre <+: (List.range m).map (walkAt m start step) ∧ Jx pre W')):=by
 refine callsIn_of_wp Tryz.func357 rfl h60 ?_ hro
 simp only [Tryz.ntmps357,List.size_toArray,List.length_cons,List.length_nil,Nat.reduceAdd,Nat.reduceSub,Array.replicate_succ,Array.replicate_zero,List.push_toArray,List.append_toArray,List.nil_append,List.cons_append]
 have h1n:1 ≤ n:=by omega
 have h2n:1 ≤ n - 1:=by omega
 have hd1:decide ((m:Int) < 1) = false:=by simp;omega
 have hd2:decide ((1024:Int) < m) = false:=by simp;omega
 have hd3:decide (step < 1) = false:=by simp;omega
 have hd4:decide ((1024:Int) < step) = false:=by simp;omega
 gi_wp2_with (gi_at_call 53;refine (mod_in F (n - 1) h16 hro _ _ _ (by omega) (by omega)).mono ?_;rintro e w' ⟨rfl,rfl⟩)
 gi_loopw [5,24] (fun at_ i wr=>∃ k:Nat,k ≤ m ∧ at_ = .int .i64 (walkAt m start step k) ∧ i = .int .i64 k ∧ wr.cell? ⟨Bn,0,none⟩ = some (.int .i64 m) ∧ wr.cell? ⟨Bs,0,none⟩ = some (.int .i64 step) ∧ J ((List.range k).map (walkAt m start step)) wr)
  (fun _ i _=>m - (intOf i).toNat)
 case atStart=>
  exact ⟨0,Nat.zero_le _,by rw [walkAt_zero _ _ _ (by omega)],rfl,hBn,hBs,h0⟩
 case round=>
  obtain ⟨k,hk,rfl,rfl,hcn,hcs,hJs⟩:=hrel
  by_cases hlt:k < m
  ·have w0:=walkAt_lo m start step k (by omega)
   have w1:=walkAt_hi m start step k (by omega)
   have HS:=Lib.hid (walkAt_succ m start step k)
   have HR:=Lib.hid (range_snoc m start step k)
   obtain ⟨fn,tmps,assign,body,hy,hR⟩:=hY _ (walkAt m start step k) wr hJs (by simp;exact hlt)
   gi_wp2
   refine hR.mono ?_
   rintro e W3 (⟨rfl,hJ3,hk3⟩ | ⟨rfl,hJx3⟩)
   ·have hcn3:=hk3.1 _ hcn
    have hcs3:=hk3.2 _ hcs
    gi_wp2
    go_roundw
    case rel=>exact ⟨k + 1,by omega,by rw [HS.out],by go_num,hcn3,hcs3,by rw [HR.out];exact hJ3⟩
    case measure=>simp [intOf];omega
   ·gi_wp2
    refine bodyPost_ret (results_none rfl _ _ _) rfl ?_
    exact ⟨⟨_,rfl⟩,.inr ⟨_,by rw [← HR.out];exact List.IsPrefix.map _ (range_pre (by omega)),hJx3⟩⟩
  ·obtain rfl:k = m:=by omega
   gi_wp2
   go_end0
   exact ⟨⟨_,rfl⟩,.inl ⟨_,rfl,hJs⟩⟩
set_option maxRecDepth 100000 in
set_option maxHeartbeats 1000000 in
theorem walk1_bad (F:Fence) (n:Nat) (h60:F.fn 357) (hro:F.round = none) (l Bn Bs Bt:Nat) (m step:Int) (hbad:walkBad m step)
  (W:World) (hBn:W.cell? ⟨Bn,0,none⟩ = some (.int .i64 m)) (hBs:W.cell? ⟨Bs,0,none⟩ = some (.int .i64 step)) :
  CallsIn F n Tryz.prog 357 #[.func (.yield l) #[] #[],.pointer (some ⟨Bn,0,none⟩),.pointer (some ⟨Bs,0,none⟩),.pointer (some ⟨Bt,0,none⟩)] W fun e W'=>(∃ v,e = .returned v) ∧ W = W':=by
 by_cases h1:m < 1
 ·have hd1:decide (m < 1) = true:=by simp;omega
  refine callsIn_of_wp Tryz.func357 rfl h60 ?_ hro
  simp only [Tryz.ntmps357,List.size_toArray,List.length_cons,List.length_nil,Nat.reduceAdd,Nat.reduceSub,Array.replicate_succ,Array.replicate_zero,List.push_toArray,List.append_toArray,List.nil_append,List.cons_append]
  gi_wp2
  refine bodyPost_ret (results_none rfl _ _ _) rfl ?_
  exact ⟨⟨_,rfl⟩,rfl⟩
 ·have hd1:decide (m < 1) = false:=by simp;omega
  by_cases h2:1024 < m
  ·have hd2:decide (1024 < m) = true:=by simp;omega
   refine callsIn_of_wp Tryz.func357 rfl h60 ?_ hro
   simp only [Tryz.ntmps357,List.size_toArray,List.length_cons,List.length_nil,Nat.reduceAdd,Nat.reduceSub,Array.replicate_succ,Array.replicate_zero,List.push_toArray,List.append_toArray,List.nil_append,List.cons_append]
   gi_wp2
   refine bodyPost_ret (results_none rfl _ _ _) rfl ?_
   exact ⟨⟨_,rfl⟩,rfl⟩
  ·have hd2:decide (1024 < m) = false:=by simp;omega
   by_cases h3:step < 1
   ·have hd3:decide (step < 1) = true:=by simp;omega
    refine callsIn_of_wp Tryz.func357 rfl h60 ?_ hro
    simp only [Tryz.ntmps357,List.size_toArray,List.length_cons,List.length_nil,Nat.reduceAdd,Nat.reduceSub,Array.replicate_succ,Array.replicate_zero,List.push_toArray,List.append_toArray,List.nil_append,List.cons_append]
    gi_wp2
    refine bodyPost_ret (results_none rfl _ _ _) rfl ?_
    exact ⟨⟨_,rfl⟩,rfl⟩
   ·have hd3:decide (step < 1) = false:=by simp;omega
    have h4:1024 < step:=by unfold walkBad at hbad;omega
    have hd4:decide (1024 < step) = true:=by simp;omega
    refine callsIn_of_wp Tryz.func357 rfl h60 ?_ hro
    simp only [Tryz.ntmps357,List.size_toArray,List.length_cons,List.length_nil,Nat.reduceAdd,Nat.reduceSub,Array.replicate_succ,Array.replicate_zero,List.push_toArray,List.append_toArray,List.nil_append,List.cons_append]
    gi_wp2
    refine bodyPost_ret (results_none rfl _ _ _) rfl ?_
    exact ⟨⟨_,rfl⟩,rfl⟩
theorem walkL_nat {m:Nat} {start step:Int} (h:¬ walkBad m step):walkL m start step = (List.range m).map (walkAt m start step):=by
 unfold walkL;rw [if_neg h];simp
theorem walk_stops (F:Fence) (n:Nat) (h60:F.fn 357) (h16:F.fn 53) (hro:F.round = none) (hn:2 ≤ n) (Bn Bs Bt:Nat) (a start step:Int) (w:World) (h1:Bn < w.heap.size) (h2:Bs < w.heap.size) (h3:Bt < w.heap.size)
  (c1:w.cell? ⟨Bn,0,none⟩ = some (.int .i64 a)) (c2:w.cell? ⟨Bs,0,none⟩ = some (.int .i64 step)) (c3:w.cell? ⟨Bt,0,none⟩ = some (.int .i64 start)) :
  SeqStopsK F n Tryz.prog 357 #[.pointer (some ⟨Bn,0,none⟩),.pointer (some ⟨Bs,0,none⟩),.pointer (some ⟨Bt,0,none⟩)] (fun x:Int=>#[Value.int .i64 x]) (Keeps2 Bn Bs) (fun ys=>ys = walkL a start step) (fun pre=>pre <+: walkL a start step) (walkL a start step).length w:=by
 intro l J Jx W hW _ _ hY h0
 have d1:=(hW.cell (p:=⟨Bn,0,none⟩) h1).trans c1
 have d2:=(hW.cell (p:=⟨Bs,0,none⟩) h2).trans c2
 have d3:=(hW.cell (p:=⟨Bt,0,none⟩) h3).trans c3
 by_cases hb:walkBad a step
 ·refine (walk1_bad F n h60 hro l Bn Bs Bt a step hb W d1 d2).mono ?_
  rintro e W' ⟨hv,rfl⟩
  exact ⟨hv,.inl ⟨[],by simp [walkL,hb],h0⟩⟩
 ·have hb':=hb
  unfold walkBad at hb'
  obtain ⟨m,rfl⟩:=Int.eq_ofNat_of_zero_le (show 0 ≤ a by omega)
  rw [walkL_nat hb] at hY ⊢
  exact walk1_in F n h60 h16 hro hn l Bn Bs Bt m start step (by omega) (by omega) (by omega) (by omega) J Jx (fun pre x W1 hJ hl=>hY pre x W1 hJ (by simpa using hl)) W d1 d2 d3 h0
open Go.RowKit Go.Shelf Go.Esc
attribute [local go_sem] Oper.semAt_some
theorem info3:(Tryz.prog.info? 3).map (fun i=>(i.zero,i.size,i.bytes)) = some (some (.int .i64 0),1,8):=by kernel_rfl
theorem owns_mono {w:World} {base base':Nat} {e:TypeId} {size:Nat} {v:Value} {n:Nat} {xs:List Value} (h:w.ownsRow base e size v n xs) (hb:base' ≤ base):w.ownsRow base' e size v n xs:=by
 obtain ⟨h1,h2 | ⟨g,cap,cur,hv,hg,hh,r⟩⟩:=h
 ·exact ⟨h1,.inl h2⟩
 ·exact ⟨h1,.inr ⟨g,cap,cur,hv,Nat.le_trans hb hg,hh,r⟩⟩
theorem appended2 {W w1:World} {n₀ R B:Nat} {t e:TypeId} {size:Nat} {v v':Value} {k m:Nat} {xs ys:List Value} {tmp:Obj}
  (hv:Boxed W B t v) (hte:t ≠ e) (hrow:W.ownsRow R e size v k xs) (hn₀:n₀ ≤ W.heap.size) (hB:n₀ ≤ B) (hR:n₀ ≤ R)
  (hown':w1.ownsRow R e size v' m ys) (hgrow:(W.alloc tmp).grownBy w1 v.ownBlock) :
  Boxed w1 B t v ∧ Boxed (w1.setCell ⟨B,0,none⟩ v') B t v' ∧ (w1.setCell ⟨B,0,none⟩ v').ownsRow R e size v' m ys ∧ KeepsOthers W (w1.setCell ⟨B,0,none⟩ v') ∧ Below n₀ W (w1.setCell ⟨B,0,none⟩ v') ∧
   ∀ b,b < R → b ≠ B → b < W.heap.size → (w1.setCell ⟨B,0,none⟩ v').heap[b]? = W.heap[b]?:=by
 obtain ⟨h1,h2,_,h4,h5⟩:=hv.appended hte (owns_mono hrow hR) hn₀ hB (owns_mono hown' hR) hgrow
 refine ⟨h1,h2,hown'.kept (grownBy_setCell' w1 B v') (.inr (h1.not_row hte hown').symm),h4,h5,fun b hb hne hlt=>?_⟩
 rw [Below.heap_setCell _ _ _ b hne,hgrow.block b (by simp;omega) ?_,Below.heap_alloc _ _ _ hlt]
 intro e
 have:=(hrow.lt b e.symm).1
 omega
theorem keeps2_of {b c B R:Nat} {W W':World} (h:∀ k,k < R → k ≠ B → k < W.heap.size → W'.heap[k]? = W.heap[k]?) (hb:b ≠ B) (hc:c ≠ B) (hbR:b < R) (hcR:c < R):Keeps2 b c W W':=
 ⟨fun _ hv=>(World.cell?_of_block (h b hbR hb (lt_of_cell hv))).trans hv,fun _ hv=>(World.cell?_of_block (h c hcR hc (lt_of_cell hv))).trans hv⟩
def ListPost (L:List Int) (w:World) (e:Ending) (w':World):Prop:=∃ v,e = .returned v ∧ OwnI w' w.heap.size v L ∧ Below w.heap.size w w'
open Go.RowKit Go.Esc
set_option maxHeartbeats 1000000 in
theorem gcd_bad (a b:Int) (w:World) (h:a < 0 ∨ b < 0):Calls Tryz.prog 356 #[.int .i64 a,.int .i64 b] w fun e w'=>e = .returned (.int .i64 (gcdZ a b)) ∧ ∃ n,w' = w.drewN n:=by
 have hg:gcdZ a b = 0:=by unfold gcdZ;rw [if_pos h]
 rw [hg]
 clear hg
 by_cases ha:a < 0
 ·go_enter Tryz.func356,Tryz.ntmps356
  go_wp2
  go_step3
  go_wp2
  try rw [Exit.noGoto_ret]
  go_ret
  exact ⟨rfl,0,rfl⟩
 ·have hb:b < 0:=by omega
  clear h
  go_enter Tryz.func356,Tryz.ntmps356
  go_wp2
  go_step3
  go_wp2
  try rw [Exit.noGoto_ret]
  go_ret
  exact ⟨rfl,0,rfl⟩
set_option maxHeartbeats 1000000 in
theorem gcd_good (x y:Nat) (w:World):Calls Tryz.prog 356 #[.int .i64 x,.int .i64 y] w fun e w'=>e = .returned (.int .i64 (Nat.gcd x y:Nat)) ∧ ∃ n,w' = w.drewN n:=by
 have hd1:decide ((x:Int) < 0) = false:=by simp
 have hd2:decide ((y:Int) < 0) = false:=by simp
 go_enter Tryz.func356,Tryz.ntmps356
 go_wp2
 go_step3
 go_wp2
 go_step3
 go_wp2
 go_loopw [0,1] (fun a b wr=>∃ (p q n:Nat),a = .int .i64 p ∧ b = .int .i64 q ∧ Hid (Nat.gcd p q = Nat.gcd x y) ∧ wr = w.drewN n) (fun _ b _=>(intOf b).toNat)
 case atStart=>exact ⟨x,y,0,rfl,rfl,rfl,rfl⟩
 case round=>
  obtain ⟨p,q,n,rfl,rfl,HG,rfl⟩:=hrel
  by_cases hq:q = 0
  ·subst hq
   go_wp2
   rw [Exit.noGoto_ret]
   go_ret
   exact ⟨ret_int (by rw [← HG.out];simp),n,rfl⟩
  ·have hqb:((q:Int) == 0) = false:=by simp;omega
   have HS:=Lib.hid (gcd_step p q)
   have hlt:p % q < q:=Nat.mod_lt _ (by omega)
   go_wp2
   go_quiet (fail)
   go_wp2
   refine ⟨⟨q,p % q,n + nq,rfl,rfl,HS.out.trans HG.out,by rw [World.drewN_drewN]⟩,?_⟩
   simp only [intOf]
   omega
theorem gcd_any (a b:Int) (w:World):Calls Tryz.prog 356 #[.int .i64 a,.int .i64 b] w fun e w'=>e = .returned (.int .i64 (gcdZ a b)) ∧ ∃ n,w' = w.drewN n:=by
 by_cases h:a < 0 ∨ b < 0
 ·exact gcd_bad a b w h
 ·obtain ⟨x,rfl⟩:=Int.eq_ofNat_of_zero_le (show 0 ≤ a by omega)
  obtain ⟨y,rfl⟩:=Int.eq_ofNat_of_zero_le (show 0 ≤ b by omega)
  rw [gcdZ_nat]
  exact gcd_good x y w
set_option maxHeartbeats 1000000 in
theorem coprimes_any (n:Int) (w:World):Calls Tryz.prog 331 #[.int .i64 n] w (ListPost (copL n) w):=by
 by_cases h:n < 1 ∨ 1024 < n
 ·have hl:copL n = []:=by unfold copL;rw [if_pos h]
  rw [hl]
  clear hl
  by_cases h1:n < 1
  ·go_enter Tryz.func331,Tryz.ntmps331
   go_wp2
   go_ret
   exact ⟨_,rfl,OwnI.nil _ _,Below.refl _ _⟩
  ·have h2:1024 < n:=by omega
   clear h
   go_enter Tryz.func331,Tryz.ntmps331
   go_wp2
   go_ret
   exact ⟨_,rfl,OwnI.nil _ _,Below.refl _ _⟩
 ·have hL:copL n = copK n n.toNat:=by unfold copL;rw [if_neg h]
  rw [hL]
  clear hL
  obtain ⟨m,rfl⟩:=Int.eq_ofNat_of_zero_le (show 0 ≤ n by omega)
  simp only [Int.toNat_natCast]
  have hm1:1 ≤ m:=by omega
  have hm2:m ≤ 1024:=by omega
  clear h
  have hd1:decide ((m:Int) < 1) = false:=by simp;omega
  have hd2:decide ((1024:Int) < (m:Int)) = false:=by simp;omega
  obtain ⟨i0,hi,hz0,hz1,hz2⟩:=info_parts info3
  go_enter Tryz.func331,Tryz.ntmps331
  go_wp2
  go_loopw [2,3] (fun v i wr=>∃ k:Nat,k ≤ m ∧ i = .int .i64 ((k:Int) + 1) ∧ OwnI wr w.heap.size v (copK m k) ∧ Below w.heap.size w wr) (fun _ i _=>m + 1 - (intOf i).toNat)
  case atStart=>exact ⟨0,Nat.zero_le _,rfl,OwnI.nil _ _,Below.refl _ _⟩
  case round=>
   obtain ⟨k,hk,rfl,hown,hbel⟩:=hrel
   have hkl:=copK_len m k
   by_cases hlt:k < m
   ·cases hc:(gcdZ ((k:Int) + 1) m == 1)
    ·have HC:=Lib.hid (copK_no m k hc)
     go_wp2_with fail
     refine (gcd_any _ _ _).mono ?_
     rintro e w1 ⟨rfl,nn,rfl⟩
     go_wp2_with fail
     go_roundw
     case rel=>exact ⟨k + 1,by omega,by go_num,by rw [HC.out];exact hown.drewN _,below_drewN hbel _⟩
     case measure=>simp [intOf];omega
    ·have HC:=Lib.hid (copK_yes m k hc)
     go_wp2_with fail
     refine (gcd_any _ _ _).mono ?_
     rintro e w1 ⟨rfl,nn,rfl⟩
     have hown2:=hown.drewN nn
     have hbel2:=below_drewN hbel nn
     generalize wr.drewN nn = w2 at *
     clear hown hbel
     unfold OwnI at hown2
     go_wp2_with (at_builtin;refine wpList_append_own _ rfl _ _ 22 rfl w.heap.size 3 i0 (.int .i64 0) 1 8 Tryz.underlying22 hi hz0 hz1 hz2 rfl (by decide) _ _ _ rfl (hown2.alloc _) ⟨w2.heap.size,0,none⟩ 1 1 [.int .i64 ((k:Int) + 1)] rfl rfl (cell_one_new _ _ _) (by simp [Value.oneCell']) (by unfold maxLen;omega) (by omega) (by have:=hbel2.size;simp;omega) ?_;intro v' w3 hown' hgrow _)
     have hfin:OwnI w3 w.heap.size v' (copK m (k + 1)):=by rw [HC.out];unfold OwnI;simpa using hown'
     have hbel3:Below w.heap.size w w3:=below_grown (below_alloc hbel2 _) hgrow (fun j e=>(hown2.lt j e).1)
     go_roundw
     case rel=>exact ⟨k + 1,by omega,by go_num,hfin,hbel3⟩
     case measure=>simp [intOf];omega
   ·obtain rfl:k = m:=by omega
    go_wp2
    go_ret
    exact ⟨_,rfl,hown,hbel⟩
open Go.RowKit Go.Esc
theorem sl_cell {w:World} {v:Value} {l:List Int} (h:Sl w v l) (hl:l ≠ []):∃ b off cap,v = .slice (some ⟨b,off,none⟩) l.length cap ∧ b < w.heap.size ∧ ∀ i,i < l.length → w.cell? ⟨b,off + i,none⟩ = some (.int .i64 (l[i]?.getD 0)):=by
 obtain ⟨a,cap,rfl,_,h0 | ⟨b,off,rfl,hb,hc⟩⟩:=h
 ·exact absurd h0 hl
 ·exact ⟨b,off,cap,rfl,hb,hc⟩
end Go.Proofs.YtgadhchejmlfjaaGreatDoor.Num
namespace Go.Proofs.YtgadhchejmlfjaaGreatDoor.Deal
open Go.RowKit Go.Esc Go.Shelf Num
theorem own_len {w:World} {base:Nat} {v:Value} {l:List Int} (h:OwnI w base v l):∃ a cap,v = .slice a l.length cap:=by
 obtain ⟨a,cap,hv,_⟩:=Sl.ofOwn h
 exact ⟨a,cap,hv⟩
open Go.RowKit Go.Esc Go.Shelf Num
theorem draw_nat {n draw:Int} (h:¬ dealBad n):∃ m D q r:Nat,n = m ∧ 1 ≤ m ∧ m ≤ 256 ∧ modZ draw (waysZ n) = D ∧ q < (copL m).length ∧ r < m ∧ (D:Int) ≤ 262144 ∧
  (D:Int).tdiv m = q ∧ (D:Int) / m = q ∧ (D:Int).tmod m = r ∧ (D:Int) % m = r ∧ orderL n draw = walkL m r (((copL m)[q]?).getD 0):=by
 have h':=h
 unfold dealBad at h'
 obtain ⟨m,rfl⟩:=Int.eq_ofNat_of_zero_le (show 0 ≤ n by omega)
 have hw:=ways_pos h
 have hwh:=ways_hi (n:=(m:Int))
 have h0:=modZ_lo draw (waysZ m)
 have h1:=modZ_hi draw (waysZ m) (by omega)
 obtain ⟨D,HD⟩:=Int.eq_ofNat_of_zero_le h0
 rw [HD] at h1
 have hq:=(draw_ok h (show (0:Int) ≤ D by omega) h1).1
 rw [← Int.natCast_ediv,Int.toNat_natCast] at hq
 refine ⟨m,D,D / m,D % m,rfl,by omega,by omega,HD,hq,Nat.mod_lt _ (by omega),by omega,rfl,rfl,rfl,rfl,?_⟩
 unfold orderL stepZ
 rw [if_neg h,HD,← Int.natCast_ediv,Int.toNat_natCast]
 rfl
open Go.RowKit Go.Esc Go.Shelf Num
attribute [local go_sem] Oper.semAt_some
theorem wp_normal {P:Program} {c:Code} {K:Act → World → Prop} {Q:Exit → Act → World → Prop} {a:Act} {w:World} (h:c.wp P (Exit.then K (fun _ _ _=>False)) a w):c.wp P (Exit.then K Q) a w:=
 Code.wp_mono (fun e a w h=>by cases e <;> first | exact h | exact h.elim) h
theorem is_yes (a:Int) (w:World) (h1:1 ≤ a) (h2:a ≤ 256):Calls Tryz.prog 289 #[.int .i64 a] w fun e w'=>e = .returned (.bool true) ∧ w = w':=by
 have hd1:decide (1 ≤ a) = true:=by simp;omega
 have hd2:decide (a ≤ 256) = true:=by simp;omega
 go_enter Tryz.func289,Tryz.ntmps289
 go_wp2
 go_ret
 exact ⟨rfl,rfl⟩
set_option maxRecDepth 100000 in
set_option maxHeartbeats 2000000 in
theorem order_good (m D q r:Nat) (s draw:Int) (w:World) (hm1:1 ≤ m) (hm2:m ≤ 256) (HD:Hid (modZ draw (waysZ m) = D)) (hlt:q < (copL m).length) (hrm:r < m) (hD:(D:Int) ≤ 262144)
  (e1:(D:Int).tdiv m = q) (e2:(D:Int) / m = q) (e3:(D:Int).tmod m = r) (e4:(D:Int) % m = r) (HS:Hid ((copL m)[q]?.getD 0 = s)) :
  Calls Tryz.prog 290 #[.int .i64 m,.int .i64 draw] w (ListPost (walkL m r s) w):=by
 have hwh:=ways_hi (n:=(m:Int))
 have hlen:=copL_len m
 have hne:copL m ≠ []:=by intro h;simp [h] at hlt
 have hnb:¬ dealBad m:=by unfold dealBad;omega
 have hWp:=ways_pos hnb
 have HW:Hid (waysZ m = m * (copL m).length):=by show _ = _;unfold waysZ;rw [if_neg hnb]
 have hWl:(m:Int) * ((copL m).length:Int) ≤ 262144:=by rw [← HW.out];exact hwh
 have hWl1:1 ≤ (m:Int) * ((copL m).length:Int):=by rw [← HW.out];omega
 have hd1:decide (1 ≤ (m:Int)) = true:=by simp;omega
 have hd2:decide ((m:Int) ≤ 256) = true:=by simp;omega
 have hmz:((m:Int) == 0) = false:=by rw [beq_eq_false_iff_ne];omega
 have e5:IntKind.i64.wrap (q:Int) = q:=IntWalk.i64_in _ (by omega)
 have hi1:(q:Int) < ((copL m).length:Int):=by omega
 refine (callsIn_wide (n:=4)).1 ?_
 refine callsIn_of_wp_marks Tryz.func290 rfl trivial ?_ rfl
 simp only [Tryz.ntmps290,List.size_toArray,List.length_cons,List.length_nil,Nat.reduceAdd,Nat.reduceSub,Array.replicate_succ,Array.replicate_zero,List.push_toArray,List.append_toArray,List.nil_append,List.cons_append]
 refine wpIn_wide.2 ?_
 go_wp2_with (first | (go_at_call 331;refine (coprimes_any _ _).mono ?_;rintro e w1 ⟨v,rfl,ho,hb1⟩;obtain ⟨b,off,cap,rfl,hbl,hcells⟩:=sl_cell (Sl.ofOwn ho) hne;have cq:=hcells q hlt;rw [HS.out] at cq;clear hcells) | (go_at_call 53;refine (mod_any _ _ _ (by omega)).mono ?_;rintro e w2 ⟨rfl,rfl⟩;rw [← HW.out,HD.out]) | (go_at_call 289;refine (is_yes _ _ (by omega) (by omega)).mono ?_;rintro e w0 ⟨rfl,rfl⟩))
 refine wp_normal ?_
 go_region_with (go_at_call 332;refine (callsIn_wide.1 (walk_inner Fence.wide 4 trivial rfl _ _ _ _)).mono ?_;rintro e w' ⟨rfl,rfl⟩)
 all_goals go_wp2
 all_goals
  clear cq hWl hWl1 hwh HW hi1 e1 e2 e3 e4 e5 HD HS hWp
  refine (wpIn_wide (n:=4)).1 ?_
  obtain ⟨i0,hi,hz0,hz1,hz2⟩:=info_parts info3
  have bO:=Boxed.new w1 22 (.slice none 0 0)
  have b1:=Boxed.new (w1.alloc (.cells #[.slice none 0 0] 22)) 3 (.int .i64 m)
  have b2:=Boxed.new ((w1.alloc (.cells #[.slice none 0 0] 22)).alloc (.cells #[.int .i64 m] 3)) 3 (.int .i64 r)
  have b3:=Boxed.new (((w1.alloc (.cells #[.slice none 0 0] 22)).alloc (.cells #[.int .i64 m] 3)).alloc (.cells #[.int .i64 r] 3)) 3 (.int .i64 s)
  simp only [World.size_alloc] at b1 b2 b3
  have hB0:Below w1.heap.size w1 ((((w1.alloc (.cells #[.slice none 0 0] 22)).alloc (.cells #[.int .i64 m] 3)).alloc (.cells #[.int .i64 r] 3)).alloc (.cells #[.int .i64 s] 3)).drew:=(below_alloc (below_alloc (below_alloc (below_alloc (Below.refl _ _) _) _) _) _).drew
  refine wpIn_rangeFunc_ownG rfl (by decide) (gf:=357) (lb:=#[.pointer (some ⟨w1.heap.size + 1,0,none⟩),.pointer (some ⟨w1.heap.size + 1 + 1 + 1,0,none⟩),.pointer (some ⟨w1.heap.size + 1 + 1,0,none⟩)]) rfl trivial (enters_of Tryz.func357 (by kernel_rfl) rfl)
   (walk_stops Fence.wide (4 - 1) trivial trivial rfl (by decide) (w1.heap.size + 1) (w1.heap.size + 1 + 1 + 1) (w1.heap.size + 1 + 1) m r s _ (by simp <;> omega) (by simp <;> omega) (by simp <;> omega) ((b1.alloc _).alloc _).cell b3.cell (b2.alloc _).cell) keeps2_t keeps2_b (Below.refl _ _).drew (fun _=>rfl)
   (fun (pre:List Int) W=>(∃ v,Boxed W w1.heap.size 22 v ∧ W.ownsRow (w1.heap.size + 4) 3 1 v pre.length (pre.map (Value.int .i64)) ∧ True) ∧ Below w1.heap.size w1 W ∧ w1.heap.size + 4 ≤ W.heap.size)
   (fun _ _ _=>False)
   (OwnFrom.and (Own.from (holdsRow_own (w1.heap.size + 4) w1.heap.size 22 3 1 (fun pre:List Int=>pre.length) (fun pre=>pre.map (Value.int .i64)) (fun _ _=>True)) _) (OwnFrom.and (ownFrom_below (Nat.le_refl _) (by simp <;> omega)) (fun _ _ _ _ hs hg _=>Nat.le_trans hs hg.size)))
   (fun _ _ _ _ _ hs _ _=>hs)
   ⟨⟨_,((bO.alloc _).alloc _).alloc _,World.ownsRow_nil _ _ _ _,trivial⟩,hB0,by simp <;> omega⟩
   (fun x=>{ tmps:=#[.int .i64 m,.int .i64 draw,undef,undef,.slice none 0 0,.slice (some ⟨b,off,none⟩) (copL m).length cap,.int .i64 D,.pointer (some ⟨w1.heap.size,0,none⟩),.int .i64 x,.int .i64 m,.bool true,.bool false,.int .i64 m,.slice (some ⟨b,off,none⟩) (copL m).length cap,.int .i64 draw,.int .i64 m,.slice (some ⟨b,off,none⟩) (copL m).length cap,.int .i64 ((copL m).length:Nat),.int .i64 (waysZ m),.int .i64 D,.int .i64 m,.int .i64 D,.int .i64 m,.int .i64 r,.slice (some ⟨b,off,none⟩) (copL m).length cap,.int .i64 D,.int .i64 m,.int .i64 q,.pointer (some ⟨b,off + q,none⟩),.int .i64 s,.func (.func 357) #[] #[.pointer (some ⟨w1.heap.size + 1,0,none⟩),.pointer (some ⟨w1.heap.size + 1 + 1 + 1,0,none⟩),.pointer (some ⟨w1.heap.size + 1 + 1,0,none⟩)],.int .i64 x,undef,undef,undef,undef,undef],defers:=[] }) ?assign ?body ?done ?stop
  case assign=>
   intro l x W K hK
   gi_wp2
   exact hK
  case body=>
   rintro l pre x W ⟨⟨v,hv,hrow,_⟩,hB,hS⟩ hpl
   have hwl:=walkL_len m r s
   have hc:=hv.cell
   gi_wp2_with (gi_at_builtin;refine wpListIn_append_own _ rfl _ _ 22 rfl (w1.heap.size + 4) 3 i0 (.int .i64 0) 1 8 Tryz.underlying22 hi hz0 hz1 hz2 rfl (by decide) _ _ _ rfl (hrow.alloc _) ⟨W.heap.size,0,none⟩ 1 1 [.int .i64 x] rfl rfl (cell_one_new _ _ _) (by simp [Value.oneCell']) (by unfold maxLen;omega) (by omega) (by simp;omega) ?_;intro v' w3 hown' hgrow _;obtain ⟨g',cap',rfl⟩:=ownsRow_succ hown';obtain ⟨hv1,hv2,hr2,hk2,hb2,ho2⟩:=appended2 (n₀:=w1.heap.size) hv (by decide) hrow hB.size (Nat.le_refl _) (by omega) hown' hgrow;have hc1:=hv1.cell;have hf1:=hv1.frozen)
   exact ⟨hk2.from _,keeps2_of ho2 (by omega) (by omega) (by omega) (by omega),⟨_,hv2,by simpa using hr2,trivial⟩,hB.trans hb2,Nat.le_trans hS hb2.size⟩
  case done=>
   rintro E ys W hE rfl ⟨⟨v,hv,hrow,_⟩,hB,hS⟩ hK
   have hc:=hv.cell
   go_wp2
   refine ⟨by simp,.inl ⟨_,_,rfl,run_takeDeferred hK,?_⟩⟩
   exact ⟨_,results_tmp rfl _ _ _,v,rfl,ownsRow_putObj (owns_mono hrow (by have:=hb1.size;omega)) _ hK rfl,below_below hb1 (hB.trans (belowK_b (w:=w1) (Nat.le_refl _) W E _ _ (by simp at hE;omega) hK rfl rfl))⟩
  case stop=>
   rintro E c pre W _ _ h _
   exact h.elim
set_option maxHeartbeats 1000000 in
theorem order_any (n draw:Int) (w:World):Calls Tryz.prog 290 #[.int .i64 n,.int .i64 draw] w (ListPost (orderL n draw) w):=by
 by_cases h:dealBad n
 ·have hL:orderL n draw = []:=by unfold orderL;rw [if_pos h]
  rw [hL]
  clear hL
  unfold dealBad at h
  by_cases h1:n < 1
  ·clear h
   have hd:decide (1 ≤ n) = false:=by simp;omega
   go_enter Tryz.func290,Tryz.ntmps290
   go_wp2
   go_ret
   exact ⟨_,rfl,OwnI.nil _ _,Below.refl _ _⟩
  ·have h2:256 < n:=by omega
   clear h
   have hd:decide (1 ≤ n) = true:=by simp;omega
   have hd2:decide (n ≤ 256) = false:=by simp;omega
   go_enter Tryz.func290,Tryz.ntmps290
   go_wp2
   go_ret
   exact ⟨_,rfl,OwnI.nil _ _,Below.refl _ _⟩
 ·obtain ⟨m,D,q,r,rfl,hm1,hm2,HD,hlt,hrm,hD,e1,e2,e3,e4,HL⟩:=draw_nat (draw:=draw) h
  rw [HL]
  exact order_good m D q r _ draw w hm1 hm2 HD hlt hrm hD e1 e2 e3 e4 rfl
open Go.RowKit Go.Esc Num
theorem filter_snoc (L:List Int) (self:Int) (k:Nat) (h:k < L.length):(L.take (k + 1)).filter (fun p=>p != self) = (L.take k).filter (fun p=>p != self) ++ (if L[k]?.getD 0 != self then [L[k]?.getD 0] else []):=by
 rw [List.take_succ_eq_append_getElem h,List.filter_append]
 simp only [h,List.getElem?_eq_getElem,Option.getD_some]
 by_cases hc:(L[k] != self) = true
 ·simp [hc]
 ·simp [hc]
set_option maxHeartbeats 1000000 in
theorem others_any (n self draw:Int) (w:World):Calls Tryz.prog 245 #[.int .i64 n,.int .i64 self,.int .i64 draw] w (ListPost (othersL n self draw) w):=by
 by_cases h:dealBad n
 ·have hL:othersL n self draw = []:=by unfold othersL orderL;rw [if_pos h];rfl
  rw [hL]
  clear hL
  unfold dealBad at h
  by_cases h1:n < 1
  ·clear h
   have hd:decide (1 ≤ n) = false:=by simp;omega
   go_enter Tryz.func245,Tryz.ntmps245
   go_wp2
   go_step3
   go_wp2
   try rw [Exit.noGoto_ret]
   go_ret
   exact ⟨_,rfl,OwnI.nil _ _,Below.refl _ _⟩
  ·have h2:256 < n:=by omega
   clear h
   have hd:decide (1 ≤ n) = true:=by simp;omega
   have hd2:decide (n ≤ 256) = false:=by simp;omega
   go_enter Tryz.func245,Tryz.ntmps245
   go_wp2
   go_step3
   go_wp2
   try rw [Exit.noGoto_ret]
   go_ret
   exact ⟨_,rfl,OwnI.nil _ _,Below.refl _ _⟩
 ·unfold othersL
  have hlen:=orderL_len n draw
  have HO:=Lib.hid (order_any n draw)
  generalize orderL n draw = L at *
  unfold dealBad at h
  have hn1:1 ≤ n:=by omega
  have hn2:n ≤ 256:=by omega
  clear h
  have hd:decide (1 ≤ n) = true:=by simp;omega
  have hd2:decide (n ≤ 256) = true:=by simp;omega
  go_enter Tryz.func245,Tryz.ntmps245
  go_wp2
  go_step3
  go_wp2_with (first | (go_at_call 289;refine (is_yes _ _ hn1 hn2).mono ?_;rintro e w0 ⟨rfl,rfl⟩))
  go_step3
  go_wp2_with fail
  refine (HO.out _).mono ?_
  rintro e w1 ⟨v,rfl,ho,hb1⟩
  have hsl:=Sl.ofOwn ho
  clear ho
  obtain ⟨a,cap,rfl,_,hcl⟩:=hsl
  have HCL:=Lib.hid hcl
  clear hcl
  go_wp2_with fail
  go_loopw [6,16] (fun v i wr=>∃ k:Nat,k ≤ L.length ∧ i = .int .i64 k ∧ OwnI wr w1.heap.size v ((L.take k).filter (fun p=>p != self)) ∧ Below w1.heap.size w1 wr) (fun _ i _=>L.length - (intOf i).toNat)
  case atStart=>exact ⟨0,Nat.zero_le _,rfl,OwnI.nil _ _,Below.refl _ _⟩
  case round=>
   obtain ⟨k,hk,rfl,hown,hbel⟩:=hrel
   have hfl:((L.take k).filter (fun p=>p != self)).length ≤ k:=Nat.le_trans (List.length_filter_le _ _) (by rw [List.length_take];omega)
   by_cases hlt:k < L.length
   ·rcases HCL.out with h0 | ⟨b,off,rfl,hbl,hcells⟩
    ·simp [h0] at hlt
    have HF:=Lib.hid (filter_snoc L self k hlt)
    have c0:=(hbel.cell (p:=⟨b,off + k,none⟩) hbl).trans (hcells k hlt)
    clear hcells
    generalize L[k]?.getD 0 = x at *
    cases hc:(x == self)
    ·have hc2:(x != self) = true:=by simp [bne,hc]
     go_wp2_with (at_builtin;refine app1 Tryz.underlying22 info3 w1.heap.size wr x rfl _ _ rfl _ _ rfl rfl hown hbel.size (by omega) ?_;intro v' w3 hown' hgrow _)
     have hbel3:Below w1.heap.size w1 w3:=below_grown hbel hgrow (fun j e=>(hown.lt j e).1)
     go_roundw
     case rel=>exact ⟨k + 1,by omega,by go_num,by rw [HF.out,if_pos hc2];exact hown',hbel3⟩
     case measure=>simp [intOf];omega
    ·have hc2:(x != self) = false:=by simp [bne,hc]
     go_wp2_with fail
     go_roundw
     case rel=>exact ⟨k + 1,by omega,by go_num,by rw [HF.out,if_neg (by simp [hc2]),List.append_nil];exact hown,hbel⟩
     case measure=>simp [intOf];omega
   ·obtain rfl:k = L.length:=by omega
    go_wp2
    try rw [Exit.noGoto_ret]
    go_ret
    rw [List.take_length] at hown
    exact ⟨_,rfl,hown.mono hb1.size,below_below hb1 hbel⟩
end Go.Proofs.YtgadhchejmlfjaaGreatDoor.Deal
