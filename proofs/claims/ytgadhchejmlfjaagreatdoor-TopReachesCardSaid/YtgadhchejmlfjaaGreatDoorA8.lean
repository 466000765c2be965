/- Contracts ported from other seats by program (tod.py): DealOncePlain IdlePlain Idle IdleDrop IdleMore. -/
import Derived.Test.YtgadhchejmlfjaaGreatDoorA1
import Derived.BigGuard
import Derived.BigQuiet
import Derived.BigRegion
import Derived.ChangeAlike
import Derived.Deep.LoopGhost
import Derived.Deep.QuietTactic
import Derived.Outline
import Derived.RegionTactic
import Derived.WalkLawsBesides
import Derived.WalkMore
set_option linter.unusedVariables false
set_option maxRecDepth 20000
namespace Go.Esc
theorem pigeon (n:Nat):∀ (l:List Int),l.Nodup → (∀ x ∈ l,0 ≤ x ∧ x < n) → l.length ≤ n:=by
 induction n with
 | zero=>
  intro l _ h
  match l with
  | []=>simp
  | x :: _=>have:=h x (by simp);omega
 | succ n ih=>
  intro l hn h
  by_cases hm:(n:Int) ∈ l
  ·have h1:=List.length_erase_of_mem hm
   have h2:=ih (l.erase (n:Int)) (hn.erase _) (fun x hx=>by
    obtain ⟨hne,hx'⟩:=hn.mem_erase_iff.1 hx
    have:=h x hx'
    omega)
   omega
  ·have h2:=ih l hn (fun x hx=>by
    have:=h x hx
    have:x ≠ n:=fun e=>hm (e ▸ hx)
    omega)
   omega
def link:List Int → Int → Int
 | [],_=>-2
 | a :: r,i=>if i = a then r.headD (-1) else link r i
theorem link_no:∀ {x:List Int} {i:Int},i ∉ x → link x i = -2
 | [],_,_=>rfl
 | a :: r,i,h=>by
  rw [link,if_neg (fun e=>h (by simp [e]))]
  exact link_no (fun hm=>h (by simp [hm]))
theorem link_at:∀ (p:List Int) (q:Int) (s:List Int),q ∉ p → link (p ++ q :: s) q = s.headD (-1)
 | [],q,s,_=>by simp [link]
 | a :: p,q,s,h=>by
  simp only [List.cons_append,link]
  rw [if_neg (fun e=>h (by simp [e]))]
  exact link_at p q s (fun hm=>h (by simp [hm]))
theorem headD_lo {x:List Int} (h:∀ y ∈ x,0 ≤ y) : -1 ≤ x.headD (-1):=by
 cases x with
 | nil=>simp
 | cons a r=>have:=h a (by simp);simp;omega
theorem link_yes:∀ {x:List Int} {i:Int},(∀ y ∈ x,0 ≤ y) → i ∈ x → -1 ≤ link x i
 | a :: r,i,h,hm=>by
  rw [link]
  split
  ·exact headD_lo (fun y hy=>h y (by simp [hy]))
  ·rename_i hne
   rcases List.mem_cons.1 hm with e | hm
   ·exact absurd e hne
   ·exact link_yes (fun y hy=>h y (by simp [hy])) hm
theorem link_has {x:List Int} {i:Int} (h:∀ y ∈ x,0 ≤ y):(link x i != -2) = decide (i ∈ x):=by
 by_cases hm:i ∈ x
 ·have:=link_yes h hm
  rw [decide_eq_true hm,bne_iff_ne];omega
 ·rw [decide_eq_false hm,link_no hm];rfl
theorem link_other:∀ (p:List Int) (id:Int) (r:List Int) (j:Int),j ≠ id → (∀ p0 q,p = p0 ++ [q] → j ≠ q) → link (p ++ r) j = link (p ++ id :: r) j
 | [],id,r,j,hj,_=>by simp only [List.nil_append,link];rw [if_neg hj]
 | a :: p,id,r,j,hj,hl=>by
  simp only [List.cons_append,link]
  by_cases hja:j = a
  ·rw [if_pos hja,if_pos hja]
   cases p with
   | nil=>exact absurd hja (hl [] a rfl)
   | cons b p'=>rfl
  ·rw [if_neg hja,if_neg hja]
   exact link_other p id r j hj (fun p0 q e=>hl (a :: p0) q (by rw [e];rfl))
theorem erase_split {p:List Int} {id:Int} {r:List Int} (h:id ∉ p):(p ++ id :: r).erase id = p ++ r:=by
 rw [List.erase_append_right _ h];simp
end Go.Esc
namespace Go.Proofs.YtgadhchejmlfjaaGreatDoor.Idle
open Go.RowKit Go.Esc
def St (w:World) (b g m:Nat) (x:List Int):Prop:=
 Blk w b #[.int .i64 (x.headD (-1)),.slice (some ⟨g,0,none⟩) m m,.int .i64 x.length] 205 ∧ Cells w g m 3 (fun i=>.int .i64 (link x i)) ∧ x.Nodup ∧ (∀ y ∈ x,0 ≤ y ∧ y < (m:Int)) ∧ b ≠ g ∧ m ≤ 1024
theorem St.len {w:World} {b g m:Nat} {x:List Int} (h:St w b g m x):x.length ≤ 1024:=Nat.le_trans (pigeon m x h.2.2.1 h.2.2.2.1) h.2.2.2.2.2
theorem St.only {S:Nat → Prop} {w w':World} {b g m:Nat} {x:List Int} (h:St w b g m x) (k:Only S w w') (hb:¬ S b) (hg:¬ S g):St w' b g m x:=
 ⟨h.1.only k hb,h.2.1.only k hg,h.2.2⟩
theorem St.below {w w':World} {b g m:Nat} {x:List Int} (h:St w b g m x) (hb:Below w.heap.size w w'):St w' b g m x:=
 h.only (S:=fun _=>False) ((Only.refl _ w).below hb) (fun x=>x) (fun x=>x)
theorem St.drew {w:World} {b g m:Nat} {x:List Int} (h:St w b g m x):St w.drew b g m x:=h
theorem St.drewN {w:World} {b g m:Nat} {x:List Int} (h:St w b g m x) (n:Nat):St (w.drewN n) b g m x:=h
set_option maxHeartbeats 1000000 in
theorem len_any (b g m:Nat) (x:List Int) (w:World) (h:St w b g m x):Calls Tryz.prog 262 #[.pointer (some ⟨b,0,none⟩)] w fun e w'=>e = .returned (.int .i64 x.length) ∧ w = w':=by
 have c2:=h.1.cell 2
 simp at c2
 clear h
 go_enter Tryz.func262,Tryz.ntmps262
 go_wp2
 go_ret
 exact ⟨rfl,rfl⟩
set_option maxHeartbeats 1000000 in
theorem has_any (b g m:Nat) (x:List Int) (id:Int) (w:World) (h:St w b g m x):Calls Tryz.prog 111 #[.pointer (some ⟨b,0,none⟩),.int .i64 id] w fun e w'=>e = .returned (.bool (decide (id ∈ x))) ∧ w = w':=by
 obtain ⟨hb,hc,hn,hr,hne,hm⟩:=h
 have c1:=hb.cell 1
 simp at c1
 clear hb
 by_cases h0:id < 0
 ·rw [decide_eq_false (fun hx=>by have:=hr id hx;omega)]
  have hd:decide (0 ≤ id) = false:=by simp;omega
  go_enter Tryz.func111,Tryz.ntmps111
  go_wp2
  go_ret
  exact ⟨rfl,rfl⟩
 ·obtain ⟨n,rfl⟩:=Int.eq_ofNat_of_zero_le (show 0 ≤ id by omega)
  by_cases h1:m ≤ n
  ·rw [decide_eq_false (fun hx=>by have:=hr _ hx;omega)]
   have hd:decide (0 ≤ (n:Int)) = true:=by simp
   have hd2:decide ((n:Int) < (m:Int)) = false:=by simp;omega
   go_enter Tryz.func111,Tryz.ntmps111
   go_wp2
   go_ret
   exact ⟨rfl,rfl⟩
  ·have cn:=hc.cell (i:=n) (by omega)
   have HL:=Lib.hid (link_has (x:=x) (i:=n) (fun y hy=>(hr y hy).1))
   rw [← HL.out]
   clear HL hc hr hn
   have hd:decide (0 ≤ (n:Int)) = true:=by simp
   have hd2:decide ((n:Int) < (m:Int)) = true:=by simp;omega
   generalize link x n = y at *
   go_enter Tryz.func111,Tryz.ntmps111
   go_wp2
   go_ret
   exact ⟨rfl,rfl⟩
set_option maxHeartbeats 1000000 in
theorem peek_nil (b g m:Nat) (w:World) (h:St w b g m []):Calls Tryz.prog 189 #[.pointer (some ⟨b,0,none⟩)] w fun e w'=>e = .returned (.tuple #[.int .i64 0,.bool false]) ∧ w = w':=by
 have c2:=h.1.cell 2
 simp at c2
 clear h
 go_enter Tryz.func189,Tryz.ntmps189
 go_wp2
 go_ret2
 exact ⟨rfl,rfl⟩
set_option maxHeartbeats 1000000 in
theorem peek_cons (b g m:Nat) (a:Int) (x:List Int) (w:World) (h:St w b g m (a :: x)):Calls Tryz.prog 189 #[.pointer (some ⟨b,0,none⟩)] w fun e w'=>e = .returned (.tuple #[.int .i64 a,.bool true]) ∧ w = w':=by
 have c2:=h.1.cell 2
 have c0:=h.1.cell 0
 have hl:=h.len
 simp at c0 c2 hl
 have hb:(((x.length:Int) + 1) == 0) = false:=by rw [beq_eq_false_iff_ne];omega
 clear h
 go_enter Tryz.func189,Tryz.ntmps189
 go_wp2
 go_ret2
 exact ⟨rfl,rfl⟩
def TwoOf (b g:Nat) (k:Nat):Prop:=k = b ∨ k = g
theorem put_st {w:World} {b g m n:Nat} {x:List Int} (h:St w b g m x) (hn:n < m) (hx:(n:Int) ∉ x) :
  St (((w.setCell ⟨g,n,none⟩ (.int .i64 (x.headD (-1)))).setCell ⟨b,0,none⟩ (.int .i64 n)).setCell ⟨b,2,none⟩ (.int .i64 ((x.length:Int) + 1))) b g m ((n:Int) :: x):=by
 obtain ⟨hb,hc,hnd,hr,hne,hm⟩:=h
 refine ⟨?_,?_,List.nodup_cons.2 ⟨hx,hnd⟩,?_,hne,hm⟩
 ·exact (((hb.setOther (c:=g) (i:=n) hne (.int .i64 (x.headD (-1)))).set 0 (.int .i64 n)).set 2 (.int .i64 ((x.length:Int) + 1)))
 ·refine (((hc.set hn (.int .i64 (x.headD (-1)))).setOther (c:=b) (i:=0) (Ne.symm hne) (.int .i64 n)).setOther (c:=b) (i:=2) (Ne.symm hne) (.int .i64 ((x.length:Int) + 1))).congr fun i _=>?_
  rw [link]
  by_cases hi:i = n
  ·subst hi;simp
  ·rw [if_neg hi,if_neg (by omega)]
 ·intro y hy
  rcases List.mem_cons.1 hy with rfl | hy
  ·omega
  ·exact hr y hy
def BoolPost (b g m:Nat) (x':List Int) (r:Bool) (w:World) (e:Ending) (w':World):Prop:=e = .returned (.bool r) ∧ St w' b g m x' ∧ Only (TwoOf b g) w w'
set_option maxHeartbeats 1000000 in
theorem put_no (b g m:Nat) (x:List Int) (id:Int) (w:World) (h:St w b g m x) (hid:id < 0 ∨ (m:Int) ≤ id ∨ id ∈ x):Calls Tryz.prog 48 #[.pointer (some ⟨b,0,none⟩),.int .i64 id] w (BoolPost b g m x false w):=by
 have hS:=h
 have HH:=Lib.hid (has_any b g m x id w h)
 obtain ⟨hb,hc,hn,hr,hne,hm⟩:=h
 have c1:=hb.cell 1
 simp at c1
 clear hb hc hn
 by_cases h0:id < 0
 ·have hd:decide (0 ≤ id) = false:=by simp;omega
  clear hid hr
  go_enter Tryz.func48,Tryz.ntmps48
  go_wp2
  go_ret
  exact ⟨rfl,hS,Only.refl _ _⟩
 ·by_cases h1:(m:Int) ≤ id
  ·have hd:decide (0 ≤ id) = true:=by simp;omega
   have hd2:decide (id < (m:Int)) = false:=by simp;omega
   clear hid hr
   go_enter Tryz.func48,Tryz.ntmps48
   go_wp2
   go_ret
   exact ⟨rfl,hS,Only.refl _ _⟩
  ·have hx:id ∈ x:=(hid.resolve_left h0).resolve_left h1
   have hd:decide (0 ≤ id) = true:=by simp;omega
   have hd2:decide (id < (m:Int)) = true:=by simp;omega
   have HX:=Lib.hid (decide_eq_true hx)
   rw [HX.out] at HH
   clear hid hr hx
   go_enter Tryz.func48,Tryz.ntmps48
   go_wp2_with (first | (go_at_call 111;refine HH.out.mono ?_;rintro e w' ⟨rfl,rfl⟩) | (go_at_call 110;go_in))
   go_ret
   exact ⟨rfl,hS,Only.refl _ _⟩
set_option maxHeartbeats 2000000 in
theorem put_yes (b g m n:Nat) (x:List Int) (w:World) (h:St w b g m x) (hnm:n < m) (hx:(n:Int) ∉ x):Calls Tryz.prog 48 #[.pointer (some ⟨b,0,none⟩),.int .i64 n] w (BoolPost b g m ((n:Int) :: x) true w):=by
 have HS:=Lib.hid (put_st h hnm hx)
 have HH:=Lib.hid (has_any b g m x n w h)
 rw [decide_eq_false hx] at HH
 have hl:=h.len
 obtain ⟨hb,hc,hn,hr,hne,hm⟩:=h
 have c0:=hb.cell 0
 have c1:=hb.cell 1
 have c2:=hb.cell 2
 have f0:=hb.free 0
 have f2:=hb.free 2
 have cn:=hc.cell hnm
 have fn:=hc.free n
 have hbl:=hb.lt
 have hgl:=hc.lt
 simp only [List.getElem?_toArray,List.getElem?_cons_zero,List.getElem?_cons_succ] at c0 c1 c2
 generalize x.headD (-1) = hd0 at *
 generalize link x n = y at *
 have hne':g ≠ b:=Ne.symm hne
 have hd:decide (0 ≤ (n:Int)) = true:=by simp
 have hd2:decide ((n:Int) < (m:Int)) = true:=by simp;omega
 clear hb hc hr hn hx
 go_enter Tryz.func48,Tryz.ntmps48
 go_wp2_with (first | (go_at_call 111;refine HH.out.mono ?_;rintro e w' ⟨rfl,rfl⟩) | (go_at_call 110;go_in))
 go_region
 go_wp2
 go_ret
 exact ⟨rfl,HS.out.drew,((((Only.refl _ w).set (.inr (.inr rfl)) _ _).set (.inr (.inl rfl)) _ _).set (.inr (.inl rfl)) _ _).drew⟩
theorem drop_first {w:World} {b g m n:Nat} {r:List Int} (h:St w b g m ((n:Int) :: r)) (hn:n < m) :
  St (((w.setCell ⟨b,0,none⟩ (.int .i64 (r.headD (-1)))).setCell ⟨g,n,none⟩ (.int .i64 (-2))).setCell ⟨b,2,none⟩ (.int .i64 r.length)) b g m r:=by
 obtain ⟨hb,hc,hnd,hr,hne,hm⟩:=h
 obtain ⟨hx,hnd'⟩:=List.nodup_cons.1 hnd
 refine ⟨?_,?_,hnd',fun y hy=>hr y (by simp [hy]),hne,hm⟩
 ·exact (((hb.set 0 (.int .i64 (r.headD (-1)))).setOther (c:=g) (i:=n) hne (.int .i64 (-2))).set 2 (.int .i64 r.length))
 ·refine (((hc.setOther (c:=b) (i:=0) (Ne.symm hne) (.int .i64 (r.headD (-1)))).set hn (.int .i64 (-2))).setOther (c:=b) (i:=2) (Ne.symm hne) (.int .i64 r.length)).congr fun i _=>?_
  by_cases hi:i = n
  ·subst hi;rw [if_pos rfl,link_no hx]
  ·rw [if_neg hi,link,if_neg (by omega)]
theorem drop_later {w:World} {b g m n q:Nat} {p r:List Int} (h:St w b g m (p ++ (q:Int) :: (n:Int) :: r)) (hn:n < m) (hq:q < m) :
  St (((w.setCell ⟨g,q,none⟩ (.int .i64 (r.headD (-1)))).setCell ⟨g,n,none⟩ (.int .i64 (-2))).setCell ⟨b,2,none⟩ (.int .i64 (p ++ (q:Int) :: r).length)) b g m (p ++ (q:Int) :: r):=by
 obtain ⟨hb,hc,hnd,hr,hne,hm⟩:=h
 have e:p ++ (q:Int) :: (n:Int) :: r = (p ++ [(q:Int)]) ++ (n:Int) :: r:=by simp
 have e':p ++ (q:Int) :: r = (p ++ [(q:Int)]) ++ r:=by simp
 have hsub:List.Sublist (p ++ (q:Int) :: r) (p ++ (q:Int) :: (n:Int) :: r):=by
  apply List.Sublist.append_left
  exact List.Sublist.cons_cons _ (List.sublist_cons_self _ _)
 have hnd':=hnd.sublist hsub
 have hqp:(q:Int) ∉ p:=by
  intro hm'
  have:=(List.nodup_append.1 hnd).2.2 _ hm' (q:Int) (by simp)
  exact this rfl
 have hnn:(n:Int) ∉ p ++ (q:Int) :: r:=by
  rw [e] at hnd
  have h1:=(List.nodup_append.1 hnd).2.2
  have h2:=(List.nodup_append.1 hnd).2.1
  rw [e']
  intro hm'
  rcases List.mem_append.1 hm' with h3 | h3
  ·exact h1 _ h3 (n:Int) (by simp) rfl
  ·exact (List.nodup_cons.1 h2).1 h3
 refine ⟨?_,?_,hnd',fun y hy=>hr y (hsub.subset hy),hne,hm⟩
 ·have hd:(p ++ (q:Int) :: (n:Int) :: r).headD (-1) = (p ++ (q:Int) :: r).headD (-1):=by cases p <;> simp
  rw [hd] at hb
  exact (((hb.setOther (c:=g) (i:=q) hne (.int .i64 (r.headD (-1)))).setOther (c:=g) (i:=n) hne (.int .i64 (-2))).set 2 (.int .i64 (p ++ (q:Int) :: r).length))
 ·refine (((hc.set hq (.int .i64 (r.headD (-1)))).set hn (.int .i64 (-2))).setOther (c:=b) (i:=2) (Ne.symm hne) (.int .i64 (p ++ (q:Int) :: r).length)).congr fun i _=>?_
  by_cases hi:i = n
  ·subst hi;rw [if_pos rfl,link_no hnn]
  ·rw [if_neg hi]
   by_cases hiq:i = q
   ·subst hiq;rw [if_pos rfl,link_at p _ _ hqp]
   ·rw [if_neg hiq,e,e']
    congr 1
    exact (link_other (p ++ [(q:Int)]) n r i (by omega) (fun p0 q0 e0=>by
     have:=List.append_inj_right' e0 rfl
     simp at this
     omega)).symm
open Go.RowKit Go.Esc
theorem link_get:∀ (x:List Int) (k:Nat),x.Nodup → k + 1 < x.length → link x (x[k]?.getD 0) = x[k + 1]?.getD 0
 | a :: r,0,_,h=>by
  simp only [link,List.getElem?_cons_zero,Option.getD_some,List.getElem?_cons_succ]
  rw [if_pos trivial]
  cases r with
  | nil=>simp at h
  | cons b r=>simp
 | a :: r,k + 1,hn,h=>by
  obtain ⟨ha,hr⟩:=List.nodup_cons.1 hn
  have h':k + 1 < r.length:=by simp at h;omega
  have hk:k < r.length:=by omega
  simp only [List.getElem?_cons_succ,link]
  rw [if_neg (fun e=>ha (by rw [← e];simp [hk]))]
  exact link_get r k hr h'
set_option maxHeartbeats 1000000 in
theorem drop_no (b g m:Nat) (x:List Int) (id:Int) (w:World) (h:St w b g m x) (hx:id ∉ x):Calls Tryz.prog 191 #[.pointer (some ⟨b,0,none⟩),.int .i64 id] w (BoolPost b g m x false w):=by
 have HS:=Lib.hid h
 have HH:=Lib.hid (has_any b g m x id w h)
 rw [decide_eq_false hx] at HH
 clear h hx
 go_enter Tryz.func191,Tryz.ntmps191
 go_wp2
 go_step3
 go_wp2_with (go_at_call 111;refine HH.out.mono ?_;rintro e w' ⟨rfl,rfl⟩)
 try rw [Exit.noGoto_ret]
 go_ret
 exact ⟨rfl,HS.out,Only.refl _ _⟩
def At (b g:Nat) (x:List Int):Nat → Addr
 | 0=>⟨b,0,none⟩
 | k + 1=>⟨g,(x[k]?.getD 0).toNat,none⟩
theorem at_cell {w:World} {b g m:Nat} {x:List Int} (h:St w b g m x) (k:Nat) (hk:k < x.length):w.cell? (At b g x k) = some (.int .i64 (x[k]?.getD 0)):=by
 obtain ⟨hb,hc,hnd,hr,hne,hm⟩:=h
 cases k with
 | zero=>
  rw [At,hb.cell]
  cases x with
  | nil=>simp at hk
  | cons a r=>simp
 | succ k=>
  have h1:=hr (x[k]?.getD 0) (by have:k < x.length:=(by omega);simp [this])
  rw [At,hc.cell (by omega)]
  rw [show (((x[k]?.getD 0).toNat:Nat):Int) = x[k]?.getD 0 by omega,link_get x k hnd hk]
set_option maxHeartbeats 2000000 in
theorem drop_loop (b g m n P:Nat) (x:List Int) (w:World) (h:St w b g m x) (hP:P < x.length) (hx:x[P]?.getD 0 = n) (hfr:∀ k,k < P → x[k]?.getD 0 ≠ n) (hnm:n < m)
  (hdec:(P = 0 ∧ ∃ r,x = (n:Int) :: r) ∨ ∃ p q r,P = p.length + 1 ∧ q < m ∧ x = p ++ ((q:Nat):Int) :: (n:Int) :: r) :
  Calls Tryz.prog 191 #[.pointer (some ⟨b,0,none⟩),.int .i64 n] w (BoolPost b g m (x.erase n) true w):=by
 have HSt:=Lib.hid h
 have HD:=Lib.hid hdec
 clear hdec
 have HA:=Lib.hid (at_cell h)
 have HH:=Lib.hid (has_any b g m x n w h)
 have HX:=Lib.hid hx
 have HF:=Lib.hid hfr
 have hxm:(n:Int) ∈ x:=by rw [← hx];simp [hP]
 rw [decide_eq_true hxm] at HH
 have HR:=Lib.hid h.2.2.2.1
 have c1:=h.1.cell 1
 have c2:=h.1.cell 2
 have f0:=h.1.free 0
 have f2:=h.1.free 2
 have cn:=h.2.1.cell hnm
 have fa:=h.2.1.free
 have fn:=fa n
 have hbl:=h.1.lt
 have hgl:=h.2.1.lt
 have hl:=h.len
 have hne:=h.2.2.2.2.1
 have hne':g ≠ b:=Ne.symm hne
 have hm:=h.2.2.2.2.2
 simp only [List.getElem?_toArray,List.getElem?_cons_zero,List.getElem?_cons_succ] at c1 c2
 have HFa:=Lib.hid fa
 clear hx hfr hxm h fa
 go_enter Tryz.func191,Tryz.ntmps191
 go_wp2
 go_step3
 go_wp2_with (go_at_call 111;refine HH.out.mono ?_;rintro e w' ⟨rfl,rfl⟩)
 go_step3
 go_wp2
 go_loopg [5] P (fun gk t wr=>∃ k nn:Nat,k ≤ P ∧ gk = P - k ∧ t = .pointer (some (At b g x k)) ∧ wr = w.drewN nn)
 case atStart=>exact ⟨0,0,Nat.zero_le _,rfl,rfl,rfl⟩
 case round=>
  obtain ⟨k,nn,hk,hgk,rfl,rfl⟩:=hrel
  have HG:=Lib.hid hgk
  clear hgk
  have c0:=HA.out k (by omega)
  by_cases hkP:k = P
  ·subst hkP
   rw [HX.out] at c0
   clear HA HF HR
   rcases HD.out with ⟨rfl,r,hxr⟩ | ⟨p,q,r,hkp,hq,hxr⟩
   ·have HS:=HSt.out
    rw [hxr] at HS
    have HL:Hid (link x n = r.headD (-1)):=by show _ = _;rw [hxr,link,if_pos rfl]
    have HE:Hid (x.erase n = r):=by show _ = _;rw [hxr];simp
    have hlen:x.length = r.length + 1:=by rw [hxr];rfl
    have HFin:=Lib.hid (drop_first (HS.drewN nn) hnm)
    rw [HL.out] at cn
    rw [hlen] at c2 hl
    generalize r.headD (-1) = z at *
    rw [At] at c0 ⊢
    clear HX HD HSt hxr HL hlen HS hP
    go_wp2
    go_region
    go_wp2
    rw [Exit.noGoto_ret]
    go_ret
    exact ⟨rfl,by rw [HE.out];exact HFin.out.drew,((((((Only.refl _ w).drewN nn).set (.inr (.inl rfl)) _ _).set (.inr (.inr rfl)) _ _).set (.inr (.inl rfl)) _ _)).drew⟩
   ·have HS:=HSt.out
    rw [hxr] at HS
    have hndx:=HS.2.2.1
    have hnp:(n:Int) ∉ p ++ [(q:Int)]:=by
     intro hm'
     have e:p ++ (q:Int) :: (n:Int) :: r = (p ++ [(q:Int)]) ++ (n:Int) :: r:=by simp
     rw [e] at hndx
     exact (List.nodup_append.1 hndx).2.2 _ hm' (n:Int) (by simp) rfl
    have HL:Hid (link x n = r.headD (-1)):=by
     show _ = _
     rw [hxr,show p ++ (q:Int) :: (n:Int) :: r = (p ++ [(q:Int)]) ++ (n:Int) :: r by simp]
     exact link_at _ _ _ hnp
    have HE:Hid (x.erase n = p ++ (q:Int) :: r):=by
     show _ = _
     rw [hxr,show p ++ (q:Int) :: (n:Int) :: r = (p ++ [(q:Int)]) ++ (n:Int) :: r by simp,erase_split hnp]
     simp
    have hlen:x.length = (p ++ (q:Int) :: r).length + 1:=by rw [hxr];simp;omega
    have HFin:=Lib.hid (drop_later (HS.drewN nn) hnm hq)
    have hat:At b g x k = ⟨g,q,none⟩:=by rw [hkp,At,hxr];simp
    have hqn:q ≠ n:=by rintro rfl;exact hnp (by simp)
    have hnq:n ≠ q:=Ne.symm hqn
    have fq:=HFa.out q
    rw [HL.out] at cn
    rw [hlen] at c2 hl
    rw [hat] at c0 ⊢
    generalize r.headD (-1) = z at *
    generalize p ++ (q:Int) :: r = xx at *
    clear HX HD HSt hxr HL hlen HS hP hndx hnp hat hkp
    go_wp2
    go_region
    go_wp2
    rw [Exit.noGoto_ret]
    go_ret
    exact ⟨rfl,by rw [HE.out];exact HFin.out.drew,((((((Only.refl _ w).drewN nn).set (.inr (.inr rfl)) _ _).set (.inr (.inr rfl)) _ _).set (.inr (.inl rfl)) _ _)).drew⟩
  ·have hklt:k < P:=by omega
   have hne:=HF.out k hklt
   have hr:=HR.out (x[k]?.getD 0) (by have:k < x.length:=(by omega);simp [this])
   obtain ⟨y,HY⟩:=Int.eq_ofNat_of_zero_le hr.1
   rw [HY] at c0 hne hr
   have hyn:((y:Int) != (n:Int)) = true:=by simp;omega
   have hym:y < m:=by omega
   have hat:Hid (At b g x (k + 1) = ⟨g,y,none⟩):=by show _ = _;rw [At,HY];simp
   clear HY hr hne
   generalize At b g x k = ad at *
   go_wp2
   go_quiet (fail)
   go_wp2
   go_roundg (P - (k + 1))
   case rel=>exact ⟨k + 1,_,by omega,rfl,by rw [hat.out],World.drewN_drewN _ _ _⟩
   case measure=>have:=HG.out;omega
open Go.RowKit Go.Esc
theorem info3:(Tryz.prog.info? 3).map (fun i=>(i.zero,i.size,i.bytes)) = some (some (.int .i64 0),1,8):=by kernel_rfl
theorem makeInts (m:Nat) (hm:m ≤ 100000) (w:World):(Instr.makeSlice 22 (.int .i64 (m:Int)) (.int .i64 (m:Int))).run Tryz.prog w = .ok (.slice (some ⟨w.heap.size,0,none⟩) m m) (w.alloc (.cells (madeCells #[.int .i64 0] m) 3)):=
 run_make_row' 22 3 (.int .i64 0) 8 Tryz.underlying22 info3 rfl .i64 .i64 m (by omega) (by omega) w
theorem drop_yes (b g m:Nat) (x:List Int) (id:Int) (w:World) (h:St w b g m x) (hx:id ∈ x):Calls Tryz.prog 191 #[.pointer (some ⟨b,0,none⟩),.int .i64 id] w (BoolPost b g m (x.erase id) true w):=by
 have hr:=h.2.2.2.1 id hx
 obtain ⟨n,rfl⟩:=Int.eq_ofNat_of_zero_le hr.1
 obtain ⟨p,r,hxr,hnp⟩:=List.append_of_mem hx |> fun ⟨p,r,e⟩=>(⟨p,r,e,fun hm=>by
  have hnd:=h.2.2.1
  rw [e] at hnd
  exact (List.nodup_append.1 hnd).2.2 _ hm (n:Int) (by simp) rfl⟩:∃ p r,x = p ++ (n:Int) :: r ∧ (n:Int) ∉ p)
 refine drop_loop b g m n p.length x w h (by rw [hxr];simp) (by rw [hxr];simp) (fun k hk=>?_) (by omega) ?_
 ·intro e
  apply hnp
  rw [← e,hxr,List.getElem?_append_left hk]
  simp [hk]
 ·rcases List.eq_nil_or_concat p with rfl | ⟨p',q,rfl⟩
  ·exact .inl ⟨rfl,r,hxr⟩
  ·have hq:=h.2.2.2.1 q (by rw [hxr];simp)
   obtain ⟨q',rfl⟩:=Int.eq_ofNat_of_zero_le hq.1
   exact .inr ⟨p',q',r,by simp,by omega,by rw [hxr];simp⟩
theorem drop_any (b g m:Nat) (x:List Int) (id:Int) (w:World) (h:St w b g m x):Calls Tryz.prog 191 #[.pointer (some ⟨b,0,none⟩),.int .i64 id] w (BoolPost b g m (x.erase id) (decide (id ∈ x)) w):=by
 by_cases hx:id ∈ x
 ·rw [decide_eq_true hx];exact drop_yes b g m x id w h hx
 ·rw [decide_eq_false hx,List.erase_of_not_mem hx];exact drop_no b g m x id w h hx
def putL (m:Nat) (x:List Int) (id:Int):List Int:=if id < 0 ∨ (m:Int) ≤ id ∨ id ∈ x then x else id :: x
def putB (m:Nat) (x:List Int) (id:Int):Bool:=!decide (id < 0 ∨ (m:Int) ≤ id ∨ id ∈ x)
theorem put_any (b g m:Nat) (x:List Int) (id:Int) (w:World) (h:St w b g m x):Calls Tryz.prog 48 #[.pointer (some ⟨b,0,none⟩),.int .i64 id] w (BoolPost b g m (putL m x id) (putB m x id) w):=by
 unfold putL putB
 by_cases hx:id < 0 ∨ (m:Int) ≤ id ∨ id ∈ x
 ·rw [if_pos hx,decide_eq_true hx];exact put_no b g m x id w h hx
 ·rw [if_neg hx,decide_eq_false hx]
  obtain ⟨n,rfl⟩:=Int.eq_ofNat_of_zero_le (show 0 ≤ id by omega)
  exact put_yes b g m n x w h (by omega) (fun hm=>hx (.inr (.inr hm)))
def GetPost (b g m:Nat) (x:List Int) (w:World) (e:Ending) (w':World):Prop:=
 e = .returned (.tuple #[.int .i64 (x.headD 0),.bool (!x.isEmpty)]) ∧ St w' b g m x.tail ∧ Only (TwoOf b g) w w'
set_option maxHeartbeats 1000000 in
theorem get_any (b g m:Nat) (x:List Int) (w:World) (h:St w b g m x):Calls Tryz.prog 334 #[.pointer (some ⟨b,0,none⟩)] w (GetPost b g m x w):=by
 cases x with
 | nil=>
  have HP:=Lib.hid (peek_nil b g m w h)
  have HS:=Lib.hid h
  clear h
  go_enter Tryz.func334,Tryz.ntmps334
  go_wp2_with (first | (go_at_call 189;refine HP.out.mono ?_;rintro e w' ⟨rfl,rfl⟩))
  go_ret2
  exact ⟨rfl,HS.out,Only.refl _ _⟩
 | cons a r=>
  have HP:=Lib.hid (peek_cons b g m a r w h)
  have HD:=Lib.hid (drop_yes b g m (a :: r) a w h (by simp))
  rw [List.erase_cons_head] at HD
  clear h
  go_enter Tryz.func334,Tryz.ntmps334
  go_wp2_with (first | (go_at_call 189;refine HP.out.mono ?_;rintro e w' ⟨rfl,rfl⟩) | (go_at_call 191;refine HD.out.mono ?_;rintro e w' ⟨rfl,hs,ho⟩))
  go_ret2
  exact ⟨rfl,hs,ho⟩
def NewPost (m:Nat) (w:World) (e:Ending) (w':World):Prop:=e = .returned (.pointer (some ⟨w.heap.size + 1,0,none⟩)) ∧ St w' (w.heap.size + 1) w.heap.size m [] ∧ Below w.heap.size w w'
set_option maxHeartbeats 2000000 in
theorem new_good (m:Nat) (w:World) (hm:m ≤ 1024):Calls Tryz.prog 45 #[.int .i64 m] w (NewPost m w):=by
 have hd1:decide ((m:Int) < 0) = false:=by simp
 have hd2:decide ((1024:Int) < (m:Int)) = false:=by simp;omega
 have hmk:=makeInts m (by omega)
 go_enter Tryz.func45,Tryz.ntmps45
 go_wp2
 go_loopw [20] (fun i wr=>∃ k:Nat,k ≤ m ∧ i = .int .i64 k ∧ Blk wr (w.heap.size + 1) #[.int .i64 (-1),.slice (some ⟨w.heap.size,0,none⟩) m m,.int .i64 0] 205 ∧ Cells wr w.heap.size m 3 (fun j=>.int .i64 (if j < k then -2 else 0)) ∧ Below w.heap.size w wr)
  (fun i _=>m - (intOf i).toNat)
 case atStart=>
  refine ⟨0,Nat.zero_le _,rfl,Blk.new' _ _ (by simp),((Cells.made w m 3 (.int .i64 0)).alloc _).congr fun i _=>?_,below_alloc (below_alloc (Below.refl _ _) _) _⟩
  simp
 case round=>
  obtain ⟨k,hk,rfl,hb,hc,hbel⟩:=hrel
  have c1:=hb.cell 1
  simp only [List.getElem?_toArray,List.getElem?_cons_zero,List.getElem?_cons_succ] at c1
  by_cases hlt:k < m
  ·have ck:=hc.cell hlt
   have fk:=hc.free k
   have HN:=Lib.hid (hc.set hlt (.int .i64 (-2)))
   have HB:=Lib.hid (hb.setOther (c:=w.heap.size) (i:=k) (by omega) (.int .i64 (-2)))
   have HBe:=Lib.hid (below_set hbel (c:=w.heap.size) (Nat.le_refl _) k (.int .i64 (-2)))
   have hg:=hc.lt
   clear hc hb
   go_wp2
   go_roundw
   case rel=>
    refine ⟨k + 1,by omega,by go_num,HB.out,HN.out.congr fun j hj=>?_,HBe.out⟩
    by_cases hjk:j = k
    ·subst hjk;simp
    ·rw [if_neg hjk]
     by_cases h1:j < k
     ·rw [if_pos h1,if_pos (by omega)]
     ·rw [if_neg h1,if_neg (by omega)]
   case measure=>simp [intOf];omega
  ·have hc':=hc.congr (G:=fun j=>.int .i64 (link [] j)) (fun j hj=>by rw [if_pos (by omega)];rfl)
   have HS:Hid (St wr (w.heap.size + 1) w.heap.size m []):=⟨hb,hc',List.nodup_nil,by simp,by omega,hm⟩
   clear hc hc' hb
   go_wp2
   go_ret
   exact ⟨rfl,HS.out,hbel⟩
end Go.Proofs.YtgadhchejmlfjaaGreatDoor.Idle
