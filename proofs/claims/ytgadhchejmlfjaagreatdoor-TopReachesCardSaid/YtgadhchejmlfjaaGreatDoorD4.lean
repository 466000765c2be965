/- Parts of the proof of TopReaches. -/
import Derived.Test.YtgadhchejmlfjaaGreatDoorD3
import Derived.Deep.RegionHeld3
set_option linter.unusedVariables false
set_option maxRecDepth 20000
section
namespace Go.Proofs.YtgadhchejmlfjaaGreatDoor.Mac
open Go.RowKit Go.Esc
open Go.Proofs.YtgadhchejmlfjaaGreatDoor.Pstat (Pr pz)
open Go.Proofs.YtgadhchejmlfjaaGreatDoor.Vm (Ins)
structure RepS (X:Nat → Prop) (w0:Nat) (mb:Nat) (V:Vr) (own:Nat → Nat) (w:World) (s:St):Prop where
 fresh:∀ j,w.heap.size ≤ j → own j = 0
 om:own mb = 1
 prog:Pg own w V.pv s.funcs
 laid:Isa.Laid w ∧ own 0 = 14
 gsr:¬ X 2 → Rdv w 0 119 1 V.gsv s.gs.length (prow s.gs.length V.gb) ∧ ∀ j,V.gsv.ownBlock = some j → own j = 2
 msr:¬ X 3 → Rdv w 0 123 1 V.msv s.ms.length (prow s.ms.length V.xb) ∧ ∀ j,V.msv.ownBlock = some j → own j = 3
 askr:¬ X 4 → AskP w V.askv s.asked ∧ ∀ j,V.askv.ownBlock = some j → own j = 4
 mach:¬ X 1 → Blk w mb (mcells V s.sc) 121
 rings:¬ X 5 → ∃ rv R,RgP own w V.procs rv R s.rings
 stat:¬ X 6 → ∃ tv,Pstat.Tb w V.stat tv s.stat ∧ ∀ j,Pstat.Tf V.stat tv j → own j = 6
 all:¬ X 7 → ∃ S,Glob.Queue w V.all S s.all ∧ ∀ j,S j → own j = 7
 idM:¬ X 8 → ∃ g,Idle.St w V.idM g 64 s.idleM ∧ ∀ j,Idle.TwoOf V.idM g j → own j = 8
 idP:¬ X 9 → ∃ g,Idle.St w V.idP g 256 s.idleP ∧ ∀ j,Idle.TwoOf V.idP g j → own j = 9
 sema:¬ X 10 → ∃ v,Sema.Sm w V.sema s.owner v s.waits ∧ ∀ j,Sema.Sf V.sema v j → own j = 10
 box:¬ X 11 → BxP own w V.box s.box
 gs:¬ X 12 → ∀ i,i < s.gs.length → GAt own w (V.gb i) i (s.gs[i]?.getD g0)
 ms:¬ X 13 → ∀ j,j < s.ms.length → Blk w (V.xb j) (xcells V.gb j (s.ms[j]?.getD m0)) 125
 og:∀ i,i < s.gs.length → own (V.gb i) = 20 + 5 * i
 ug:∀ i,i < s.gs.length → ∀ b,own b = 20 + 5 * i → b = V.gb i
 ox:∀ j,j < s.ms.length → own (V.xb j) = 22 + 5 * j
 ux:∀ j,j < s.ms.length → ∀ b,own b = 22 + 5 * j → b = V.xb j
 lg:∀ b i,b < w0 → own b = 20 + 5 * i → i < s.gs.length
 lx:∀ b i,b < w0 → own b = 22 + 5 * i → i < s.ms.length
theorem Rep.turnS {X:Nat → Prop} {mb:Nat} {V:Vr} {own own':Nat → Nat} {w w':World} {s:St} {S:Nat → Prop} (h:Rep mb V own w s) (o:Only S w w') (hS:∀ j,S j → X (kind (own j))) (hx:¬ X 14)
  (he:∀ j,j < w.heap.size → own' j = own j) (hn:∀ j,w.heap.size ≤ j → kind (own' j) ≠ 5 ∧ (∀ i,i < s.gs.length → own' j ≠ 20 + 5 * i) ∧ ∀ i,i < s.ms.length → own' j ≠ 22 + 5 * i) (hf:∀ j,w'.heap.size ≤ j → own' j = 0):RepS X w.heap.size mb V own' w' s:=by
 have hlt:∀ {j t:Nat},own j = t → t ≠ 0 → j < w.heap.size:=fun {j t} h1 h2=>by
  rcases Nat.lt_or_ge j w.heap.size with h3 | h3
  ·exact h3
  ·exact absurd ((h.fresh j h3).symm.trans h1).symm h2
 have hsame:∀ {j t:Nat},own j = t → t ≠ 0 → own' j = t:=fun {j t} h1 h2=>(he j (hlt h1 h2)).trans h1
 have hno:∀ {j t:Nat},own j = t → ¬ X (kind t) → ¬ S j:=fun {j t} h1 h2 hs=>h2 (by rw [← h1];exact hS j hs)
 refine ⟨hf,hsame h.om (by decide),h.prog.turn o (fun j hs e=>?_) he,⟨h.laid.1.only o (hno h.laid.2 (by rw [kind_lt (by decide)];exact hx)),hsame h.laid.2 (by decide)⟩,fun hx0=>?_,fun hx0=>?_,fun hx0=>?_,fun hx0=>?_,fun hx0=>?_,fun hx0=>?_,fun hx0=>?_,fun hx0=>?_,fun hx0=>?_,fun hx0=>?_,fun hx0=>?_,fun hx0=>?_,fun hx0=>?_,fun i hi=>hsame (h.og i hi) (by omega),fun i hi b hb=>?_,fun i hi=>hsame (h.ox i hi) (by omega),fun i hi b hb=>?_,fun b i hlt hb=>h.lg b i (by rw [he b hlt] at hb;exact hb),fun b i hlt hb=>h.lx b i (by rw [he b hlt] at hb;exact hb)⟩
 ·have:=hS j hs;rw [e,kind_lt (by decide)] at this;exact hx this
 ·obtain ⟨h1,h2⟩:=h.gsr (by decide)
  exact ⟨h1.off o (fun j hj=>hno (h2 j hj) hx0),fun j hj=>hsame (h2 j hj) (by decide)⟩
 ·obtain ⟨h1,h2⟩:=h.msr (by decide)
  exact ⟨h1.off o (fun j hj=>hno (h2 j hj) hx0),fun j hj=>hsame (h2 j hj) (by decide)⟩
 ·obtain ⟨h1,h2⟩:=h.askr (by decide)
  exact ⟨h1.only o (fun j hj=>hno (h2 j hj) hx0),fun j hj=>hsame (h2 j hj) (by decide)⟩
 ·exact (h.mach (by decide)).only o (hno h.om hx0)
 ·obtain ⟨rv,R,h1⟩:=h.rings (by decide)
  exact ⟨rv,R,h1.turn o (fun j hs e=>hx0 (by have:=hS j hs;rwa [e] at this)) he (fun j hj=>(hn j hj).1)⟩
 ·obtain ⟨tv,h1,h2⟩:=h.stat (by decide)
  exact ⟨tv,h1.only o (fun j hj=>hno (h2 j hj) hx0),fun j hj=>hsame (h2 j hj) (by decide)⟩
 ·obtain ⟨tv,h1,h2⟩:=h.all (by decide)
  exact ⟨tv,h1.only o (fun j hj=>hno (h2 j hj) hx0),fun j hj=>hsame (h2 j hj) (by decide)⟩
 ·obtain ⟨tv,h1,h2⟩:=h.idM (by decide)
  exact ⟨tv,h1.only o (hno (h2 _ (.inl rfl)) hx0) (hno (h2 _ (.inr rfl)) hx0),fun j hj=>hsame (h2 j hj) (by decide)⟩
 ·obtain ⟨tv,h1,h2⟩:=h.idP (by decide)
  exact ⟨tv,h1.only o (hno (h2 _ (.inl rfl)) hx0) (hno (h2 _ (.inr rfl)) hx0),fun j hj=>hsame (h2 j hj) (by decide)⟩
 ·obtain ⟨tv,h1,h2⟩:=h.sema (by decide)
  exact ⟨tv,h1.only o (fun j hj=>hno (h2 j hj) hx0),fun j hj=>hsame (h2 j hj) (by decide)⟩
 ·obtain ⟨v,n,m,q,h1,h2,h3,h4,h5⟩:=h.box (by decide)
  exact ⟨v,n,m,q,h1.only o (fun j hj=>hno (h5 j hj) hx0),h2,h3,h4,fun j hj=>hsame (h5 j hj) (by decide)⟩
 ·intro i hi
  obtain ⟨h1,h0,sv,h2,h3⟩:=h.gs (by decide) i hi
  exact ⟨h1,h0,sv,h2.only o (hno (h.og i hi) (by rw [kind_g];exact hx0)),h3⟩
 ·intro i hi
  exact (h.ms (by decide) i hi).only o (hno (h.ox i hi) (by rw [kind_x];exact hx0))
 ·rcases Nat.lt_or_ge b w.heap.size with h3 | h3
  ·rw [he b h3] at hb;exact h.ug i hi b hb
  ·exact absurd hb ((hn b h3).2.1 i hi)
 ·rcases Nat.lt_or_ge b w.heap.size with h3 | h3
  ·rw [he b h3] at hb;exact h.ux i hi b hb
  ·exact absurd hb ((hn b h3).2.2 i hi)
theorem getD_append {α:Type} (l:List α) (x d:α) (k:Nat) (hk:k < l.length + 1):(l ++ [x])[k]?.getD d = if k = l.length then x else l[k]?.getD d:=by
 by_cases e:k = l.length
 ·subst e;simp
 ·rw [if_neg e,List.getElem?_append_left (by omega)]
def vAddX (V:Vr) (v:Value) (n B:Nat):Vr:={ V with msv:=v,xb:=fun j=>if j = n then B else V.xb j }
def vAddG (V:Vr) (v:Value) (n B:Nat):Vr:={ V with gsv:=v,gb:=fun j=>if j = n then B else V.gb j }
theorem Rep.addMy {mb:Nat} {V:Vr} {own:Nat → Nat} {w W w2:World} {s:St} {v':Value} {B:Nat} {y:M1} (hy:y.g = 0) (h:Rep mb V own w s) (hn64:s.ms.length < 64) (hB:Blk W B (xcells V.gb s.ms.length y) 125) (hwB:w.heap.size ≤ B) (hW:Below w.heap.size w W)
  (hA:AppdV W 0 123 1 V.msv s.ms.length (prow s.ms.length V.xb) [ptr B] v' w2):∃ own',Rep mb (vAddX V v' s.ms.length B) own' (w2.setCell ⟨mb,6,none⟩ v') { s with ms:=s.ms ++ [y] } ∧ Ext own w own' (w2.setCell ⟨mb,6,none⟩ v') ∧ Fx V (vAddX V v' s.ms.length B) ∧ own' B = 22 + 5 * s.ms.length:=by
 classical
 obtain ⟨hm1,hm2⟩:=h.msr (by decide)
 have hml:=h.mlt
 have hBW:=hB.lt
 have hvB:V.msv.ownBlock ≠ some B:=fun e=>by have:=hm1.lt B e;omega
 have hvm:V.msv.ownBlock ≠ some mb:=fun e=>by have:=hm2 mb e;have:=h.om;omega
 have hv'B:∀ j,v'.ownBlock = some j → j ≠ B:=fun j hj e=>by
  rcases hA.2.2 j hj with h1 | h1
  ·exact hvB (by rw [h1,e])
  ·omega
 have hv'm:∀ j,v'.ownBlock = some j → j ≠ mb:=fun j hj e=>by
  rcases hA.2.2 j hj with h1 | h1
  ·exact hvm (by rw [h1,e])
  ·have:=hW.size;omega
 have o2:Only (fun j=>V.msv.ownBlock = some j) w w2:=((Only.refl _ w).below hW).grown hA.2.1 (fun k hk=>.inr hk)
 have o3:Only (fun j=>V.msv.ownBlock = some j ∨ j = mb) w (w2.setCell ⟨mb,6,none⟩ v'):=(o2.mono (fun j _ hj=>.inl hj)).set (.inr (.inr rfl)) _ _
 have hs3:(w2.setCell ⟨mb,6,none⟩ v').heap.size = w2.heap.size:=by simp [World.setCell]
 have hBw2:B < w2.heap.size:=Nat.lt_of_lt_of_le hBW hA.2.1.size
 obtain ⟨own',ho⟩:∃ own':Nat → Nat,own' = fun j=>if j < w.heap.size then own j else if v'.ownBlock = some j then 3 else if j = B then 22 + 5 * s.ms.length else 0:=⟨_,rfl⟩
 have ho1:∀ j,j < w.heap.size → own' j = own j:=fun j hj=>by rw [ho];exact if_pos hj
 have ho2:∀ j,w.heap.size ≤ j → own' j = if v'.ownBlock = some j then 3 else if j = B then 22 + 5 * s.ms.length else 0:=fun j hj=>by rw [ho];exact if_neg (by omega)
 have hoB:own' B = 22 + 5 * s.ms.length:=by rw [ho2 B hwB,if_neg (fun e=>hv'B B e rfl),if_pos rfl]
 have hrow:∀ j,v'.ownBlock = some j → own' j = 3:=fun j hj=>by
  rcases Nat.lt_or_ge j w.heap.size with h1 | h1
  ·rw [ho1 j h1]
   rcases hA.2.2 j hj with h2 | h2
   ·exact hm2 j h2
   ·have:=hW.size;omega
  ·rw [ho2 j h1,if_pos hj]
 have hfr:∀ j,(w2.setCell ⟨mb,6,none⟩ v').heap.size ≤ j → own' j = 0:=fun j hj=>by
  rw [hs3] at hj
  rw [ho2 j (by have:=o2.size;omega),if_neg (fun e=>by have:=(World.ownsRow.lt hA.1 j e).2;omega),if_neg (by omega)]
 have hR:=h.turnS (X:=fun t=>t = 1 ∨ t = 3) (own':=own') o3 (fun j hj=>by
  rcases hj with hj | rfl
  ·right;rw [hm2 j hj];rfl
  ·left;rw [h.om];rfl) (by omega) ho1 (fun j hj=>by
   rw [ho2 j hj]
   by_cases e1:v'.ownBlock = some j
   ·rw [if_pos e1];exact ⟨by decide,fun i _=>by omega,fun i _=>by omega⟩
   ·rw [if_neg e1]
    by_cases e2:j = B
    ·rw [if_pos e2,kind_x];exact ⟨by decide,fun i _=>by omega,fun i hi=>by omega⟩
    ·rw [if_neg e2];exact ⟨by decide,fun i _=>by omega,fun i _=>by omega⟩) hfr
 have hnz:∀ j,j < w.heap.size → (V.msv.ownBlock = some j ∨ j = mb) → own j ≠ 0 ∧ own j ≠ 14:=fun j _ hj=>by
  rcases hj with hj | rfl
  ·rw [hm2 j hj];decide
  ·rw [h.om];decide
 have hlen:(s.ms ++ [y]).length = s.ms.length + 1:=by simp
 have hxb:∀ i,i < s.ms.length → (vAddX V v' s.ms.length B).xb i = V.xb i:=fun i hi=>if_neg (by omega)
 have hxn:(vAddX V v' s.ms.length B).xb s.ms.length = B:=if_pos rfl
 refine ⟨own',⟨hR.fresh,hR.om,hR.prog,hR.laid,h.hold,fun _=>hR.gsr (by omega),fun _=>?_,fun _=>hR.askr (by omega),fun _=>?_,fun _=>hR.rings (by omega),fun _=>hR.stat (by omega),fun _=>hR.all (by omega),fun _=>hR.idM (by omega),fun _=>hR.idP (by omega),fun _=>hR.sema (by omega),fun _=>hR.box (by omega),fun _=>hR.gs (by omega),fun _ k hk=>?_,fun k hk=>?_,hR.og,hR.ug,fun k hk=>?_,fun k hk b hb=>?_,fun b k hb=>?_,fun b k hb=>?_,by dsimp only;rw [hlen];have:=h.lim;omega⟩,⟨o3.mono hnz,ho1⟩,⟨⟨rfl,rfl,rfl,rfl,rfl,rfl,rfl,rfl⟩,rfl,rfl⟩,hoB⟩
 ·dsimp only
  rw [hlen,prow_succ,hxn,prow_congr _ hxb]
  exact ⟨.inl (rowv_off hA.1 ((Only.refl (fun j=>j = mb) w2).set (.inr rfl) _ _) (fun j hj e=>hv'm j hj e)),hrow⟩
 ·exact ((h.mblk.below hW hml).kept hA.2.1 (fun e=>hvm e.symm)).set 6 v'
 ·dsimp only at hk ⊢
  rw [hlen] at hk
  rw [getD_append _ _ _ _ hk]
  by_cases e:k = s.ms.length
  ·subst e
   rw [if_pos rfl,hxn]
   exact (hB.kept hA.2.1 (fun e=>hvB e.symm)).setOther (by omega) _
  ·rw [if_neg e,hxb k (by omega)]
   exact hR.ms (by omega) k (by omega)
 ·dsimp only at hk ⊢
  rw [hlen] at hk
  rw [getD_append _ _ _ _ hk]
  by_cases e:k = s.ms.length
  ·rw [if_pos e,hy];exact ⟨Int.le_refl 0,Int.natCast_nonneg _⟩
  ·rw [if_neg e];exact h.mg k (by omega)
 ·dsimp only at hk ⊢
  rw [hlen] at hk
  by_cases e:k = s.ms.length
  ·subst e;rw [hxn];exact hoB
  ·rw [hxb k (by omega)];exact hR.ox k (by omega)
 ·dsimp only at hk ⊢
  rw [hlen] at hk
  by_cases e:k = s.ms.length
  ·subst e
   rw [hxn]
   rcases Nat.lt_or_ge b w.heap.size with h1 | h1
   ·rw [ho1 b h1] at hb
    exact absurd (h.lx b _ hb) (Nat.lt_irrefl _)
   ·rw [ho2 b h1] at hb
    by_cases e1:v'.ownBlock = some b
    ·rw [if_pos e1] at hb;omega
    ·rw [if_neg e1] at hb
     by_cases e2:b = B
     ·exact e2
     ·rw [if_neg e2] at hb;omega
  ·rw [hxb k (by omega)];exact hR.ux k (by omega) b hb
 ·rcases Nat.lt_or_ge b w.heap.size with h1 | h1
  ·exact hR.lg b k h1 hb
  ·rw [ho2 b h1] at hb
   by_cases e1:v'.ownBlock = some b
   ·rw [if_pos e1] at hb;omega
   ·rw [if_neg e1] at hb
    by_cases e2:b = B
    ·rw [if_pos e2] at hb;omega
    ·rw [if_neg e2] at hb;omega
 ·dsimp only
  rw [hlen]
  rcases Nat.lt_or_ge b w.heap.size with h1 | h1
  ·have:=hR.lx b k h1 hb;omega
  ·rw [ho2 b h1] at hb
   by_cases e1:v'.ownBlock = some b
   ·rw [if_pos e1] at hb;omega
   ·rw [if_neg e1] at hb
    by_cases e2:b = B
    ·rw [if_pos e2] at hb;omega
    ·rw [if_neg e2] at hb;omega
theorem Rep.addM {mb:Nat} {V:Vr} {own:Nat → Nat} {w W w2:World} {s:St} {v':Value} {B:Nat} (h:Rep mb V own w s) (hn64:s.ms.length < 64) (hB:Blk W B (xcells V.gb s.ms.length m0) 125) (hwB:w.heap.size ≤ B) (hW:Below w.heap.size w W)
  (hA:AppdV W 0 123 1 V.msv s.ms.length (prow s.ms.length V.xb) [ptr B] v' w2):∃ own',Rep mb (vAddX V v' s.ms.length B) own' (w2.setCell ⟨mb,6,none⟩ v') { s with ms:=s.ms ++ [m0] } ∧ Ext own w own' (w2.setCell ⟨mb,6,none⟩ v') ∧ Fx V (vAddX V v' s.ms.length B) ∧ own' B = 22 + 5 * s.ms.length:=
 Rep.addMy (y:=m0) rfl h hn64 hB hwB hW hA
theorem Rep.addG {mb:Nat} {V:Vr} {own:Nat → Nat} {w W w2:World} {s:St} {v':Value} {B:Nat} {x:G} (h:Rep mb V own w s) (hn64:s.gs.length < 64) (hx:x.regs.length = 8 ∧ Gst.Word x.word) (hB:Blk W B (gcells s.gs.length (.slice none 0 0) x) 130) (hwB:w.heap.size ≤ B) (hW:Below w.heap.size w W)
  (hA:AppdV W 0 119 1 V.gsv s.gs.length (prow s.gs.length V.gb) [ptr B] v' w2):∃ own',Rep mb (vAddG V v' s.gs.length B) own' (w2.setCell ⟨mb,5,none⟩ v') { s with gs:=s.gs ++ [x] } ∧ Ext own w own' (w2.setCell ⟨mb,5,none⟩ v') ∧ Fw V (vAddG V v' s.gs.length B) ∧ own' B = 20 + 5 * s.gs.length:=by
 classical
 obtain ⟨hm1,hm2⟩:=h.gsr (by decide)
 have hml:=h.mlt
 have hBW:=hB.lt
 have hvB:V.gsv.ownBlock ≠ some B:=fun e=>by have:=hm1.lt B e;omega
 have hvm:V.gsv.ownBlock ≠ some mb:=fun e=>by have:=hm2 mb e;have:=h.om;omega
 have hv'B:∀ j,v'.ownBlock = some j → j ≠ B:=fun j hj e=>by
  rcases hA.2.2 j hj with h1 | h1
  ·exact hvB (by rw [h1,e])
  ·omega
 have hv'm:∀ j,v'.ownBlock = some j → j ≠ mb:=fun j hj e=>by
  rcases hA.2.2 j hj with h1 | h1
  ·exact hvm (by rw [h1,e])
  ·have:=hW.size;omega
 have o2:Only (fun j=>V.gsv.ownBlock = some j) w w2:=((Only.refl _ w).below hW).grown hA.2.1 (fun k hk=>.inr hk)
 have o3:Only (fun j=>V.gsv.ownBlock = some j ∨ j = mb) w (w2.setCell ⟨mb,5,none⟩ v'):=(o2.mono (fun j _ hj=>.inl hj)).set (.inr (.inr rfl)) _ _
 have hs3:(w2.setCell ⟨mb,5,none⟩ v').heap.size = w2.heap.size:=by simp [World.setCell]
 have hBw2:B < w2.heap.size:=Nat.lt_of_lt_of_le hBW hA.2.1.size
 obtain ⟨own',ho⟩:∃ own':Nat → Nat,own' = fun j=>if j < w.heap.size then own j else if v'.ownBlock = some j then 2 else if j = B then 20 + 5 * s.gs.length else 0:=⟨_,rfl⟩
 have ho1:∀ j,j < w.heap.size → own' j = own j:=fun j hj=>by rw [ho];exact if_pos hj
 have ho2:∀ j,w.heap.size ≤ j → own' j = if v'.ownBlock = some j then 2 else if j = B then 20 + 5 * s.gs.length else 0:=fun j hj=>by rw [ho];exact if_neg (by omega)
 have hoB:own' B = 20 + 5 * s.gs.length:=by rw [ho2 B hwB,if_neg (fun e=>hv'B B e rfl),if_pos rfl]
 have hrow:∀ j,v'.ownBlock = some j → own' j = 2:=fun j hj=>by
  rcases Nat.lt_or_ge j w.heap.size with h1 | h1
  ·rw [ho1 j h1]
   rcases hA.2.2 j hj with h2 | h2
   ·exact hm2 j h2
   ·have:=hW.size;omega
  ·rw [ho2 j h1,if_pos hj]
 have hfr:∀ j,(w2.setCell ⟨mb,5,none⟩ v').heap.size ≤ j → own' j = 0:=fun j hj=>by
  rw [hs3] at hj
  rw [ho2 j (by have:=o2.size;omega),if_neg (fun e=>by have:=(World.ownsRow.lt hA.1 j e).2;omega),if_neg (by omega)]
 have hR:=h.turnS (X:=fun t=>t = 1 ∨ t = 2) (own':=own') o3 (fun j hj=>by
  rcases hj with hj | rfl
  ·right;rw [hm2 j hj];rfl
  ·left;rw [h.om];rfl) (by omega) ho1 (fun j hj=>by
   rw [ho2 j hj]
   by_cases e1:v'.ownBlock = some j
   ·rw [if_pos e1];exact ⟨by decide,fun i _=>by omega,fun i _=>by omega⟩
   ·rw [if_neg e1]
    by_cases e2:j = B
    ·rw [if_pos e2,kind_g];exact ⟨by decide,fun i hi=>by omega,fun i _=>by omega⟩
    ·rw [if_neg e2];exact ⟨by decide,fun i _=>by omega,fun i _=>by omega⟩) hfr
 have hnz:∀ j,j < w.heap.size → (V.gsv.ownBlock = some j ∨ j = mb) → own j ≠ 0 ∧ own j ≠ 14:=fun j _ hj=>by
  rcases hj with hj | rfl
  ·rw [hm2 j hj];decide
  ·rw [h.om];decide
 have hlen:(s.gs ++ [x]).length = s.gs.length + 1:=by simp
 have hgb:∀ i,i < s.gs.length → (vAddG V v' s.gs.length B).gb i = V.gb i:=fun i hi=>if_neg (by omega)
 have hxn:(vAddG V v' s.gs.length B).gb s.gs.length = B:=if_pos rfl
 have hgp:∀ id:Int,0 ≤ id → id ≤ s.gs.length → gptr (vAddG V v' s.gs.length B).gb id = gptr V.gb id:=fun id h1 h2=>by
  unfold gptr
  by_cases e:id = 0
  ·rw [if_pos e,if_pos e]
  ·rw [if_neg e,if_neg e,hgb _ (by omega)]
 refine ⟨own',⟨hR.fresh,hR.om,hR.prog,hR.laid,⟨h.hold.1,?_⟩,fun _=>?_,fun _=>hR.msr (by omega),fun _=>hR.askr (by omega),fun _=>?_,fun _=>hR.rings (by omega),fun _=>hR.stat (by omega),fun _=>hR.all (by omega),fun _=>hR.idM (by omega),fun _=>hR.idP (by omega),fun _=>hR.sema (by omega),fun _=>hR.box (by omega),fun _ k hk=>?_,fun _ k hk=>?_,fun k hk=>?_,fun k hk=>?_,fun k hk b hb=>?_,hR.ox,hR.ux,fun b k hb=>?_,fun b k hb=>?_,by dsimp only;rw [hlen];have:=h.lim;omega⟩,⟨o3.mono hnz,ho1⟩,⟨rfl,rfl,rfl,rfl,rfl,rfl,rfl,rfl⟩,hoB⟩
 ·have:=h.hold.2;dsimp only;rw [hlen];omega
 ·dsimp only
  rw [hlen,prow_succ,hxn,prow_congr _ hgb]
  exact ⟨.inl (rowv_off hA.1 ((Only.refl (fun j=>j = mb) w2).set (.inr rfl) _ _) (fun j hj e=>hv'm j hj e)),hrow⟩
 ·have hc:mcells (vAddG V v' s.gs.length B) s.sc = (mcells V s.sc).setIfInBounds 5 v':=by
   unfold mcells
   rw [hgp _ h.hold.1 h.hold.2]
   rfl
  dsimp only
  rw [hc]
  exact ((h.mblk.below hW hml).kept hA.2.1 (fun e=>hvm e.symm)).set 5 v'
 ·dsimp only at hk ⊢
  rw [hlen] at hk
  rw [getD_append _ _ _ _ hk]
  by_cases e:k = s.gs.length
  ·subst e
   rw [if_pos rfl,hxn]
   exact ⟨hx.1,hx.2,_,(hB.kept hA.2.1 (fun e=>hvB e.symm)).setOther (by omega) _,rfl⟩
  ·rw [if_neg e,hgb k (by omega)]
   exact hR.gs (by omega) k (by omega)
 ·dsimp only at hk ⊢
  have:=hR.ms (by omega) k hk
  have hg:=h.mg k hk
  unfold xcells at this ⊢
  rw [hgp _ hg.1 hg.2]
  exact this
 ·dsimp only at hk ⊢
  rw [hlen]
  have:=h.mg k hk
  omega
 ·dsimp only at hk ⊢
  rw [hlen] at hk
  by_cases e:k = s.gs.length
  ·subst e;rw [hxn];exact hoB
  ·rw [hgb k (by omega)];exact hR.og k (by omega)
 ·dsimp only at hk ⊢
  rw [hlen] at hk
  by_cases e:k = s.gs.length
  ·subst e
   rw [hxn]
   rcases Nat.lt_or_ge b w.heap.size with h1 | h1
   ·rw [ho1 b h1] at hb
    exact absurd (h.lg b _ hb) (Nat.lt_irrefl _)
   ·rw [ho2 b h1] at hb
    by_cases e1:v'.ownBlock = some b
    ·rw [if_pos e1] at hb;omega
    ·rw [if_neg e1] at hb
     by_cases e2:b = B
     ·exact e2
     ·rw [if_neg e2] at hb;omega
  ·rw [hgb k (by omega)];exact hR.ug k (by omega) b hb
 ·dsimp only
  rw [hlen]
  rcases Nat.lt_or_ge b w.heap.size with h1 | h1
  ·have:=hR.lg b k h1 hb;omega
  ·rw [ho2 b h1] at hb
   by_cases e1:v'.ownBlock = some b
   ·rw [if_pos e1] at hb;omega
   ·rw [if_neg e1] at hb
    by_cases e2:b = B
    ·rw [if_pos e2] at hb;omega
    ·rw [if_neg e2] at hb;omega
 ·rcases Nat.lt_or_ge b w.heap.size with h1 | h1
  ·exact hR.lx b k h1 hb
  ·rw [ho2 b h1] at hb
   by_cases e1:v'.ownBlock = some b
   ·rw [if_pos e1] at hb;omega
   ·rw [if_neg e1] at hb
    by_cases e2:b = B
    ·rw [if_pos e2] at hb;omega
    ·rw [if_neg e2] at hb;omega
theorem Rep.addM0 {mb:Nat} {V:Vr} {own:Nat → Nat} {w W w2:World} {s:St} {B g' cap':Nat} (h:Rep mb V own w s) (hW:Below w.heap.size w W)
  (hA:AppdV W 0 123 1 V.msv s.ms.length (prow s.ms.length V.xb) [ptr B] (.slice (some ⟨g',0,none⟩) (s.ms.length + 1) cap') w2):Blk w2 mb (mcells V s.sc) 121 ∧ w2.cell? ⟨g',s.ms.length,none⟩ = some (ptr B) ∧ ¬ g' = mb ∧ ¬ mb = g':=by
 obtain ⟨hm1,hm2⟩:=h.msr (by decide)
 have hml:=h.mlt
 have hvm:V.msv.ownBlock ≠ some mb:=fun e=>by have:=hm2 mb e;have:=h.om;omega
 have hgm:¬ g' = mb:=fun e=>by
  rcases hA.2.2 g' rfl with h1 | h1
  ·exact hvm (by rw [h1,e])
  ·have:=hW.size;omega
 refine ⟨(h.mblk.below hW hml).kept hA.2.1 (fun e=>hvm e.symm),?_,hgm,fun e=>hgm e.symm⟩
 rcases rowv_open hA.1 with ⟨h0,_⟩ | ⟨g,cap,h0,_,_,_,hc⟩
 ·cases h0
 ·cases h0
  rw [hc _ (by omega),List.getElem?_append_right (by rw [prow_len];exact Nat.le_refl _),prow_len]
  simp
theorem Rep.addG0 {mb:Nat} {V:Vr} {own:Nat → Nat} {w W w2:World} {s:St} {B g' cap':Nat} (h:Rep mb V own w s) (hW:Below w.heap.size w W)
  (hA:AppdV W 0 119 1 V.gsv s.gs.length (prow s.gs.length V.gb) [ptr B] (.slice (some ⟨g',0,none⟩) (s.gs.length + 1) cap') w2):Blk w2 mb (mcells V s.sc) 121 ∧ w2.cell? ⟨g',s.gs.length,none⟩ = some (ptr B) ∧ ¬ g' = mb ∧ ¬ mb = g':=by
 obtain ⟨hm1,hm2⟩:=h.gsr (by decide)
 have hml:=h.mlt
 have hvm:V.gsv.ownBlock ≠ some mb:=fun e=>by have:=hm2 mb e;have:=h.om;omega
 have hgm:¬ g' = mb:=fun e=>by
  rcases hA.2.2 g' rfl with h1 | h1
  ·exact hvm (by rw [h1,e])
  ·have:=hW.size;omega
 refine ⟨(h.mblk.below hW hml).kept hA.2.1 (fun e=>hvm e.symm),?_,hgm,fun e=>hgm e.symm⟩
 rcases rowv_open hA.1 with ⟨h0,_⟩ | ⟨g,cap,h0,_,_,_,hc⟩
 ·cases h0
 ·cases h0
  rw [hc _ (by omega),List.getElem?_append_right (by rw [prow_len];exact Nat.le_refl _),prow_len]
  simp
theorem info123:(Tryz.prog.info? 123).map (fun i=>(i.zero,i.size,i.bytes)) = some (some (.pointer none),1,8):=by kernel_rfl
theorem info119:(Tryz.prog.info? 119).map (fun i=>(i.zero,i.size,i.bytes)) = some (some (.pointer none),1,8):=by kernel_rfl
theorem new1' {w:World} {b:Nat} (x:Value) (t:TypeId) (h:w.heap.size = b):∀ (j:Nat) (y:Value),[x][j]? = some y → (w.alloc (.cells #[x] t)).cell? ((⟨b,0,none⟩:Addr).add j) = some y:=by
 subst h
 intro j y hj
 obtain ⟨hj0,hy⟩:j = 0 ∧ y = x:=by
  cases j with
  | zero=>exact ⟨rfl,by simpa using hj.symm⟩
  | succ j=>simp at hj
 subst hj0 hy
 rw [Go.WideShapes.add_plain,(Blk.new w #[y] t).cell]
 rfl
end Go.Proofs.YtgadhchejmlfjaaGreatDoor.Mac
end
section
namespace Go.Proofs.YtgadhchejmlfjaaGreatDoor.Mac
open Go.RowKit Go.Esc
open Go.Proofs.YtgadhchejmlfjaaGreatDoor.Pstat (Pr pz)
open Go.Proofs.YtgadhchejmlfjaaGreatDoor.Vm (Ins)
section
variable {mb:Nat} {V:Vr} {own:Nat → Nat} {w:World} {s:St}
theorem xset3 {w:World} {xb j:Nat} {y:M1} {gb:Nat → Nat} (h:Blk w xb (xcells gb j y) 125) (p:Int):Blk (((w.setCell ⟨xb,1,none⟩ (.int .i64 p)).setCell ⟨xb,2,none⟩ (.pointer none)).setCell ⟨xb,3,none⟩ (.int .i64 1)) xb (xcells gb j { y with p:=p,g:=0,phase:=1 }) 125:=
 ((h.set 1 (.int .i64 p)).set 2 (.pointer none)).set 3 (.int .i64 1)
theorem Rep.have_ (h:Rep mb V own w s) {p:Int} {j:Nat} {y:M1} (hj:s.ms[j]? = some y):Rep mb V own (((w.setCell ⟨V.xb j,1,none⟩ (.int .i64 p)).setCell ⟨V.xb j,2,none⟩ (.pointer none)).setCell ⟨V.xb j,3,none⟩ (.int .i64 1)) { s with ms:=s.ms.set j { y with p:=p,g:=0,phase:=1 } } ∧
  Ext own w own (((w.setCell ⟨V.xb j,1,none⟩ (.int .i64 p)).setCell ⟨V.xb j,2,none⟩ (.pointer none)).setCell ⟨V.xb j,3,none⟩ (.int .i64 1)):=by
 have hx:=h.ox j (lt_of_some hj)
 have hB:=h.xblk hx hj
 have hO:=oset (oset (oset (orefl (V.xb j) w) 1 (.int .i64 p)) 2 (.pointer none)) 3 (.int .i64 1)
 exact ⟨h.putX (lt_of_some hj) hO { y with p:=p,g:=0,phase:=1 } ⟨Int.le_refl 0,Int.natCast_nonneg _⟩ (xset3 hB p),only_ext hO (by omega)⟩
theorem Ext.lt {own own':Nat → Nat} {w w':World} (h:Ext own w own' w') {b t:Nat} (hb:own b = t) (h0:t ≠ 0) (hf:∀ j,w.heap.size ≤ j → own j = 0):own' b = t:=by
 rcases Nat.lt_or_ge b w.heap.size with h1 | h1
 ·rw [h.same b h1];exact hb
 ·exact absurd ((hf b h1).symm.trans hb).symm h0
set_option maxHeartbeats 4000000 in
theorem Rep.begin (h:Rep mb V own w s) {p:Int} {r:Bool} {s':St} (hs:beginM s p = some (r,s')):Calls Tryz.prog 293 #[ptr mb,.int .i64 p] w (Does mb V own w (.bool r) s'):=by
 unfold beginM at hs
 have HG:=Lib.hid h.mget
 have c10:=h.c10
 have hml:=h.mlt
 cases hi:s.idleM with
 | cons id rest=>
  rw [hi] at hs HG
  obtain ⟨h0,hs⟩:=opt_if hs
  obtain ⟨k,rfl⟩:∃ k:Nat,id = k:=⟨id.toNat,by omega⟩
  rw [Int.toNat_natCast] at hs
  unfold haveM at hs
  cases hj:s.ms[k]? with
  | none=>dsimp only at hs;rw [hj] at hs;cases hs
  | some y=>
   dsimp only at hs
   rw [hj] at hs
   simp only [Option.map_some,Option.some.injEq,Prod.mk.injEq] at hs
   obtain ⟨rfl,rfl⟩:=hs
   have HJ:=Lib.hid hj
   have HF:=Lib.hid h.fresh
   clear h hi hj h0
   go_enter Tryz.func293,Tryz.ntmps293
   go_wp2_with fail
   refine HG.out.mono ?_
   rintro e w1 ⟨rfl,own1,hR1,hE1⟩
   obtain ⟨g,cap,hv,cg,hgl,_⟩:=hR1.mrow (k:=k) (lt_of_some HJ.out)
   have c6:=hR1.c6
   rw [hv] at c6
   have c8:=hR1.c8
   have q:(k:Int) < (s.ms.length:Int):=by have:=lt_of_some HJ.out;omega
   have HT:=Lib.hid (hR1.stake p k)
   have HE1:=Lib.hid hE1
   have HF1:=Lib.hid hR1.fresh
   clear hR1 hE1 hv c10
   go_wp2_with (go_at_call 49;refine HT.out.mono ?_;rintro e w2 ⟨rfl,own2,hR2,hE2⟩;obtain ⟨n1,n2⟩:=hR2.xne (hR2.ox k (lt_of_some HJ.out));have hB2:=hR2.xblk (hR2.ox k (lt_of_some HJ.out)) HJ.out;have x1:=xc1 hB2;have x2:=xc2 hB2;have x3:=xc3 hB2;have xf1:=hB2.free 1;have xf2:=hB2.free 2;have xf3:=hB2.free 3;have HR2:=Lib.hid hR2;have HE2:=Lib.hid hE2;clear hR2 hE2 hB2)
   go_ret
   obtain ⟨R3,E3⟩:=HR2.out.have_ (p:=p) HJ.out
   exact ⟨rfl,V,own2,R3,(HE1.out.trans HE2.out).trans E3,Fx.refl V⟩
 | nil=>
  rw [hi] at hs HG
  dsimp only at hs
  by_cases hc:s.sc.cm ≤ s.ms.length
  ·rw [if_pos hc] at hs
   simp only [Option.some.injEq,Prod.mk.injEq] at hs
   obtain ⟨rfl,rfl⟩:=hs
   have hd:decide (s.sc.cm ≤ (s.ms.length:Int)) = true:=by simpa using hc
   have HI:=Lib.hid hi
   clear hi hc h
   go_enter Tryz.func293,Tryz.ntmps293
   go_wp2_with fail
   refine HG.out.mono ?_
   rintro e w1 ⟨rfl,own1,hR1,hE1⟩
   obtain ⟨a,cap,hv⟩:=hR1.msl
   have c6:=hR1.c6
   rw [hv] at c6
   have c4:=hR1.c4
   have HE1:=Lib.hid hE1
   have HR1:=Lib.hid hR1
   clear hR1 hE1 hv c10
   go_wp2
   go_quiet (fail)
   go_wp2
   go_ret
   have e1:({ s with idleM:=([]:List Int).tail }:St) = s:=by rw [List.tail_nil,← HI.out]
   have R:=HR1.out
   rw [e1] at R
   exact ⟨rfl,V,own1,R.drewN _,HE1.out.drewN _,Fx.refl V⟩
  ·rw [if_neg hc] at hs
   obtain ⟨h64,hs⟩:=opt_if hs
   have hms:(s.ms ++ [m0])[s.ms.length]? = some m0:=by simp
   unfold haveM at hs
   dsimp only at hs
   rw [hms] at hs
   simp only [Option.map_some,Option.some.injEq,Prod.mk.injEq] at hs
   obtain ⟨rfl,rfl⟩:=hs
   have hd:decide (s.sc.cm ≤ (s.ms.length:Int)) = false:=by simpa using hc
   have HI:=Lib.hid hi
   have H64:=Lib.hid h64
   clear hi hc h hms
   go_enter Tryz.func293,Tryz.ntmps293
   go_wp2_with fail
   refine HG.out.mono ?_
   rintro e w1 ⟨rfl,own1,hR1,hE1⟩
   have e1:({ s with idleM:=([]:List Int).tail }:St) = s:=by rw [List.tail_nil,← HI.out]
   rw [e1] at hR1
   clear e1
   obtain ⟨a,cap,hv⟩:=hR1.msl
   have c6:=hR1.c6
   rw [hv] at c6
   have c4:=hR1.c4
   have HE1:=Lib.hid hE1
   have HR1:=Lib.hid hR1
   have HV:=Lib.hid hv
   clear hR1 hE1 hv c10
   go_wp2
   go_quiet (fail)
   have HR2:=Lib.hid (HR1.out.drewN nq)
   have HMr:=Lib.hid (HR2.out.msr (by decide)).1
   rw [HV.out] at HMr
   go_wp2_with (first
    | (at_builtin;refine appV Tryz.underlying117 info123 rfl (by decide) (by decide) 0 _ rfl _ _ rfl (.slice a s.ms.length cap) s.ms.length (prow s.ms.length V.xb) ⟨w1.heap.size + 1,0,none⟩ 1 [ptr w1.heap.size] rfl rfl ((HMr.out.below (below_alloc (Below.refl _ _) _)).below (below_alloc (Below.refl _ _) _)) rfl (new1' _ _ (by simp)) (by simp [Value.oneCell']) (Nat.zero_le _) (by omega) ?_;intro v' w3 hA;obtain ⟨g',cap',rfl⟩:=hA.some;rw [← HV.out] at hA;obtain ⟨hb3,hg3,n3,n4⟩:=HR2.out.addM0 (below_alloc (below_alloc (Below.refl _ _) _) _) hA;obtain ⟨own2,hR2,hE2,hF2,hB2⟩:=HR2.out.addM H64.out ((Blk.new' _ 125 (by simp)).alloc _) (by simp) (below_alloc (below_alloc (Below.refl _ _) _) _) hA;have k6:w3.cell? ⟨mb,6,none⟩ = some V.msv:=hb3.cell 6;have k8:w3.cell? ⟨mb,8,none⟩ = some (ptr V.stat):=hb3.cell 8;have kf:=hb3.free 6;have HRR:=Lib.hid hR2;have HEE:=Lib.hid hE2;have HFF:=Lib.hid hF2;clear hA hb3 hR2 hE2 hF2 hB2)
    | (go_at_call 49;refine (HRR.out.stake p s.ms.length).mono ?_;rintro e w2 ⟨rfl,own3,hR3,hE3⟩;have hms:(s.ms ++ [m0])[s.ms.length]? = some m0:=(by simp);have hxB:(vAddX V (.slice (some ⟨g',0,none⟩) (s.ms.length + 1) cap') s.ms.length w1.heap.size).xb s.ms.length = w1.heap.size:=if_pos rfl;have hR4:=hR3.have_ (p:=p) hms;have hox:=hR3.ox s.ms.length (by simp);rw [hxB] at hR4 hox;obtain ⟨n1,n2⟩:=hR3.xne hox;have hBk:=hR3.xblk hox hms;have x1:=xc1 hBk;have x2:=xc2 hBk;have x3:=xc3 hBk;have xf1:=hBk.free 1;have xf2:=hBk.free 2;have xf3:=hBk.free 3;have HR4:=Lib.hid hR4;have HE3:=Lib.hid hE3;clear hR3 hE3 hBk hR4 hms hxB hox))
   go_ret
   obtain ⟨R5,E5⟩:=HR4.out
   rw [HI.out] at R5
   exact ⟨rfl,_,own3,R5,((((HE1.out.drewN _).trans HEE.out).trans HE3.out).trans E5),HFF.out⟩
end
end Go.Proofs.YtgadhchejmlfjaaGreatDoor.Mac
end
section
namespace Go.Proofs.YtgadhchejmlfjaaGreatDoor.Mac
open Go.RowKit Go.Esc
open Go.Proofs.YtgadhchejmlfjaaGreatDoor.Pstat (Pr pz)
open Go.Proofs.YtgadhchejmlfjaaGreatDoor.Vm (Ins)
section
variable {mb:Nat} {V:Vr} {own:Nat → Nat} {w:World} {s:St}
theorem looks_snoc {l:List M1} {k:Nat} {y:M1} (h:l[k]? = some y):looksN (l.take (k + 1)) = looksN (l.take k) + if y.phase = 1 then 1 else 0:=by
 obtain ⟨hk,hy⟩:=List.getElem?_eq_some_iff.1 h
 unfold looksN
 rw [List.take_succ_eq_append_getElem hk,List.countP_append,hy]
 by_cases e:y.phase = 1 <;> simp [e]
theorem looks_le (l:List M1) (k:Nat):looksN (l.take k) ≤ k:=Nat.le_trans List.countP_le_length (List.length_take_le _ _)
theorem Rep.tot_le (h:Rep mb V own w s):totN s.rings s.rings.length ≤ 65792:=by
 obtain ⟨rv,R,hT⟩:=h.rings (by decide)
 rw [← hT.tot _ (Nat.le_refl _)]
 have:=Procs.tot_le hT.prc s.rings.length (Nat.le_refl _)
 have hrl:=h.lim.2.2
 omega
set_option maxHeartbeats 4000000 in
theorem Rep.wake (h:Rep mb V own w s) {s':St} (hs:wakeM s = some s'):Calls Tryz.prog 247 #[ptr mb] w (Does mb V own w unit s'):=by
 unfold wakeM at hs
 have c18:=h.c18
 by_cases hst:s.sc.stopped = true
 ·rw [if_pos hst] at hs
  rw [hst] at c18
  simp only [Option.some.injEq] at hs
  subst hs
  have HH:=Lib.hid h
  clear h hst
  go_enter Tryz.func247,Tryz.ntmps247
  go_wp2
  go_end0
  exact ⟨rfl,V,own,HH.out,Ext.refl _ _,Fx.refl V⟩
 ·have hst':s.sc.stopped = false:=by simpa using hst
  rw [if_neg hst] at hs
  have hal:¬ 200000 ≤ s.all.length:=fun e=>by rw [if_pos e] at hs;cases hs
  rw [if_neg hal] at hs
  rw [hst'] at c18
  have hms:=h.lim.2.1
  obtain ⟨a,cap,hv⟩:=h.msl
  have c6:=h.c6
  rw [hv] at c6
  have HV:=Lib.hid hv
  have HH:=Lib.hid h
  clear hst hst' h hv
  go_enter Tryz.func247,Tryz.ntmps247
  go_wp2
  go_loop [2,16] (fun c i=>∃ k:Nat,k ≤ s.ms.length ∧ i = .int .i64 k ∧ c = .int .i64 (looksN (s.ms.take k))) (fun _ i=>s.ms.length - (intOf i).toNat)
  case atStart=>exact ⟨0,Nat.zero_le _,rfl,rfl⟩
  case round=>
   obtain ⟨k,hk,rfl,rfl⟩:=hrel
   by_cases hlt:k < s.ms.length
   ·obtain ⟨y,hy⟩:∃ y,s.ms[k]? = some y:=⟨_,List.getElem?_eq_getElem hlt⟩
    obtain ⟨g,cap',hv',cg,hgl,_⟩:=HH.out.mrow hlt
    rw [HV.out] at hv'
    simp only [Value.slice.injEq] at hv'
    obtain ⟨rfl,_,rfl⟩:=hv'
    have hB:=HH.out.xblk (HH.out.ox k hlt) hy
    have x3:=xc3 hB
    have HL:=Lib.hid (looks_snoc hy)
    have hle:=looks_le s.ms k
    clear hB hy
    generalize looksN (s.ms.take k) = c at *
    by_cases e:y.phase = 1
    ·have hd:(y.phase == 1) = true:=by simpa using e
     rw [if_pos e] at HL
     clear e
     go_wp2
     go_round
     case rel=>exact ⟨k + 1,by omega,by go_num,by rw [HL.out];go_num⟩
     case measure=>simp [intOf];omega
    ·have hd:(y.phase == 1) = false:=by simpa using e
     rw [if_neg e] at HL
     clear e
     go_wp2
     go_round
     case rel=>exact ⟨k + 1,by omega,by go_num,by rw [HL.out];go_num⟩
     case measure=>simp [intOf];omega
   ·obtain rfl:k = s.ms.length:=by omega
    rw [List.take_length]
    have c11:=HH.out.c11
    have c0:=HH.out.c0
    have c9:=HH.out.c9
    have HP:=Lib.hid HH.out.ppeek
    have ht:=HH.out.tot_le
    have hl2:=looks_le s.ms s.ms.length
    rw [List.take_length] at hl2
    have HPL:=Lib.hid (fun m=>flip_same (HH.out.drewN m).plen)
    have HTo:=Lib.hid (fun m=>(HH.out.drewN m).total)
    have HAl:=Lib.hid (fun m=>(HH.out.drewN m).alen (by omega))
    cases hp:s.idleP with
    | nil=>
     rw [hp] at hs HP
     simp only [Option.some.injEq] at hs
     subst hs
     clear hp hk hlt hl2 ht
     go_wp2_with (go_at_call 189;refine HP.out.mono ?_;rintro e w1 ⟨rfl,rfl⟩)
     go_quiet (fail)
     go_wp2
     go_end0
     exact ⟨rfl,V,own,HH.out.drewN _,(Ext.refl _ _).drewN _,Fx.refl V⟩
    | cons p rest=>
     rw [hp] at hs HP
     dsimp only at hs
     have hpl:(s.idleP.length:Int) = (rest.length:Int) + 1:=by rw [hp];simp
     generalize hT:totN s.rings s.rings.length = T at *
     generalize hL:looksN s.ms = L at *
     generalize hA:s.all.length = A at *
     have e1:IntKind.i64.wrap ((T:Int) + (A:Int)) = (T:Int) + (A:Int):=IntWalk.i64_in _ (by omega)
     have HWk:=Lib.hid (fun W=>Dec.wake_any s.idleP.length L ((T:Int) + (A:Int)) W)
     by_cases hb:L = 0 ∧ 0 < T + A
     ·rw [if_pos hb] at hs
      rw [show decide (0 < (s.idleP.length:Int) ∧ (L:Int) ≤ 0 ∧ 0 < (T:Int) + (A:Int)) = true by simp;omega] at HWk
      cases hbg:beginM s p with
      | none=>rw [hbg] at hs;cases hs
      | some rs=>
       obtain ⟨r,s1⟩:=rs
       rw [hbg] at hs
       have HBg:=Lib.hid (fun m=>(HH.out.drewN m).begin hbg)
       have HPw:=Lib.hid (fun m=>HH.out.drewN m)
       clear hp hk hlt hl2 ht hpl hb hT hL hA hbg
       go_wp2_with (go_at_call 189;refine HP.out.mono ?_;rintro e w1 ⟨rfl,rfl⟩)
       go_region_held3 (fun w'=>w'.cell? ⟨mb,11,none⟩ = some (ptr V.idP) ∧ w'.cell? ⟨mb,0,none⟩ = some (ptr V.procs) ∧ w'.cell? ⟨mb,9,none⟩ = some (ptr V.all)) (go_keep) (first | (go_at_call 262;refine (HPL.out 1).mono ?_;rintro e w1 ⟨rfl,rfl⟩) | (go_at_call 292;refine (HTo.out 1).mono ?_;rintro e w1 ⟨rfl,m1,rfl⟩) | (go_at_call 284;refine (HAl.out _).mono ?_;rintro e w1 ⟨rfl,m2,rfl⟩) | (go_at_call 291;refine (HWk.out _).mono ?_;rintro e w1 ⟨rfl,rfl⟩) | (go_at_call 293;refine (HBg.out _).mono ?_;rintro e w1 ⟨rfl,V1,own1,hR1,hE1,hF1⟩;have k11:w1.cell? ⟨mb,11,none⟩ = some (ptr V.idP):=hF1.idP ▸ hR1.c11;have k0:w1.cell? ⟨mb,0,none⟩ = some (ptr V.procs):=hF1.procs ▸ hR1.c0;have k9:w1.cell? ⟨mb,9,none⟩ = some (ptr V.all):=hF1.all ▸ hR1.c9;have HR1:=Lib.hid hR1;have HE1:=Lib.hid hE1;have HF1:=Lib.hid hF1;clear hR1 hE1 hF1))
       all_goals
        cases r
        ·simp only [Option.some.injEq] at hs
         subst hs
         go_wp2
         go_end0
         exact ⟨rfl,V1,own1,HR1.out,((Ext.refl _ _).drewN _).trans HE1.out,HF1.out⟩
        ·simp only [Option.some.injEq] at hs
         subst hs
         have HD:=Lib.hid (HR1.out.pdrop p)
         rw [HF1.out.idP] at HD
         go_wp2_with (go_at_call 191;refine HD.out.mono ?_;rintro e w2 ⟨rfl,own2,hR2,hE2⟩;have HR2:=Lib.hid hR2;have HE2:=Lib.hid hE2;clear hR2 hE2)
         go_end0
         exact ⟨rfl,V1,own2,HR2.out,(((Ext.refl _ _).drewN _).trans HE1.out).trans HE2.out,HF1.out⟩
     ·rw [if_neg hb] at hs
      simp only [Option.some.injEq] at hs
      subst hs
      rw [show decide (0 < (s.idleP.length:Int) ∧ (L:Int) ≤ 0 ∧ 0 < (T:Int) + (A:Int)) = false by simp;omega] at HWk
      clear hp hk hlt hl2 ht hpl hb hT hL hA
      go_wp2_with (go_at_call 189;refine HP.out.mono ?_;rintro e w1 ⟨rfl,rfl⟩)
      go_quiet ((first | (go_at_call 262;exact Calls.quiet_of_same (HPL.out _)) | (go_at_call 292;exact Calls.quiet_of (HTo.out _)) | (go_at_call 284;exact Calls.quiet_of (HAl.out _)) | (go_at_call 291;exact Calls.quiet_of_same (flip_same (HWk.out _)))))
      go_wp2
      go_end0
      exact ⟨rfl,V,own,HH.out.drewN _,(Ext.refl _ _).drewN _,Fx.refl V⟩
end
end Go.Proofs.YtgadhchejmlfjaaGreatDoor.Mac
end
