/- Parts of the proof of TopReaches. -/
import Derived.Test.YtgadhchejmlfjaaGreatDoorD1
import Derived.KernelRfl
set_option linter.unusedVariables false
set_option maxRecDepth 20000
section
namespace Go.Proofs.YtgadhchejmlfjaaGreatDoor.Mac
open Go.RowKit Go.Esc
open Go.Proofs.YtgadhchejmlfjaaGreatDoor.Pstat (Pr pz)
open Go.Proofs.YtgadhchejmlfjaaGreatDoor.Vm (Ins)
def found2O (o:Int → List Int) (s:St) (p:Nat) (yp:Int):Option (Int × St):=
 if Ring.getB (rAt s p).nx (rAt s p).row then some (Ring.getV (rAt s p).nx (rAt s p).row,{ s with rings:=s.rings.set p ⟨0,Ring.getR (rAt s p).nx (rAt s p).row⟩ })
 else
  let s2:St:={ s with rings:=s.rings.set p ⟨0,Ring.getR (rAt s p).nx (rAt s p).row⟩ }
  let s3:St:={ s2 with all:=s2.all.drop (batchN s2) }
  match s2.all.take (batchN s2) with
  | x :: r=>some (x,fillM s3 p (x :: r))
  | []=>stealM p (o yp) s3
def foundO (o:Int → List Int) (s:St) (j:Nat):Option (Int × St):=
 match s.ms[j]? with
 | none=>none
 | some y=>
  if 0 ≤ y.p ∧ y.p < s.rings.length ∧ s.all.length < 100000 then
   if (wrap64 (y.looks + 1)).tmod 4 = 0 ∧ s.all.isEmpty = false then some (s.all.headD 0,{ s.setX j { y with looks:=wrap64 (y.looks + 1) } with all:=s.all.tail })
   else found2O o (s.setX j { y with looks:=wrap64 (y.looks + 1) }) y.p.toNat y.p
  else none
def lookO (o:Int → List Int) (s:St) (j:Nat):Option St:=
 match s.ms[j]? with
 | none=>none
 | some y=>
  if 0 ≤ y.p then
   match s.asked[y.p.toNat]? with
   | none=>none
   | some a=>
    if a.bar then serveM s y.p
    else if s.sc.stopped then
     let s1:=stopP (releaseP s y.p) y.p
     parkM (s1.setSc { s1.sc with wait:=wrap64 (s1.sc.wait - 1) }) j
    else
     match foundO o s j with
     | none=>none
     | some (id,s1)=>
      if id = 0 then
       let s2:=releaseP s1 y.p
       parkM { s2 with idleP:=Idle.putL 256 s2.idleP y.p } j
      else if 1 ≤ id ∧ id ≤ s1.gs.length then executeM s1 j (id - 1).toNat else none
  else none
def stepO (o:Int → List Int) (s:St) (pick delay draw:Int):Option St:=
 let s1:=s.setSc { s.sc with now:=wrap64 (s.sc.now + 1),pick:=pick,delay:=delay,draw:=draw,kind:=0,eg:=0,efn:=0,epc:=0,en:=0,seen:=false }
 let j:=(modZ pick s1.ms.length).toNat
 match s1.ms[j]? with
 | none=>none
 | some y=>
  if y.phase = 0 then some s1
  else if j < 64 then
   let s2:St:={ s1 with box:=dueL s1.box j s1.sc.now,ms:=s1.ms.set j { y with armed:=dueB s1.box j s1.sc.now || y.armed } }
   if y.phase = 1 then lookO o s2 j
   else if y.phase = 2 then runM s2 j
   else if y.phase = 3 then stopM s2 j
   else none
  else none
theorem found2_eq (n:Nat) (s:St) (p:Nat) (yp:Int) (h:s.rings.length = n):found2 s p yp = found2O (fun yp=>othersL n yp s.sc.draw) s p yp:=by
 subst h
 unfold found2 found2O
 simp only [List.length_set]
 split
 ·rfl
 ·split
  ·rename_i h1;simp only [h1]
  ·rename_i h1;simp only [h1]
theorem found_eq (n:Nat) (s:St) (j:Nat) (h:s.rings.length = n):foundM s j = foundO (fun yp=>othersL n yp s.sc.draw) s j:=by
 unfold foundM foundO
 cases hj:s.ms[j]? with
 | none=>rfl
 | some y=>
  dsimp only
  rw [found2_eq n (s.setX j { y with looks:=wrap64 (y.looks + 1) }) _ _ h]
  first | done | rfl
theorem look_eq (n:Nat) (s:St) (j:Nat) (h:s.rings.length = n):lookM s j = lookO (fun yp=>othersL n yp s.sc.draw) s j:=by
 unfold lookM lookO
 rw [found_eq n s j h]
 cases hj:s.ms[j]? with
 | none=>rfl
 | some y=>
  dsimp only
  cases ha:s.asked[y.p.toNat]? with
  | none=>rfl
  | some a=>
   dsimp only
   cases hf:foundO (fun yp=>othersL n yp s.sc.draw) s j <;> rfl
theorem step_eq (n:Nat) (s:St) (pick delay draw:Int) (h:s.rings.length = n):stepM s pick delay draw = stepO (fun yp=>othersL n yp draw) s pick delay draw:=by
 unfold stepM stepO
 dsimp only
 generalize hs1:s.setSc _ = s1
 have h1:s1.rings.length = n:=by rw [← hs1];exact h
 have h2:s1.sc.draw = draw:=by rw [← hs1];rfl
 cases hj:s1.ms[(modZ pick s1.ms.length).toNat]? with
 | none=>rfl
 | some y=>
  dsimp only
  rw [look_eq n _ _ (by exact h1)]
  dsimp only
  rw [h2]
end Go.Proofs.YtgadhchejmlfjaaGreatDoor.Mac
end
section
namespace Go.Proofs.YtgadhchejmlfjaaGreatDoor.Mac
open Go.RowKit Go.Esc
open Go.Proofs.YtgadhchejmlfjaaGreatDoor.Vm (Ins)
set_option maxRecDepth 100000
def iN (op n:Int):Ins:=⟨op,0,0,0,n⟩
def roundsP:List Fn:=[⟨[iN 10 1,iN 10 1,iN 10 1,iN 17 0,iN 18 0,iN 14 0],[false,false,false,true,true,false]⟩,⟨[iN 0 0,iN 0 0,iN 6 1],[false,false,true]⟩]
def guardP:List Fn:=[⟨[iN 1 1,iN 17 0,iN 15 0,iN 18 0,iN 14 0],[false,true,true,false,false]⟩]
def heldB (s:St):Bool:=decide (s.sc.holder = 1 ∧ s.gs.length = 4)
def goodB (s:St):Bool:=[1,2,3].all fun k=>decide ((s.gs[k]?.getD g0).fn = 1 ∧ (s.gs[k]?.getD g0).word = 1)
def doneB (s:St):Bool:=(s.gs[0]?.getD g0).done
def nextB (x:St × Bool × Bool) (s:St):Option (St × Bool × Bool):=
 if (0 < s.gs.length ∧ 0 < s.ms.length ∧ s.rings.length ≤ s.asked.length ∧ s.all.length < 100000) ∧ (heldB s = true → goodB s = true) then some (s,x.2.1 || heldB s,x.2.2 || doneB s) else none
def rM (D:Nat → Int):Nat → Nat → St × Bool × Bool → Option (St × Bool × Bool)
 | 0,_,x=>some x
 | n + 1,i,x=>(stepM x.1 i 0 (D i)).bind fun s=>(nextB x s).bind (rM D n (i + 1))
def rO (D:Nat → Int) (O:Nat → Int → List Int):Nat → Nat → St × Bool × Bool → Option (St × Bool × Bool)
 | 0,_,x=>some x
 | n + 1,i,x=>if x.1.rings.length = 4 then (stepO (O i) x.1 i 0 (D i)).bind fun s=>(nextB x s).bind (rO D O n (i + 1)) else none
theorem rO_rM (D:Nat → Int):∀ (n i:Nat) (x y:St × Bool × Bool),rO D (fun i yp=>othersL 4 yp (D i)) n i x = some y → rM D n i x = some y
 | 0,_,_,_,h=>h
 | n + 1,i,x,y,h=>by
  unfold rO at h
  by_cases hl:x.1.rings.length = 4
  ·rw [if_pos hl] at h
   unfold rM
   rw [step_eq 4 x.1 i 0 (D i) hl]
   cases hs:stepO (fun yp=>othersL ((4:Nat):Int) yp (D i)) x.1 i 0 (D i) with
   | none=>rw [show (fun yp=>othersL ((4:Nat):Int) yp (D i)) = (fun yp=>othersL 4 yp (D i)) from rfl] at hs;rw [hs] at h;cases h
   | some s=>
    rw [show (fun yp=>othersL ((4:Nat):Int) yp (D i)) = (fun yp=>othersL 4 yp (D i)) from rfl] at hs
    rw [hs] at h
    simp only [Option.bind_some] at h ⊢
    cases hn:nextB x s with
    | none=>rw [hn] at h;cases h
    | some z=>
     rw [hn] at h
     simp only [Option.bind_some] at h ⊢
     exact rO_rM D n (i + 1) z y h
  ·rw [if_neg hl] at h;cases h
theorem rO_add (D:Nat → Int) (O:Nat → Int → List Int):∀ (a b i:Nat) (x y z:St × Bool × Bool),rO D O a i x = some y → rO D O b (i + a) y = some z → rO D O (a + b) i x = some z
 | 0,b,i,x,y,z,h1,h2=>by cases h1;simpa using h2
 | a + 1,b,i,x,y,z,h1,h2=>by
  rw [show a + 1 + b = (a + b) + 1 by omega]
  unfold rO at h1 ⊢
  by_cases hl:x.1.rings.length = 4
  ·rw [if_pos hl] at h1 ⊢
   cases hs:stepO (O i) x.1 i 0 (D i) with
   | none=>rw [hs] at h1;cases h1
   | some s=>
    rw [hs] at h1
    simp only [Option.bind_some] at h1 ⊢
    cases hn:nextB x s with
    | none=>rw [hn] at h1;cases h1
    | some u=>
     rw [hn] at h1
     simp only [Option.bind_some] at h1 ⊢
     exact rO_add D O a b (i + 1) u y z h1 (by rw [show i + 1 + a = i + (a + 1) by omega];exact h2)
  ·rw [if_neg hl] at h1;cases h1
theorem others_mod (d:Int):∃ c:Fin 8,(fun yp=>othersL 4 yp d) = fun yp=>othersL 4 yp c:=by
 have h1:=modZ_lo d 8
 have h2:=modZ_hi d 8 (by decide)
 refine ⟨⟨(modZ d 8).toNat,by omega⟩,?_⟩
 funext yp
 show othersL 4 yp d = othersL 4 yp ((modZ d 8).toNat:Int)
 rw [show ((modZ d 8).toNat:Int) = modZ d 8 by omega]
 have hw:waysZ 4 = 8:=by kernel_rfl
 unfold othersL orderL
 rw [hw,modZ_idem d 8 (by decide)]
def x0:St × Bool × Bool:=(newM roundsP 4 4 4,false,false)
def xz (i:Nat):St × Bool × Bool:=(rO (fun _=>0) (fun _ yp=>othersL 4 yp 0) i 0 x0).getD x0
def wd (d:Int) (x:St × Bool × Bool):St × Bool × Bool:=(x.1.setSc { x.1.sc with draw:=d },x.2)
theorem s03 (D:Nat → Int) (O:Nat → Int → List Int):rO D O 3 0 x0 = some (wd (D 2) (xz 3)):=by kernel_rfl
theorem eight {P:Nat → Prop} (h:P 0 ∧ P 1 ∧ P 2 ∧ P 3 ∧ P 4 ∧ P 5 ∧ P 6 ∧ P 7) (c:Fin 8):P c.val:=by
 obtain ⟨n,hn⟩:=c
 show P n
 rcases (show n = 0 ∨ n = 1 ∨ n = 2 ∨ n = 3 ∨ n = 4 ∨ n = 5 ∨ n = 6 ∨ n = 7 by omega) with rfl | rfl | rfl | rfl | rfl | rfl | rfl | rfl
 ·exact h.1
 ·exact h.2.1
 ·exact h.2.2.1
 ·exact h.2.2.2.1
 ·exact h.2.2.2.2.1
 ·exact h.2.2.2.2.2.1
 ·exact h.2.2.2.2.2.2.1
 ·exact h.2.2.2.2.2.2.2
theorem c3 (D:Nat → Int) (e:Int) (c:Fin 8):rO D (fun _ yp=>othersL 4 yp (c.val:Nat)) 1 3 (wd e (xz 3)) = some (wd (D 3) (xz 4)):=
 eight (P:=fun n=>rO D (fun _ yp=>othersL 4 yp (n:Nat)) 1 3 (wd e (xz 3)) = some (wd (D 3) (xz 4))) (by refine ⟨?_,?_,?_,?_,?_,?_,?_,?_⟩ <;> kernel_rfl) c
theorem s4 (D:Nat → Int) (O:Nat → Int → List Int) (e:Int):rO D O 1 4 (wd e (xz 4)) = some (wd (D 4) (xz 5)):=by kernel_rfl
theorem c5 (D:Nat → Int) (e:Int) (c:Fin 8):rO D (fun _ yp=>othersL 4 yp (c.val:Nat)) 1 5 (wd e (xz 5)) = some (wd (D 5) (xz 6)):=
 eight (P:=fun n=>rO D (fun _ yp=>othersL 4 yp (n:Nat)) 1 5 (wd e (xz 5)) = some (wd (D 5) (xz 6))) (by refine ⟨?_,?_,?_,?_,?_,?_,?_,?_⟩ <;> kernel_rfl) c
theorem s6 (D:Nat → Int) (O:Nat → Int → List Int) (e:Int):rO D O 1 6 (wd e (xz 6)) = some (wd (D 6) (xz 7)):=by kernel_rfl
theorem c7 (D:Nat → Int) (e:Int) (c:Fin 8):rO D (fun _ yp=>othersL 4 yp (c.val:Nat)) 1 7 (wd e (xz 7)) = some (wd (D 7) (xz 8)):=
 eight (P:=fun n=>rO D (fun _ yp=>othersL 4 yp (n:Nat)) 1 7 (wd e (xz 7)) = some (wd (D 7) (xz 8))) (by refine ⟨?_,?_,?_,?_,?_,?_,?_,?_⟩ <;> kernel_rfl) c
theorem s8 (D:Nat → Int) (O:Nat → Int → List Int) (e:Int):rO D O 24 8 (wd e (xz 8)) = some (wd (D 31) (xz 32)):=by kernel_rfl
theorem c32 (D:Nat → Int) (e:Int) (c:Fin 8):rO D (fun _ yp=>othersL 4 yp (c.val:Nat)) 1 32 (wd e (xz 32)) = some (wd (D 32) (xz 33)):=
 eight (P:=fun n=>rO D (fun _ yp=>othersL 4 yp (n:Nat)) 1 32 (wd e (xz 32)) = some (wd (D 32) (xz 33))) (by refine ⟨?_,?_,?_,?_,?_,?_,?_,?_⟩ <;> kernel_rfl) c
theorem s33 (D:Nat → Int) (O:Nat → Int → List Int) (e:Int):(rO D O 2967 33 (wd e (xz 33))).map (fun x=>x.2) = some (true,true):=by kernel_rfl
theorem reaches_run (D:Nat → Int):∃ s,rM D 3000 0 x0 = some (s,true,true):=by
 let O:Nat → Int → List Int:=fun i yp=>othersL 4 yp (D i)
 have one:∀ (i:Nat) (x y:St × Bool × Bool),(∀ c:Fin 8,rO D (fun _ yp=>othersL 4 yp (c.val:Nat)) 1 i x = some y) → rO D O 1 i x = some y:=fun i x y h=>by
  obtain ⟨c,hc⟩:=others_mod (D i)
  have hc':O i = fun yp=>othersL 4 yp (c.val:Nat):=hc
  rw [← h c]
  unfold rO
  rw [hc']
  rfl
 have h3:=s03 D O
 have h4:=rO_add D O 3 1 0 _ _ _ h3 (one 3 _ _ (c3 D _))
 have h5:=rO_add D O 4 1 0 _ _ _ h4 (s4 D O _)
 have h6:=rO_add D O 5 1 0 _ _ _ h5 (one 5 _ _ (c5 D _))
 have h7:=rO_add D O 6 1 0 _ _ _ h6 (s6 D O _)
 have h8:=rO_add D O 7 1 0 _ _ _ h7 (one 7 _ _ (c7 D _))
 have h32:=rO_add D O 8 24 0 _ _ _ h8 (s8 D O _)
 have h33:=rO_add D O 32 1 0 _ _ _ h32 (one 32 _ _ (c32 D _))
 have hl:=s33 D O (D 32)
 cases hr:rO D O 2967 33 (wd (D 32) (xz 33)) with
 | none=>rw [hr] at hl;cases hl
 | some z=>
  rw [hr] at hl
  simp only [Option.map_some,Option.some.injEq] at hl
  refine ⟨z.1,rO_rM D 3000 0 x0 _ ?_⟩
  have hz:z = (z.1,true,true):=by rw [← hl]
  rw [← hz]
  exact rO_add D O 33 2967 0 _ _ _ h33 hr
def evT (s:St):Int × Int × Int × Int × Int:=(s.sc.kind,s.sc.eg,s.sc.efn,s.sc.epc,s.sc.en)
def runsM':List (Int × Int × Int) → St → Option (List (Int × Int × Int × Int × Int))
 | [],s=>some []
 | x :: l,s=>(stepM s x.1 x.2.1 x.2.2).bind fun s1=>(runsM' l s1).map fun o=>(if s1.sc.seen then evT s1 :: o else o)
theorem guard_run:runsM' ((List.range 1500).map fun (i:Nat)=>((i:Int),(0:Int),(i:Int))) (newM guardP 1 1 1) = some [(2,1,0,0,0),(1,1,0,1,0),(2,1,0,1,0),(2,1,0,2,1),(2,1,0,3,0),(2,1,0,4,0)]:=by kernel_rfl
end Go.Proofs.YtgadhchejmlfjaaGreatDoor.Mac
end
