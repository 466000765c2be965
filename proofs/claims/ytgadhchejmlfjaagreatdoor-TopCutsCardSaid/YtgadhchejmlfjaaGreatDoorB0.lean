/- A part of the proof. -/
import Derived.Test.YtgadhchejmlfjaaGreatDoorA9
set_option linter.unusedVariables false
set_option maxRecDepth 20000
set_option maxHeartbeats 16000000
open Go.Value renaming int→I,pointer→J,slice→Y
open Go.IntKind renaming i64→U
open Option renaming none→N,some→Z
open Bool renaming false→rm,true→rq
open Go renaming Calls→re,Ending→rB,Value→qY,World→oZ
open Go.Ending renaming returned→rC
open Go.Obj renaming cells→rD
open Go.Value renaming agg→rE,bool→ry,ownBlock→ru,tuple→rG
open Go.World renaming setCell→rh
open List renaming replicate→rj
namespace Go.Proofs.YtgadhchejmlfjaaGreatDoor.CX
open Go.RowKit Go.CL
open Vm (CN)
section
open Cw (Pr pz)
def Hn(x t:Int):Int:=if D4.Lt x t=0 then D4.NC x t else x
def St.CH(s:St)(i:Nat)(x:G):St:={s with gs:=s.gs.set i x}
def St.CM(s:St)(j:Nat)(y:M1):St:={s with ms:=s.ms.set j y}
def St.mv(s:St)(i:Nat)(t:Int):St:=match s.gs[i]? with
 |some x=>s.CH i {x with word:=Hn x.word t}
 |none=>s
def St.put(s:St)(l:List Int):St:={s with all:=s.all++CY.right l}
def St.CO(s:St)(c:Sc):St:={s with sc:=c}
def Ho(s:St)(p:Int):Option St:=
 if 0≤p then
  match s.asked[p.toNat]? with
  |some a=>Z {s with asked:=s.asked.set p.toNat ⟨a.pre,rm,wrap64 (a.count+1)⟩,sc:={s.sc with wait:=wrap64 (s.sc.wait-1)}}
  |none=>N
 else N
def GH(s:St)(j:Nat):Option St:=
 match s.ms[j]? with
 |none=>N
 |some y=>
  if j<64 then
   if y.p= -1 then Z {s with box:=Kh s.box j (wrap64 (s.sc.now+D3 s.sc.Ey 65))}
   else if 0≤y.p then
    match s.asked[y.p.toNat]? with
    |some a=>Z {s with asked:=s.asked.set y.p.toNat ⟨rq,a.Eg,a.count⟩,box:=Kh s.box j (wrap64 (s.sc.now+D3 s.sc.Ey 65))}
    |none=>N
   else N
  else N
def Ii(s:St)(p:Int):Option Nat:=if 0≤Cw.Ic s.stat p∧Cw.Ic s.stat p<s.ms.length then Z (Cw.Ic s.stat p).toNat else N
def GI(s:St):Int:=wrap64 (wrap64 (s.CK.length+s.sc.Ga)-s.ms.length)
def Jp(s:St)(p:Int)(j:Nat):Option St:=
 match s.ms[j]? with
 |some y=>Z {s with stat:=Cw.LS s.stat p j (fun _ _=>(1,j)) (fun s _=>s==0),ms:=s.ms.set j {y with p:=p,g:=0,phase:=1}}
 |none=>N
def FJ(s:St)(p:Int):Option (Bool×St):=
 match s.CK with
 | []=>if s.sc.Ga≤s.ms.length then Z (rm,s)else
   if s.ms.length<64 then(Jp {s with ms:=s.ms++[m0]} p s.ms.length).map fun s=>(rq,s)else N
 |id::r=>if 0≤id then(Jp {s with CK:=r} p id.toNat).map fun s=>(rq,s)else N
def Gc(s:St)(j:Nat):Option St:=
 match s.ms[j]? with
 |some y=>Z {s with ms:=s.ms.set j {y with p:= -1,g:=0,phase:=0,CR:=rm},CK:=Idle.Ig 64 s.CK j}
 |none=>N
def ID(l:List M1):Nat:=l.countP fun y=>y.phase==1
def G9(s:St):Option St:=
 if s.sc.Cy then Z s else if 200000≤s.all.length then N else
  match s.CB with
  | []=>Z s
  |p::_=>if ID s.ms=0∧0<Sv s.rings s.rings.length+s.all.length then
    match FJ s p with
    |some (rq,a)=>Z {a with CB:=a.CB.erase p}
    |some (rm,a)=>Z a
    |none=>N
   else Z s
def D6(s:St)(p:Int)(i:Nat)(first:Bool):Option St:=
 if i<s.gs.length∧s.all.length<100000 then
  if p= -1 then G9 ((s.mv i 1).put [(i:Int)+1])
  else if 0≤p∧p<s.rings.length then
   G9 (({s.mv i 1 with rings:=s.rings.set p.toNat ⟨Ring.Ng (D5 s p.toNat).CG ((i:Int)+1) first,Ring.Ov 256 (D5 s p.toNat).CG (D5 s p.toNat).row ((i:Int)+1) first⟩}:St).put (Ring.Mt 256 (D5 s p.toNat).CG (D5 s p.toNat).row ((i:Int)+1) first))
  else N
 else N
def Ge(id:Int):Nat→Nat→St→Option St
 |0,_,s=>Z s
 |n+1,k,s=>
  match s.gs[k]? with
  |some x=>if x.C9=id then
    let s1:=s.CH k {x with C9:=0}
    if x.word=5 then(D6 s1 (-1) k rm).bind (Ge id n (k+1))else Ge id n (k+1) s1
   else Ge id n (k+1) s
  |none=>N
def KS(s:St)(i:Nat):Option St:=Ge ((i:Int)+1) s.gs.length 0 s
def Gf(s:St)(j:Nat):Option (Nat×St):=
 match s.ms[j]? with
 |some y=>if 1≤y.g then Z ((y.g-1).toNat,s.CM j {y with g:=0,phase:=1})else N
 |none=>N
def Gg(s:St)(j:Nat):Option St:=(Gf s j).bind fun r=>D6 r.2 (-1) r.1 rm
def Gh(s:St)(j i:Nat):Option St:=
 match s.gs[i]?,s.ms[j]? with
 |some x,Z y=>
  if 8≤x.word then(if s.all.length<100000 then Z (s.put [(i:Int)+1])else N)
  else if x.C9≠0 then KS (s.mv i 5) i
  else G9 ((s.mv i 2).CM j {y with g:=(i:Int)+1,phase:=2,used:=0})
 |_,_=>N
def NH(s:St)(p:Nat)(l:List Int):St:=({s with rings:=s.rings.set p ⟨(D5 s p).CG,Ring.Jo 256 (D5 s p).row l.tail⟩}:St).put (Ring.Ia 256 (D5 s p).row l.tail)
def EV(p:Nat):List Int→St→Option (Int×St)
 | [],s=>Z (0,s)
 |q::r,s=>
  if 0≤q∧q<s.rings.length then
   let o:=Ring.IA (D5 s q.toNat).CG (D5 s q.toNat).row
   let s1:St:={s with rings:=s.rings.set q.toNat ⟨Ring.Ex (D5 s q.toNat).CG (D5 s q.toNat).row,Ring.EM (D5 s q.toNat).row⟩}
   match o with
   | []=>EV p r s1
   |x::_=>Z (x,NH s1 p o)
  else N
def JF(s:St):Nat:=(FP s.all.length s.rings.length 128).toNat
def GZ(s:St)(p:Nat)(b:Int):Option (Int×St):=
 if Ring.KQ (D5 s p).CG (D5 s p).row then Z (Ring.R6 (D5 s p).CG (D5 s p).row,{s with rings:=s.rings.set p ⟨0,Ring.FA (D5 s p).CG (D5 s p).row⟩})
 else
  let s2:St:={s with rings:=s.rings.set p ⟨0,Ring.FA (D5 s p).CG (D5 s p).row⟩}
  let a:St:={s2 with all:=s2.all.drop (JF s2)}
  match s2.all.take (JF s2)with
  |x::r=>Z (x,NH a p (x::r))
  | []=>EV p (EH a.rings.length b a.sc.draw) a
def G0(s:St)(j:Nat):Option (Int×St):=
 match s.ms[j]? with
 |none=>N
 |some y=>
  if 0≤y.p∧y.p<s.rings.length∧s.all.length<100000 then
   if(wrap64 (y.looks+1)).tmod 4=0∧s.all.isEmpty=rm then Z (s.all.headD 0,{s.CM j {y with looks:=wrap64 (y.looks+1)}with all:=s.all.tail})
   else GZ (s.CM j {y with looks:=wrap64 (y.looks+1)}) y.p.toNat y.p
  else N
def DM(s:St)(p:Int):St:={s with stat:=Cw.Di s.stat p (fun _ _=>(0,-1)) (fun s _=>s==1)}
def E8(s:St)(p:Int):St:={s with stat:=Cw.Di s.stat p Cw.H5 (fun s _=>Cw.FN s)}
def bX(s:St)(p:Int):St:={s with stat:=Cw.Di s.stat p (fun _ a=>Cw.cJ a) (fun s _=>s==3)}
def Kj(s:St)(j:Nat):Option St:=
 match s.ms[j]? with
 |none=>N
 |some y=>
  if 0≤y.p then
   match s.asked[y.p.toNat]? with
   |none=>N
   |some a=>
    if a.Eg then Ho s y.p
    else if s.sc.Cy then
     let s1:=E8 (DM s y.p) y.p
     Gc (s1.CO {s1.sc with wait:=wrap64 (s1.sc.wait-1)}) j
    else
     match G0 s j with
     |none=>N
     |some (id,s1)=>
      if id=0 then
       let s2:=DM s1 y.p
       Gc {s2 with CB:=Idle.Ig 256 s2.CB y.p} j
      else if 1≤id∧id≤s1.gs.length then Gh s1 j (id-1).toNat else N
  else N
def Gi(j:Nat):Nat→Nat→St→Option St
 |0,_,s=>Z s
 |n+1,p,s=>
  match Ii s p with
  |some k=>if k≠j∧Cw.FG s.stat p=1 then(GH s k).bind (Gi j n (p+1))else Gi j n (p+1) s
  |none=>Gi j n (p+1) s
def MF(s:St)(j:Nat):Option St:=Gi j s.rings.length 0 s
def EW(j:Nat):Nat→Nat→St→Option St
 |0,_,s=>Z s
 |n+1,p,s=>
  let st:=Cw.FG s.stat p
  if st=2 then
   match Ii s p with
   |some k=>match s.ms[k]? with
    |some y=>let s1:=E8 (s.CM k {y with p:= -1}) p
     EW j n (p+1) {s1 with CB:=s1.CB.erase (p:Int)}
    |none=>N
   |none=>N
  else if st=0 then
   let s1:=E8 s p
   EW j n (p+1) {s1 with CB:=s1.CB.erase (p:Int)}
  else if st=1 then
   match s.ms[j]? with
   |none=>N
   |some y=>
    if(p:Int)=y.p then EW j n (p+1) (E8 s p)
    else
     match Ii s p with
     |some k=>(GH (s.CO {s.sc with wait:=wrap64 (s.sc.wait+1)}) k).bind (EW j n (p+1))
     |none=>N
  else EW j n (p+1) s
def KU(s:St)(j:Nat):Option St:=
 match s.ms[j]? with
 |none=>N
 |some y=>EW j s.rings.length 0 ((s.CO {s.sc with Cy:=rq}).CM j {y with phase:=3})
def Kk(s:St)(k:Int)(i:Nat)(n:Int):Option St:=
 match s.gs[i]? with
 |some x=>Z (s.CO {s.sc with kind:=k,eg:=(i:Int)+1,JW:=x.fn,JX:=x.Dt,en:=n,seen:=rq})
 |none=>N
def IE(j:Nat):Nat→Nat→St→Option St
 |0,_,s=>Z s
 |n+1,p,s=>
  match s.ms[j]?,s.asked[p]? with
  |some y,Z a=>
   if(p:Int)=y.p∨Cw.FG s.stat p≠1 then IE j n (p+1) {s with asked:=s.asked.set p ⟨a.pre,a.Eg,wrap64 (a.count+1)⟩}
   else
    match Ii s p with
    |some k=>(GH {s with asked:=s.asked.set p ⟨a.pre,rq,a.count⟩,sc:={s.sc with wait:=wrap64 (s.sc.wait+1)}} k).bind (IE j n (p+1))
    |none=>N
  |_,_=>N
def NI(s:St)(j:Nat):Option St:=
 match s.ms[j]? with
 |none=>N
 |some y=>IE j s.rings.length 0 (s.CM j {y with phase:=4})
def Hp(s:St)(j:Nat)(op:Int):Option St:=
 match s.ms[j]? with
 |none=>N
 |some y=>
  if 1≤y.g∧s.waits.length<100000 then
   match s.gs[(y.g-1).toNat]? with
   |none=>N
   |some x=>
    let s1:St:={s with owner:=Dc.OD s.owner y.g,waits:=Dc.OE s.owner s.waits y.g}
    if Dc.Ni s.owner y.g then
     (Kk s1 1 (y.g-1).toNat 0).bind fun s2=>
      let a:=(s2.CH (y.g-1).toNat {x with begun:=rq}).CO {s2.sc with wait:=0}
      if op=19 then NI a j else KU a j
    else
     (Gf (s1.CH (y.g-1).toNat {x with CA:=rq}) j).map fun r=>r.2.mv r.1 4
  else N
def EI(s:St)(i:Nat):Option St:=
 if s.waits.length<100000 then
  let id:=Dc.P5 s.owner s.waits ((i:Int)+1)
  let s1:St:={s with owner:=Dc.P6 s.owner s.waits ((i:Int)+1),waits:=Dc.P7 s.owner s.waits ((i:Int)+1)}
  if id=0 then Z s1
  else if 1≤id then
   match s1.gs[(id-1).toNat]? with
   |none=>N
   |some x=>
    let s2:=s1.CH (id-1).toNat {x with CA:=rm}
    if 8≤x.word then Z s2 else D6 s2 (-1) (id-1).toNat rm
  else N
 else N
def Dq(self:Int):List Int→Nat→Int→List Int×List Int
 | [],_,_=>([],[])
 |n::r,i,ms=>
  if(i:Int)=self then Dq self r (i+1) ms
  else if 0<n∧0<ms then let o:=Dq self r (i+1) (ms-1);((i:Int)::o.1,o.2)
  else let o:=Dq self r (i+1) ms;(o.1,(i:Int)::o.2)
def Hq(waits:List Int)(self a:Int):List Int×List Int:=Dq self waits 0 a
def dS:List Int→St→Option St
 | [],s=>Z s
 |p::r,s=>(FJ (bX s p) p).bind fun x=>dS r x.2
def Jq:List Int→St→Option St
 | [],s=>Z s
 |p::r,s=>
  if 0≤p∧p<s.rings.length∧s.all.length<100000 then
   let s1:=bX s p
   let s2:St:={s1 with CB:=Idle.Ig 256 s1.CB p}
   Jq r (({s2 with rings:=s2.rings.set p.toNat ⟨0,[]⟩}:St).put (Ring.C3 (D5 s2 p.toNat).CG (D5 s2 p.toNat).row))
  else N
def G1(s:St)(j:Nat):Option St:=
 match s.ms[j]? with
 |none=>N
 |some y=>
  if 1≤s.sc.CD∧s.sc.CD≤s.gs.length then
   let i:=(s.sc.CD-1).toNat
   let s1:=s.CO {s.sc with CD:=0,Cy:=rm}
   let a:=Hq ((Ue s1.rings).map fun l=>(l.length:Int)) y.p (GI s1)
   (dS a.1 s1).bind fun s2=>(Jq a.2 s2).bind fun b=>
    match b.ms[j]? with
    |none=>N
    |some y3=>(EI (bX b y3.p) i).bind G9
  else N
def E9(s:St)(x:G):Option CN:=if 0≤x.fn∧0≤x.Dt then(s.funcs[x.fn.toNat]?).bind fun f=>f.code[x.Dt.toNat]? else N
def FQ(x:G)(i:CN)(a:Int):List Int:=
 if i.op=1 then x.CS.set i.a.toNat i.n
 else if i.op=2 then x.CS.set i.a.toNat (wrap64 (rg x i.b.toNat+rg x i.c.toNat))
 else if i.op=3 then x.CS.set i.a.toNat (wrap64 (rg x i.b.toNat-rg x i.c.toNat))
 else if i.op=4 then x.CS.set i.a.toNat (wrap64 (rg x i.b.toNat*rg x i.c.toNat))
 else if i.op=5 then x.CS.set i.a.toNat (if rg x i.b.toNat<rg x i.c.toNat then 1 else 0)
 else if(DX.row i.op).asks then x.CS.set i.a.toNat a
 else x.CS
def FK(x:G)(i:CN)(a:Int):Int:=if i.op=15 then rg x i.a.toNat else if(DX.row i.op).asks then a else 0
def Gj(x:G)(i:CN):Bool:=decide (i.op=14∨(i.op=8∧x.stack.length=16)∨(i.op=9∧x.stack=[]))
def Lw(x:G):G:={x with fn:=0,Dt:=0,CS:=[0,0,0,0,0,0,0,0],done:=rq,stack:=[]}
def Gk(x:G)(i:CN)(CS:List Int):G:=
 if i.op=8 then{x with CS:=CS,fn:=i.n,Dt:=0,stack:=x.stack++[(x.fn,wrap64 (x.Dt+1))]}
 else if i.op=9 then{x with CS:=CS,fn:=(x.stack.getLast?.getD (0,0)).1,Dt:=(x.stack.getLast?.getD (0,0)).2,stack:=x.stack.dropLast}
 else{x with CS:=CS,Dt:=Vm.Vd i.op i.n (rg x i.a.toNat) (wrap64 (x.Dt+1))}
def Fa(r:Int):Prop:=0≤r∧r<8
instance (r:Int):Decidable (Fa r):=by unfold Fa;infer_instance
def bY(x:G)(i:CN)(a:Int):Option (G×Int):=
 if x.done=rm∧Fa i.a∧Fa i.b∧Fa i.c then
  Z (if Gj x i then(Lw x,0)else(Gk x i (FQ x i a),FK x i a))
 else N
def C5(s:St)(j:Nat)(b:Int):Option St:=
 match s.ms[j]? with
 |none=>N
 |some y=>
  if 1≤y.g then
   let i:=(y.g-1).toNat
   match s.gs[i]? with
   |none=>N
   |some x=>
    (E9 s x).bind fun ins=>(bY x ins b).bind fun r=>(Kk s 2 i r.2).bind fun s1=>
     let s2:=s1.CH i {r.1 with begun:=rm}
     let u:=wrap64 (y.used+1)
     let c:=s2.CM j {y with used:=u}
     (if u=20 then GH c j else Z c).bind fun a=>
      if r.1.done then
       (if a.sc.CD=y.g then G1 a j else Z a).bind fun d=>(Gf d j).map fun q=>q.2.mv q.1 6
      else Z a
  else N
def Lx(s:St)(j:Nat):Option St:=
 match s.ms[j]? with
 |none=>N
 |some y=>if 0<s.sc.wait then MF s j else C5 ((s.CM j {y with phase:=2}).CO {s.sc with CD:=y.g}) j 0
def GJ(s:St)(fn arg:Int):St:={s with gs:=s.gs++[⟨1,fn,0,[arg,0,0,0,0,0,0,0],rm,rm,rm,rm,rm,0,[]⟩]}
def tgt(s:St)(x:G)(a:Int):Option Nat:=if 1≤rg x a.toNat∧rg x a.toNat≤s.gs.length then Z (rg x a.toNat-1).toNat else N
def Ib(w:Int)(self hold:Bool):Int:=if self then 0 else if 8≤w then(if hold then 0 else 2)else if w=1∨w=3∨w=4∨w=5 then 4 else if w=6 then 1 else 3
def G2(s:St)(k:Nat):Int:=(s.gs[k]?.getD g0).word
def D1(s:St)(i:Nat)(t:Option Nat):Int:=match t with
 |none=>0
 |some k=>Ib (G2 s k) (decide (k=i)) (decide (s.sc.CD=(i:Int)+1))
def KV(s:St)(i:Nat)(x:G)(ins:CN):Bool:=decide (ins.op=20)&&x.begun&&decide (D1 s i (tgt s x ins.a)≠3∧D1 s i (tgt s x ins.a)≠2)
def Qe(k:Nat)(s:St):Option St:=
 match s.gs[k]? with
 |some x=>if s.owner=(k:Int)+1∧x.begun=rm then EI s k else Z s
 |none=>N
def YR(k:Nat)(s:St):Option St:=
 match s.gs[k]? with
 |some x=>if s.waits.length<100000 then Qe k (if x.CA then{s.CH k {x with CA:=rm}with waits:=s.waits.erase ((k:Int)+1)}else s)else N
 |none=>N
def Ly(s:St)(k:Nat):Option St:=
 match s.gs[k]? with
 |some x=>(KS (s.CH k {x with word:=x.word+8,C9:=0}) k).bind (YR k)
 |none=>N
def El(g:Int):Nat→Nat→St→Option St
 |0,_,s=>Z s
 |n+1,k,s=>
  match s.ms[k]? with
  |some y=>if y.g=g then(GH s k).bind (El g n (k+1))else El g n (k+1) s
  |none=>N
def Ha(s:St)(k:Nat):Option St:=El ((k:Int)+1) s.ms.length 0 s
def MG(s:St)(p:Int)(t:Option Nat):Option (Int×St):=
 match t with
 |none=>Z (0,s)
 |some k=>
  match s.gs[k]? with
  |none=>N
  |some x=>
   if x.word=6 then Z (0,s)
   else if x.blocked=rm then Z (1,s.CH k {x with token:=rq})
   else
    let s1:=s.CH k {x with blocked:=rm}
    if 8≤x.word then Z (1,s1)else(D6 s1 p k rq).map fun s2=>(1,s2)
def MH(w:Int)(bV:Bool):Int:=if w<8 then 0 else if w=12 then(if bV then 2 else 1)else if w=13 then 2 else 1
def Kl(s:St)(p:Int)(t:Option Nat):Option (Int×St):=
 match t with
 |none=>Z (0,s)
 |some k=>
  match s.gs[k]? with
  |none=>N
  |some x=>
   let a:=MH x.word (!x.blocked&& !x.CA)
   if a=0 then Z (0,s)
   else
    let s1:=s.CH k {x with word:=x.word-8}
    if a=2 then(D6 s1 p k rm).map fun s2=>(1,s2)else Z (1,s1)
def D7(l:List Rs)(q:List Int):List Int:=l.foldl (fun q r=>CY.right (Ring.C3 r.CG r.row)++q) q
def D8(l:List Pr)(n:Nat):List Pr:=
 if Cw.cnt 3 l=l.length-Cw.cnt 4 l then
  ((l++rj (n-l.length) (4,-1)).take n).map (fun(x:Pr)=>if x.1=4 then(3,-1)else x)++rj (l.length-n) (4,-1)
 else l
def FZ(s:St)(j:Nat)(n:Int):Option (Int×St):=
 match s.ms[j]? with
 |none=>N
 |some y=>
  if s.sc.CD≠y.g∨n<1∨256<n then Z (0,s)
  else if s.stat.length≤256∧s.all.length<100000∧1≤s.rings.length then
   let a:=n.toNat
   let s1:St:={s with stat:=D8 s.stat a,rings:=s.rings.take a++rj (a-s.rings.length) r0,all:=D7 (s.rings.drop a) s.all,asked:=s.asked.take a++rj (a-s.asked.length) p0}
   if n≤y.p then
    let s2:=bX (s1.CM j {y with p:=0}) 0
    Z (1,E8 {s2 with stat:=Cw.LS s2.stat 0 j (fun _ _=>(1,j)) (fun s _=>s==0)} 0)
   else Z (1,s1)
  else N
def Km(s:St)(j i:Nat)(ins:CN):Option (Int×St):=
 match s.ms[j]?,s.gs[i]? with
 |some y,Z x=>
  if ins.op=10 then
   if s.sc.cg≤s.gs.length then Z (-1,s)
   else if s.gs.length<64 then(D6 (GJ s ins.n (rg x ins.a.toNat)) y.p s.gs.length rq).map fun a=>((s.gs.length:Int)+1,a)else N
  else if ins.op=13 then MG s y.p (tgt s x ins.a)
  else if ins.op=21 then Kl s y.p (tgt s x ins.a)
  else if ins.op=22 then FZ s j (rg x ins.a.toNat)
  else if ins.op=23 then Z ((i:Int)+1,s)
  else Z (0,s)
 |_,_=>N
def JG(s:St)(j:Nat)(alone:Bool):Option St:=
 match s.ms[j]? with
 |none=>N
 |some y=>
  if 1≤y.g then
   (C5 s j 0).bind fun s1=>
    if alone then Z s1
    else
     match s1.gs[(y.g-1).toNat]? with
     |none=>N
     |some x=>
      if x.token then Z (s1.CH (y.g-1).toNat {x with token:=rm})
      else(Gf (s1.CH (y.g-1).toNat {x with blocked:=rq}) j).map fun q=>q.2.mv q.1 4
  else N
def Sw(s:St)(j:Nat)(ins:CN)(alone:Bool):Option St:=
 match s.ms[j]? with
 |none=>N
 |some y=>
  if alone then C5 s j 0
  else if 0≤y.p∧1≤y.g then
   match s.asked[y.p.toNat]?,s.gs[(y.g-1).toNat]? with
   |some a,Z x=>
    if a.Eg then Ho s y.p
    else if s.sc.Cy then Gg s j
    else
     (C5 (s.CM j {y with left:=D3 (rg x ins.a.toNat) 8}) j 0).bind fun s1=>
      match s1.ms[j]? with
      |none=>N
      |some b=>if 1≤b.g then
        let s2:=s1.mv (b.g-1).toNat 3
        Z ({s2 with stat:=Cw.Di s2.stat b.p (fun _ c=>(2,c)) (fun s _=>s==1)}.CM j {b with phase:=5})
       else N
   |_,_=>N
  else N
def Gl(s:St)(j:Nat)(ins:CN)(alone:Bool):Option St:=
 match s.ms[j]? with
 |none=>N
 |some y=>
  if 1≤y.g then
   let i:=(y.g-1).toNat
   match s.gs[i]? with
   |none=>N
   |some x=>
    let t:=tgt s x ins.a
    if alone=rm∧t≠N∧t≠Z i∧x.begun=rm then
     (Kk s 1 i 0).map fun s1=>s1.CH i {x with begun:=rq}
    else
     let a:=D1 s i t
     match t with
     |none=>C5 s j (-1)
     |some k=>
      if a=3 then
       match s.gs[k]? with
       |some z=>Ha (s.CH k {z with C9:=y.g}) k
       |none=>N
      else if a=2 then Gg s j
      else if a=4 then(Ly s k).bind fun s1=>C5 s1 j 1
      else C5 s j (if a=0 then-1 else 0)
  else N
def XB(s:St)(j:Nat)(ins:CN):Option St:=
 match s.ms[j]? with
 |none=>N
 |some y=>
  let alone:=decide (s.sc.CD=y.g)
  if ins.op=17∨ins.op=19 then(if alone then C5 s j 0 else Hp s j ins.op)
  else if ins.op=18 then(C5 s j 0).bind fun s1=>if alone then G1 s1 j else Z s1
  else if ins.op=11 then(C5 s j 0).bind fun s1=>if alone then Z s1 else Gg s1 j
  else if ins.op=12 then JG s j alone
  else if ins.op=16 then Sw s j ins alone
  else if ins.op=20 then Gl s j ins alone
  else if 1≤y.g then(Km s j (y.g-1).toNat ins).bind fun r=>C5 r.2 j r.1
  else N
def Hr(s:St)(j:Nat)(p:Int):Option St:=
 match s.ms[j]?,s.asked[p.toNat]? with
 |some y,Z a=>if 0≤p then Z {s with ms:=s.ms.set j {y with CR:=rm},asked:=s.asked.set p.toNat ⟨rm,a.Eg,a.count⟩}else N
 |_,_=>N
def YS(s:St)(x:G):Option CN:=(E9 s x).bind fun i=>if Fa i.a then Z i else N
def OM(s:St)(j:Nat):Option St:=
 match s.ms[j]? with
 |none=>N
 |some b=>
  if 1≤b.g then
   match s.gs[(b.g-1).toNat]? with
   |none=>N
   |some x=>
    (YS s x).bind fun ins=>
     if s.sc.CD=b.g then XB s j ins
     else
      let y:=if x.begun then{b with used:=min b.used 19}else b
      let s1:=if x.begun then s.CM j y else s
      if 0≤y.p then
       match s1.asked[y.p.toNat]?,s1.funcs[x.fn.toNat]? with
       |some a,Z f=>
        let act:=FO.IZ f.code.length f.safe x.Dt y.CR a.pre a.Eg s1.sc.Cy (decide (x.C9≠0)) (decide (20≤y.used))
        if act=1 then Ho s1 y.p
        else if act=2 then(if KV s1 (y.g-1).toNat x ins then XB s1 j ins else(Hr s1 j y.p).bind fun s2=>(Gf s2 j).bind fun q=>KS (q.2.mv q.1 5) q.1)
        else if act=3 then(Hr s1 j y.p).bind fun s2=>Gg s2 j
        else if act=4 then Hr s1 j y.p
        else XB s1 j ins
       |_,_=>N
      else N
  else N
def Qg(s:St)(j:Nat):Option St:=
 match s.ms[j]? with
 |none=>N
 |some y=>if 0<s.sc.wait then MF s j else if 1≤y.g then(C5 (s.CM j {y with phase:=2}) j 0).bind fun s1=>EI s1 (y.g-1).toNat else N
def call2(s:St)(j:Nat)(g:Int):Option St:=
 match s.gs[(g-1).toNat]? with
 |none=>N
 |some x=>
  if 8≤x.word then Gg s j
  else
   let s1:=s.mv (g-1).toNat 2
   match s1.ms[j]? with
   |some y=>Z (s1.CM j {y with phase:=2})
   |none=>N
def Kn(s:St)(j:Nat):Option St:=
 match s.ms[j]? with
 |none=>N
 |some y=>
  if 0<y.left then Z (s.CM j {y with left:=wrap64 (y.left-1)})
  else if 1≤y.g then
   if y.p≠ -1 then call2 {s with stat:=Cw.LS s.stat y.p j (fun _ _=>(1,j)) (fun s a=>s==2&&a==(j:Int))} j y.g
   else if s.CB≠[]∧s.sc.Cy=rm then
    let p:=s.CB.headD 0
    let s1:St:={s with CB:=s.CB.erase p,stat:=Cw.LS s.stat p j (fun _ _=>(1,j)) (fun s _=>s==0)}
    call2 (s1.CM j {y with p:=p}) j y.g
   else(Gf s j).bind fun q=>(Gc q.2 j).bind fun s1=>D6 s1 (-1) q.1 rm
  else N
def IF(s:St)(pick Ey draw:Int):Option St:=
 let s1:=s.CO {s.sc with now:=wrap64 (s.sc.now+1),pick:=pick,Ey:=Ey,draw:=draw,kind:=0,eg:=0,JW:=0,JX:=0,en:=0,seen:=rm}
 let j:=(D3 pick s1.ms.length).toNat
 match s1.ms[j]? with
 |none=>N
 |some y=>
  if y.phase=0 then Z s1
  else if j<64 then
   let s2:St:={s1 with box:=Ki s1.box j s1.sc.now,ms:=s1.ms.set j {y with CR:=Ih s1.box j s1.sc.now||y.CR}}
   if y.phase=1 then Kj s2 j
   else if y.phase=2 then OM s2 j
   else if y.phase=3 then Lx s2 j
   else if y.phase=4 then Qg s2 j
   else if y.phase=5 then Kn s2 j
   else Z s1
  else N
def JH(funcs:List Fn)(a cg cm:Int):St:=
 let n:=a.toNat
 {funcs:=funcs,sc:=⟨a,cg,cm,0,0,0,0,rm,0,0,0,0,0,0,0,rm⟩,gs:=[⟨1,0,0,[0,0,0,0,0,0,0,0],rm,rm,rm,rm,rm,0,[]⟩],ms:=[⟨0,0,1,rm,0,0,0⟩],asked:=rj n p0,rings:=⟨0,[1]⟩::rj (n-1) r0,stat:=(1,0)::rj (n-1) (0,-1),all:=[],CK:=[],CB:=(List.range (n-1)).map fun(i:Nat)=>(i:Int)+1,owner:=0,waits:=[],box:=rj 64 N}
end
def iN(op n:Int):CN:=⟨op,0,0,0,n⟩
def IG:List Fn:=[⟨[iN 1 1,iN 17 0,iN 15 0,iN 18 0,iN 14 0],[rm,rq,rq,rm,rm]⟩]
def nj(s:St):Int×Int×Int×Int×Int:=(s.sc.kind,s.sc.eg,s.sc.JW,s.sc.JX,s.sc.en)
def KW:List (Int×Int×Int)→St→Option (List (Int×Int×Int×Int×Int))
 | [],s=>Z []
 |x::l,s=>(IF s x.1 x.2.1 x.2.2).bind fun s1=>(KW l s1).map fun o=>(if s1.sc.seen then nj s1::o else o)
theorem VM:KW ((List.range 1500).map fun(i:Nat)=>((i:Int),(0:Int),(i:Int))) (JH IG 1 1 1)=Z [(2,1,0,0,0),(1,1,0,1,0),(2,1,0,1,0),(2,1,0,2,1),(2,1,0,3,0),(2,1,0,4,0)]:=by kernel_rfl
end Go.Proofs.YtgadhchejmlfjaaGreatDoor.CX
namespace Go.Proofs.YtgadhchejmlfjaaGreatDoor.LK
open Go.Proofs.Tryz Go.RowKit Go.CL
open Cw (Pr ys pz)
section
variable {w:oZ} {b n m kx g cap c i:Nat} {v:qY} {D:Nat→Option Int} {q:Pr}
theorem NJ{a:oZ}(h:Cv (fun j=>j=b) a w) (i:Nat) (u:qY):Cv (fun j=>j=b) a (w.setCell ⟨b,i,N⟩ u):=h.set (.inr rfl) i u
theorem Hx.JI{a:Nat→Option Int}(h:Hx b v D n m q w)(hd: ∀k,k<64→D k=a k):Hx b v a n m q w:=by obtain⟨l,F,c,e,f,g,j⟩:=h.bx;exact⟨l,F,c,e,fun i o=>by rw[←hd _ (by have:=c.at_ i (by omega);omega)];exact f i o,fun k d p=>by rw[←hd k d];exact g k d p,j⟩
theorem Hx.ly(h:Hx b v D n m q w)(m':Nat)(a:Pr)(hm:n≤m'):Hx b v D n m' a w:=by obtain⟨l,F,c,d,e,f,g⟩:=h.bx;exact⟨l,F,c,d,e,f,fun x=>by omega⟩
theorem Hx.lt(h:Hx b v D n m q w){j:Nat}(a:Bf b v j):j<w.heap.size:=by
 obtain⟨l,F,c,_⟩:=h.bx;rcases a with rfl|a
 ·exact c.cs.lt
 ·exact(Az c.row j a).2
theorem Hx.room(h:Hx b v D n m q w)(k:Nat)(u:k<64)(r:D k=N):n<64:=by
 obtain⟨l,F,f,z,s,A,B⟩:=h.bx;have g:((k:Int)::l.map (·.1)).Nodup:=by
  refine BB.2 ⟨fun hm=>?_,?_⟩
  ·obtain⟨x,d,o⟩:=B8.1 hm
   obtain⟨i,a,rfl⟩:=Zbu.1 d;have:=s i (by omega);rw[Ae a]at this;simp only[AQ,o,An,r]at this;cases this
  ·refine List.pairwise_iff_getElem.2 fun i j a p t=>?_
   simp only[Bg]at a p;simp only[Zbm];intro e;have c:=f.at_ i a;have a2:=f.at_ j p;rw[Ae a]at c;rw[Ae p]at a2;simp only[AQ]at c a2;rw[e]at c;have:=c.2.2.symm.trans a2.2.2;omega
 have:=Yt 64 _ g (fun x d=>by
  rcases Bv.1 d with rfl|d
  ·omega
  ·obtain⟨y,hy,rfl⟩:=B8.1 d
   obtain⟨i,a,rfl⟩:=Zbu.1 hy;have c:=f.at_ i a;rw[Ae a]at c;simp only[AQ]at c;omega)
 simp at this;omega
theorem Hx.YT(h:Hx b v D n m q w)(k:Nat)(r:k<64):(D k=N∧w.cell? ⟨b,1+k,N⟩=Z (I U (-1)))∨ ∃(i g c cap:Nat)(d:Int),v=Y (Z ⟨g,0,N⟩) c cap∧i<n∧c=n∧D k=Z d∧w.cell? ⟨b,1+k,N⟩=Z (I U i)∧w.cell? ⟨g,i*2,N⟩=Z (I U k)∧w.cell? ⟨g,i*2+1,N⟩=Z (I U d)∧g<w.heap.size∧g≠b∧Hx b v D n i (k,d) w:=by
 obtain⟨l,F,f,z,s,t,E⟩:=h.bx;have j:=f.cs.cell (i:=1+k) (by omega);simp only[show¬1+k=0 by omega,BH,Nat.add_sub_cancel_left]at j;rcases f.idx k r with u|⟨i,A,o,a⟩
 ·exact .inl ⟨t k r u,by rw[j,u]⟩
 ·have p: ∃g c cap,v=Y (Z ⟨g,0,N⟩) c cap:=by
   rcases Dr f.row with⟨_,G⟩|⟨g,cap,p,_⟩
   ·omega
   ·exact⟨g,_,cap,p⟩
  obtain⟨g,c,cap,rfl⟩:=p;obtain⟨x,B,C,H⟩:=f.cell i o;have y:=s i (by omega);rw[a,An]at y;rw[a]at x;refine .inr ⟨i,g,c,cap,(l[i]?.getD pz).2,rfl,by omega,by omega,y,by rw[j,A],x,B,C,fun e=>f.ne (by rw[e];rfl),⟨l,F,f,z,s,t,fun _=>?_⟩⟩;rw[←a]
def Ug(b:Nat)(v:qY)(D:Nat→Option Int)(n:Nat)(x:Pr)(w:oZ)(e:rB)(w':oZ):Prop:=e=rC (rG #[])∧ ∃g cap,Hx b (Y (Z ⟨g,0,N⟩) (n+1) cap) (fun k=>if k=x.1.toNat then Z x.2 else D k) (n+1) (n+1) pz w'∧Cv (Bf b v) w w'∧(v.ownBlock=Z g∨w.heap.size≤g)
theorem dT:(prog.info? 222).map (fun i=>(i.zero,i.size,i.bytes))=Z (Z (rE #[I U 0,I U 0]),2,16):=by kernel_rfl
theorem cM(w:oZ)(x y:qY)(t:TypeId): ∀(j:Nat)(z:qY),[x,y][j]?=Z z→(w.alloc (rD #[x,y] t)).cell? ((⟨w.heap.size,0,N⟩:Addr).add j)=Z z:=by intro j z a;rw[Ay,(Cx.new w #[x,y] t).cell];simpa using a
theorem gR(x y:qY)(t:TypeId)(h:w.heap.size=b): ∀(j:Nat)(z:qY),[x,y][j]?=Z z→(w.alloc (rD #[x,y] t)).cell? ((⟨b,0,N⟩:Addr).add j)=Z z:=h▸cM w x y t
theorem Bx.push{w1 c:oZ}{v':qY}{l:List Pr}{F:Nat→Int}{x2:Int}(h:Bx w b v l F)(D:kx<64)(p:F kx= -1)(o:Cv (fun j=>j=b) w w1) (q:Dv w1 b 65 213 (fun i=>if i=0 then v else I U (if i-1=kx then(l.length:Int)else F (i-1)))) (g:Dn w1 0 222 2 v l.length (ys l) [I U kx,I U x2] v' c):Bx (c.setCell ⟨b,0,N⟩ v') b v' (l++[((kx:Int),x2)]) (fun k=>if k=kx then(l.length:Int)else F k)∧Cv (Bf b v) w (c.setCell ⟨b,0,N⟩ v')∧c.cell? ⟨b,0,N⟩=Z v∧c.frozen? ⟨b,0,N⟩=false:=by
 have r: ∀j,v.ownBlock=Z j→j<w.heap.size:=fun j d=>(Az h.row j d).2;have s:=h.cs.lt;have f:v'.ownBlock≠Z b:=fun e=>(g.2.2 b e).elim h.ne (fun x=>by have:=o.size;omega);have a:=q.kept g.2.1 (fun e=>h.ne e.symm);refine⟨⟨?_,?_,f,?_,?_⟩,?_,by simpa using a.cell (i:=0) (by decide),a.free 0⟩
 ·refine(a.set (i:=0) (by decide) v').congr fun k n=>?_
  by_cases e:k=0
  ·simp[e]
  ·simp[e]
 ·have m:=g.1
  rw[show l.length+1=(l++[((kx:Int),x2)]).length by simp,show ys l++[I U kx,I U x2]=ys (l++[((kx:Int),x2)]) by rw[Cw.KH];rfl]at m;exact Dd m ((Cv.refl (fun j=>j=b) c).set (.inr rfl) _ _) (fun j d e=>f (by rw[d,show j=b from e]))
 ·intro i t
  have u:i<l.length+1:=by simpa using t
  by_cases e:i=l.length
  ·subst e
   rw[Iz];exact⟨by simp,by simp;omega,by simp⟩
  ·rw[F7 l _ i (by omega)]
   obtain⟨z0,y,z2⟩:=h.at_ i (by omega);refine⟨z0,y,?_⟩;rw[Ah (fun z=>by rw[z,p]at z2;omega)];exact z2
 ·intro k n
  by_cases e:k=kx
  ·rw[Ai e]
   exact .inr ⟨l.length,rfl,by simp,by rw[Iz,e]⟩
  ·rw[Ah e]
   rcases h.idx k n with A|⟨i,m,B,C⟩
   ·exact .inl A
   ·exact .inr ⟨i,m,by simp;omega,by rw[F7 l _ i B];exact C⟩
 ·exact((o.mono (T:=Bf b v) (fun j _ e=>.inl e)).grown g.2.1 (fun j d=>.inr (.inr d))).set (.inr (.inl rfl)) _ _
theorem jh(x y:Int)(w:oZ):Sem.run prog (Instr.typeAssert (.iface 222 (rE #[I U x,I U y])) 20 222 rq) w= .ok (rG #[rE #[I U x,I U y],ry rq]) w:=by kernel_rfl
theorem Hx.YU{l:List Pr}{F:Nat→Int}{w':oZ}{x2:Int}(d: ∀i,i<l.length→D (l[i]?.getD pz).1.toNat=Z (l[i]?.getD pz).2) (f: ∀k,k<64→F k= -1→D k=N) (h:Bx w b v l F) (j:F kx= -1) (c:Bx w' b (Y (Z ⟨g,0,N⟩) (l.length+1) cap) (l++[((kx:Int),x2)]) (fun k=>if k=kx then(l.length:Int)else F k)):Hx b (Y (Z ⟨g,0,N⟩) (l.length+1) cap) (fun k=>if k=kx then Z x2 else D k) (l.length+1) (l.length+1) pz w':=by
 refine⟨_,_,c,by simp,fun i o=>?_,fun k m a=>?_,fun x=>absurd x (Zbq _)⟩
 ·by_cases e:i=l.length
  ·subst e;rw[Iz];simp
  ·rw[F7 l _ i (by omega)]
   have:=h.at_ i (by omega);rw[Ah (fun n=>by rw[n,j]at this;omega)];exact d i (by omega)
 ·by_cases e:k=kx
  ·rw[Ai e]at a;omega
  ·rw[Ah e]at a⊢;exact f k m a
theorem Hx.push(h:Hx b v D n m q w)(x:Pr)(B:0≤x.1)(C:x.1<64)(y:D x.1.toNat=N):re prog 403 #[J (Z ⟨b,0,N⟩),.iface 222 (rE #[I U x.1,I U x.2])] w (Ug b v D n x w):=by
 have f:=h.room x.1.toNat (by omega) y;obtain⟨l,F,c,rfl,E,O,T⟩:=h.bx;obtain⟨P,o⟩:=x;obtain⟨kx,rfl⟩: ∃k:Nat,P=k:=⟨P.toNat,by simp at B;omega⟩;simp only[An]at y f C;have p:kx<64:=by omega
 have Q:F kx= -1:=by
  rcases c.idx kx p with B|⟨i,hi,V,G⟩
  ·exact B
  ·have:=E i (by omega)
   rw[G,An,y]at this;cases this
 obtain⟨a,cap,rfl⟩: ∃a cap,v= .slice a l.length cap:=by rcases Dr c.row with⟨rfl,X⟩|⟨g,cap,rfl,_⟩;exact⟨N,0,by rw[X]⟩;exact⟨_,cap,rfl⟩
 have c0:=c.cs.cell (i:=0) (by decide);simp only[BM]at c0;have f0:=c.cs.free 0;have H:=c.cs.cell (i:=1+kx) (by omega);simp only[show¬1+kx=0 by omega,BH]at H;have f1:=c.cs.free (1+kx);have aa:=c.cs.lt;have q3:(kx:Int)<64:=by omega
 have n1: ¬b=w.heap.size:=by omega
 have r:Dv ((w.setCell ⟨b,1+kx,N⟩ (I U l.length)).alloc (rD #[I U kx,I U o] 222)) b 65 213 (fun i=>if i=0 then .slice a l.length cap else I U (if i-1=kx then(l.length:Int)else F (i-1))):=by
  refine Dv.alloc ((c.cs.set (i:=1+kx) (by omega) _).congr fun k hk=>?_) _;by_cases R:k=1+kx
  ·subst R;simp
  ·rw[Ah R]
   by_cases S:k=0
   ·simp[S]
   ·have H: ¬k-1=kx:=by omega
    simp[S,H]
 have z:=Aa c;have K:=Aa r;have L:=Aa (Ab p Q);have H1:=Aa E;have H2:=Aa O;have ab:=jh kx o;have s:Hid (∀W,Cv (fun j=>j=b) w W→W.ownsRow 0 222 2 (.slice a l.length cap) l.length (ys l)):=fun W hW=>Dd z.out.row hW (fun j hj e=>z.out.ne (by rw[hj,show j=b from e]));clear h c r E O T Q y;go_enter func403,ntmps403;go_wp2;go_region
 go_wp2;go_region_law(refine J2 underlying208 dT rfl (by decide) (by decide) 0 _ rfl (.tmp 28) (.tmp 30) rfl (.slice a l.length cap) l.length (ys l) ⟨w.heap.size+1,0,N⟩ 1 [I U kx,I U o] (by simp[Act.eval]) (by simp[Act.eval]) (.inl (s.out _ (by(repeat(first|exact Cv.refl _ _|refine Cv.drew ?_|refine Cv.alloc ?_ _|refine NJ ?_ _ _))))) rfl (gR (w:=(w.setCell ⟨b,1+kx,N⟩ (I U l.length)).alloc (rD #[I U kx,I U o] 222)) _ _ 222 (by simp[rh])) (by simp[Value.oneCell']) (Ap _) (by omega) ?_;intro v' w3 A;obtain⟨M,d,rfl⟩:=A.some;obtain⟨t,u,q0,ad⟩:=z.out.push L.out.1 L.out.2 (by(repeat(first|exact Cv.refl _ _|refine Cv.drew ?_|refine Cv.alloc ?_ _|refine NJ ?_ _ _))) (w1:=(((w.setCell ⟨b,1+kx,N⟩ (I U l.length)).alloc (rD #[I U kx,I U o] 222)).alloc (rD #[I U kx,I U o] 222)).drew.drew) (K.out.alloc _) A;have HR:Hid (Ug b (.slice a l.length cap) D l.length (kx,o) w (rC (rG #[])) (w3.setCell ⟨b,0,N⟩ (Y (Z ⟨M,0,N⟩) (l.length+1) d))):=⟨rfl,M,d,Hx.YU H1.out H2.out z.out L.out.2 t,u,(A.2.2 M rfl).imp id (fun x=>AE (by simp[rh]<;>omega) x)⟩;clear A t u)
 all_goals
  go_wp2;go_end0;exact HR.out
theorem Hx.lz(h:Hx b v D n m q w)(x:Pr)(i:0≤x.1)(a:x.1<64)(f:D x.1.toNat=N):re prog 345 #[.iface 224 (J (Z ⟨b,0,N⟩)),.iface 222 (rE #[I U x.1,I U x.2])] w (Ug b v D n x w):=by
 have s:=iP ⟨b,0,N⟩;have t:=kV ⟨b,0,N⟩;have u:=h.room x.1.toNat (by omega) f;have y:=Aa (h.push x i a f);obtain⟨z,A⟩:=x;have K:(n:Int)+1-1=n:=by omega
 clear h i a f;go_enter func345,ntmps345;go_wp2_with(first|(go_at_call 403;refine y.out.mono ?_;rintro e B⟨rfl,g,cap,j,l,o⟩;have p:=Aa j;have C:=Aa l;have r:=Aa o;clear j l o)|(go_at_call 398;refine p.out.len.mono ?_;rintro e L⟨rfl,rfl⟩));refine(RU b g (n+1) cap _ (n+1) (n+1) pz n B p.out (Nat.lt_succ_self _) (Nat.lt_succ_self _) u).mono ?_;rintro e E⟨rfl,c,d⟩;have F:Hid (Ug b v D n (z,A) w (rC (rG #[])) E):=⟨rfl,g,cap,c,C.out.andThen d (fun k M G=>G.elim .inl (fun e=>by have H:g=k:=by{simpa[ru]using e};subst H;exact r.out.elim .inr (fun x=>absurd x (by omega)))),r.out⟩;clear c d;go_wp2;go_end0;exact F.out
theorem Hx.dU(h:Hx b (Y (Z ⟨g,0,N⟩) c cap) D (n+1) i q w)(y:i<n):re prog 404 #[J (Z ⟨b,0,N⟩),I U i,I U n] w (TW b (Y (Z ⟨g,0,N⟩) c cap) D (n+1) n q w):=by
 obtain⟨l,F,s,t,o,u,v⟩:=h.bx;have a:i<l.length:=by omega
 have d:n<l.length:=by omega
 refine(PG b g c cap l F i n w s a d (by omega)).mono ?_;rintro e z⟨rfl,p,x⟩;refine⟨rfl,⟨Jm l i n,J9 F l i n,p,by rw[I2];exact t,?_,?_,?_⟩,x⟩
 ·intro k r
  rw[Fy l i n k a d];by_cases j:k=n
  ·rw[Ai j];exact o i (by omega)
  ·rw[Ah j]
   by_cases m:k=i
   ·rw[Ai m];exact o n (by omega)
   ·rw[Ah m];exact o k r
 ·intro k r f
  unfold J9 at f;by_cases j:k=(l[i]?.getD pz).1.toNat
  ·rw[Ai j]at f;omega
  ·rw[Ah j]at f
   by_cases m:k=(l[n]?.getD pz).1.toNat
   ·rw[Ai m]at f;omega
   ·rw[Ah m]at f;exact u k r f
 ·intro hm
  rw[Fy l i n n a d,Ai rfl];exact v (by omega)
def dV(b g cap:Nat)(c:Nat)(D:Nat→Option Int)(n:Nat)(q:Pr)(w:oZ)(e:rB)(w':oZ):Prop:=(∃v,e=rC v)∧Hx b (Y (Z ⟨g,0,N⟩) n cap) (fun k=>if k=q.1.toNat then N else D k) n n q w'∧Cv (Bf b (Y (Z ⟨g,0,N⟩) c cap)) w w'
theorem Hx.remove(h:Hx b (Y (Z ⟨g,0,N⟩) c cap) D (n+1) i q w)(u:i≤n)(A:n<64):re prog 122 #[.iface 224 (J (Z ⟨b,0,N⟩)),I U i] w (dV b g cap c D n q w):=by
 have B:=iP ⟨b,0,N⟩;have C:=Ya ⟨b,0,N⟩;have E:=nO ⟨b,0,N⟩;have y:=Aa h.len;have M:(n:Int)+1-1=n:=by omega
 have m:=Aa (fun W(f:Hx b (Y (Z ⟨g,0,N⟩) c cap) D (n+1) n q W)=>f.pop A);by_cases e:i=n
 ·subst e
  have o:=Aa h;have F:((i:Int) !=(i:Int))=false:=by simp
  clear h u;go_enter func122,ntmps122;go_wp2_with(first|(go_at_call 398;refine y.out.mono ?_;rintro e G⟨rfl,rfl⟩)|(go_at_call 402;refine(m.out _ o.out).mono ?_;rintro e z⟨⟨v,rfl⟩,a,d⟩;have j:Hid (dV b g cap c D i q w (rC v) z):=⟨⟨_,rfl⟩,a,d⟩;clear a d));go_ret;exact j.out
 ·have F:((n:Int) !=(i:Int))=true:=by simp;omega
  have H:=Aa (h.dU (show i<n by omega));have p:=Aa (fun W(f:Hx b (Y (Z ⟨g,0,N⟩) c cap) D (n+1) n q W)=>PH b g c cap D (n+1) n q i n W f (by omega) (by omega) (by omega) (by omega));have K:=Aa (fun W(f:Hx b (Y (Z ⟨g,0,N⟩) c cap) D (n+1) n q W)=>RU b g c cap D (n+1) n q i W f (by omega) (by omega) (by omega));clear h u e;go_enter func122,ntmps122;go_wp2_with(first|(go_at_call 398;refine y.out.mono ?_;rintro e G⟨rfl,rfl⟩)|(go_at_call 404;refine H.out.mono ?_;rintro e z⟨rfl,a,d⟩;have o:=Aa a;have L:=Aa d;clear a d)|(go_at_call 194;refine(p.out _ o.out).mono ?_;rintro e O⟨x,rfl,a,d⟩;have k:=Aa a;have l:=Aa (L.out.trans d);clear a d))
  ·refine(K.out _ k.out).mono ?_
   rintro e P⟨rfl,a,d⟩;have r:=Aa a;have s:=Aa (l.out.trans d);clear a d;go_wp2_with(first|(go_at_call 402;refine(m.out _ r.out).mono ?_;rintro e t⟨⟨v,rfl⟩,a,d⟩;have j:Hid (dV b g cap c D n q w (rC v) t):=⟨⟨_,rfl⟩,a,s.out.trans d⟩;clear a d));go_ret;exact j.out
  ·refine(m.out _ k.out).mono ?_
   rintro e t⟨⟨v,rfl⟩,a,d⟩;have j:Hid (dV b g cap c D n q w (rC v) t):=⟨⟨_,rfl⟩,a,l.out.trans d⟩;clear a d;go_wp2;go_ret;exact j.out
end
variable {w:oZ} {g n cap b:Nat} {D:Nat→Option Int}
theorem dW(l:List Pr)(y:Int): ∀i,i<l.length→ys (l.set i ((l[i]?.getD pz).1,y))=(ys l).set (i*2+1) (I U y):=by
 induction l with
 |nil=>intro i a;simp at a
 |cons x l b=>
  intro i a;cases i with
  |zero=>simp[ys]
  |succ i=>have h:=b i (by simpa using a);rw[BZ,show(i+1)*2+1=(i*2+1)+1+1 by omega];simp only[Ag,ys];rw[h];simp
theorem Sx{l:List Pr}(h:w.ownsRow 0 222 2 (Y (Z ⟨g,0,N⟩) n cap) l.length (ys l))(i:Nat)(c:i<l.length)(y:Int):(w.setCell ⟨g,i*2+1,N⟩ (I U y)).ownsRow 0 222 2 (Y (Z ⟨g,0,N⟩) n cap) (l.set i ((l[i]?.getD pz).1,y)).length (ys (l.set i ((l[i]?.getD pz).1,y)))∧w.frozen? ⟨g,i*2+1,N⟩=false:=by
 obtain⟨o,⟨d,_⟩|⟨p,a,cur,he,e,f,j,hm,k,m⟩⟩:=h
 ·cases d
 ·simp only[Ar,Ak,BF]at he
  obtain⟨⟨rfl,_⟩,rfl,rfl⟩:=he;have b:Cx w g cur 222:=f;refine⟨⟨by rw[Cw.Mj],.inr ⟨g,cap,_,by rw[AV],e,b.set (i*2+1) (I U y),by rw[AV];exact j,hm,by simpa using k,?_⟩⟩,b.free _⟩;rw[AV,dW l y i c,←m];simp[Zca]
theorem Hx.ji{c:Nat}{i k:Nat}{d:Int}(h:Hx b (Y (Z ⟨g,0,N⟩) c cap) D n i ((k:Int),d) w)(u:i<n)(y:Int):Hx b (Y (Z ⟨g,0,N⟩) c cap) (fun s=>if s=k then Z y else D s) n i ((k:Int),y) (w.setCell ⟨g,i*2+1,N⟩ (I U y))∧w.frozen? ⟨g,i*2+1,N⟩=false:=by
 obtain⟨l,F,f,v,x,z,A⟩:=h.bx;have a:i<l.length:=by omega
 have B:=A u;obtain⟨C,E⟩:=Sx f.row i a y;have r:b≠g:=fun e=>f.ne (by rw[e];rfl);have q:(l[i]?.getD pz).1=k:=by rw[B]
 have p: ∀m,m<l.length→((l.set i ((l[i]?.getD pz).1,y))[m]?.getD pz).1=(l[m]?.getD pz).1:=fun m hm=>by
  rw[As];by_cases e:i=m
  ·subst e;simp[a]
  ·simp[e]
 refine⟨⟨l.set i ((l[i]?.getD pz).1,y),F,⟨f.cs.setOther r _,C,f.ne,fun m hm=>?_,fun m hm=>?_⟩,by simp[v],fun m hm=>?_,fun m hm t=>?_,fun _=>?_⟩,E⟩
 ·simp only[AV]at hm
  rw[p m hm];exact f.at_ m hm
 ·rcases f.idx m hm with G|⟨j,o,a2,a3⟩
  ·exact .inl G
  ·exact .inr ⟨j,o,by simpa using a2,by rw[p j a2];exact a3⟩
 ·rw[p m (by omega)]
  by_cases e:i=m
  ·subst e;rw[Ai (by rw[q];simp)];simp[a]
  ·rw[Ah (fun H=>?_)]
   ·rw[x m hm,As];simp[e]
   ·have o:=f.at_ i a
    have a2:=f.at_ m (by omega);rw[q]at o;simp only[An]at o;rw[H,o.2.2]at a2;omega
 ·rw[Ah (fun e=>?_)]
  ·exact z m hm t
  ·have o:=f.at_ i a
   rw[q]at o;simp only[An]at o;rw[e,o.2.2]at t;omega
 ·rw[q];simp[a]
theorem Hx.c0{v:qY}{m:Nat}{q:Pr}(h:Hx b v D n m q w):w.cell? ⟨b,0,N⟩=Z v:=by obtain⟨l,F,a,_⟩:=h.bx;have:=a.cs.cell (i:=0) (by decide);simpa using this
def dX(b:Nat)(v:qY)(D:Nat→Option Int)(w w':oZ):Prop:= ∃c a m' d,Hx b c D a m' d w'∧a≤m'∧a≤64∧Cv (Bf b v) w w'∧ ∀j,Bf b c j→Bf b v j∨w.heap.size≤j
def IH(D:Nat→Option Int)(k:Nat)(due:Int)(a:Nat):Option Int:=if a=k then(match D k with|none=>Z due|some d=>if due<d then Z due else Z d)else D a
def Uh(b:Nat)(v:qY)(D:Nat→Option Int)(w:oZ)(e:rB)(w':oZ):Prop:=(∃r,e=rC (ry r))∧dX b v D w w'
theorem YV(b:Nat)(v:qY)(D:Nat→Option Int)(n m:Nat)(q:Pr)(k:Nat)(due:Int)(w:oZ)(h:Hx b v D n m q w)(hm:n≤m)(s:n≤64)(C:k<64):re prog 311 #[J (Z ⟨b,0,N⟩),I U k,I U due] w (Uh b v (IH D k due) w):=by
 have S:(k:Int)<64:=by omega
 have d1:decide ((k:Int)<0)=false:=by simp
 have d2:decide (64≤(k:Int))=false:=by simp;omega
 rcases h.YT k C with⟨l,c0⟩|⟨i,g,c,cap,d,rfl,o,rfl,l,ci,F,G,z,H,p⟩
 ·have K:=Aa (h.lz ((k:Int),due) (by simp) (by simp;omega) (by simpa using l))
  have f:=h.room k C l;have r: ∀a,(if a=k then Z due else D a)=IH D k due a:=fun a=>by unfold IH;rw[l]
  have t:=Aa (Ab r f);clear h hm s l r f;go_enter func311,ntmps311;go_wp2_with(first|(go_at_call 345;refine K.out.mono ?_;rintro e A⟨rfl,g,cap,p,u,z⟩;have x:Hid (Uh b v (IH D k due) w (rC (ry rq)) A):=⟨⟨_,rfl⟩,_,_,_,_,p.JI (fun a _=>by simpa using t.out.1 a),Al _,by have:=t.out.2;omega,u,fun j y=>y.elim (fun e=>.inl (.inl e)) (fun e=>by have L:g=j:=by{simpa[ru]using e};subst L;exact z.imp .inr id)⟩;clear p u z));go_ret;exact x.out
 ·have M:=h.c0
  by_cases hdd:due<d
  ·have B:decide (due<d)=true:=by simpa using hdd
   obtain⟨E,T⟩:=p.ji o due;have r: ∀a,(if a=k then Z due else D a)=IH D k due a:=fun a=>by unfold IH;rw[l];simp[hdd]
   have t:=Aa (Ab r s);have O:=Aa (cV b g c cap _ c c pz i _ (E.ly c pz (Al _)) o (Al _) s);have P:((i:Int)== -1)=false:=by rw[Au];omega
   have Q:(i:Int)<(c:Int):=by omega
   have R:Hid (Cv (Bf b (Y (Z ⟨g,0,N⟩) c cap)) w (w.setCell ⟨g,i*2+1,N⟩ (I U due))):=(Cv.refl _ w).set (.inr (.inr rfl)) _ _;clear h hm s l r hdd p E o;go_enter func311,ntmps311;go_wp2_with(first|(go_at_call 346;refine O.out.mono ?_;rintro e A⟨rfl,p,u⟩;have x:Hid (Uh b (Y (Z ⟨g,0,N⟩) c cap) (IH D k due) w (rC (ry rm)) A):=⟨⟨_,rfl⟩,_,_,_,_,p.JI (fun a _=>t.out.1 a),Al _,t.out.2,R.out.trans u,fun j y=>.inl y⟩;clear p u));go_ret;exact x.out
  ·have B:decide (due<d)=false:=by simpa using hdd
   have r: ∀a,D a=IH D k due a:=fun a=>by
    unfold IH;rw[l];simp only[hdd,BH];split
    ·next e=>rw[e,l]
    ·rfl
   have P:((i:Int)== -1)=false:=by rw[Au];omega
   have Q:(i:Int)<(c:Int):=by omega
   have x:Hid (Uh b (Y (Z ⟨g,0,N⟩) c cap) (IH D k due) w (rC (ry rm)) w):=⟨⟨_,rfl⟩,_,_,_,_,h.JI (fun a _=>r a),hm,s,Cv.refl _ _,fun j y=>.inl y⟩;clear h hm s l r hdd p o;go_enter func311,ntmps311;go_wp2;go_ret;exact x.out
def ON(D:Nat→Option Int)(k:Nat)(now:Int)(a:Nat):Option Int:=if a=k then(match D k with|none=>N|some d=>if d≤now then N else Z d)else D a
def Ih(D:Nat→Option Int)(k:Nat)(now:Int):Bool:=match D k with|none=>rm|some d=>decide (d≤now)
def dY(b:Nat)(v:qY)(D:Nat→Option Int)(k:Nat)(now:Int)(w:oZ)(e:rB)(w':oZ):Prop:=e=rC (ry (Ih D k now))∧dX b v (ON D k now) w w'
theorem dZ(b:Nat)(v:qY)(D:Nat→Option Int)(n m:Nat)(q:Pr)(k:Nat)(now:Int)(w:oZ)(h:Hx b v D n m q w)(hm:n≤m)(p:n≤64)(B:k<64):re prog 55 #[J (Z ⟨b,0,N⟩),I U k,I U now] w (dY b v D k now w):=by
 have L:(k:Int)<64:=by omega
 have d1:decide ((k:Int)<0)=false:=by simp
 have d2:decide (64≤(k:Int))=false:=by simp;omega
 rcases h.YT k B with⟨f,c0⟩|⟨i,g,c,cap,d,rfl,s,rfl,f,ci,C,E,M,F,o⟩
 ·have l: ∀a,D a=ON D k now a:=fun a=>by
   unfold ON;rw[f];dsimp only;split
   ·next e=>rw[e,f]
   ·rfl
  have t:Hid (dY b v D k now w (rC (ry rm)) w):=⟨by unfold Ih;rw[f],_,_,_,_,h.JI (fun a _=>l a),hm,p,Cv.refl _ _,fun j u=>.inl u⟩;clear h hm p f l;go_enter func55,ntmps55;go_wp2;go_ret;exact t.out
 ·have G:=h.c0
  have O:((i:Int)== -1)=false:=by rw[Au];omega
  have P:(i:Int)<(c:Int):=by omega
  by_cases hdd:d≤now
  ·have x:decide (now<d)=false:=by simp;omega
   obtain⟨c1,rfl⟩: ∃c1,c=c1+1:=⟨c-1,by omega⟩;have l: ∀a,(if a=k then N else D a)=ON D k now a:=fun a=>by unfold ON;rw[f];simp[hdd]
   have y:Ih D k now=true:=by unfold Ih;rw[f];simpa using hdd
   have z:=Aa (Ab l (show c1≤64 by omega));have H:=Aa (o.remove (by omega) (by omega));unfold dY;rw[y];clear h hm p f l hdd o s y;go_enter func55,ntmps55;go_wp2_with(first|(go_at_call 122;refine H.out.mono ?_;rintro e K⟨⟨r,rfl⟩,o,A⟩;have t:Hid (dX b (Y (Z ⟨g,0,N⟩) (c1+1) cap) (ON D k now) w K):=⟨_,_,_,_,o.JI (fun a _=>by simpa using z.out.1 a),Al _,z.out.2,A,fun j u=>.inl u⟩;clear o A));go_ret;exact⟨rfl,t.out⟩
  ·have x:decide (now<d)=true:=by simp;omega
   have l: ∀a,D a=ON D k now a:=fun a=>by
    unfold ON;rw[f];simp only[hdd,BH];split
    ·next e=>rw[e,f]
    ·rfl
   have t:Hid (dY b (Y (Z ⟨g,0,N⟩) c cap) D k now w (rC (ry rm)) w):=⟨by unfold Ih;rw[f];simp[hdd],_,_,_,_,h.JI (fun a _=>l a),hm,p,Cv.refl _ _,fun j u=>.inl u⟩;clear h hm p f l hdd o s;go_enter func55,ntmps55;go_wp2;go_ret;exact t.out
end Go.Proofs.YtgadhchejmlfjaaGreatDoor.LK
namespace Go.Proofs.YtgadhchejmlfjaaGreatDoor.CX
open Go.Proofs.Tryz Go.RowKit Go.CL
section
theorem KX(l:List (Option Int))(k:Nat):l[k]?.getD N=(l[k]?).join:=by cases l[k]?<;>rfl
theorem YW(l:List (Option Int))(k:Nat)(due:Int)(b:l.length=64)(c:k<64)(a:Nat)(g:a<64):LK.IH (fun k=>(l[k]?).join) k due a=((Kh l k due)[a]?).join:=by
 show(if a=k then(match(l[k]?).join with|none=>Z due|some d=>if due<d then Z due else Z d)else(l[a]?).join)=_
 unfold Kh;rw[KX];generalize h:(l[k]?).join=o;cases o with
 |none=>
  dsimp only;rw[As];by_cases e:a=k
  ·subst e;simp[b,c]
  ·simp[e,BT e]
 |some d=>
  dsimp only;by_cases f:due<d
  ·simp only[f,BM]
   rw[As];by_cases e:a=k
   ·subst e;simp[b,c]
   ·simp[e,BT e]
  ·simp only[f,BH]
   by_cases e:a=k
   ·rw[Ai e,e,h]
   ·rw[Ah e]
theorem VN(l:List (Option Int))(k:Nat)(due:Int):(Kh l k due).length=l.length:=by
 unfold Kh;split
 ·simp
 ·split<;>simp
theorem et(l:List (Option Int))(k:Nat)(now:Int):LK.Ih (fun k=>(l[k]?).join) k now=Ih l k now:=by
 show(match(l[k]?).join with|none=>rm|some d=>decide (d≤now))=_
 unfold Ih;rw[KX];rfl
theorem eu(l:List (Option Int))(k:Nat)(now:Int)(f:l.length=64)(g:k<64)(a:Nat)(h:a<64):LK.ON (fun k=>(l[k]?).join) k now a=((Ki l k now)[a]?).join:=by
 show(if a=k then(match(l[k]?).join with|none=>N|some d=>if d≤now then N else Z d)else(l[a]?).join)=_
 unfold Ki Ih;rw[KX];generalize b:(l[k]?).join=o;cases o with
 |none=>
  dsimp only;by_cases e:a=k
  ·rw[Ai e,e];simp[b]
  ·rw[Ah e];simp
 |some d=>
  dsimp only;by_cases c:d≤now
  ·simp only[c,decide_true,BM]
   rw[As];by_cases e:a=k
   ·subst e;simp[f,g]
   ·simp[e,BT e]
  ·simp only[c,decide_false,BH]
   by_cases e:a=k
   ·rw[Ai e,e];simp[b]
   ·rw[Ah e];simp
theorem YX(l:List (Option Int))(k:Nat)(now:Int):(Ki l k now).length=l.length:=by unfold Ki;split<;>simp
section
variable {mb:Nat} {V:Vr} {own:Nat→Nat} {w:oZ} {s:St}
theorem CC.lA(h:CC mb V own w s){v:qY}{D:Nat→Option Int}{l:List (Option Int)}{w':oZ}(c: ∀j,LK.Bf V.box v j→own j=11) (m:l.length=64) (n: ∀k,k<64→D k=(l[k]?).join) (o:LK.dX V.box v D w w'): ∃a,CC mb V a w' {s with box:=l}∧Ext own w a w':=by obtain⟨f,p,m',q,g,r,a2,d,u⟩:=o;obtain⟨a,i,y,z,A⟩:=tagged (t:=11) (S':=LK.Bf V.box f) d.size h.fresh (fun j b=>g.lt b) (fun j b B=>(u j b).elim (c j) (fun x=>by omega));exact⟨a,(h.turn (x:=11) (.inl rfl) d (fun j b=>by rw[c j b];rfl) (by decide) i (fun j b=>(z j b).imp id (fun e=>by rw[e];decide)) A).jb l ⟨f,p,m',q,g.JI n,r,a2,m,y⟩,d.mono (fun j _ b=>by rw[c j b];decide),i⟩
def lB(mb:Nat)(V:Vr)(own:Nat→Nat)(w:oZ)(s':St)(e:rB)(w':oZ):Prop:=(∃r,e=rC (ry r))∧ ∃a,CC mb V a w' s'∧Ext own w a w'
theorem CC.send(h:CC mb V own w s)(k:Nat)(b:k<64)(due:Int):re prog 311 #[ptr V.box,I U k,I U due] w (lB mb V own w {s with box:=Kh s.box k due}):=by obtain⟨v,n,m,q,c,d,a2,a3,f⟩:=h.box (by decide);refine(LK.YV _ v _ n m q k due w c d a2 b).mono ?_;rintro e j⟨⟨r,rfl⟩,g⟩;exact⟨⟨r,rfl⟩,h.lA f ((VN _ _ _).trans a3) (fun i a=>YW _ k due a3 b i a) g⟩
theorem CC.due(h:CC mb V own w s)(k:Nat)(b:k<64)(now:Int):re prog 55 #[ptr V.box,I U k,I U now] w (Da mb V own w (ry (Ih s.box k now)) {s with box:=Ki s.box k now}):=by obtain⟨v,n,m,q,c,d,a2,a3,f⟩:=h.box (by decide);refine(LK.dZ _ v _ n m q k now w c d a2 b).mono ?_;rintro e j⟨rfl,g⟩;rw[et];exact⟨rfl,h.lA f ((YX _ _ _).trans a3) (fun i a=>eu _ k now a3 b i a) g⟩
end
end
open Cw (Pr pz)
open Vm (CN)
section
variable {mb:Nat} {V:Vr} {own:Nat→Nat} {w:oZ} {s:St}
variable {w:oZ} {gb:Nat→Nat} {sv:qY}
theorem CC.D2(h:CC mb V own w s):Cx w mb (Dz V s.sc) 121:=h.IC (by decide)
theorem CC.Nc(h:CC mb V own w s):mb<w.heap.size:=h.D2.lt
theorem CC.EX(h:CC mb V own w s)(k:Nat):w.frozen? ⟨mb,k,N⟩=false:=h.D2.free k
theorem CC.c0(h:CC mb V own w s):w.cell? ⟨mb,0,N⟩=Z (ptr V.procs):=h.D2.cell 0
theorem CC.c1(h:CC mb V own w s):w.cell? ⟨mb,1,N⟩=Z (V.Gb):=h.D2.cell 1
theorem CC.c3(h:CC mb V own w s):w.cell? ⟨mb,3,N⟩=Z (I U s.sc.cg):=h.D2.cell 3
theorem CC.c4(h:CC mb V own w s):w.cell? ⟨mb,4,N⟩=Z (I U s.sc.Ga):=h.D2.cell 4
theorem CC.c5(h:CC mb V own w s):w.cell? ⟨mb,5,N⟩=Z (V.Lu):=h.D2.cell 5
theorem CC.c6(h:CC mb V own w s):w.cell? ⟨mb,6,N⟩=Z (V.Mz):=h.D2.cell 6
theorem CC.c7(h:CC mb V own w s):w.cell? ⟨mb,7,N⟩=Z (V.ED):=h.D2.cell 7
theorem CC.c8(h:CC mb V own w s):w.cell? ⟨mb,8,N⟩=Z (ptr V.stat):=h.D2.cell 8
theorem CC.c9(h:CC mb V own w s):w.cell? ⟨mb,9,N⟩=Z (ptr V.all):=h.D2.cell 9
theorem CC.Ui(h:CC mb V own w s):w.cell? ⟨mb,10,N⟩=Z (ptr V.GG):=h.D2.cell 10
theorem CC.RA(h:CC mb V own w s):w.cell? ⟨mb,11,N⟩=Z (ptr V.FC):=h.D2.cell 11
theorem CC.RB(h:CC mb V own w s):w.cell? ⟨mb,12,N⟩=Z (ptr V.CA):=h.D2.cell 12
theorem CC.kC(h:CC mb V own w s):w.cell? ⟨mb,13,N⟩=Z (ptr V.box):=h.D2.cell 13
theorem CC.od(h:CC mb V own w s):w.cell? ⟨mb,14,N⟩=Z (I U s.sc.pick):=h.D2.cell 14
theorem CC.kD(h:CC mb V own w s):w.cell? ⟨mb,15,N⟩=Z (I U s.sc.Ey):=h.D2.cell 15
theorem CC.gS(h:CC mb V own w s):w.cell? ⟨mb,16,N⟩=Z (I U s.sc.draw):=h.D2.cell 16
theorem CC.YY(h:CC mb V own w s):w.cell? ⟨mb,17,N⟩=Z (I U s.sc.now):=h.D2.cell 17
theorem CC.JY(h:CC mb V own w s):w.cell? ⟨mb,18,N⟩=Z (ry s.sc.Cy):=h.D2.cell 18
theorem CC.VO(h:CC mb V own w s):w.cell? ⟨mb,19,N⟩=Z (I U s.sc.wait):=h.D2.cell 19
theorem CC.Jr(h:CC mb V own w s):w.cell? ⟨mb,20,N⟩=Z (Eb V.CP s.sc.CD):=h.D2.cell 20
theorem CC.ev(h:CC mb V own w s):w.cell? ⟨mb,21,N⟩=Z (I U s.sc.kind):=h.D2.cell 21
theorem CC.ew(h:CC mb V own w s):w.cell? ⟨mb,22,N⟩=Z (I U s.sc.eg):=h.D2.cell 22
theorem CC.eA(h:CC mb V own w s):w.cell? ⟨mb,23,N⟩=Z (I U s.sc.JW):=h.D2.cell 23
theorem CC.YZ(h:CC mb V own w s):w.cell? ⟨mb,24,N⟩=Z (I U s.sc.JX):=h.D2.cell 24
theorem CC.eB(h:CC mb V own w s):w.cell? ⟨mb,25,N⟩=Z (I U s.sc.en):=h.D2.cell 25
theorem CC.eC(h:CC mb V own w s):w.cell? ⟨mb,26,N⟩=Z (ry s.sc.seen):=h.D2.cell 26
end
theorem OO{w:oZ}{mb:Nat}{V:Vr}{c:Sc}(h:Cx w mb (Dz V c) 121)(u:Bool):Cx (w.setCell ⟨mb,18,N⟩ (ry u)) mb (Dz V {c with Cy:=u}) 121:=h.set 18 _
theorem NK{w:oZ}{mb:Nat}{V:Vr}{c:Sc}(h:Cx w mb (Dz V c) 121)(u:Int):Cx (w.setCell ⟨mb,19,N⟩ (I U u)) mb (Dz V {c with wait:=u}) 121:=h.set 19 _
theorem Qh{w:oZ}{mb:Nat}{V:Vr}{c:Sc}(h:Cx w mb (Dz V c) 121)(u:Int):Cx (w.setCell ⟨mb,20,N⟩ (Eb V.CP u)) mb (Dz V {c with CD:=u}) 121:=h.set 20 _
section
variable {mb:Nat} {V:Vr} {own:Nat→Nat} {w:oZ} {s:St} {j:Nat} {y:M1} {xb:Nat}
theorem Cz{α:Type}{l:List α}{i:Nat}{x:α}(h:l[i]?=Z x):i<l.length:=(Af.1 h).1
theorem CC.bZ(h:CC mb V own w s)(a:own xb=22+5*j)(b:s.ms[j]?=Z y):xb=V.DP j:=h.ux j (Cz b) xb a
theorem CC.CW(h:CC mb V own w s)(b:own xb=22+5*j)(a:s.ms[j]?=Z y):Cx w xb (C8 V.CP j y) 125:=by have:=h.ms (by decide) j (Cz a);rw[a]at this;rw[h.bZ b a];exact this
theorem CC.xg(h:CC mb V own w s)(a:s.ms[j]?=Z y):0≤y.g∧y.g≤s.gs.length:=by have:=h.mg j (Cz a);rw[a]at this;exact this
theorem CC.gT(h:CC mb V own w s)(a:own xb=22+5*j): ¬xb=mb∧ ¬mb=xb:=by have:=h.om;constructor<;>(rintro rfl;omega)
theorem nk{gb:Nat→Nat}(h:Cx w xb (C8 gb j y) 125):w.cell? ⟨xb,0,N⟩=Z (I U j):=h.cell 0
theorem Lz{gb:Nat→Nat}(h:Cx w xb (C8 gb j y) 125):w.cell? ⟨xb,1,N⟩=Z (I U y.p):=h.cell 1
theorem RC{gb:Nat→Nat}(h:Cx w xb (C8 gb j y) 125):w.cell? ⟨xb,2,N⟩=Z (Eb gb y.g):=h.cell 2
theorem VP{gb:Nat→Nat}(h:Cx w xb (C8 gb j y) 125):w.cell? ⟨xb,3,N⟩=Z (I U y.phase):=h.cell 3
theorem nt{gb:Nat→Nat}(h:Cx w xb (C8 gb j y) 125):w.cell? ⟨xb,4,N⟩=Z (ry y.CR):=h.cell 4
theorem nu{gb:Nat→Nat}(h:Cx w xb (C8 gb j y) 125):w.cell? ⟨xb,5,N⟩=Z (I U y.used):=h.cell 5
theorem pS{gb:Nat→Nat}(h:Cx w xb (C8 gb j y) 125):w.cell? ⟨xb,7,N⟩=Z (I U y.looks):=h.cell 7
theorem jk{gb:Nat→Nat}(h:Cx w xb (C8 gb j y) 125)(u:Int):Cx (w.setCell ⟨xb,1,N⟩ (I U u)) xb (C8 gb j {y with p:=u}) 125:=h.set 1 _
theorem MI{gb:Nat→Nat}(h:Cx w xb (C8 gb j y) 125)(u:Int):Cx (w.setCell ⟨xb,3,N⟩ (I U u)) xb (C8 gb j {y with phase:=u}) 125:=h.set 3 _
theorem Sy{gb:Nat→Nat}(h:Cx w xb (C8 gb j y) 125)(u:Bool):Cx (w.setCell ⟨xb,4,N⟩ (ry u)) xb (C8 gb j {y with CR:=u}) 125:=h.set 4 _
theorem VQ{gb:Nat→Nat}(h:Cx w xb (C8 gb j y) 125)(u:Int):Cx (w.setCell ⟨xb,5,N⟩ (I U u)) xb (C8 gb j {y with used:=u}) 125:=h.set 5 _
theorem Sz{gb:Nat→Nat}(h:Cx w xb (C8 gb j y) 125)(u:Int):Cx (w.setCell ⟨xb,7,N⟩ (I U u)) xb (C8 gb j {y with looks:=u}) 125:=h.set 7 _
theorem Y0{gb:Nat→Nat}(h:Cx w xb (C8 gb j y) 125):Cx (w.setCell ⟨xb,2,N⟩ (J N)) xb (C8 gb j {y with g:=0}) 125:=h.set 2 _
end
section
variable {mb:Nat} {V:Vr} {own:Nat→Nat} {w:oZ} {s:St} {i:Nat} {x:G} {b:Nat}
theorem CC.cA(h:CC mb V own w s)(a:own b=20+5*i)(c:s.gs[i]?=Z x):b=V.CP i:=h.ug i (Cz c) b a
theorem CC.Hi(h:CC mb V own w s)(c:own b=20+5*i)(a:s.gs[i]?=Z x):nh own w b i x:=by have:=h.gs (by decide) i (Cz a);rw[a]at this;rw[h.cA c a];exact this
theorem kE{sv:qY}(h:Cx w b (Du i sv x) 130):w.cell? ⟨b,0,N⟩=Z (I U ((i:Int)+1)):=h.cell 0
theorem lC{sv:qY}(h:Cx w b (Du i sv x) 130):w.cell? ⟨b,1,N⟩=Z (I U x.word):=h.cell 1
theorem pT{sv:qY}(h:Cx w b (Du i sv x) 130):w.cell? ⟨b,2,N⟩=Z (I U x.fn):=h.cell 2
theorem pU{sv:qY}(h:Cx w b (Du i sv x) 130):w.cell? ⟨b,3,N⟩=Z (I U x.Dt):=h.cell 3
theorem oe{sv:qY}(h:Cx w b (Du i sv x) 130):w.cell? ⟨b,16,N⟩=Z (ry x.CA):=h.cell 16
theorem lD{sv:qY}(h:Cx w b (Du i sv x) 130):w.cell? ⟨b,17,N⟩=Z (ry x.begun):=h.cell 17
theorem jl{sv:qY}(h:Cx w b (Du i sv x) 130):w.cell? ⟨b,18,N⟩=Z (I U x.C9):=h.cell 18
theorem VR{sv:qY}(h:Cx w b (Du i sv x) 130)(u:Int):Cx (w.setCell ⟨b,1,N⟩ (I U u)) b (Du i sv {x with word:=u}) 130:=h.set 1 _
theorem VS{sv:qY}(h:Cx w b (Du i sv x) 130)(u:Bool):Cx (w.setCell ⟨b,16,N⟩ (ry u)) b (Du i sv {x with CA:=u}) 130:=h.set 16 _
theorem SA{sv:qY}(h:Cx w b (Du i sv x) 130)(u:Bool):Cx (w.setCell ⟨b,17,N⟩ (ry u)) b (Du i sv {x with begun:=u}) 130:=h.set 17 _
theorem SB{sv:qY}(h:Cx w b (Du i sv x) 130)(u:Int):Cx (w.setCell ⟨b,18,N⟩ (I U u)) b (Du i sv {x with C9:=u}) 130:=h.set 18 _
end
end Go.Proofs.YtgadhchejmlfjaaGreatDoor.CX
