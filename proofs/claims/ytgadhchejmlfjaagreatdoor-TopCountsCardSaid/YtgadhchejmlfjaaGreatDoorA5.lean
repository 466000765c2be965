/- A part of the proof. -/
import Derived.Test.YtgadhchejmlfjaaGreatDoorA1
import Derived.Test.YtgadhchejmlfjaaGreatDoorA3
import Derived.Test.YtgadhchejmlfjaaGreatDoorA4
set_option linter.unusedVariables false
set_option maxRecDepth 20000
set_option maxHeartbeats 16000000
open Go.Value renaming int->I,pointer->J,slice->Y
open Go.IntKind renaming i64->U
open Option renaming none->N,some->Z
open Bool renaming false->tY,true->tZ
open Go renaming Calls->tT,Ending->uh,Value->tR,World->rO
open Go.Ending renaming returned->ui
open Go.Obj renaming cells->uj
open Go.RowKit.Below renaming refl->tU
open Go.Value renaming bool->ue,tuple->uo
open List renaming replicate->tW
open Go.Proofs.Tryz Go.RowKit Go.CN
namespace Go.Proofs.YtgadhchejmlfjaaGreatDoor
namespace C2
section
open Cx (Pr pz)
open Vm (CP)
variable {S:Nat->Prop}{w w':rO}{t y x mb i:Nat}{own C8:Nat->Nat}
structure Fn where
 code:List CP
 safe:List Bool
structure G where
 word:Int
 fn:Int
 Dr:Int
 CO:List Int
 done:Bool
 blocked:Bool
 token:Bool
 CA:Bool
 begun:Bool
 Db:Int
 stack:List (Int×Int)
structure M1 where
 p:Int
 g:Int
 phase:Int
 CU:Bool
 used:Int
 left:Int
 looks:Int
structure Pc where
 pre:Bool
 Eo:Bool
 count:Int
structure Rs where
 CI:Int
 row:List Int
structure Sc where
 qB:Int
 G2:Int
 Gq:Int
 pick:Int
 EC:Int
 draw:Int
 now:Int
 Cz:Bool
 wait:Int
 CF:Int
 kind:Int
 eg:Int
 Kl:Int
 Km:Int
 en:Int
 seen:Bool
structure St where
 funcs:List Fn
 sc:Sc
 gs:List G
 ms:List M1
 asked:List Pc
 rings:List Rs
 stat:List Pr
 all:List Int
 CL:List Int
 CD:List Int
 owner:Int
 waits:List Int
 box:List (Option Int)
variable {s:St}
def g0:G:=⟨0,0,0,[],tY,tY,tY,tY,tY,0,[]⟩
def m0:M1:=⟨0,0,0,tY,0,0,0⟩
def p0:Pc:=⟨tY,tY,0⟩
def r0:Rs:=⟨0,[]⟩
def rX:Fn:=⟨[],[]⟩
def i0:CP:=⟨0,0,0,0,0⟩
structure Vr where
 procs:Nat
 stat:Nat
 all:Nat
 GQ:Nat
 FM:Nat
 CA:Nat
 box:Nat
 LB:tR
 MP:tR
 EG:tR
 Gt:tR
 CR:Nat->Nat
 DR:Nat->Nat
 GJ:Nat->Nat
variable {A B C V:Vr}
@[reducible] def ptr(b:Nat):Value:=J (Z ⟨b,0,N⟩)
@[reducible] def Ej(gb:Nat->Nat)(id:Int):Value:=if id=0 then J N else J (Z ⟨gb (id-1).toNat,0,N⟩)
def DE(V:Vr)(c:Sc):Array Value:=#[ptr V.procs,V.Gt,I U c.qB,I U c.G2,I U c.Gq,V.LB,V.MP,V.EG,ptr V.stat,ptr V.all,ptr V.GQ,ptr V.FM,ptr V.CA,ptr V.box,I U c.pick,I U c.EC,I U c.draw,I U c.now,ue c.Cz,I U c.wait,Ej V.CR c.CF,I U c.kind,I U c.eg,I U c.Kl,I U c.Km,I U c.en,ue c.seen]
def Da(gb:Nat->Nat)(j:Nat)(y:M1):Array Value:=#[I U j,I U y.p,Ej gb y.g,I U y.phase,ue y.CU,I U y.used,I U y.left,I U y.looks]
def rg(x:G)(k:Nat):Int:=x.CO[k]?.getD 0
def Dy(i:Nat)(sv:tR)(x:G):Array Value:=#[I U ((i:Int)+1),I U x.word,I U x.fn,I U x.Dr,I U (rg x 0),I U (rg x 1),I U (rg x 2),I U (rg x 3),I U (rg x 4),I U (rg x 5),I U (rg x 6),I U (rg x 7),sv,ue x.done,ue x.blocked,ue x.token,ue x.CA,ue x.begun,I U x.Db]
def EU:List Pc->List tR
 | []=>[]
 |x::l=>[ue x.pre,ue x.Eo,I U x.count]++EU l
theorem MQ(l:List Pc):(EU l).length=l.length*3:=by
 induction l with
 |nil=>rfl
 |cons x l a=>simp[EU,a];omega
theorem OY(l:List Pc): ∀i,i<l.length->(EU l)[i*3]?=Z (ue (l[i]?.getD p0).pre)/\(EU l)[i*3+1]?=Z (ue (l[i]?.getD p0).Eo)/\(EU l)[i*3+2]?=Z (I U (l[i]?.getD p0).count):=by
 induction l with
 |nil=>intro i a;simp at a
 |cons x l b=>
  intro i a;cases i with
  |zero=>simp[EU]
  |succ i=>have:=b i (by simpa using a);rw[show(i+1)*3=(i*3)+1+1+1 by omega];simpa[EU]using this
def Hf(w:rO)(v:tR)(l:List Pc):Prop:= ∃g cap cs,v=Y (Z ⟨g,0,N⟩) l.length cap/\Cy w g cs 139/\l.length<=cap/\cap*3<=cs.size/\cap<=maxLen/\(cap*3=cs.size\/cap=l.length)/\cs.toList.take (l.length*3)=EU l
theorem Hf.only{v:tR}{l:List Pc}(h:Hf w v l)(o:Cw S w w')(a:Hs S v):Hf w' v l:=by obtain⟨g,cap,cs,rfl,b,r⟩:=h;exact⟨g,cap,cs,rfl,b.only o (a g rfl),r⟩
def G3(n:Nat)(f:Nat->Nat):List Value:=(List.range n).map λi=>ptr (f i)
theorem UD(n:Nat)(f:Nat->Nat)(i:Nat)(h:i<n):(G3 n f)[i]?.getD undef=ptr (f i):=by simp[G3,h]
theorem Kn(n:Nat)(f:Nat->Nat):(G3 n f).length=n:=by simp[G3]
theorem N1(n:Nat)(f:Nat->Nat):G3 (n+1) f=G3 n f++[ptr (f n)]:=by simp[G3,Cc]
theorem MR(n:Nat){f g:Nat->Nat}(h: ∀i,i<n->f i=g i):G3 n f=G3 n g:=by unfold G3;exact Cp λi a=>by rw[h i (BZ.1 a)]
def kind(t:Nat):Nat:=if t<20 then t else if(t-20)%5<=1 then 12 else if(t-20)%5=2 then 13 else 5
theorem H7(h:t<20):kind t=t:=by unfold kind;rw[Ai h]
theorem OZ(i:Nat):kind (20+5*i)=12:=by unfold kind;rw[Ah (by omega),Ai (by omega)]
theorem O0(i:Nat):kind (22+5*i)=13:=by unfold kind;rw[Ah (by omega),Ah (by omega),Ai (by omega)]
theorem O1(i:Nat):kind (23+5*i)=5:=by unfold kind;rw[Ah (by omega),Ah (by omega),Ah (by omega)]
theorem O3(i:Nat):kind (24+5*i)=5:=by unfold kind;rw[Ah (by omega),Ah (by omega),Ah (by omega)]
structure qC (own:Nat->Nat) (w:rO) (pb po k:Nat) (f:Fn):Prop where
 at_: ∃cb co cc sb so sc,w.cell? ⟨pb,po+k*2,N⟩=Z (Y (Z ⟨cb,co,N⟩) f.code.length cc)/\w.cell? ⟨pb,po+k*2+1,N⟩=Z (Y (Z ⟨sb,so,N⟩) f.safe.length sc)/\
  cb<w.heap.size/\sb<w.heap.size/\own cb=14/\own sb=14/\
  (∀i,i<f.code.length->w.cell? ⟨cb,co+i*5,N⟩=Z (I U (f.code[i]?.getD i0).op)/\w.cell? ⟨cb,co+i*5+1,N⟩=Z (I U (f.code[i]?.getD i0).a)/\w.cell? ⟨cb,co+i*5+2,N⟩=Z (I U (f.code[i]?.getD i0).b)/\w.cell? ⟨cb,co+i*5+3,N⟩=Z (I U (f.code[i]?.getD i0).c)/\w.cell? ⟨cb,co+i*5+4,N⟩=Z (I U (f.code[i]?.getD i0).n))/\
  (∀i,i<f.safe.length->w.cell? ⟨sb,so+i,N⟩=Z (ue (f.safe[i]?.getD tY)))
def Pg(own:Nat->Nat)(w:rO)(pv:tR)(l:List Fn):Prop:= ∃a b c,pv=Y (Z ⟨a,b,N⟩) l.length c/\a<w.heap.size/\own a=14/\ ∀k,k<l.length->qC own w a b k (l[k]?.getD rX)
structure Qw (own ri:Nat->Nat) (w:rO) (p:Nat) (rv:tR) (R:Nat->CZ.Rn) (l:List Rs):Prop where
 Ff:CZ.Hq w p rv l.length R
 is: ∀i,i<l.length->(R i).CI=(l[i]?.getD r0).CI/\(R i).row=(l[i]?.getD r0).row
 op:own p=5
 mQ: ∀j,rv.ownBlock=Z j->own j=5
 ob: ∀i,i<l.length->own (R i).b=23+5*ri i
 og: ∀i,i<l.length->own (R i).g=24+5*ri i
 ub: ∀i,i<l.length-> ∀b,own b=23+5*ri i->b=(R i).b
def pP(own:Nat->Nat)(w:rO)(b:Nat)(l:List (Option Int)):Prop:= ∃v n m q,LZ.Hx b v (λk=>(l[k]?).join) n m q w/\n<=m/\n<=64/\l.length=64/\(∀j,LZ.Bf b v j->own j=11)
def Hu(own:Nat->Nat)(w:rO)(l:List (Int×Int))(sv:tR):Prop:=l.length<=16/\Vm.Hu w 0 sv l/\(l≠[]-> ∀j,sv.ownBlock=Z j->own j=14)
theorem Hu.turn{l:List (Int×Int)}{sv:tR}(h:Hu own w l sv)(o:Cw S w w')(k: ∀j,S j->own j≠14) (he: ∀j,j<w.heap.size->C8 j=own j):Hu C8 w' l sv:=by
 obtain⟨f,a,i⟩:=h;by_cases c:l=[]
 ·subst c
  refine⟨f,?_,λh=>absurd rfl h⟩;rcases a with a|⟨g,cap,d,-,e,m,-⟩
  ·exact .inl a
  ·exact .inr ⟨g,cap,d,Ap _,An e o.size,m,λj u b=>by simp[Vm.LW]at b⟩
 ·refine⟨f,a.only o (λj b n=>k j n (i c j b)),λ_ j b=>?_⟩
  rcases a with⟨-,a⟩|⟨g,cap,d,-,e,-⟩
  ·exact absurd a c
  ·rw[d]at b;cases b;rw[he g e];exact i c g (by rw[d];rfl)
structure pQ (own:Nat->Nat) (w:rO) (b i:Nat) (x:G):Prop where
 len:x.CO.length=8
 wd:D9.Dt x.word
 Dj: ∃sv,Cy w b (Dy i sv x) 130/\Hu own w x.stack sv
structure D4 (x:Nat) (mb:Nat) (V:Vr) (own:Nat->Nat) (w:rO) (s:St):Prop where
 fresh: ∀j,w.heap.size<=j->own j=0
 om:own mb=1
 prog:Pg own w V.Gt s.funcs
 laid:D3.Laid w/\own 0=14
 hold:0<=s.sc.CF/\s.sc.CF<=s.gs.length
 L1:x≠2->GM w 0 119 1 V.LB s.gs.length (G3 s.gs.length V.CR)/\ ∀j,V.LB.ownBlock=Z j->own j=2
 L8:x≠3->GM w 0 123 1 V.MP s.ms.length (G3 s.ms.length V.DR)/\ ∀j,V.MP.ownBlock=Z j->own j=3
 EO:x≠4->Hf w V.EG s.asked/\ ∀j,V.EG.ownBlock=Z j->own j=4
 IK:x≠1->Cy w mb (DE V s.sc) 121
 rings:x≠5-> ∃rv R,Qw own V.GJ w V.procs rv R s.rings
 stat:x≠6-> ∃tv,Cx.Tb w V.stat tv s.stat/\ ∀j,Cx.Tf V.stat tv j->own j=6
 all:x≠7-> ∃S,C4.Queue w V.all S s.all/\ ∀j,S j->own j=7
 GQ:x≠8-> ∃g,Idle.St w V.GQ g 64 s.CL/\ ∀j,Idle.GO V.GQ g j->own j=8
 FM:x≠9-> ∃g,Idle.St w V.FM g 256 s.CD/\ ∀j,Idle.GO V.FM g j->own j=9
 CA:x≠10-> ∃v,Dg.Sm w V.CA s.owner v s.waits/\ ∀j,Dg.Sf V.CA v j->own j=10
 box:x≠11->pP own w V.box s.box
 gs:x≠12-> ∀i,i<s.gs.length->pQ own w (V.CR i) i (s.gs[i]?.getD g0)
 ms:x≠13-> ∀j,j<s.ms.length->Cy w (V.DR j) (Da V.CR j (s.ms[j]?.getD m0)) 125
 mg: ∀j,j<s.ms.length->0<=(s.ms[j]?.getD m0).g/\(s.ms[j]?.getD m0).g<=s.gs.length
 og: ∀i,i<s.gs.length->own (V.CR i)=20+5*i
 ug: ∀i,i<s.gs.length-> ∀b,own b=20+5*i->b=V.CR i
 ox: ∀j,j<s.ms.length->own (V.DR j)=22+5*j
 ux: ∀j,j<s.ms.length-> ∀b,own b=22+5*j->b=V.DR j
 lg: ∀b i,own b=20+5*i->i<s.gs.length
 lx: ∀b i,own b=22+5*i->i<s.ms.length
 Hb:s.gs.length<=64/\s.ms.length<=64/\s.rings.length<=256
abbrev CE:=D4 0
structure Ext (own:Nat->Nat) (w:rO) (C8:Nat->Nat) (w':rO):Prop where
 only:Cw (λj=>own j≠0/\own j≠14) w w'
 same: ∀j,j<w.heap.size->C8 j=own j
theorem Ext.refl(own:Nat->Nat)(w:rO):Ext own w own w:=⟨Cw.refl _ _,λ_ _=>rfl⟩
theorem Ext.trans{o1 o2 b:Nat->Nat}{w1 w2 c:rO}(h:Ext o1 w1 o2 w2)(k:Ext o2 w2 b c):Ext o1 w1 b c:=⟨h.only.andThen k.only (λj a d=>by rw[h.same j a]at d;exact d),λj a=>(k.same j (An a h.only.size)).trans (h.same j a)⟩
structure Fw (V V':Vr):Prop where
 procs:V'.procs=V.procs
 stat:V'.stat=V.stat
 all:V'.all=V.all
 GQ:V'.GQ=V.GQ
 FM:V'.FM=V.FM
 CA:V'.CA=V.CA
 box:V'.box=V.box
 Gt:V'.Gt=V.Gt
theorem Fw.refl(V:Vr):Fw V V:=⟨rfl,rfl,rfl,rfl,rfl,rfl,rfl,rfl⟩
theorem Fw.trans(h:Fw A B)(k:Fw B C):Fw A C:=⟨k.procs.trans h.procs,k.stat.trans h.stat,k.all.trans h.all,k.GQ.trans h.GQ,k.FM.trans h.FM,k.CA.trans h.CA,k.box.trans h.box,k.Gt.trans h.Gt⟩
structure Fx (V V':Vr):Prop extends Fw V V' where
 LB:V'.LB=V.LB
 CR:V'.CR=V.CR
theorem Fx.refl(V:Vr):Fx V V:=⟨Fw.refl V,rfl,rfl⟩
theorem Fx.trans(h:Fx A B)(k:Fx B C):Fx A C:=⟨h.toFw.trans k.toFw,k.LB.trans h.LB,k.CR.trans h.CR⟩
def Ge(mb:Nat)(V:Vr)(own:Nat->Nat)(w:rO)(r:tR)(s':St)(e:uh)(w':rO):Prop:=e=ui r/\ ∃a C8,CE mb a C8 w' s'/\Ext own w C8 w'/\Fx V a
def Ze(mb:Nat)(V:Vr)(own:Nat->Nat)(w:rO)(r:tR)(s':St)(e:uh)(w':rO):Prop:=e=ui r/\ ∃a C8,CE mb a C8 w' s'/\Ext own w C8 w'/\Fw V a
def Dd(mb:Nat)(V:Vr)(own:Nat->Nat)(w:rO)(r:tR)(s':St)(e:uh)(w':rO):Prop:=e=ui r/\ ∃C8,CE mb V C8 w' s'/\Ext own w C8 w'
theorem Pg.turn{pv:tR}{l:List Fn}(h:Pg own w pv l)(o:Cw S w w')(p: ∀j,S j->own j≠14) (he: ∀j,j<w.heap.size->C8 j=own j):Pg C8 w' pv l:=by obtain⟨a,q,r,s,c,e,t⟩:=h;have d: ∀b i,b<w.heap.size->own b=14->w'.cell? ⟨b,i,N⟩=w.cell? ⟨b,i,N⟩:=λb i u v=>AK (o.block b u (λx=>p b x v));refine⟨a,q,r,s,An c o.size,by rw[he a c];exact e,λk y=>?_⟩;obtain⟨f,co,z,g,A,sc,B,a2,a3,a4,a5,n,C,D⟩:=(t k y).at_;refine⟨f,co,z,g,A,sc,(d a _ c e).trans B,(d a _ c e).trans a2,An a3 o.size,An a4 o.size,by rw[he f a3];exact a5,by rw[he g a4];exact n,λi m=>?_,λi m=>(d g _ a4 n).trans (D i m)⟩;simp only[d f _ a3 a5];exact C i m
theorem Qw.turn{ri:Nat->Nat}{p:Nat}{e:tR}{R:Nat->CZ.Rn}{l:List Rs}(h:Qw own ri w p e R l)(o:Cw S w w')(k: ∀j,S j->kind (own j)≠5) (he: ∀j,j<w.heap.size->C8 j=own j) (m: ∀j,w.heap.size<=j->kind (C8 j)≠5):Qw C8 ri w' p e R l:=by
 have n: ∀j,CZ.Pf p e l.length R j->kind (own j)=5:=by
  rintro j(rfl|c|⟨i,d,c|c⟩)
  ·rw[h.op];rfl
  ·rw[h.mQ j c];rfl
  ·rw[c,h.ob i d,O1]
  ·rw[c,h.og i d,O3]
 have a: ∀j,CZ.Pf p e l.length R j->C8 j=own j:=λj c=>he j (h.Ff.lt c);refine⟨h.Ff.only o (λj c q=>k j q (n j c)),h.is,(a _ (.inl rfl)).trans h.op,λj c=>(a j (.inr (.inl c))).trans (h.mQ j c),λi d=>(a _ (.inr (.inr ⟨i,d,.inl rfl⟩))).trans (h.ob i d),λi d=>(a _ (.inr (.inr ⟨i,d,.inr rfl⟩))).trans (h.og i d),λi d b f=>?_⟩;rcases Bc b w.heap.size with a|g
 ·rw[he b a]at f;exact h.ub i d b f
 ·exact absurd (by rw[f,O1]:kind (C8 b)=5) (m b g)
theorem D4.turn(h:D4 y mb V own w s)(D:y=0\/y=x)(o:Cw S w w')(C: ∀j,S j->kind (own j)=x) (L:x<14) (he: ∀j,j<w.heap.size->C8 j=own j) (B: ∀j,w.heap.size<=j->C8 j=0\/(1<C8 j/\C8 j<12/\C8 j=x)) (G: ∀j,w'.heap.size<=j->C8 j=0):D4 x mb V C8 w' s:=by
 have hy: ∀t,x≠t->t≠0->y≠t:=λt a A=>by rcases D with rfl|rfl;exact λe=>A e.symm;exact a
 have E: ∀{j t:Nat},own j=t->t≠0->j<w.heap.size:=λ{j t} k d=>by
  rcases Bc j w.heap.size with l|l
  ·exact l
  ·exact absurd ((h.fresh j l).symm.trans k).symm d
 have c: ∀{j t:Nat},own j=t->t≠0->C8 j=t:=λ{j t} k d=>(he j (E k d)).trans k;have g: ∀{j t:Nat},own j=t->kind t≠x-> ¬S j:=λ{j t} k d z=>d (by rw[<-k];exact C j z);refine⟨G,c h.om (by decide),h.prog.turn o (λj z e=>?_) he,⟨h.laid.1.only o (g h.laid.2 (by rw[H7 (by decide)];omega)),c h.laid.2 (by decide)⟩,h.hold,λa=>?_,λa=>?_,λa=>?_,λa=>?_,λa=>?_,λa=>?_,λa=>?_,λa=>?_,λa=>?_,λa=>?_,λa=>?_,λa=>?_,λa=>?_,h.mg,λi p=>c (h.og i p) (by omega),λi p b r=>?_,λi p=>c (h.ox i p) (by omega),λi p b r=>?_,λb i r=>?_,λb i r=>?_,h.Hb⟩
 ·have:=C j z;rw[e,H7 (by decide)]at this;omega
 ·obtain⟨k,d⟩:=h.L1 (hy 2 a (by decide))
  exact⟨k.off o (λj f=>g (d j f) (λe=>a e.symm)),λj f=>c (d j f) (by decide)⟩
 ·obtain⟨k,d⟩:=h.L8 (hy 3 a (by decide))
  exact⟨k.off o (λj f=>g (d j f) (λe=>a e.symm)),λj f=>c (d j f) (by decide)⟩
 ·obtain⟨k,d⟩:=h.EO (hy 4 a (by decide))
  exact⟨k.only o (λj f=>g (d j f) (λe=>a e.symm)),λj f=>c (d j f) (by decide)⟩
 ·exact(h.IK (hy 1 a (by decide))).only o (g h.om (λe=>a e.symm))
 ·obtain⟨H,R,k⟩:=h.rings (hy 5 a (by decide))
  refine⟨H,R,k.turn o (λj z=>by rw[C j z];exact a) he (λj f=>?_)⟩;rcases B j f with A|⟨A,d,l⟩
  ·rw[A];decide
  ·rw[H7 (by omega),l];exact a
 ·obtain⟨tv,k,d⟩:=h.stat (hy 6 a (by decide))
  exact⟨tv,k.only o (λj f=>g (d j f) (λe=>a e.symm)),λj f=>c (d j f) (by decide)⟩
 ·obtain⟨tv,k,d⟩:=h.all (hy 7 a (by decide))
  exact⟨tv,k.only o (λj f=>g (d j f) (λe=>a e.symm)),λj f=>c (d j f) (by decide)⟩
 ·obtain⟨tv,k,d⟩:=h.GQ (hy 8 a (by decide))
  exact⟨tv,k.only o (g (d _ (.inl rfl)) (λe=>a e.symm)) (g (d _ (.inr rfl)) (λe=>a e.symm)),λj f=>c (d j f) (by decide)⟩
 ·obtain⟨tv,k,d⟩:=h.FM (hy 9 a (by decide))
  exact⟨tv,k.only o (g (d _ (.inl rfl)) (λe=>a e.symm)) (g (d _ (.inr rfl)) (λe=>a e.symm)),λj f=>c (d j f) (by decide)⟩
 ·obtain⟨tv,k,d⟩:=h.CA (hy 10 a (by decide))
  exact⟨tv,k.only o (λj f=>g (d j f) (λe=>a e.symm)),λj f=>c (d j f) (by decide)⟩
 ·obtain⟨v,n,m,q,k,d,l,u,F⟩:=h.box (hy 11 a (by decide))
  exact⟨v,n,m,q,k.only o (λj f=>g (F j f) (λe=>a e.symm)),d,l,u,λj f=>c (F j f) (by decide)⟩
 ·intro i p
  obtain⟨k,A,K,d,l⟩:=h.gs (hy 12 a (by decide)) i p;exact⟨k,A,K,d.only o (g (h.og i p) (by rw[OZ];exact λe=>a e.symm)),l.turn o (λj z e=>by have:=C j z;rw[e,H7 (by decide)]at this;omega) he⟩
 ·intro i p
  exact(h.ms (hy 13 a (by decide)) i p).only o (g (h.ox i p) (by rw[O0];exact λe=>a e.symm))
 ·rcases Bc b w.heap.size with l|l
  ·rw[he b l]at r;exact h.ug i p b r
  ·rcases B b l with u|u<;>omega
 ·rcases Bc b w.heap.size with l|l
  ·rw[he b l]at r;exact h.ux i p b r
  ·rcases B b l with u|u<;>omega
 ·rcases Bc b w.heap.size with l|l
  ·rw[he b l]at r;exact h.lg b i r
  ·rcases B b l with u|u<;>omega
 ·rcases Bc b w.heap.size with l|l
  ·rw[he b l]at r;exact h.lx b i r
  ·rcases B b l with u|u<;>omega
theorem D4.Kq(h:D4 y mb V own w s)(a:y=0\/y=x)(o:Cw S w w')(c: ∀j,S j->kind (own j)=x) (d:x<14):D4 x mb V own w' s:=h.turn a o c d (λ_ _=>rfl) (λj b=>.inl (h.fresh j b)) (λj b=>h.fresh j (AA o.size b))
theorem D4.loc(h:D4 y mb V own w s)(o:Cw S w w')(l: ∀j,S j->own j=0):D4 y mb V own w' s:=by
 have b: ∀{j t:Nat},own j=t->t≠0-> ¬S j:=λ{j t} d c g=>c (d.symm.trans (l j g));refine⟨λj f=>h.fresh j (AA o.size f),h.om,h.prog.turn o (λj g e=>by rw[l j g]at e;cases e) (λ_ _=>rfl),⟨h.laid.1.only o (b h.laid.2 (by decide)),h.laid.2⟩,h.hold,λa=>?_,λa=>?_,λa=>?_,λa=>?_,λa=>?_,λa=>?_,λa=>?_,λa=>?_,λa=>?_,λa=>?_,λa=>?_,λa=>?_,λa=>?_,h.mg,h.og,h.ug,h.ox,h.ux,h.lg,h.lx,h.Hb⟩
 ·obtain⟨d,c⟩:=h.L1 a
  exact⟨d.off o (λj f=>b (c j f) (by decide)),c⟩
 ·obtain⟨d,c⟩:=h.L8 a
  exact⟨d.off o (λj f=>b (c j f) (by decide)),c⟩
 ·obtain⟨d,c⟩:=h.EO a
  exact⟨d.only o (λj f=>b (c j f) (by decide)),c⟩
 ·exact(h.IK a).only o (b h.om (by decide))
 ·obtain⟨u,R,d⟩:=h.rings a
  refine⟨u,R,d.turn o (λj g=>by rw[l j g];decide) (λ_ _=>rfl) (λj f=>by rw[h.fresh j f];decide)⟩
 ·obtain⟨tv,d,c⟩:=h.stat a
  exact⟨tv,d.only o (λj f=>b (c j f) (by decide)),c⟩
 ·obtain⟨tv,d,c⟩:=h.all a
  exact⟨tv,d.only o (λj f=>b (c j f) (by decide)),c⟩
 ·obtain⟨tv,d,c⟩:=h.GQ a
  exact⟨tv,d.only o (b (c _ (.inl rfl)) (by decide)) (b (c _ (.inr rfl)) (by decide)),c⟩
 ·obtain⟨tv,d,c⟩:=h.FM a
  exact⟨tv,d.only o (b (c _ (.inl rfl)) (by decide)) (b (c _ (.inr rfl)) (by decide)),c⟩
 ·obtain⟨tv,d,c⟩:=h.CA a
  exact⟨tv,d.only o (λj f=>b (c j f) (by decide)),c⟩
 ·obtain⟨v,n,m,q,d,c,p,x,r⟩:=h.box a
  exact⟨v,n,m,q,d.only o (λj f=>b (r j f) (by decide)),c,p,x,r⟩
 ·intro i k
  obtain⟨d,z,A,c,p⟩:=h.gs a i k;exact⟨d,z,A,c.only o (b (h.og i k) (by omega)),p.turn o (λj g e=>by rw[l j g]at e;cases e) (λ_ _=>rfl)⟩
 ·intro i k
  exact(h.ms a i k).only o (b (h.ox i k) (by omega))
theorem D4.below(h:D4 y mb V own w s)(a:Below w.heap.size w w'):D4 y mb V own w' s:=h.loc (S:=λ_=>False) ((Cw.refl _ w).below a) (λ_ x=>x.elim)
theorem Ext.loc(o:Cw S w w')(a: ∀j,S j->j<w.heap.size->own j≠0/\own j≠14):Ext own w own w':=⟨o.mono (λj b c=>a j c b),λ_ _=>rfl⟩
theorem Ext.below(a:Below w.heap.size w w'):Ext own w own w':=⟨(Cw.refl _ w).below a,λ_ _=>rfl⟩
theorem tagged{S':Nat->Prop}(c:w.heap.size<=w'.heap.size)(d: ∀j,w.heap.size<=j->own j=0) (b: ∀j,S' j->j<w'.heap.size) (hold: ∀j,S' j->j<w.heap.size->own j=t): ∃C8:Nat->Nat,(∀j,j<w.heap.size->C8 j=own j)/\(∀j,S' j->C8 j=t)/\(∀j,w.heap.size<=j->C8 j=0\/C8 j=t)/\(∀j,w'.heap.size<=j->C8 j=0):=by
 classical
 refine⟨λj=>if j<w.heap.size then own j else if S' j then t else 0,λj a=>Ai a,λj a=>?_,λj a=>?_,λj a=>?_⟩
 ·dsimp only
  by_cases h:j<w.heap.size
  ·rw[Ai h];exact hold j a h
  ·rw[Ah h,Ai a]
 ·dsimp only
  rw[Ah (by omega)];by_cases h:S' j
  ·rw[Ai h];exact .inr rfl
  ·rw[Ah h];exact .inl rfl
 ·dsimp only
  rw[Ah (by omega),Ah (λh=>by have:=b j h;omega)]
theorem D4.qD(h:D4 1 mb V own w s)(c:Sc)(a:0<=c.CF/\c.CF<=s.gs.length)(b:Cy w mb (DE V c) 121):CE mb V own w {s with sc:=c}:=⟨h.fresh,h.om,h.prog,h.laid,a,λ_=>h.L1 (by decide),λ_=>h.L8 (by decide),λ_=>h.EO (by decide),λ_=>b,λ_=>h.rings (by decide),λ_=>h.stat (by decide),λ_=>h.all (by decide),λ_=>h.GQ (by decide),λ_=>h.FM (by decide),λ_=>h.CA (by decide),λ_=>h.box (by decide),λ_=>h.gs (by decide),λ_=>h.ms (by decide),h.mg,h.og,h.ug,h.ox,h.ux,h.lg,h.lx,h.Hb⟩
theorem D4.JU(h:D4 4 mb V own w s)(l:List Pc)(a:Hf w V.EG l/\ ∀j,V.EG.ownBlock=Z j->own j=4):CE mb V own w {s with asked:=l}:=⟨h.fresh,h.om,h.prog,h.laid,h.hold,λ_=>h.L1 (by decide),λ_=>h.L8 (by decide),λ_=>a,λ_=>h.IK (by decide),λ_=>h.rings (by decide),λ_=>h.stat (by decide),λ_=>h.all (by decide),λ_=>h.GQ (by decide),λ_=>h.FM (by decide),λ_=>h.CA (by decide),λ_=>h.box (by decide),λ_=>h.gs (by decide),λ_=>h.ms (by decide),h.mg,h.og,h.ug,h.ox,h.ux,h.lg,h.lx,h.Hb⟩
theorem D4.Zf(h:D4 5 mb V own w s)(l:List Rs)(a:l.length<=256)(b: ∃c R,Qw own V.GJ w V.procs c R l):CE mb V own w {s with rings:=l}:=⟨h.fresh,h.om,h.prog,h.laid,h.hold,λ_=>h.L1 (by decide),λ_=>h.L8 (by decide),λ_=>h.EO (by decide),λ_=>h.IK (by decide),λ_=>b,λ_=>h.stat (by decide),λ_=>h.all (by decide),λ_=>h.GQ (by decide),λ_=>h.FM (by decide),λ_=>h.CA (by decide),λ_=>h.box (by decide),λ_=>h.gs (by decide),λ_=>h.ms (by decide),h.mg,h.og,h.ug,h.ox,h.ux,h.lg,h.lx,⟨h.Hb.1,h.Hb.2.1,a⟩⟩
theorem D4.fp(h:D4 6 mb V own w s)(l:List Pr)(a: ∃tv,Cx.Tb w V.stat tv l/\ ∀j,Cx.Tf V.stat tv j->own j=6):CE mb V own w {s with stat:=l}:=⟨h.fresh,h.om,h.prog,h.laid,h.hold,λ_=>h.L1 (by decide),λ_=>h.L8 (by decide),λ_=>h.EO (by decide),λ_=>h.IK (by decide),λ_=>h.rings (by decide),λ_=>a,λ_=>h.all (by decide),λ_=>h.GQ (by decide),λ_=>h.FM (by decide),λ_=>h.CA (by decide),λ_=>h.box (by decide),λ_=>h.gs (by decide),λ_=>h.ms (by decide),h.mg,h.og,h.ug,h.ox,h.ux,h.lg,h.lx,h.Hb⟩
theorem D4.Zg(h:D4 7 mb V own w s)(l:List Int)(a: ∃S,C4.Queue w V.all S l/\ ∀j,S j->own j=7):CE mb V own w {s with all:=l}:=⟨h.fresh,h.om,h.prog,h.laid,h.hold,λ_=>h.L1 (by decide),λ_=>h.L8 (by decide),λ_=>h.EO (by decide),λ_=>h.IK (by decide),λ_=>h.rings (by decide),λ_=>h.stat (by decide),λ_=>a,λ_=>h.GQ (by decide),λ_=>h.FM (by decide),λ_=>h.CA (by decide),λ_=>h.box (by decide),λ_=>h.gs (by decide),λ_=>h.ms (by decide),h.mg,h.og,h.ug,h.ox,h.ux,h.lg,h.lx,h.Hb⟩
theorem D4.Zh(h:D4 8 mb V own w s)(l:List Int)(a: ∃g,Idle.St w V.GQ g 64 l/\ ∀j,Idle.GO V.GQ g j->own j=8):CE mb V own w {s with CL:=l}:=⟨h.fresh,h.om,h.prog,h.laid,h.hold,λ_=>h.L1 (by decide),λ_=>h.L8 (by decide),λ_=>h.EO (by decide),λ_=>h.IK (by decide),λ_=>h.rings (by decide),λ_=>h.stat (by decide),λ_=>h.all (by decide),λ_=>a,λ_=>h.FM (by decide),λ_=>h.CA (by decide),λ_=>h.box (by decide),λ_=>h.gs (by decide),λ_=>h.ms (by decide),h.mg,h.og,h.ug,h.ox,h.ux,h.lg,h.lx,h.Hb⟩
theorem D4.Zi(h:D4 9 mb V own w s)(l:List Int)(a: ∃g,Idle.St w V.FM g 256 l/\ ∀j,Idle.GO V.FM g j->own j=9):CE mb V own w {s with CD:=l}:=⟨h.fresh,h.om,h.prog,h.laid,h.hold,λ_=>h.L1 (by decide),λ_=>h.L8 (by decide),λ_=>h.EO (by decide),λ_=>h.IK (by decide),λ_=>h.rings (by decide),λ_=>h.stat (by decide),λ_=>h.all (by decide),λ_=>h.GQ (by decide),λ_=>a,λ_=>h.CA (by decide),λ_=>h.box (by decide),λ_=>h.gs (by decide),λ_=>h.ms (by decide),h.mg,h.og,h.ug,h.ox,h.ux,h.lg,h.lx,h.Hb⟩
theorem D4.ft(h:D4 10 mb V own w s)(ow:Int)(l:List Int)(a: ∃v,Dg.Sm w V.CA ow v l/\ ∀j,Dg.Sf V.CA v j->own j=10):CE mb V own w {s with owner:=ow,waits:=l}:=⟨h.fresh,h.om,h.prog,h.laid,h.hold,λ_=>h.L1 (by decide),λ_=>h.L8 (by decide),λ_=>h.EO (by decide),λ_=>h.IK (by decide),λ_=>h.rings (by decide),λ_=>h.stat (by decide),λ_=>h.all (by decide),λ_=>h.GQ (by decide),λ_=>h.FM (by decide),λ_=>a,λ_=>h.box (by decide),λ_=>h.gs (by decide),λ_=>h.ms (by decide),h.mg,h.og,h.ug,h.ox,h.ux,h.lg,h.lx,h.Hb⟩
theorem D4.kq(h:D4 11 mb V own w s)(l:List (Option Int))(a:pP own w V.box l):CE mb V own w {s with box:=l}:=⟨h.fresh,h.om,h.prog,h.laid,h.hold,λ_=>h.L1 (by decide),λ_=>h.L8 (by decide),λ_=>h.EO (by decide),λ_=>h.IK (by decide),λ_=>h.rings (by decide),λ_=>h.stat (by decide),λ_=>h.all (by decide),λ_=>h.GQ (by decide),λ_=>h.FM (by decide),λ_=>h.CA (by decide),λ_=>a,λ_=>h.gs (by decide),λ_=>h.ms (by decide),h.mg,h.og,h.ug,h.ox,h.ux,h.lg,h.lx,h.Hb⟩
theorem Kr{α:Type}(l:List α)(i j:Nat)(x d:α):(l.set i x)[j]?.getD d=if i=j/\j<l.length then x else l[j]?.getD d:=by
 rw[Ay];by_cases h:i=j
 ·subst h
  by_cases a:i<l.length
  ·simp[a]
  ·simp[a]
 ·simp[h]
theorem CE.Wi(h:CE mb V own w s)(m:i<s.gs.length)(o:Cw (λj=>j=V.CR i) w w') (x:G) (t:x.CO.length=8/\D9.Dt x.word/\ ∃f,Cy w' (V.CR i) (Dy i f x) 130/\Hu own w x.stack f):CE mb V own w' {s with gs:=s.gs.set i x}:=by
 have g: ∀j,j=V.CR i->own j≠14:=λj l e=>by rw[l,h.og i m]at e;omega
 have a:=h.Kq (x:=12) (.inl rfl) o (λj l=>by rw[l,h.og i m,OZ]) (by decide);have d:(s.gs.set i x).length=s.gs.length:=by simp
 refine⟨a.fresh,a.om,a.prog,a.laid,by rw[d];exact h.hold,λ_=>by rw[d];exact a.L1 (by decide),λ_=>a.L8 (by decide),λ_=>a.EO (by decide),λ_=>a.IK (by decide),λ_=>a.rings (by decide),λ_=>a.stat (by decide),λ_=>a.all (by decide),λ_=>a.GQ (by decide),λ_=>a.FM (by decide),λ_=>a.CA (by decide),λ_=>a.box (by decide),λ_ k c=>?_,λ_=>a.ms (by decide),λj l=>by rw[d];exact h.mg j l,λk c=>h.og k (by rw[d]at c;exact c),λk c=>h.ug k (by rw[d]at c;exact c),h.ox,h.ux,λb k u=>by rw[d];exact h.lg b k u,h.lx,by rw[d];exact h.Hb⟩;rw[d]at c;show pQ own w' (V.CR k) k ((s.gs.set i x)[k]?.getD g0);rw[Kr];by_cases e:i=k
 ·subst e;rw[Ai ⟨rfl,c⟩]
  obtain⟨n,p,f,q,r⟩:=t;exact⟨n,p,f,q,r.turn o g (λ_ _=>rfl)⟩
 ·rw[Ah (λv=>e v.1)]
  obtain⟨n,p,f,q,r⟩:=h.gs (by decide) k c;refine⟨n,p,f,q.only o (λy=>e ?_),r.turn o g (λ_ _=>rfl)⟩;have z:=h.og i m;have a2:=h.og k c;rw[show V.CR k=V.CR i from y]at a2;omega
theorem CE.nE(h:CE mb V own w s){b:Nat}(o:own b=0)(y:b<w.heap.size):CE mb V (λj=>if j=b then 14 else own j) w s:=by
 have f: ∀{j t:Nat},own j=t->t≠0->(λj=>if j=b then 14 else own j) j=t:=λ{j t} a g=>by
  show(if j=b then 14 else own j)=t
  rw[Ah (λe=>by subst e;rw[o]at a;exact g a.symm)];exact a
 have p: ∀{j t:Nat},(λj=>if j=b then 14 else own j) j=t->t≠14->own j=t:=λ{j t} a g=>by
  replace a:(if j=b then 14 else own j)=t:=a
  by_cases e:j=b
  ·rw[Ai e]at a;exact absurd a.symm g
  ·rw[Ah e]at a;exact a
 refine⟨λj d=>?_,f h.om (by decide),?_,⟨h.laid.1,f h.laid.2 (by decide)⟩,h.hold,λc=>⟨(h.L1 c).1,λj d=>f ((h.L1 c).2 j d) (by decide)⟩,λc=>⟨(h.L8 c).1,λj d=>f ((h.L8 c).2 j d) (by decide)⟩,λc=>⟨(h.EO c).1,λj d=>f ((h.EO c).2 j d) (by decide)⟩,h.IK,λc=>?_,λc=>?_,λc=>?_,λc=>?_,λc=>?_,λc=>?_,λc=>?_,λc i l=>?_,h.ms,h.mg,λi l=>f (h.og i l) (by omega),λi l b o=>h.ug i l b (p o (by omega)),λi l=>f (h.ox i l) (by omega),λi l b o=>h.ux i l b (p o (by omega)),λb i o=>h.lg b i (p o (by omega)),λb i o=>h.lx b i (p o (by omega)),h.Hb⟩
 ·show(if j=b then 14 else own j)=0;rw[Ah (by omega)];exact h.fresh j d
 ·obtain⟨z,A,B,a,g,r,u⟩:=h.prog
  refine⟨z,A,B,a,g,f r (by decide),λk C=>?_⟩;obtain⟨D,co,E,F,G,sc,H,a2,a3,a4,a5,K,L⟩:=(u k C).at_;exact⟨D,co,E,F,G,sc,H,a2,a3,a4,f a5 (by decide),f K (by decide),L⟩
 ·obtain⟨M,R,a⟩:=h.rings c
  exact⟨M,R,a.Ff,a.is,f a.op (by decide),λj d=>f (a.mQ j d) (by decide),λi l=>f (a.ob i l) (by omega),λi l=>f (a.og i l) (by omega),λi l b o=>a.ub i l b (p o (by omega))⟩
 ·obtain⟨tv,a,g⟩:=h.stat c;exact⟨tv,a,λj d=>f (g j d) (by decide)⟩
 ·obtain⟨tv,a,g⟩:=h.all c;exact⟨tv,a,λj d=>f (g j d) (by decide)⟩
 ·obtain⟨tv,a,g⟩:=h.GQ c;exact⟨tv,a,λj d=>f (g j d) (by decide)⟩
 ·obtain⟨tv,a,g⟩:=h.FM c;exact⟨tv,a,λj d=>f (g j d) (by decide)⟩
 ·obtain⟨tv,a,g⟩:=h.CA c;exact⟨tv,a,λj d=>f (g j d) (by decide)⟩
 ·obtain⟨v,n,m,q,a,g,r,u,x⟩:=h.box c;exact⟨v,n,m,q,a,g,r,u,λj d=>f (x j d) (by decide)⟩
 ·obtain⟨a,O,P,g,r,u,x⟩:=h.gs c i l
  exact⟨a,O,P,g,r,u,λQ j d=>f (x Q j d) (by decide)⟩
theorem CE.NI(h:CE mb V own w s)(g:i<s.ms.length)(o:Cw (λj=>j=V.DR i) w w') (x:M1) (l:0<=x.g/\x.g<=s.gs.length) (m:Cy w' (V.DR i) (Da V.CR i x) 125):CE mb V own w' {s with ms:=s.ms.set i x}:=by
 have a:=h.Kq (x:=13) (.inl rfl) o (λj n=>by rw[n,h.ox i g,O0]) (by decide);have d:(s.ms.set i x).length=s.ms.length:=by simp
 refine⟨a.fresh,a.om,a.prog,a.laid,h.hold,λ_=>a.L1 (by decide),λ_=>by rw[d];exact a.L8 (by decide),λ_=>a.EO (by decide),λ_=>a.IK (by decide),λ_=>a.rings (by decide),λ_=>a.stat (by decide),λ_=>a.all (by decide),λ_=>a.GQ (by decide),λ_=>a.FM (by decide),λ_=>a.CA (by decide),λ_=>a.box (by decide),λ_=>a.gs (by decide),λ_ k c=>?_,λk c=>?_,h.og,h.ug,λk c=>h.ox k (by rw[d]at c;exact c),λk c=>h.ux k (by rw[d]at c;exact c),h.lg,λb k p=>by rw[d];exact h.lx b k p,by rw[d];exact h.Hb⟩
 ·rw[d]at c
  show Cy w' (V.DR k) (Da V.CR k ((s.ms.set i x)[k]?.getD m0)) 125;rw[Kr];by_cases e:i=k
  ·subst e;rw[Ai ⟨rfl,c⟩];exact m
  ·rw[Ah (λf=>e f.1)]
   refine(h.ms (by decide) k c).only o (λq=>e ?_);have r:=h.ox i g;have a2:=h.ox k c;rw[show V.DR k=V.DR i from q]at a2;omega
 ·rw[d]at c
  show 0<=((s.ms.set i x)[k]?.getD m0).g/\((s.ms.set i x)[k]?.getD m0).g<=s.gs.length;rw[Kr];by_cases e:i=k
  ·subst e;rw[Ai ⟨rfl,c⟩];exact l
  ·rw[Ah (λf=>e f.1)];exact h.mg k c
end
section
open Cx (Pr pz)
section
variable {mb:Nat}{V:Vr}{own:Nat->Nat}{w:rO}{s:St}
variable {w' w:rO}{own ri:Nat->Nat}{p rb:Nat}{rv:tR}{R:Nat->CZ.Rn}{l:List Rs}{row:List Int}
theorem CE.MS(h:CE mb V own w s){f:Int}{l:List Pr}{e:uh}{tv:tR}(c: ∀j,Cx.Tf V.stat tv j->own j=6) (m:Cx.Dq V.stat tv l f w e w'):Dd mb V own w (I U f) {s with stat:=l} e w':=by obtain⟨rfl,d,i,g,n⟩:=m;obtain⟨b,k,a2,a3,a4⟩:=tagged (t:=6) g.size h.fresh (λj a=>i.lt a) (λj a o=>(n j a).elim (c j) (λx=>by omega));exact⟨rfl,b,(h.turn (x:=6) (.inl rfl) g (λj a=>by rw[c j a];rfl) (by decide) k (λj a=>(a3 j a).imp id (λe=>by rw[e];decide)) a4).fp l ⟨d,i,a2⟩,g.mono (λj _ a=>by rw[c j a];decide),k⟩
theorem CE.enter(h:CE mb V own w s)(p:Int):tT prog 301 #[ptr V.stat,I U p] w (Dd mb V own w (I U (Cx.El s.stat p (λs a=>s==1))) {s with stat:=Cx.Dn s.stat p (λs a=>(2,a)) (λs a=>s==1)}):=by obtain⟨tv,b,c⟩:=h.stat (by decide);exact(Cx.VO _ _ _ p w b).mono (λe w' d=>h.MS c d)
theorem CE.Qx(h:CE mb V own w s)(p:Int):tT prog 172 #[ptr V.stat,I U p] w (Dd mb V own w (I U (Cx.El s.stat p (λs a=>s==1))) {s with stat:=Cx.Dn s.stat p (λs a=>(0,-1)) (λs a=>s==1)}):=by obtain⟨tv,b,c⟩:=h.stat (by decide);exact(Cx.IF _ _ _ p w b).mono (λe w' d=>h.MS c d)
theorem CE.Qy(h:CE mb V own w s)(p:Int):tT prog 173 #[ptr V.stat,I U p] w (Dd mb V own w (I U (Cx.El s.stat p (λs a=>Cx.F2 s))) {s with stat:=Cx.Dn s.stat p Cx.Iq (λs a=>Cx.F2 s)}):=by obtain⟨tv,b,c⟩:=h.stat (by decide);exact(Cx.YP _ _ _ p w b).mono (λe w' d=>h.MS c d)
theorem CE.pR(h:CE mb V own w s)(p:Int):tT prog 299 #[ptr V.stat,I U p] w (Dd mb V own w (I U (Cx.El s.stat p (λs a=>s==3))) {s with stat:=Cx.Dn s.stat p (λs a=>Cx.eL a) (λs a=>s==3)}):=by obtain⟨tv,b,c⟩:=h.stat (by decide);exact(Cx.j3 _ _ _ p w b).mono (λe w' d=>h.MS c d)
theorem CE.Qz(h:CE mb V own w s)(p m:Int):tT prog 49 #[ptr V.stat,I U p,I U m] w (Dd mb V own w (I U (Cx.jd s.stat p m (λs a=>s==0))) {s with stat:=Cx.Mh s.stat p m (λs a=>(1,m)) (λs a=>s==0)}):=by obtain⟨tv,b,c⟩:=h.stat (by decide);exact(Cx.IG _ _ _ p m w b).mono (λe w' d=>h.MS c d)
theorem CE.fw(h:CE mb V own w s)(p:Int):tT prog 58 #[ptr V.stat,I U p] w λe w'=>e=ui (I U (Cx.FV s.stat p))/\w=w':=by obtain⟨tv,a,b⟩:=h.stat (by decide);exact Cx.F9 _ _ _ p w a
theorem CE.kr(h:CE mb V own w s)(p:Int):tT prog 59 #[ptr V.stat,I U p] w λe w'=>e=ui (I U (Cx.Iw s.stat p))/\w=w':=by obtain⟨tv,a,b⟩:=h.stat (by decide);exact Cx.eJ _ _ _ p w a
theorem CE.fx(h:CE mb V own w s){S S':Nat->Prop}{L:List Int}(c: ∀j,S j->own j=7) (f:C4.Queue w' V.all S' L) (d:Cw S w w') (i:C4.Gr S S' w): ∃a,CE mb V a w' {s with all:=L}/\Ext own w a w'/\ ∀j,S' j->a j=7:=by obtain⟨a,g,a2,a3,a4⟩:=tagged (t:=7) d.size h.fresh (λj b=>f.lt b) (λj b k=>(i j b).elim (c j) (λx=>by omega));exact⟨a,(h.turn (x:=7) (.inl rfl) d (λj b=>by rw[c j b];rfl) (by decide) g (λj b=>(a3 j b).imp id (λe=>by rw[e];decide)) a4).Zg L ⟨S',f,a2⟩,⟨d.mono (λj _ b=>by rw[c j b];decide),g⟩,a2⟩
theorem CE.Wj(h:CE mb V own w s)(u:tR)(l:List Int)(hu:DG w u l)(f:l≠[]-> ∀j,u.ownBlock=Z j->own j≠7) (g:s.all.length+l.length<10000000):tT prog 243 #[ptr V.all,u] w (Dd mb V own w (I U ((s.all++C4.right l).length:Nat)) {s with all:=s.all++C4.right l}):=by obtain⟨S,i,d⟩:=h.all (by decide);refine(C4.Y2 _ S _ u l w i hu (λb j k m=>f b j k (d j m)) g).mono ?_;rintro e w'⟨rfl,r,c,n,o⟩;obtain⟨a,p,q,_⟩:=h.fx d c n o;exact⟨rfl,a,p,q⟩
theorem CE.Zj(h:CE mb V own w s)(x:Int)(k:s.all.length<1000000):tT prog 243 #[ptr V.all,Y (Z ⟨w.heap.size,0,N⟩) 1 1] (w.alloc (uj #[I U x] 3)) λe w'=>(∃n,e=ui (I U n))/\ ∃a,CE mb V a w' {s with all:=s.all++C4.right [x]}/\Ext own w a w':=by obtain⟨S,c,d⟩:=h.all (by decide);refine(C4.eY w _ S _ x c (by omega)).mono ?_;rintro e w'⟨⟨n,rfl⟩,l,b,f,g⟩;obtain⟨a,i,j,_⟩:=h.fx d b f g;exact⟨⟨n,rfl⟩,a,i,j⟩
theorem CE.nF(h:CE mb V own w s)(k:s.all.length<1000000):tT prog 240 #[ptr V.all] w (Dd mb V own w (uo #[I U (s.all.headD 0),ue (!s.all.isEmpty)]) {s with all:=s.all.tail}):=by obtain⟨S,c,d⟩:=h.all (by decide);refine(C4.F9 _ S _ w c (by omega)).mono ?_;rintro e w'⟨rfl,l,b,f,g⟩;obtain⟨a,i,j,_⟩:=h.fx d b f g;exact⟨rfl,a,i,j⟩
def MT(mb:Nat)(V:Vr)(own:Nat->Nat)(w:rO)(l:List Int)(s':St)(e:uh)(w':rO):Prop:= ∃v,e=ui v/\CH w' w.heap.size v l/\ ∃a,CE mb V a w' s'/\Ext own w a w'/\ ∀j,v.ownBlock=Z j->a j=0
theorem CE.ks(h:CE mb V own w s)(p m:Int)(y:s.all.length<1000000):tT prog 242 #[ptr V.all,I U p,I U m] w (MT mb V own w (s.all.take (F3 s.all.length p m).toNat) {s with all:=s.all.drop (F3 s.all.length p m).toNat}):=by
 obtain⟨S,r,n⟩:=h.all (by decide);refine(C4.VU _ S _ p m w r (by omega)).mono ?_;rintro e w'⟨v,g,rfl,o,b,i,t,d⟩;classical
 obtain⟨f,z,k,q⟩:=h.fx n b i t;refine⟨v,rfl,o,?_⟩;refine⟨λj=>if w.heap.size<=j/\ ¬g j then 0 else f j,?_,⟨k.only,λj a=>?_⟩,λj a=>Ai ⟨(o.lt j a).1,d j a⟩⟩
 rotate_left
 ·rw[Ah (by omega)];exact k.same j a
 have u:=i;refine(h.turn (x:=7) (.inl rfl) i (λj a=>by rw[n j a];rfl) (by decide) (λj a=>?_) (λj a=>?_) (λj a=>?_)).Zg _ ⟨g,b,λj a=>?_⟩
 ·rw[Ah (by omega)];exact k.same j a
 ·by_cases c:g j
  ·rw[Ah (λl=>l.2 c),q j c];right;decide
  ·rw[Ai ⟨a,c⟩];exact .inl rfl
 ·by_cases c:g j
  ·have:=b.lt c;omega
  ·rw[Ai ⟨AA i.size a,c⟩]
 ·rw[Ah (λl=>l.2 a)];exact q j a
theorem CE.qE(h:CE mb V own w s)(b:s.all.length<1000000):tT prog 284 #[ptr V.all] w λe w'=>e=ui (I U s.all.length)/\ ∃n,w'=w.drewN n:=by obtain⟨S,a,c⟩:=h.all (by decide);exact C4.DW _ S _ w a (by omega)
theorem CE.nG(h:CE mb V own w s)(b:s.all.length<1000000):tT prog 61 #[ptr V.all] w (C4.Eg s.all w):=by obtain⟨S,a,c⟩:=h.all (by decide);exact C4.Kj _ S _ w a (by omega)
theorem CE.qF(h:CE mb V own w s)(id:Int):tT prog 48 #[ptr V.GQ,I U id] w (Dd mb V own w (ue (Idle.Yv 64 s.CL id)) {s with CL:=Idle.Iv 64 s.CL id}):=by obtain⟨g,f,a⟩:=h.GQ (by decide);refine(Idle.EK _ g 64 _ id w f).mono ?_;rintro e w'⟨rfl,b,d⟩;exact⟨rfl,own,(h.Kq (x:=8) (.inl rfl) d (λj c=>by rw[a j c];rfl) (by decide)).Zh _ ⟨g,b,a⟩,Ext.loc d (λj c _=>by rw[a j c];decide)⟩
theorem CE.ku(h:CE mb V own w s)(id:Int):tT prog 48 #[ptr V.FM,I U id] w (Dd mb V own w (ue (Idle.Yv 256 s.CD id)) {s with CD:=Idle.Iv 256 s.CD id}):=by obtain⟨g,f,a⟩:=h.FM (by decide);refine(Idle.EK _ g 256 _ id w f).mono ?_;rintro e w'⟨rfl,b,d⟩;exact⟨rfl,own,(h.Kq (x:=9) (.inl rfl) d (λj c=>by rw[a j c];rfl) (by decide)).Zi _ ⟨g,b,a⟩,Ext.loc d (λj c _=>by rw[a j c];decide)⟩
theorem CE.UE(h:CE mb V own w s)(id:Int):tT prog 191 #[ptr V.FM,I U id] w (Dd mb V own w (ue (decide (id∈s.CD))) {s with CD:=s.CD.erase id}):=by obtain⟨g,f,a⟩:=h.FM (by decide);refine(Idle.MF _ g 256 _ id w f).mono ?_;rintro e w'⟨rfl,b,d⟩;exact⟨rfl,own,(h.Kq (x:=9) (.inl rfl) d (λj c=>by rw[a j c];rfl) (by decide)).Zi _ ⟨g,b,a⟩,Ext.loc d (λj c _=>by rw[a j c];decide)⟩
theorem CE.qG(h:CE mb V own w s):tT prog 334 #[ptr V.GQ] w (Dd mb V own w (uo #[I U (s.CL.headD 0),ue (!s.CL.isEmpty)]) {s with CL:=s.CL.tail}):=by obtain⟨g,f,a⟩:=h.GQ (by decide);refine(Idle.F9 _ g 64 _ w f).mono ?_;rintro e w'⟨rfl,b,d⟩;exact⟨rfl,own,(h.Kq (x:=8) (.inl rfl) d (λj c=>by rw[a j c];rfl) (by decide)).Zh _ ⟨g,b,a⟩,Ext.loc d (λj c _=>by rw[a j c];decide)⟩
theorem CE.qH(h:CE mb V own w s):tT prog 262 #[ptr V.GQ] w λe w'=>e=ui (I U s.CL.length)/\w=w':=by obtain⟨g,a,b⟩:=h.GQ (by decide);exact Idle.DW _ g 64 _ w a
theorem CE.qI(h:CE mb V own w s):tT prog 262 #[ptr V.FM] w λe w'=>e=ui (I U s.CD.length)/\w=w':=by obtain⟨g,a,b⟩:=h.FM (by decide);exact Idle.DW _ g 256 _ w a
theorem CE.jg(h:CE mb V own w s):tT prog 189 #[ptr V.FM] w λe w'=>e=ui (uo #[I U (s.CD.headD 0),ue (!s.CD.isEmpty)])/\w=w':=by
 obtain⟨g,b,d⟩:=h.FM (by decide);cases c:s.CD with
 |nil=>rw[c]at b;exact Idle.PX _ g 256 w b
 |cons a x=>rw[c]at b;exact Idle.NS _ g 256 a x w b
theorem CE.Zk(h:CE mb V own w s){v:tR}{ow:Int}{l:List Int}(c: ∀j,Dg.Sf V.CA v j->own j=10) (k:Dg.Sp V.CA ow v l w w'): ∃a,CE mb V a w' {s with owner:=ow,waits:=l}/\Ext own w a w':=by
 obtain⟨g,d,f,m⟩:=k;obtain⟨a,i,a2,a3,a4⟩:=tagged (t:=10) (S':=Dg.Sf V.CA g) f.size h.fresh (λj b=>by rcases b with rfl|b;exact d.Dj.lt;exact d.live j b) (λj b n=>by
  rcases b with rfl|b
  ·exact c _ (.inl rfl)
  ·exact(m j b).elim (λx=>c j (.inr x)) (λx=>by omega))
 exact⟨a,(h.turn (x:=10) (.inl rfl) f (λj b=>by rw[c j b];rfl) (by decide) i (λj b=>(a3 j b).imp id (λe=>by rw[e];decide)) a4).ft ow l ⟨g,d,a2⟩,f.mono (λj _ b=>by rw[c j b];decide),i⟩
theorem CE.acquire(h:CE mb V own w s)(g:Int)(b:s.waits.length<1000000):tT prog 294 #[ptr V.CA,I U g] w (Dd mb V own w (uo #[ue (Dg.NC s.owner g),I U (Dg.YG g)]) {s with owner:=Dg.OM s.owner g,waits:=Dg.ON s.owner s.waits g}):=by obtain⟨v,c,d⟩:=h.CA (by decide);refine(Dg.P8 _ _ v _ g w c b).mono ?_;rintro e w'⟨rfl,f⟩;obtain⟨a,i,j⟩:=h.Zk d f;exact⟨rfl,a,i,j⟩
theorem CE.kv(h:CE mb V own w s)(g:Int)(b:s.waits.length<1000000):tT prog 261 #[ptr V.CA,I U g] w (Dd mb V own w (uo #[I U (Dg.P9 s.owner s.waits g),I U (Dg.eF s.owner g)]) {s with owner:=Dg.Qa s.owner s.waits g,waits:=Dg.Qb s.owner s.waits g}):=by obtain⟨v,c,d⟩:=h.CA (by decide);refine(Dg.IF _ _ v _ g w c b).mono ?_;rintro e w'⟨rfl,f⟩;obtain⟨a,i,j⟩:=h.Zk d f;exact⟨rfl,a,i,j⟩
def dQ(R:Nat->CZ.Rn)(i:Nat)(nx:Int)(row:List Int):Nat->CZ.Rn:=λk=>if k=i then⟨(R i).b,(R i).g,nx,row⟩else R k
theorem LC(R:Nat->CZ.Rn)(i:Nat)(nx:Int)(row:List Int)(k:Nat):(dQ R i nx row k).b=(R k).b:=by
 unfold dQ;by_cases e:k=i
 ·rw[Ai e,e]
 ·rw[Ah e]
theorem N2(R:Nat->CZ.Rn)(i:Nat)(nx:Int)(row:List Int)(k:Nat):(dQ R i nx row k).g=(R k).g:=by
 unfold dQ;by_cases e:k=i
 ·rw[Ai e,e]
 ·rw[Ah e]
theorem Qw.set(h:Qw own ri w p rv R l)(i:Nat)(g:i<l.length){nx:Int}(hw:Ring.Rw w' (R i).b (R i).g 256 nx row)(o:Cw (Ring.Sg (R i).b (R i).g) w w'):Qw own ri w' p rv (dQ R i nx row) (l.set i ⟨nx,row⟩):=by
 have d:(l.set i (⟨nx,row⟩:Rs)).length=l.length:=by simp
 refine⟨⟨?_,?_,?_,?_,?_,?_,?_⟩,?_,h.op,h.mQ,?_,?_,?_⟩
 ·exact h.Ff.Dj.only o (h.Ff.rp i g)
 ·rw[d]
  have:CZ.IJ l.length (dQ R i nx row)=CZ.IJ l.length R:=by unfold CZ.IJ;exact Cp λk _=>by rw[LC]
  rw[this];exact h.Ff.own.off o (h.Ff.MO i g)
 ·intro k c
  rw[d]at c;rw[LC,N2];by_cases e:k=i
  ·subst e;simp only[dQ,BD];exact hw
  ·simp only[dQ,Ah e]
   exact(h.Ff.ring k c).only o (λj q=>h.Ff.OU k i c g e j q)
 ·exact h.Ff.SP
 ·intro k c;rw[d]at c;rw[LC,N2];exact h.Ff.rp k c
 ·intro k c;rw[d]at c;rw[LC,N2];exact h.Ff.MO k c
 ·intro a b n f m;rw[d]at n f;rw[LC,N2,LC,N2];exact h.Ff.OU a b n f m
 ·intro k c
  rw[d]at c;rw[Kr];by_cases e:k=i
  ·subst e;simp[c,dQ]
  ·rw[Ah (λr=>e r.1.symm)];simp only[dQ,Ah e];exact h.is k c
 ·intro k c;rw[d]at c;rw[LC];exact h.ob k c
 ·intro k c;rw[d]at c;rw[N2];exact h.og k c
 ·intro k c b f;rw[d]at c;rw[LC];exact h.ub k c b f
theorem CE.ring(h:CE mb V own w s)(p:Nat)(c:p<s.rings.length):tT prog 50 #[ptr V.procs,I U p] w λe w'=>(∃b,e=ui (ptr b)/\own b=23+5*V.GJ p)/\w=w':=by obtain⟨rv,R,a⟩:=h.rings (by decide);refine(CZ.Qq _ rv _ R p w a.Ff).mono ?_;rintro e w'⟨rfl,rfl⟩;refine⟨⟨(R p).b,?_,a.ob p c⟩,rfl⟩;unfold CZ.UA;rw[Ai ⟨by omega,by omega⟩,Am]
theorem CE.N3(h:CE mb V own w s):tT prog 57 #[ptr V.procs] w λe w'=>e=ui (I U s.rings.length)/\w=w':=by obtain⟨rv,R,a⟩:=h.rings (by decide);exact CZ.DW _ rv _ R w a.Ff
def SU(l:List Rs):Nat->Nat
 |0=>0
 |n+1=>SU l n+(Ring.C7 (l[n]?.getD r0).CI (l[n]?.getD r0).row).length
theorem Qw.Qr(h:Qw own ri w p rv R l)(n:Nat)(b:n<=l.length):CZ.Qr R n=SU l n:=by
 induction n with
 |zero=>rfl
 |succ n a=>simp only[CZ.Qr,SU,a (by omega),CZ.Wc,(h.is n (by omega)).1,(h.is n (by omega)).2]
theorem CE.total(h:CE mb V own w s):tT prog 292 #[ptr V.procs] w λe w'=>e=ui (I U (SU s.rings s.rings.length))/\ ∃m,w'=w.drewN m:=by obtain⟨rv,R,a⟩:=h.rings (by decide);rw[<-a.Qr _ (Al _)];exact CZ.We _ rv _ R w a.Ff h.Hb.2.2
def UF(l:List Rs):List (List Int):=l.map λr=>Ring.C7 r.CI r.row
theorem Qw.qs(h:Qw own ri w p rv R l):CZ.qs R l.length=UF l:=by
 unfold CZ.qs UF;apply Zbu
 ·simp
 ·intro i c b
  have a:i<l.length:=by simpa using b
  have:=h.is i a;simp only[Zbt,Zca,this.1,this.2];rw[Ae a];rfl
theorem CE.Zl(h:CE mb V own w s):tT prog 60 #[ptr V.procs] w (CZ.Zc (UF s.rings) w):=by obtain⟨rv,R,a⟩:=h.rings (by decide);rw[<-a.qs];exact CZ.SQ _ rv _ R w a.Ff h.Hb.2.2
def Eb(s:St)(p:Nat):Rs:=s.rings[p]?.getD r0
theorem CE.jh(h:CE mb V own w s)(a:Qw own V.GJ w V.procs rv R s.rings)(b:p<s.rings.length){nx:Int}(hw:Ring.Rw w' (R p).b (R p).g 256 nx row)(o:Cw (Ring.Sg (R p).b (R p).g) w w'):CE mb V own w' {s with rings:=s.rings.set p ⟨nx,row⟩}/\Ext own w own w':=by
 have d: ∀j,Ring.Sg (R p).b (R p).g j->kind (own j)=5/\own j≠0/\own j≠14:=by
  rintro j(rfl|rfl)
  ·rw[a.ob p b];exact⟨O1 _,by omega⟩
  ·rw[a.og p b];exact⟨O3 _,by omega⟩
 exact⟨(h.Kq (x:=5) (.inl rfl) o (λj c=>(d j c).1) (by decide)).Zf _ (by rw[AX];exact h.Hb.2.2) ⟨rv,_,a.set p b hw o⟩,Ext.loc o (λj c _=>(d j c).2)⟩
theorem CE.fy(h:CE mb V own w s)(b:Qw own V.GJ w V.procs rv R s.rings)(c:p<s.rings.length){nx:Int}{out:List Int}{e:uh}(d:Ring.Fz (R p).b (R p).g 256 nx row out w e w'):MT mb V own w out {s with rings:=s.rings.set p ⟨nx,row⟩} e w':=by obtain⟨v,rfl,a,hw,o⟩:=d;obtain⟨f,g⟩:=h.jh b c hw o;exact⟨v,rfl,a,own,f,g,λj i=>h.fresh j (a.lt j i).1⟩
theorem CE.nH(h:CE mb V own w s)(b:p<s.rings.length)(d:own rb=23+5*V.GJ p)(x:Int)(a:Bool):tT prog 51 #[ptr rb,I U x,ue a] w (MT mb V own w (Ring.MN 256 (Eb s p).CI (Eb s p).row x a) {s with rings:=s.rings.set p ⟨Ring.NG (Eb s p).CI x a,Ring.OT 256 (Eb s p).CI (Eb s p).row x a⟩}):=by obtain⟨rv,R,c⟩:=h.rings (by decide);rw[c.ub p b rb d];have hw:=c.Ff.ring p b;rw[(c.is p b).1,(c.is p b).2]at hw;exact(Ring.EK _ _ _ _ _ x a w hw).mono (λe w' f=>h.fy c b f)
theorem CE.nI(h:CE mb V own w s)(a:p<s.rings.length)(c:own rb=23+5*V.GJ p):tT prog 246 #[ptr rb] w (MT mb V own w (Ring.II (Eb s p).CI (Eb s p).row) {s with rings:=s.rings.set p ⟨Ring.EB (Eb s p).CI (Eb s p).row,Ring.ET (Eb s p).row⟩}):=by obtain⟨rv,R,b⟩:=h.rings (by decide);rw[b.ub p a rb c];have hw:=b.Ff.ring p a;rw[(b.is p a).1,(b.is p a).2]at hw;exact(Ring.Y6 _ _ _ _ _ w hw).mono (λe w' d=>h.fy b a d)
theorem CE.kA(h:CE mb V own w s)(a:p<s.rings.length)(c:own rb=23+5*V.GJ p):tT prog 300 #[ptr rb] w (MT mb V own w (Ring.C7 (Eb s p).CI (Eb s p).row) {s with rings:=s.rings.set p ⟨0,[]⟩}):=by obtain⟨rv,R,b⟩:=h.rings (by decide);rw[b.ub p a rb c];have hw:=b.Ff.ring p a;rw[(b.is p a).1,(b.is p a).2]at hw;exact(Ring.NZ _ _ _ _ _ w hw).mono (λe w' d=>h.fy b a d)
theorem CE.UG(h:CE mb V own w s)(a:p<s.rings.length)(d:own rb=23+5*V.GJ p)(u:tR)(l:List Int)(hu:DG w u l)(f:l≠[]-> ∀j,u.ownBlock=Z j->own j=0) (m:l.length<1000000):tT prog 244 #[ptr rb,u] w (MT mb V own w (Ring.Ir 256 (Eb s p).row l) {s with rings:=s.rings.set p ⟨(Eb s p).CI,Ring.JF 256 (Eb s p).row l⟩}):=by
 obtain⟨rv,R,b⟩:=h.rings (by decide);rw[b.ub p a rb d];have hw:=b.Ff.ring p a;rw[(b.is p a).1,(b.is p a).2]at hw;refine(Ring.Y8 _ _ _ _ _ u l w hw hu (λc j g i=>?_) (by omega)).mono (λe w' k=>h.fy b a k);have:=f c j g;rcases i with rfl|rfl
 ·rw[b.ob p a]at this;omega
 ·rw[b.og p a]at this;omega
theorem CE.qJ(h:CE mb V own w s)(a:p<s.rings.length)(c:own rb=23+5*V.GJ p):tT prog 241 #[ptr rb] w (Dd mb V own w (uo #[I U (Ring.SO (Eb s p).CI (Eb s p).row),ue (Ring.KZ (Eb s p).CI (Eb s p).row)]) {s with rings:=s.rings.set p ⟨0,Ring.FJ (Eb s p).CI (Eb s p).row⟩}):=by obtain⟨rv,R,b⟩:=h.rings (by decide);rw[b.ub p a rb c];have hw:=b.Ff.ring p a;rw[(b.is p a).1,(b.is p a).2]at hw;refine(Ring.F9 _ _ _ _ _ w hw).mono ?_;rintro e w'⟨rfl,hw',o⟩;obtain⟨d,f⟩:=h.jh b a hw' o;exact⟨rfl,own,d,f⟩
def Ks(l:List (Option Int))(m:Nat)(due:Int):List (Option Int):=match l[m]?.getD N with
 |none=>l.set m (Z due)
 |some d=>if due<d then l.set m (Z due)else l
def Iy(l:List (Option Int))(m:Nat)(now:Int):Bool:=match l[m]?.getD N with
 |none=>tY
 |some d=>decide (d<=now)
def Kt(l:List (Option Int))(m:Nat)(now:Int):List (Option Int):=if Iy l m now then l.set m N else l
end
end
section
open Cx (Pr pz)
open Vm (CP)
def Ia(x t:Int):Int:=if D9.LA x t=0 then D9.N0 x t else x
def St.CJ(s:St)(i:Nat)(x:G):St:={s with gs:=s.gs.set i x}
def St.CQ(s:St)(j:Nat)(y:M1):St:={s with ms:=s.ms.set j y}
def St.mv(s:St)(i:Nat)(t:Int):St:=match s.gs[i]? with
 |some x=>s.CJ i {x with word:=Ia x.word t}
 |none=>s
def St.put(s:St)(l:List Int):St:={s with all:=s.all++C4.right l}
def St.CS(s:St)(c:Sc):St:={s with sc:=c}
def Ib(s:St)(p:Int):Option St:=
 if 0<=p then
  match s.asked[p.toNat]? with
  |some a=>Z {s with asked:=s.asked.set p.toNat ⟨a.pre,tY,wrap64 (a.count+1)⟩,sc:={s.sc with wait:=wrap64 (s.sc.wait-1)}}
  |none=>N
 else N
def GR(s:St)(j:Nat):Option St:=
 match s.ms[j]? with
 |none=>N
 |some y=>
  if j<64 then
   if y.p= -1 then Z {s with box:=Ks s.box j (wrap64 (s.sc.now+Dk s.sc.EC 65))}
   else if 0<=y.p then
    match s.asked[y.p.toNat]? with
    |some a=>Z {s with asked:=s.asked.set y.p.toNat ⟨tZ,a.Eo,a.count⟩,box:=Ks s.box j (wrap64 (s.sc.now+Dk s.sc.EC 65))}
    |none=>N
   else N
  else N
def Iz(s:St)(p:Int):Option Nat:=if 0<=Cx.Iw s.stat p/\Cx.Iw s.stat p<s.ms.length then Z (Cx.Iw s.stat p).toNat else N
def GS(s:St):Int:=wrap64 (wrap64 (s.CL.length+s.sc.Gq)-s.ms.length)
def JG(s:St)(p:Int)(j:Nat):Option St:=
 match s.ms[j]? with
 |some y=>Z {s with stat:=Cx.Mh s.stat p j (λ_ _=>(1,j)) (λs _=>s==0),ms:=s.ms.set j {y with p:=p,g:=0,phase:=1}}
 |none=>N
def FX(s:St)(p:Int):Option (Bool×St):=
 match s.CL with
 | []=>if s.sc.Gq<=s.ms.length then Z (tY,s)else
   if s.ms.length<64 then(JG {s with ms:=s.ms++[m0]} p s.ms.length).map λs=>(tZ,s)else N
 |id::r=>if 0<=id then(JG {s with CL:=r} p id.toNat).map λs=>(tZ,s)else N
def Gu(s:St)(j:Nat):Option St:=
 match s.ms[j]? with
 |some y=>Z {s with ms:=s.ms.set j {y with p:= -1,g:=0,phase:=0,CU:=tY},CL:=Idle.Iv 64 s.CL j}
 |none=>N
def IL(l:List M1):Nat:=l.countP λy=>y.phase==1
def Hg(s:St):Option St:=
 if s.sc.Cz then Z s else if 200000<=s.all.length then N else
  match s.CD with
  | []=>Z s
  |p::_=>if IL s.ms=0/\0<SU s.rings s.rings.length+s.all.length then
    match FX s p with
    |some (tZ,a)=>Z {a with CD:=a.CD.erase p}
    |some (tY,a)=>Z a
    |none=>N
   else Z s
def Ec(s:St)(p:Int)(i:Nat)(first:Bool):Option St:=
 if i<s.gs.length/\s.all.length<100000 then
  if p= -1 then Hg ((s.mv i 1).put [(i:Int)+1])
  else if 0<=p/\p<s.rings.length then
   Hg (({s.mv i 1 with rings:=s.rings.set p.toNat ⟨Ring.NG (Eb s p.toNat).CI ((i:Int)+1) first,Ring.OT 256 (Eb s p.toNat).CI (Eb s p.toNat).row ((i:Int)+1) first⟩}:St).put (Ring.MN 256 (Eb s p.toNat).CI (Eb s p.toNat).row ((i:Int)+1) first))
  else N
 else N
def Gv(id:Int):Nat->Nat->St->Option St
 |0,_,s=>Z s
 |n+1,k,s=>
  match s.gs[k]? with
  |some x=>if x.Db=id then
    let s1:=s.CJ k {x with Db:=0}
    if x.word=5 then(Ec s1 (-1) k tY).bind (Gv id n (k+1))else Gv id n (k+1) s1
   else Gv id n (k+1) s
  |none=>N
def K0(s:St)(i:Nat):Option St:=Gv ((i:Int)+1) s.gs.length 0 s
def Gw(s:St)(j:Nat):Option (Nat×St):=
 match s.ms[j]? with
 |some y=>if 1<=y.g then Z ((y.g-1).toNat,s.CQ j {y with g:=0,phase:=1})else N
 |none=>N
def Gx(s:St)(j:Nat):Option St:=(Gw s j).bind λr=>Ec r.2 (-1) r.1 tY
def Gy(s:St)(j i:Nat):Option St:=
 match s.gs[i]?,s.ms[j]? with
 |some x,Z y=>
  if 8<=x.word then(if s.all.length<100000 then Z (s.put [(i:Int)+1])else N)
  else if x.Db≠0 then K0 (s.mv i 5) i
  else Hg ((s.mv i 2).CQ j {y with g:=(i:Int)+1,phase:=2,used:=0})
 |_,_=>N
def N4(s:St)(p:Nat)(l:List Int):St:=({s with rings:=s.rings.set p ⟨(Eb s p).CI,Ring.JF 256 (Eb s p).row l.tail⟩}:St).put (Ring.Ir 256 (Eb s p).row l.tail)
def E8(p:Nat):List Int->St->Option (Int×St)
 | [],s=>Z (0,s)
 |q::r,s=>
  if 0<=q/\q<s.rings.length then
   let o:=Ring.II (Eb s q.toNat).CI (Eb s q.toNat).row
   let s1:St:={s with rings:=s.rings.set q.toNat ⟨Ring.EB (Eb s q.toNat).CI (Eb s q.toNat).row,Ring.ET (Eb s q.toNat).row⟩}
   match o with
   | []=>E8 p r s1
   |x::_=>Z (x,N4 s1 p o)
  else N
def JV(s:St):Nat:=(F3 s.all.length s.rings.length 128).toNat
def G4(s:St)(p:Nat)(b:Int):Option (Int×St):=
 if Ring.KZ (Eb s p).CI (Eb s p).row then Z (Ring.SO (Eb s p).CI (Eb s p).row,{s with rings:=s.rings.set p ⟨0,Ring.FJ (Eb s p).CI (Eb s p).row⟩})
 else
  let s2:St:={s with rings:=s.rings.set p ⟨0,Ring.FJ (Eb s p).CI (Eb s p).row⟩}
  let a:St:={s2 with all:=s2.all.drop (JV s2)}
  match s2.all.take (JV s2)with
  |x::r=>Z (x,N4 a p (x::r))
  | []=>E8 p (EL a.rings.length b a.sc.draw) a
def G5(s:St)(j:Nat):Option (Int×St):=
 match s.ms[j]? with
 |none=>N
 |some y=>
  if 0<=y.p/\y.p<s.rings.length/\s.all.length<100000 then
   if(wrap64 (y.looks+1)).tmod 4=0/\s.all.isEmpty=tY then Z (s.all.headD 0,{s.CQ j {y with looks:=wrap64 (y.looks+1)}with all:=s.all.tail})
   else G4 (s.CQ j {y with looks:=wrap64 (y.looks+1)}) y.p.toNat y.p
  else N
def DQ(s:St)(p:Int):St:={s with stat:=Cx.Dn s.stat p (λ_ _=>(0,-1)) (λs _=>s==1)}
def Fg(s:St)(p:Int):St:={s with stat:=Cx.Dn s.stat p Cx.Iq (λs _=>Cx.F2 s)}
def dR(s:St)(p:Int):St:={s with stat:=Cx.Dn s.stat p (λ_ a=>Cx.eL a) (λs _=>s==3)}
def Ku(s:St)(j:Nat):Option St:=
 match s.ms[j]? with
 |none=>N
 |some y=>
  if 0<=y.p then
   match s.asked[y.p.toNat]? with
   |none=>N
   |some a=>
    if a.Eo then Ib s y.p
    else if s.sc.Cz then
     let s1:=Fg (DQ s y.p) y.p
     Gu (s1.CS {s1.sc with wait:=wrap64 (s1.sc.wait-1)}) j
    else
     match G5 s j with
     |none=>N
     |some (id,s1)=>
      if id=0 then
       let s2:=DQ s1 y.p
       Gu {s2 with CD:=Idle.Iv 256 s2.CD y.p} j
      else if 1<=id/\id<=s1.gs.length then Gy s1 j (id-1).toNat else N
  else N
def Gz(j:Nat):Nat->Nat->St->Option St
 |0,_,s=>Z s
 |n+1,p,s=>
  match Iz s p with
  |some k=>if k≠j/\Cx.FV s.stat p=1 then(GR s k).bind (Gz j n (p+1))else Gz j n (p+1) s
  |none=>Gz j n (p+1) s
def MU(s:St)(j:Nat):Option St:=Gz j s.rings.length 0 s
def E9(j:Nat):Nat->Nat->St->Option St
 |0,_,s=>Z s
 |n+1,p,s=>
  let st:=Cx.FV s.stat p
  if st=2 then
   match Iz s p with
   |some k=>match s.ms[k]? with
    |some y=>let s1:=Fg (s.CQ k {y with p:= -1}) p
     E9 j n (p+1) {s1 with CD:=s1.CD.erase (p:Int)}
    |none=>N
   |none=>N
  else if st=0 then
   let s1:=Fg s p
   E9 j n (p+1) {s1 with CD:=s1.CD.erase (p:Int)}
  else if st=1 then
   match s.ms[j]? with
   |none=>N
   |some y=>
    if(p:Int)=y.p then E9 j n (p+1) (Fg s p)
    else
     match Iz s p with
     |some k=>(GR (s.CS {s.sc with wait:=wrap64 (s.sc.wait+1)}) k).bind (E9 j n (p+1))
     |none=>N
  else E9 j n (p+1) s
def K1(s:St)(j:Nat):Option St:=
 match s.ms[j]? with
 |none=>N
 |some y=>E9 j s.rings.length 0 ((s.CS {s.sc with Cz:=tZ}).CQ j {y with phase:=3})
def Kv(s:St)(k:Int)(i:Nat)(n:Int):Option St:=
 match s.gs[i]? with
 |some x=>Z (s.CS {s.sc with kind:=k,eg:=(i:Int)+1,Kl:=x.fn,Km:=x.Dr,en:=n,seen:=tZ})
 |none=>N
def IM(j:Nat):Nat->Nat->St->Option St
 |0,_,s=>Z s
 |n+1,p,s=>
  match s.ms[j]?,s.asked[p]? with
  |some y,Z a=>
   if(p:Int)=y.p\/Cx.FV s.stat p≠1 then IM j n (p+1) {s with asked:=s.asked.set p ⟨a.pre,a.Eo,wrap64 (a.count+1)⟩}
   else
    match Iz s p with
    |some k=>(GR {s with asked:=s.asked.set p ⟨a.pre,tZ,a.count⟩,sc:={s.sc with wait:=wrap64 (s.sc.wait+1)}} k).bind (IM j n (p+1))
    |none=>N
  |_,_=>N
def N5(s:St)(j:Nat):Option St:=
 match s.ms[j]? with
 |none=>N
 |some y=>IM j s.rings.length 0 (s.CQ j {y with phase:=4})
def Ic(s:St)(j:Nat)(op:Int):Option St:=
 match s.ms[j]? with
 |none=>N
 |some y=>
  if 1<=y.g/\s.waits.length<100000 then
   match s.gs[(y.g-1).toNat]? with
   |none=>N
   |some x=>
    let s1:St:={s with owner:=Dg.OM s.owner y.g,waits:=Dg.ON s.owner s.waits y.g}
    if Dg.NC s.owner y.g then
     (Kv s1 1 (y.g-1).toNat 0).bind λs2=>
      let a:=(s2.CJ (y.g-1).toNat {x with begun:=tZ}).CS {s2.sc with wait:=0}
      if op=19 then N5 a j else K1 a j
    else
     (Gw (s1.CJ (y.g-1).toNat {x with CA:=tZ}) j).map λr=>r.2.mv r.1 4
  else N
def EM(s:St)(i:Nat):Option St:=
 if s.waits.length<100000 then
  let id:=Dg.P9 s.owner s.waits ((i:Int)+1)
  let s1:St:={s with owner:=Dg.Qa s.owner s.waits ((i:Int)+1),waits:=Dg.Qb s.owner s.waits ((i:Int)+1)}
  if id=0 then Z s1
  else if 1<=id then
   match s1.gs[(id-1).toNat]? with
   |none=>N
   |some x=>
    let s2:=s1.CJ (id-1).toNat {x with CA:=tY}
    if 8<=x.word then Z s2 else Ec s2 (-1) (id-1).toNat tY
  else N
 else N
def Dw(self:Int):List Int->Nat->Int->List Int×List Int
 | [],_,_=>([],[])
 |n::r,i,ms=>
  if(i:Int)=self then Dw self r (i+1) ms
  else if 0<n/\0<ms then let o:=Dw self r (i+1) (ms-1);((i:Int)::o.1,o.2)
  else let o:=Dw self r (i+1) ms;(o.1,(i:Int)::o.2)
def Ie(waits:List Int)(self a:Int):List Int×List Int:=Dw self waits 0 a
def fz:List Int->St->Option St
 | [],s=>Z s
 |p::r,s=>(FX (dR s p) p).bind λx=>fz r x.2
def JH:List Int->St->Option St
 | [],s=>Z s
 |p::r,s=>
  if 0<=p/\p<s.rings.length/\s.all.length<100000 then
   let s1:=dR s p
   let s2:St:={s1 with CD:=Idle.Iv 256 s1.CD p}
   JH r (({s2 with rings:=s2.rings.set p.toNat ⟨0,[]⟩}:St).put (Ring.C7 (Eb s2 p.toNat).CI (Eb s2 p.toNat).row))
  else N
def G6(s:St)(j:Nat):Option St:=
 match s.ms[j]? with
 |none=>N
 |some y=>
  if 1<=s.sc.CF/\s.sc.CF<=s.gs.length then
   let i:=(s.sc.CF-1).toNat
   let s1:=s.CS {s.sc with CF:=0,Cz:=tY}
   let a:=Ie ((UF s1.rings).map λl=>(l.length:Int)) y.p (GS s1)
   (fz a.1 s1).bind λs2=>(JH a.2 s2).bind λb=>
    match b.ms[j]? with
    |none=>N
    |some y3=>(EM (dR b y3.p) i).bind Hg
  else N
def Fh(s:St)(x:G):Option CP:=if 0<=x.fn/\0<=x.Dr then(s.funcs[x.fn.toNat]?).bind λf=>f.code[x.Dr.toNat]? else N
def F4(x:G)(i:CP)(a:Int):List Int:=
 if i.op=1 then x.CO.set i.a.toNat i.n
 else if i.op=2 then x.CO.set i.a.toNat (wrap64 (rg x i.b.toNat+rg x i.c.toNat))
 else if i.op=3 then x.CO.set i.a.toNat (wrap64 (rg x i.b.toNat-rg x i.c.toNat))
 else if i.op=4 then x.CO.set i.a.toNat (wrap64 (rg x i.b.toNat*rg x i.c.toNat))
 else if i.op=5 then x.CO.set i.a.toNat (if rg x i.b.toNat<rg x i.c.toNat then 1 else 0)
 else if(D3.row i.op).asks then x.CO.set i.a.toNat a
 else x.CO
def FY(x:G)(i:CP)(a:Int):Int:=if i.op=15 then rg x i.a.toNat else if(D3.row i.op).asks then a else 0
def GA(x:G)(i:CP):Bool:=decide (i.op=14\/(i.op=8/\x.stack.length=16)\/(i.op=9/\x.stack=[]))
def LD(x:G):G:={x with fn:=0,Dr:=0,CO:=[0,0,0,0,0,0,0,0],done:=tZ,stack:=[]}
def GB(x:G)(i:CP)(CO:List Int):G:=
 if i.op=8 then{x with CO:=CO,fn:=i.n,Dr:=0,stack:=x.stack++[(x.fn,wrap64 (x.Dr+1))]}
 else if i.op=9 then{x with CO:=CO,fn:=(x.stack.getLast?.getD (0,0)).1,Dr:=(x.stack.getLast?.getD (0,0)).2,stack:=x.stack.dropLast}
 else{x with CO:=CO,Dr:=Vm.Vx i.op i.n (rg x i.a.toNat) (wrap64 (x.Dr+1))}
def Fi(r:Int):Prop:=0<=r/\r<8
instance (r:Int):Decidable (Fi r):=by unfold Fi;infer_instance
def dS(x:G)(i:CP)(a:Int):Option (G×Int):=
 if x.done=tY/\Fi i.a/\Fi i.b/\Fi i.c then
  Z (if GA x i then(LD x,0)else(GB x i (F4 x i a),FY x i a))
 else N
def Dc(s:St)(j:Nat)(b:Int):Option St:=
 match s.ms[j]? with
 |none=>N
 |some y=>
  if 1<=y.g then
   let i:=(y.g-1).toNat
   match s.gs[i]? with
   |none=>N
   |some x=>
    (Fh s x).bind λins=>(dS x ins b).bind λr=>(Kv s 2 i r.2).bind λs1=>
     let s2:=s1.CJ i {r.1 with begun:=tY}
     let u:=wrap64 (y.used+1)
     let c:=s2.CQ j {y with used:=u}
     (if u=20 then GR c j else Z c).bind λa=>
      if r.1.done then
       (if a.sc.CF=y.g then G6 a j else Z a).bind λd=>(Gw d j).map λq=>q.2.mv q.1 6
      else Z a
  else N
def LF(s:St)(j:Nat):Option St:=
 match s.ms[j]? with
 |none=>N
 |some y=>if 0<s.sc.wait then MU s j else Dc ((s.CQ j {y with phase:=2}).CS {s.sc with CF:=y.g}) j 0
def GU(s:St)(fn arg:Int):St:={s with gs:=s.gs++[⟨1,fn,0,[arg,0,0,0,0,0,0,0],tY,tY,tY,tY,tY,0,[]⟩]}
def tgt(s:St)(x:G)(a:Int):Option Nat:=if 1<=rg x a.toNat/\rg x a.toNat<=s.gs.length then Z (rg x a.toNat-1).toNat else N
def Is(w:Int)(self hold:Bool):Int:=if self then 0 else if 8<=w then(if hold then 0 else 2)else if w=1\/w=3\/w=4\/w=5 then 4 else if w=6 then 1 else 3
def G7(s:St)(k:Nat):Int:=(s.gs[k]?.getD g0).word
def D7(s:St)(i:Nat)(t:Option Nat):Int:=match t with
 |none=>0
 |some k=>Is (G7 s k) (decide (k=i)) (decide (s.sc.CF=(i:Int)+1))
def K2(s:St)(i:Nat)(x:G)(ins:CP):Bool:=decide (ins.op=20)&&x.begun&&decide (D7 s i (tgt s x ins.a)≠3/\D7 s i (tgt s x ins.a)≠2)
def MV(k:Nat)(s:St):Option St:=
 match s.gs[k]? with
 |some x=>if s.owner=(k:Int)+1/\x.begun=tY then EM s k else Z s
 |none=>N
def UH(k:Nat)(s:St):Option St:=
 match s.gs[k]? with
 |some x=>if s.waits.length<100000 then MV k (if x.CA then{s.CJ k {x with CA:=tY}with waits:=s.waits.erase ((k:Int)+1)}else s)else N
 |none=>N
def JI(s:St)(k:Nat):Option St:=
 match s.gs[k]? with
 |some x=>(K0 (s.CJ k {x with word:=x.word+8,Db:=0}) k).bind (UH k)
 |none=>N
def Eu(g:Int):Nat->Nat->St->Option St
 |0,_,s=>Z s
 |n+1,k,s=>
  match s.ms[k]? with
  |some y=>if y.g=g then(GR s k).bind (Eu g n (k+1))else Eu g n (k+1) s
  |none=>N
def Hh(s:St)(k:Nat):Option St:=Eu ((k:Int)+1) s.ms.length 0 s
def K4(s:St)(p:Int)(t:Option Nat):Option (Int×St):=
 match t with
 |none=>Z (0,s)
 |some k=>
  match s.gs[k]? with
  |none=>N
  |some x=>
   if x.word=6 then Z (0,s)
   else if x.blocked=tY then Z (1,s.CJ k {x with token:=tZ})
   else
    let s1:=s.CJ k {x with blocked:=tY}
    if 8<=x.word then Z (1,s1)else(Ec s1 p k tZ).map λs2=>(1,s2)
def MW(w:Int)(dP:Bool):Int:=if w<8 then 0 else if w=12 then(if dP then 2 else 1)else if w=13 then 2 else 1
def Jg(s:St)(p:Int)(t:Option Nat):Option (Int×St):=
 match t with
 |none=>Z (0,s)
 |some k=>
  match s.gs[k]? with
  |none=>N
  |some x=>
   let a:=MW x.word (!x.blocked&& !x.CA)
   if a=0 then Z (0,s)
   else
    let s1:=s.CJ k {x with word:=x.word-8}
    if a=2 then(Ec s1 p k tY).map λs2=>(1,s2)else Z (1,s1)
def Ed(l:List Rs)(q:List Int):List Int:=l.foldl (λq r=>C4.right (Ring.C7 r.CI r.row)++q) q
def Ee(l:List Pr)(n:Nat):List Pr:=
 if Cx.cnt 3 l=l.length-Cx.cnt 4 l then
  ((l++tW (n-l.length) (4,-1)).take n).map (λ(x:Pr)=>if x.1=4 then(3,-1)else x)++tW (l.length-n) (4,-1)
 else l
def FB(s:St)(j:Nat)(n:Int):Option (Int×St):=
 match s.ms[j]? with
 |none=>N
 |some y=>
  if s.sc.CF≠y.g\/n<1\/256<n then Z (0,s)
  else if s.stat.length<=256/\s.all.length<100000/\1<=s.rings.length then
   let a:=n.toNat
   let s1:St:={s with stat:=Ee s.stat a,rings:=s.rings.take a++tW (a-s.rings.length) r0,all:=Ed (s.rings.drop a) s.all,asked:=s.asked.take a++tW (a-s.asked.length) p0}
   if n<=y.p then
    let s2:=dR (s1.CQ j {y with p:=0}) 0
    Z (1,Fg {s2 with stat:=Cx.Mh s2.stat 0 j (λ_ _=>(1,j)) (λs _=>s==0)} 0)
   else Z (1,s1)
  else N
def Ig(s:St)(j i:Nat)(ins:CP):Option (Int×St):=
 match s.ms[j]?,s.gs[i]? with
 |some y,Z x=>
  if ins.op=10 then
   if s.sc.G2<=s.gs.length then Z (-1,s)
   else if s.gs.length<64 then(Ec (GU s ins.n (rg x ins.a.toNat)) y.p s.gs.length tZ).map λa=>((s.gs.length:Int)+1,a)else N
  else if ins.op=13 then K4 s y.p (tgt s x ins.a)
  else if ins.op=21 then Jg s y.p (tgt s x ins.a)
  else if ins.op=22 then FB s j (rg x ins.a.toNat)
  else if ins.op=23 then Z ((i:Int)+1,s)
  else Z (0,s)
 |_,_=>N
def JW(s:St)(j:Nat)(alone:Bool):Option St:=
 match s.ms[j]? with
 |none=>N
 |some y=>
  if 1<=y.g then
   (Dc s j 0).bind λs1=>
    if alone then Z s1
    else
     match s1.gs[(y.g-1).toNat]? with
     |none=>N
     |some x=>
      if x.token then Z (s1.CJ (y.g-1).toNat {x with token:=tY})
      else(Gw (s1.CJ (y.g-1).toNat {x with blocked:=tZ}) j).map λq=>q.2.mv q.1 4
  else N
def SV(s:St)(j:Nat)(ins:CP)(alone:Bool):Option St:=
 match s.ms[j]? with
 |none=>N
 |some y=>
  if alone then Dc s j 0
  else if 0<=y.p/\1<=y.g then
   match s.asked[y.p.toNat]?,s.gs[(y.g-1).toNat]? with
   |some a,Z x=>
    if a.Eo then Ib s y.p
    else if s.sc.Cz then Gx s j
    else
     (Dc (s.CQ j {y with left:=Dk (rg x ins.a.toNat) 8}) j 0).bind λs1=>
      match s1.ms[j]? with
      |none=>N
      |some b=>if 1<=b.g then
        let s2:=s1.mv (b.g-1).toNat 3
        Z ({s2 with stat:=Cx.Dn s2.stat b.p (λ_ c=>(2,c)) (λs _=>s==1)}.CQ j {b with phase:=5})
       else N
   |_,_=>N
  else N
def GD(s:St)(j:Nat)(ins:CP)(alone:Bool):Option St:=
 match s.ms[j]? with
 |none=>N
 |some y=>
  if 1<=y.g then
   let i:=(y.g-1).toNat
   match s.gs[i]? with
   |none=>N
   |some x=>
    let t:=tgt s x ins.a
    if alone=tY/\t≠N/\t≠Z i/\x.begun=tY then
     (Kv s 1 i 0).map λs1=>s1.CJ i {x with begun:=tZ}
    else
     let a:=D7 s i t
     match t with
     |none=>Dc s j (-1)
     |some k=>
      if a=3 then
       match s.gs[k]? with
       |some z=>Hh (s.CJ k {z with Db:=y.g}) k
       |none=>N
      else if a=2 then Gx s j
      else if a=4 then(JI s k).bind λs1=>Dc s1 j 1
      else Dc s j (if a=0 then-1 else 0)
  else N
def Yg(s:St)(j:Nat)(ins:CP):Option St:=
 match s.ms[j]? with
 |none=>N
 |some y=>
  let alone:=decide (s.sc.CF=y.g)
  if ins.op=17\/ins.op=19 then(if alone then Dc s j 0 else Ic s j ins.op)
  else if ins.op=18 then(Dc s j 0).bind λs1=>if alone then G6 s1 j else Z s1
  else if ins.op=11 then(Dc s j 0).bind λs1=>if alone then Z s1 else Gx s1 j
  else if ins.op=12 then JW s j alone
  else if ins.op=16 then SV s j ins alone
  else if ins.op=20 then GD s j ins alone
  else if 1<=y.g then(Ig s j (y.g-1).toNat ins).bind λr=>Dc r.2 j r.1
  else N
def Ih(s:St)(j:Nat)(p:Int):Option St:=
 match s.ms[j]?,s.asked[p.toNat]? with
 |some y,Z a=>if 0<=p then Z {s with ms:=s.ms.set j {y with CU:=tY},asked:=s.asked.set p.toNat ⟨tY,a.Eo,a.count⟩}else N
 |_,_=>N
def Zm(s:St)(x:G):Option CP:=(Fh s x).bind λi=>if Fi i.a then Z i else N
def O4(s:St)(j:Nat):Option St:=
 match s.ms[j]? with
 |none=>N
 |some b=>
  if 1<=b.g then
   match s.gs[(b.g-1).toNat]? with
   |none=>N
   |some x=>
    (Zm s x).bind λins=>
     if s.sc.CF=b.g then Yg s j ins
     else
      let y:=if x.begun then{b with used:=min b.used 19}else b
      let s1:=if x.begun then s.CQ j y else s
      if 0<=y.p then
       match s1.asked[y.p.toNat]?,s1.funcs[x.fn.toNat]? with
       |some a,Z f=>
        let act:=FU.Jb f.code.length f.safe x.Dr y.CU a.pre a.Eo s1.sc.Cz (decide (x.Db≠0)) (decide (20<=y.used))
        if act=1 then Ib s1 y.p
        else if act=2 then(if K2 s1 (y.g-1).toNat x ins then Yg s1 j ins else(Ih s1 j y.p).bind λs2=>(Gw s2 j).bind λq=>K0 (q.2.mv q.1 5) q.1)
        else if act=3 then(Ih s1 j y.p).bind λs2=>Gx s2 j
        else if act=4 then Ih s1 j y.p
        else Yg s1 j ins
       |_,_=>N
      else N
  else N
def QA(s:St)(j:Nat):Option St:=
 match s.ms[j]? with
 |none=>N
 |some y=>if 0<s.sc.wait then MU s j else if 1<=y.g then(Dc (s.CQ j {y with phase:=2}) j 0).bind λs1=>EM s1 (y.g-1).toNat else N
def call2(s:St)(j:Nat)(g:Int):Option St:=
 match s.gs[(g-1).toNat]? with
 |none=>N
 |some x=>
  if 8<=x.word then Gx s j
  else
   let s1:=s.mv (g-1).toNat 2
   match s1.ms[j]? with
   |some y=>Z (s1.CQ j {y with phase:=2})
   |none=>N
def Kw(s:St)(j:Nat):Option St:=
 match s.ms[j]? with
 |none=>N
 |some y=>
  if 0<y.left then Z (s.CQ j {y with left:=wrap64 (y.left-1)})
  else if 1<=y.g then
   if y.p≠ -1 then call2 {s with stat:=Cx.Mh s.stat y.p j (λ_ _=>(1,j)) (λs a=>s==2&&a==(j:Int))} j y.g
   else if s.CD≠[]/\s.sc.Cz=tY then
    let p:=s.CD.headD 0
    let s1:St:={s with CD:=s.CD.erase p,stat:=Cx.Mh s.stat p j (λ_ _=>(1,j)) (λs _=>s==0)}
    call2 (s1.CQ j {y with p:=p}) j y.g
   else(Gw s j).bind λq=>(Gu q.2 j).bind λs1=>Ec s1 (-1) q.1 tY
  else N
def FN(s:St)(pick EC draw:Int):Option St:=
 let s1:=s.CS {s.sc with now:=wrap64 (s.sc.now+1),pick:=pick,EC:=EC,draw:=draw,kind:=0,eg:=0,Kl:=0,Km:=0,en:=0,seen:=tY}
 let j:=(Dk pick s1.ms.length).toNat
 match s1.ms[j]? with
 |none=>N
 |some y=>
  if y.phase=0 then Z s1
  else if j<64 then
   let s2:St:={s1 with box:=Kt s1.box j s1.sc.now,ms:=s1.ms.set j {y with CU:=Iy s1.box j s1.sc.now||y.CU}}
   if y.phase=1 then Ku s2 j
   else if y.phase=2 then O4 s2 j
   else if y.phase=3 then LF s2 j
   else if y.phase=4 then QA s2 j
   else if y.phase=5 then Kw s2 j
   else Z s1
  else N
def G8(funcs:List Fn)(a cg cm:Int):St:=
 let n:=a.toNat
 {funcs:=funcs,sc:=⟨a,cg,cm,0,0,0,0,tY,0,0,0,0,0,0,0,tY⟩,gs:=[⟨1,0,0,[0,0,0,0,0,0,0,0],tY,tY,tY,tY,tY,0,[]⟩],ms:=[⟨0,0,1,tY,0,0,0⟩],asked:=tW n p0,rings:=⟨0,[1]⟩::tW (n-1) r0,stat:=(1,0)::tW (n-1) (0,-1),all:=[],CL:=[],CD:=(List.range (n-1)).map λ(i:Nat)=>(i:Int)+1,owner:=0,waits:=[],box:=tW 64 N}
end
def QB(x:Int):Int:=if x=1\/x=3\/x=4\/x=5 then 0 else 9
def Zn(x:Int):Int:=if x=1\/x=3\/x=4\/x=5 then x+8 else 0
theorem MX{x:Int}(h:D9.Dt x)(a:x<8):(bits .and .i64 58 (D9.pw x)==0)=decide (QB x=9)/\bits .or .i64 x 8=x+8:=by
 have key: ∀x∈([0,1,2,3,4,5,6]:List Int),(bits .and .i64 58 (D9.pw x)==0)=decide (QB x=9)/\bits .or .i64 x 8=x+8:=by decide+kernel
 refine key x ?_;unfold D9.Dt at h;simp;omega
theorem Wk(x:Int)(w:rO)(h:D9.Dt x)(d:x<8):tT prog 344 #[I U x] w λe j=>e=ui (uo #[I U (Zn x),I U (QB x)])/\w=j:=by
 obtain⟨f,k⟩:=MX h d;have g:=Aa (λw=>D9.EY x w h);have c:=Aa (λw=>D9.FK x w h);have i:=Aa (λw=>D9.OW x w (by unfold D9.Dt at h;omega) (by unfold D9.Dt at h;omega));rw[show decide (8<=x)=tY by simpa using d]at c;unfold Zn QB at*
 by_cases b:x=1\/x=3\/x=4\/x=5
 ·rw[Ai b]at*
  rw[Ai b];simp only[show¬(0:Int)=9 by decide,decide_false]at f;go_enter func344,ntmps344;go_wp2_with(first|(go_at_call 152;refine(g.out _).mono ?_;rintro e a⟨rfl,rfl⟩)|(go_at_call 96;refine(c.out _).mono ?_;rintro e a⟨rfl,rfl⟩)|(go_at_call 221;refine(i.out _).mono ?_;rintro e a⟨rfl,rfl⟩));go_ret2;exact⟨rfl,rfl⟩
 ·rw[Ah b]at*
  rw[Ah b];simp only[decide_true]at f;go_enter func344,ntmps344;go_wp2_with(first|(go_at_call 152;refine(g.out _).mono ?_;rintro e a⟨rfl,rfl⟩)|(go_at_call 96;refine(c.out _).mono ?_;rintro e a⟨rfl,rfl⟩)|(go_at_call 221;refine(i.out _).mono ?_;rintro e a⟨rfl,rfl⟩));go_ret2;exact⟨rfl,rfl⟩
theorem Wl(x:Int)(self hold:Bool)(w:rO)(h:D9.Dt x):tT prog 310 #[I U x,ue self,ue hold] w λe j=>e=ui (I U (Is x self hold))/\w=j:=by
 have f:=Aa (λw=>D9.EY x w h);have c:=Aa (λw=>D9.FK x w h);have k:=Aa (λw(d:x<8)=>Wk x w h d);unfold Is;cases self with
 |true=>go_enter func310,ntmps310;go_wp2;go_ret;exact⟨rfl,rfl⟩
 |false=>
  by_cases d:8<=x
  ·rw[show decide (8<=x)=tZ by simpa using d]at c
   cases hold
   ·simp only[d,BD,A6,Bn]
    go_enter func310,ntmps310;go_wp2_with(first|(go_at_call 152;refine(f.out _).mono ?_;rintro e b⟨rfl,rfl⟩)|(go_at_call 96;refine(c.out _).mono ?_;rintro e b⟨rfl,rfl⟩));go_ret;exact⟨rfl,rfl⟩
   ·simp only[d,BD,A6,Bn]
    go_enter func310,ntmps310;go_wp2_with(first|(go_at_call 152;refine(f.out _).mono ?_;rintro e b⟨rfl,rfl⟩)|(go_at_call 96;refine(c.out _).mono ?_;rintro e b⟨rfl,rfl⟩));go_ret;exact⟨rfl,rfl⟩
  ·rw[show decide (8<=x)=tY by simpa using d]at c
   have a:=Aa (λw=>k.out w (by omega));simp only[d,Bn,A6];unfold Zn QB at a;by_cases i:x=1\/x=3\/x=4\/x=5
   ·simp only[i,BD]at a⊢
    go_enter func310,ntmps310;go_wp2_with(first|(go_at_call 152;refine(f.out _).mono ?_;rintro e b⟨rfl,rfl⟩)|(go_at_call 96;refine(c.out _).mono ?_;rintro e b⟨rfl,rfl⟩)|(go_at_call 344;refine(a.out _).mono ?_;rintro e b⟨rfl,rfl⟩));go_ret;exact⟨rfl,rfl⟩
   ·simp only[i,Bn]at a⊢
    by_cases g:x=6
    ·subst g
     simp only[BD];go_enter func310,ntmps310;go_wp2_with(first|(go_at_call 152;refine(f.out _).mono ?_;rintro e b⟨rfl,rfl⟩)|(go_at_call 96;refine(c.out _).mono ?_;rintro e b⟨rfl,rfl⟩)|(go_at_call 344;refine(a.out _).mono ?_;rintro e b⟨rfl,rfl⟩));go_ret;exact⟨rfl,rfl⟩
    ·have l:(x==6)=false:=by simpa using g
     simp only[g,Bn];go_enter func310,ntmps310;go_wp2_with(first|(go_at_call 152;refine(f.out _).mono ?_;rintro e b⟨rfl,rfl⟩)|(go_at_call 96;refine(c.out _).mono ?_;rintro e b⟨rfl,rfl⟩)|(go_at_call 344;refine(a.out _).mono ?_;rintro e b⟨rfl,rfl⟩));go_ret;exact⟨rfl,rfl⟩
theorem QC(x:Int)(r:Bool)(w:rO)(h:D9.Dt x):tT prog 341 #[I U x,ue r] w λe f=>e=ui (I U (MW x r))/\w=f:=by
 have c:=Aa (λw=>D9.Qt x w h);have a:=Aa (λw=>D9.FK x w h);have hw:=h;unfold D9.Dt at hw;unfold MW D9.E7 at*
 by_cases g:8<=x
 ·have b:x=9\/x=11\/x=12\/x=13:=by omega
  rcases b with rfl|rfl|rfl|rfl<;>cases r
  all_goals
   simp at c a⊢;go_enter func341,ntmps341;go_wp2_with(first|(go_at_call 226;refine(c.out _).mono ?_;rintro e d⟨rfl,rfl⟩)|(go_at_call 96;refine(a.out _).mono ?_;rintro e d⟨rfl,rfl⟩));go_ret;exact⟨rfl,rfl⟩
 ·rw[Ai (by omega)]
  rw[show decide (8<=x)=tY by simpa using g]at a;go_enter func341,ntmps341;go_wp2_with(first|(go_at_call 96;refine(a.out _).mono ?_;rintro e d⟨rfl,rfl⟩));go_ret;exact⟨rfl,rfl⟩
def kB(a:Int):Int:=if a=0 then-1 else if a=4 then 1 else 0
theorem LG(a:Int)(w:rO)(h:a=0\/a=1\/a=4):tT prog 305 #[I U a] w λe b=>e=ui (uo #[I U (kB a),ue tZ])/\w=b:=by
 rcases h with rfl|rfl|rfl
 all_goals
  go_enter func305,ntmps305;go_wp2;go_ret2;exact⟨rfl,rfl⟩
end C2
namespace Cx
theorem Wm(b c:Nat)(m s a:Int)(w:rO)(g:Cy w b #[I U m] 3)(d:Cy w c #[I U 2,I U m] 201):tT prog 263 #[.agg #[I U s,I U a],J (Z ⟨b,0,N⟩),J (Z ⟨c,0,N⟩)] w (Ix (1,m) (decide (s=2/\a=m)) w):=by
 have c0:=g.cell 0;have i:=g.lt;have j:=d.cell 0;have k1:=d.cell 1;have k:=d.lt;simp only[Ad,Ac,Ag]at c0 j k1;by_cases e:s=2
 ·subst e
  by_cases f:a=m
  ·subst f
   rw[A8 ⟨rfl,rfl⟩];go_enter func263,ntmps263;go_wp2;go_region
   all_goals
    go_wp2;refine AM (v:=uo #[.agg #[I U (1),I U (a)],ue (tZ)]) ?_ rfl ⟨rfl,Ce (Cu (Cu (tU _ _) _) _) 1⟩;rw[B6 rfl];simp only[asAddr];go_simp
  ·have l:(a==m)=false:=by rw[Az];exact f
   rw[Bi (λh=>f h.2)];go_enter func263,ntmps263;go_wp2;go_region
   all_goals
    go_wp2;refine AM (v:=uo #[.agg #[I U (1),I U (m)],ue (tY)]) ?_ rfl ⟨rfl,Ce (Cu (Cu (tU _ _) _) _) 1⟩;rw[B6 rfl];simp only[asAddr];go_simp
 ·have l:(s==2)=false:=by rw[Az];exact e
  rw[Bi (λh=>e h.1)];go_enter func263,ntmps263;go_wp2;go_region
  all_goals
   go_wp2;refine AM (v:=uo #[.agg #[I U (1),I U (m)],ue (tY)]) ?_ rfl ⟨rfl,Ce (Cu (Cu (tU _ _) _) _) 1⟩;rw[B6 rfl];simp only[asAddr];go_simp
theorem SW(t:Nat)(tv:tR)(l:List Pr)(p:Int)(b c:Nat)(m:Int)(w:rO)(h:Tb w t tv l)(H:Cy w b #[I U m] 3)(K:Cy w c #[I U 2,I U m] 201):tT prog 166 #[J (Z ⟨t,0,N⟩),I U p,.func (.func 263) #[] #[J (Z ⟨b,0,N⟩),J (Z ⟨c,0,N⟩)]] w (Dq t tv (Dn l p (λs f=>(1,m)) (G1 m)) (El l p (G1 m)) w):=by
 unfold Dn El;by_cases o:0<=p/\p<l.length
 ·rw[Ai o,Ai o]
  obtain⟨i,rfl⟩:=AF o.1;rw[Am];have E:i<l.length:=by omega
  obtain⟨a,cap,rfl⟩:=h.slice;obtain⟨R,g,rfl,c0,c1⟩:=h.at i E;have z:=Aa (JD t g _ cap l i w h E);have r:=h.free (i*2);have q:=Aa h;have L:=Aa E;obtain⟨s,G⟩: ∃s,(l[i]?.getD pz).1=s:=⟨_,rfl⟩;obtain⟨f,u⟩: ∃f,(l[i]?.getD pz).2=f:=⟨_,rfl⟩;rw[G,u];rw[G]at c0;rw[u]at c1;have F:=Aa (Wm b c m s f w H K);obtain⟨A,v⟩: ∃A,Hid ((G1 m) s f=A):=⟨_,rfl⟩;obtain⟨B,C,y⟩: ∃B C:Int,Hid (((λs f=>(1,m)):Int->Int->Pr) s f=(B,C)):=⟨_,_,rfl⟩;rw[v.out,y.out];rw[show Ix _ _ _=Ix (B,C) A w from by rw[<-v.out,<-y.out]]at F;obtain⟨n,M⟩: ∃n,Hid (l.length=n):=⟨_,rfl⟩;rw[M.out]at q⊢;cases A with
  |true=>rw[Ai rfl,Ai rfl];go_enter func166,ntmps166;go_wp2_with fail;refine z.out.mono ?_;rintro e D⟨rfl,rfl⟩;go_wp2_with fail;refine F.out.mono ?_;rintro e D⟨rfl,d⟩;have j:=Aa d;have k:=q.out.below d;have O:=(k.free 0).2;have P:=(k.free (i*2)).1;have Q:=(k.free (i*2+1)).1;have e0:=(d.cell (p:=⟨g,i*2,N⟩) r.2).trans c0;have S:=(d.cell (p:=⟨g,i*2+1,N⟩) r.2).trans c1;go_wp2_with fail;go_ret;exact Dq.put (x:=(B,C)) q.out j.out L.out
  |false=>rw[Ah (by decide),Ah (by decide)];go_enter func166,ntmps166;go_wp2_with fail;refine z.out.mono ?_;rintro e D⟨rfl,rfl⟩;go_wp2_with fail;refine F.out.mono ?_;rintro e D⟨rfl,d⟩;have j:=Aa d;go_wp2_with fail;go_ret;exact Dq.same q.out (Cu j.out _)
 ·rw[Ah o,Ah o]
  have z:=Aa (G0 t tv l p w h o);have q:=Aa h;go_enter func166,ntmps166;go_wp2_with fail;refine z.out.mono ?_;rintro e D⟨rfl,rfl⟩;go_wp2_with fail;go_ret;exact Dq.same q.out (tU _ _)
theorem Zo(t:Nat)(tv:tR)(l:List Pr)(p:Int)(b c:Nat)(m:Int)(w:rO)(h:Tb w t tv l)(y:Cy w b #[I U m] 3)(z:Cy w c #[I U 2,I U m] 201):tT prog 112 #[J (Z ⟨t,0,N⟩),I U p,I U m,.func (.func 263) #[] #[J (Z ⟨b,0,N⟩),J (Z ⟨c,0,N⟩)]] w (Dq t tv (Mh l p m (λs A=>(1,m)) (G1 m)) (jd l p m (G1 m)) w):=by
 have f:=Aa (SW t tv l p b c m w h y z);have v:=Aa h;unfold Mh jd;by_cases d:0<=p/\p<l.length
 ·obtain⟨i,rfl⟩:=AF d.1
  have x:i<l.length:=by omega
  obtain⟨a,cap,rfl⟩:=h.slice;obtain⟨B,g,rfl,c0,c1⟩:=h.at i x;have j:=Aa (JD t g _ cap l i w h x);by_cases hm:JR m
  ·rw[Ai ⟨d,hm⟩,Ai ⟨d,hm⟩]
   by_cases k:m<0
   ·have n:decide (m<0)=true:=by simpa using k
    go_enter func112,ntmps112;go_wp2_with fail;refine j.out.mono ?_;rintro e o⟨rfl,rfl⟩;go_wp2_with fail;go_ret;exact Dq.same v.out (tU _ _)
   ·have n:decide (m<0)=false:=by simpa using k
    have q:decide (64<=m)=true:=by unfold JR at hm;simp;omega
    go_enter func112,ntmps112;go_wp2_with fail;refine j.out.mono ?_;rintro e o⟨rfl,rfl⟩;go_wp2_with fail;go_ret;exact Dq.same v.out (tU _ _)
  ·rw[Ah (λh=>hm h.2),Ah (λh=>hm h.2)]
   have n:decide (m<0)=false:=by unfold JR at hm;simp;omega
   have q:decide (64<=m)=false:=by unfold JR at hm;simp;omega
   go_enter func112,ntmps112;go_wp2_with fail;refine j.out.mono ?_;rintro e o⟨rfl,rfl⟩;go_wp2_with fail;refine f.out.mono ?_;rintro e o⟨rfl,r⟩;have u:=Aa r;go_wp2_with fail;go_ret;exact⟨rfl,u.out⟩
 ·rw[Ah (λh=>d h.1),Ah (λh=>d h.1)]
  have j:=Aa (G0 t tv l p w h d);go_enter func112,ntmps112;go_wp2_with fail;refine j.out.mono ?_;rintro e o⟨rfl,rfl⟩;go_wp2_with fail;refine f.out.mono ?_;rintro e o⟨rfl,r⟩;have u:=Aa r;go_wp2_with fail;go_ret;exact⟨rfl,u.out⟩
theorem Wn(t:Nat)(tv:tR)(l:List Pr)(p m:Int)(w:rO)(h:Tb w t tv l):tT prog 190 #[J (Z ⟨t,0,N⟩),I U p,I U m] w (Dq t tv (Mh l p m (λs d=>(1,m)) (G1 m)) (jd l p m (G1 m)) w):=by have a:=Aa (Zo t tv l p w.heap.size (w.heap.size+1) m ((w.alloc (uj #[I U m] 3)).alloc (uj #[I U 2,I U m] 201)) (h.below (Cu (Cu (tU _ _) _) _)) ((Cy.new w _ 3).alloc _) (Cy.ID _ _ (by simp)));go_enter func190,ntmps190;go_wp2_with fail;refine a.out.mono ?_;rintro e f⟨rfl,b⟩;have c:=Aa (ML (Cu (Cu (tU _ _) _) _) b);go_wp2_with fail;go_ret;exact⟨rfl,c.out⟩
end Cx
end Go.Proofs.YtgadhchejmlfjaaGreatDoor
