/- A part of the proof. -/
import Derived.Test.YtgadhchejmlfjaaGreatDoorA5
set_option linter.unusedVariables false
set_option maxRecDepth 20000
set_option maxHeartbeats 16000000
open Go.Value renaming int->I,pointer->J,slice->Y
open Go.IntKind renaming i64->U
open Option renaming none->N,some->Z
open Bool renaming false->tY,true->tZ
open Go renaming Calls->tT,Ending->uh,Value->tR,World->rO
open Go.Ending renaming returned->ui
open Go.RowKit renaming Below->tS
open Go.RowKit.Below renaming refl->tU
open Go.Value renaming bool->ue
open Go.World renaming setCell->tV
open Go.Proofs.Tryz Go.RowKit Go.CN
namespace Go.Proofs.YtgadhchejmlfjaaGreatDoor
namespace LZ
open Cx (Pr ys pz)
variable {w:rO}{g n cap b:Nat}{D:Nat->Option Int}
theorem fA(l:List Pr)(y:Int): ∀i,i<l.length->ys (l.set i ((l[i]?.getD pz).1,y))=(ys l).set (i*2+1) (I U y):=by
 induction l with
 |nil=>intro i a;simp at a
 |cons x l b=>
  intro i a;cases i with
  |zero=>simp[ys]
  |succ i=>have h:=b i (by simpa using a);rw[Ck,show(i+1)*2+1=(i*2+1)+1+1 by omega];simp only[Ag,ys];rw[h];simp
theorem SX{l:List Pr}(h:w.ownsRow 0 222 2 (Y (Z ⟨g,0,N⟩) n cap) l.length (ys l))(i:Nat)(c:i<l.length)(y:Int):(w.setCell ⟨g,i*2+1,N⟩ (I U y)).ownsRow 0 222 2 (Y (Z ⟨g,0,N⟩) n cap) (l.set i ((l[i]?.getD pz).1,y)).length (ys (l.set i ((l[i]?.getD pz).1,y)))/\w.frozen? ⟨g,i*2+1,N⟩=false:=by
 obtain⟨o,⟨d,_⟩|⟨p,a,cur,he,e,f,j,hm,k,m⟩⟩:=h
 ·cases d
 ·simp only[As,Ak,BN]at he
  obtain⟨⟨rfl,_⟩,rfl,rfl⟩:=he;have b:Cy w g cur 222:=f;refine⟨⟨by rw[Cx.MJ],.inr ⟨g,cap,_,by rw[AX],e,b.set (i*2+1) (I U y),by rw[AX];exact j,hm,by simpa using k,?_⟩⟩,b.free _⟩;rw[AX,fA l y i c,<-m];simp[Zcc]
theorem Hx.kC{c:Nat}{i k:Nat}{d:Int}(h:Hx b (Y (Z ⟨g,0,N⟩) c cap) D n i ((k:Int),d) w)(u:i<n)(y:Int):Hx b (Y (Z ⟨g,0,N⟩) c cap) (λs=>if s=k then Z y else D s) n i ((k:Int),y) (w.setCell ⟨g,i*2+1,N⟩ (I U y))/\w.frozen? ⟨g,i*2+1,N⟩=false:=by
 obtain⟨l,F,f,v,x,z,A⟩:=h.bx;have a:i<l.length:=by omega
 have B:=A u;obtain⟨C,E⟩:=SX f.row i a y;have r:b≠g:=λe=>f.ne (by rw[e];rfl);have q:(l[i]?.getD pz).1=k:=by rw[B]
 have p: ∀m,m<l.length->((l.set i ((l[i]?.getD pz).1,y))[m]?.getD pz).1=(l[m]?.getD pz).1:=λm hm=>by
  rw[Ay];by_cases e:i=m
  ·subst e;simp[a]
  ·simp[e]
 refine⟨⟨l.set i ((l[i]?.getD pz).1,y),F,⟨f.cs.setOther r _,C,f.ne,λm hm=>?_,λm hm=>?_⟩,by simp[v],λm hm=>?_,λm hm t=>?_,λ_=>?_⟩,E⟩
 ·simp only[AX]at hm
  rw[p m hm];exact f.at_ m hm
 ·rcases f.idx m hm with G|⟨j,o,a2,a3⟩
  ·exact .inl G
  ·exact .inr ⟨j,o,by simpa using a2,by rw[p j a2];exact a3⟩
 ·rw[p m (by omega)]
  by_cases e:i=m
  ·subst e;rw[Ai (by rw[q];simp)];simp[a]
  ·rw[Ah (λH=>?_)]
   ·rw[x m hm,Ay];simp[e]
   ·have o:=f.at_ i a
    have a2:=f.at_ m (by omega);rw[q]at o;simp only[Am]at o;rw[H,o.2.2]at a2;omega
 ·rw[Ah (λe=>?_)]
  ·exact z m hm t
  ·have o:=f.at_ i a
   rw[q]at o;simp only[Am]at o;rw[e,o.2.2]at t;omega
 ·rw[q];simp[a]
theorem Hx.c0{v:tR}{m:Nat}{q:Pr}(h:Hx b v D n m q w):w.cell? ⟨b,0,N⟩=Z v:=by obtain⟨l,F,a,_⟩:=h.bx;have:=a.cs.cell (i:=0) (by decide);simpa using this
def fB(b:Nat)(v:tR)(D:Nat->Option Int)(w w':rO):Prop:= ∃c a m' d,Hx b c D a m' d w'/\a<=m'/\a<=64/\Cw (Bf b v) w w'/\ ∀j,Bf b c j->Bf b v j\/w.heap.size<=j
def IP(D:Nat->Option Int)(k:Nat)(due:Int)(a:Nat):Option Int:=if a=k then(match D k with|none=>Z due|some d=>if due<d then Z due else Z d)else D a
def UI(b:Nat)(v:tR)(D:Nat->Option Int)(w:rO)(e:uh)(w':rO):Prop:=(∃r,e=ui (ue r))/\fB b v D w w'
theorem Zp(b:Nat)(v:tR)(D:Nat->Option Int)(n m:Nat)(q:Pr)(k:Nat)(due:Int)(w:rO)(h:Hx b v D n m q w)(hm:n<=m)(x:n<=64)(B:k<64):tT prog 311 #[J (Z ⟨b,0,N⟩),I U k,I U due] w (UI b v (IP D k due) w):=by
 have S:(k:Int)<64:=by omega
 have d1:decide ((k:Int)<0)=false:=by simp
 have d2:decide (64<=(k:Int))=false:=by simp;omega
 rcases h.YU k B with⟨f,c0⟩|⟨i,g,c,cap,d,rfl,o,rfl,f,ci,E,F,C,G,p⟩
 ·have H:=Aa (h.nv ((k:Int),due) (by simp) (by simp;omega) (by simpa using f))
  have l:=h.room k B f;have r: ∀a,(if a=k then Z due else D a)=IP D k due a:=λa=>by unfold IP;rw[f]
  have s:=Aa (Ab r l);go_enter func311,ntmps311;go_wp2_with(first|(go_at_call 345;refine H.out.mono ?_;rintro e y⟨rfl,g,cap,p,z,C⟩;have t:Hid (UI b v (IP D k due) w (ui (ue tZ)) y):=⟨⟨_,rfl⟩,_,_,_,_,p.JS (λa _=>by simpa using s.out.1 a),Al _,by have:=s.out.2;omega,z,λj u=>u.elim (λe=>.inl (.inl e)) (λe=>by have K:g=j:=by{simpa[Value.ownBlock]using e};subst K;exact C.imp .inr id)⟩));go_ret;exact t.out
 ·have L:=h.c0
  by_cases hdd:due<d
  ·have A:decide (due<d)=true:=by simpa using hdd
   obtain⟨M,T⟩:=p.kC o due;have r: ∀a,(if a=k then Z due else D a)=IP D k due a:=λa=>by unfold IP;rw[f];simp[hdd]
   have s:=Aa (Ab r x);have O:=Aa (eO b g c cap _ c c pz i _ (M.nu c pz (Al _)) o (Al _) x);have P:((i:Int)== -1)=false:=by rw[Az];omega
   have Q:(i:Int)<(c:Int):=by omega
   have R:Hid (Cw (Bf b (Y (Z ⟨g,0,N⟩) c cap)) w (w.setCell ⟨g,i*2+1,N⟩ (I U due))):=(Cw.refl _ w).set (.inr (.inr rfl)) _ _;go_enter func311,ntmps311;go_wp2_with(first|(go_at_call 346;refine O.out.mono ?_;rintro e y⟨rfl,p,z⟩;have t:Hid (UI b (Y (Z ⟨g,0,N⟩) c cap) (IP D k due) w (ui (ue tY)) y):=⟨⟨_,rfl⟩,_,_,_,_,p.JS (λa _=>s.out.1 a),Al _,s.out.2,R.out.trans z,λj u=>.inl u⟩));go_ret;exact t.out
  ·have A:decide (due<d)=false:=by simpa using hdd
   have r: ∀a,D a=IP D k due a:=λa=>by
    unfold IP;rw[f];simp only[hdd,Bn];split
    ·next e=>rw[e,f]
    ·rfl
   have P:((i:Int)== -1)=false:=by rw[Az];omega
   have Q:(i:Int)<(c:Int):=by omega
   have t:Hid (UI b (Y (Z ⟨g,0,N⟩) c cap) (IP D k due) w (ui (ue tY)) w):=⟨⟨_,rfl⟩,_,_,_,_,h.JS (λa _=>r a),hm,x,Cw.refl _ _,λj u=>.inl u⟩;go_enter func311,ntmps311;go_wp2;go_ret;exact t.out
def O5(D:Nat->Option Int)(k:Nat)(now:Int)(a:Nat):Option Int:=if a=k then(match D k with|none=>N|some d=>if d<=now then N else Z d)else D a
def Iy(D:Nat->Option Int)(k:Nat)(now:Int):Bool:=match D k with|none=>tY|some d=>decide (d<=now)
def fC(b:Nat)(v:tR)(D:Nat->Option Int)(k:Nat)(now:Int)(w:rO)(e:uh)(w':rO):Prop:=e=ui (ue (Iy D k now))/\fB b v (O5 D k now) w w'
theorem fD(b:Nat)(v:tR)(D:Nat->Option Int)(n m:Nat)(q:Pr)(k:Nat)(now:Int)(w:rO)(h:Hx b v D n m q w)(hm:n<=m)(u:n<=64)(y:k<64):tT prog 55 #[J (Z ⟨b,0,N⟩),I U k,I U now] w (fC b v D k now w):=by
 have L:(k:Int)<64:=by omega
 have d1:decide ((k:Int)<0)=false:=by simp
 have d2:decide (64<=(k:Int))=false:=by simp;omega
 rcases h.YU k y with⟨f,c0⟩|⟨i,g,c,cap,d,rfl,z,rfl,f,ci,A,B,M,C,s⟩
 ·have l: ∀a,D a=O5 D k now a:=λa=>by
   unfold O5;rw[f];dsimp only;split
   ·next e=>rw[e,f]
   ·rfl
  have o:Hid (fC b v D k now w (ui (ue tY)) w):=⟨by unfold Iy;rw[f],_,_,_,_,h.JS (λa _=>l a),hm,u,Cw.refl _ _,λj p=>.inl p⟩;go_enter func55,ntmps55;go_wp2;go_ret;exact o.out
 ·have E:=h.c0
  have O:((i:Int)== -1)=false:=by rw[Az];omega
  have P:(i:Int)<(c:Int):=by omega
  by_cases hdd:d<=now
  ·have t:decide (now<d)=false:=by simp;omega
   obtain⟨c1,rfl⟩: ∃c1,c=c1+1:=⟨c-1,by omega⟩;have l: ∀a,(if a=k then N else D a)=O5 D k now a:=λa=>by unfold O5;rw[f];simp[hdd]
   have F:Iy D k now=true:=by unfold Iy;rw[f];simpa using hdd
   have x:=Aa (Ab l (show c1<=64 by omega));have G:=Aa (s.remove (by omega) (by omega));unfold fC;rw[F];go_enter func55,ntmps55;go_wp2_with(first|(go_at_call 122;refine G.out.mono ?_;rintro e H⟨⟨r,rfl⟩,s,K⟩;have o:Hid (fB b (Y (Z ⟨g,0,N⟩) (c1+1) cap) (O5 D k now) w H):=⟨_,_,_,_,s.JS (λa _=>by simpa using x.out.1 a),Al _,x.out.2,K,λj p=>.inl p⟩));go_ret;exact⟨rfl,o.out⟩
  ·have t:decide (now<d)=true:=by simp;omega
   have l: ∀a,D a=O5 D k now a:=λa=>by
    unfold O5;rw[f];simp only[hdd,Bn];split
    ·next e=>rw[e,f]
    ·rfl
   have o:Hid (fC b (Y (Z ⟨g,0,N⟩) c cap) D k now w (ui (ue tY)) w):=⟨by unfold Iy;rw[f];simp[hdd],_,_,_,_,h.JS (λa _=>l a),hm,u,Cw.refl _ _,λj p=>.inl p⟩;go_enter func55,ntmps55;go_wp2;go_ret;exact o.out
end LZ
namespace C2
variable {mb:Nat}{V:Vr}{own:Nat->Nat}{w:rO}{s:St}
theorem K8(l:List (Option Int))(k:Nat):l[k]?.getD N=(l[k]?).join:=by cases l[k]?<;>rfl
theorem Zq(l:List (Option Int))(k:Nat)(due:Int)(b:l.length=64)(c:k<64)(a:Nat)(g:a<64):LZ.IP (λk=>(l[k]?).join) k due a=((Ks l k due)[a]?).join:=by
 show(if a=k then(match(l[k]?).join with|none=>Z due|some d=>if due<d then Z due else Z d)else(l[a]?).join)=_
 unfold Ks;rw[K8];generalize h:(l[k]?).join=o;cases o with
 |none=>
  dsimp only;rw[Ay];by_cases e:a=k
  ·subst e;simp[b,c]
  ·simp[e,Cb e]
 |some d=>
  dsimp only;by_cases f:due<d
  ·simp only[f,BD]
   rw[Ay];by_cases e:a=k
   ·subst e;simp[b,c]
   ·simp[e,Cb e]
  ·simp only[f,Bn]
   by_cases e:a=k
   ·rw[Ai e,e,h]
   ·rw[Ah e]
theorem Wo(l:List (Option Int))(k:Nat)(due:Int):(Ks l k due).length=l.length:=by
 unfold Ks;split
 ·simp
 ·split<;>simp
theorem fE(l:List (Option Int))(k:Nat)(now:Int):LZ.Iy (λk=>(l[k]?).join) k now=Iy l k now:=by
 show(match(l[k]?).join with|none=>tY|some d=>decide (d<=now))=_
 unfold Iy;rw[K8];rfl
theorem fF(l:List (Option Int))(k:Nat)(now:Int)(f:l.length=64)(g:k<64)(a:Nat)(h:a<64):LZ.O5 (λk=>(l[k]?).join) k now a=((Kt l k now)[a]?).join:=by
 show(if a=k then(match(l[k]?).join with|none=>N|some d=>if d<=now then N else Z d)else(l[a]?).join)=_
 unfold Kt Iy;rw[K8];generalize b:(l[k]?).join=o;cases o with
 |none=>
  dsimp only;by_cases e:a=k
  ·rw[Ai e,e];simp[b]
  ·rw[Ah e];simp
 |some d=>
  dsimp only;by_cases c:d<=now
  ·simp only[c,decide_true,BD]
   rw[Ay];by_cases e:a=k
   ·subst e;simp[f,g]
   ·simp[e,Cb e]
  ·simp only[c,decide_false,Bn]
   by_cases e:a=k
   ·rw[Ai e,e];simp[b]
   ·rw[Ah e];simp
theorem Zr(l:List (Option Int))(k:Nat)(now:Int):(Kt l k now).length=l.length:=by unfold Kt;split<;>simp
theorem CE.nJ(h:CE mb V own w s){v:tR}{D:Nat->Option Int}{l:List (Option Int)}{w':rO}(c: ∀j,LZ.Bf V.box v j->own j=11) (m:l.length=64) (n: ∀k,k<64->D k=(l[k]?).join) (o:LZ.fB V.box v D w w'): ∃a,CE mb V a w' {s with box:=l}/\Ext own w a w':=by obtain⟨f,p,m',q,g,r,a2,d,u⟩:=o;obtain⟨a,i,y,z,A⟩:=tagged (t:=11) (S':=LZ.Bf V.box f) d.size h.fresh (λj b=>g.lt b) (λj b B=>(u j b).elim (c j) (λx=>by omega));exact⟨a,(h.turn (x:=11) (.inl rfl) d (λj b=>by rw[c j b];rfl) (by decide) i (λj b=>(z j b).imp id (λe=>by rw[e];decide)) A).kq l ⟨f,p,m',q,g.JS n,r,a2,m,y⟩,d.mono (λj _ b=>by rw[c j b];decide),i⟩
def nK(mb:Nat)(V:Vr)(own:Nat->Nat)(w:rO)(s':St)(e:uh)(w':rO):Prop:=(∃r,e=ui (ue r))/\ ∃a,CE mb V a w' s'/\Ext own w a w'
theorem CE.send(h:CE mb V own w s)(k:Nat)(b:k<64)(due:Int):tT prog 311 #[ptr V.box,I U k,I U due] w (nK mb V own w {s with box:=Ks s.box k due}):=by obtain⟨v,n,m,q,c,d,a2,a3,f⟩:=h.box (by decide);refine(LZ.Zp _ v _ n m q k due w c d a2 b).mono ?_;rintro e j⟨⟨r,rfl⟩,g⟩;exact⟨⟨r,rfl⟩,h.nJ f ((Wo _ _ _).trans a3) (λi a=>Zq _ k due a3 b i a) g⟩
theorem CE.due(h:CE mb V own w s)(k:Nat)(b:k<64)(now:Int):tT prog 55 #[ptr V.box,I U k,I U now] w (Dd mb V own w (ue (Iy s.box k now)) {s with box:=Kt s.box k now}):=by obtain⟨v,n,m,q,c,d,a2,a3,f⟩:=h.box (by decide);refine(LZ.fD _ v _ n m q k now w c d a2 b).mono ?_;rintro e j⟨rfl,g⟩;rw[fE];exact⟨rfl,h.nJ f ((Zr _ _ _).trans a3) (λi a=>fF _ k now a3 b i a) g⟩
section
open Cx (Pr pz)
open Vm (CP)
section
variable {w:rO}{gb:Nat->Nat}{sv:tR}
theorem CE.D5(h:CE mb V own w s):Cy w mb (DE V s.sc) 121:=h.IK (by decide)
theorem CE.dT(h:CE mb V own w s):mb<w.heap.size:=h.D5.lt
theorem CE.Fa(h:CE mb V own w s)(k:Nat):w.frozen? ⟨mb,k,N⟩=false:=h.D5.free k
theorem CE.c0(h:CE mb V own w s):w.cell? ⟨mb,0,N⟩=Z (ptr V.procs):=h.D5.cell 0
theorem CE.c1(h:CE mb V own w s):w.cell? ⟨mb,1,N⟩=Z (V.Gt):=h.D5.cell 1
theorem CE.c3(h:CE mb V own w s):w.cell? ⟨mb,3,N⟩=Z (I U s.sc.G2):=h.D5.cell 3
theorem CE.c4(h:CE mb V own w s):w.cell? ⟨mb,4,N⟩=Z (I U s.sc.Gq):=h.D5.cell 4
theorem CE.c5(h:CE mb V own w s):w.cell? ⟨mb,5,N⟩=Z (V.LB):=h.D5.cell 5
theorem CE.c6(h:CE mb V own w s):w.cell? ⟨mb,6,N⟩=Z (V.MP):=h.D5.cell 6
theorem CE.c7(h:CE mb V own w s):w.cell? ⟨mb,7,N⟩=Z (V.EG):=h.D5.cell 7
theorem CE.c8(h:CE mb V own w s):w.cell? ⟨mb,8,N⟩=Z (ptr V.stat):=h.D5.cell 8
theorem CE.c9(h:CE mb V own w s):w.cell? ⟨mb,9,N⟩=Z (ptr V.all):=h.D5.cell 9
theorem CE.Zs(h:CE mb V own w s):w.cell? ⟨mb,10,N⟩=Z (ptr V.GQ):=h.D5.cell 10
theorem CE.Wp(h:CE mb V own w s):w.cell? ⟨mb,11,N⟩=Z (ptr V.FM):=h.D5.cell 11
theorem CE.R7(h:CE mb V own w s):w.cell? ⟨mb,12,N⟩=Z (ptr V.CA):=h.D5.cell 12
theorem CE.nL(h:CE mb V own w s):w.cell? ⟨mb,13,N⟩=Z (ptr V.box):=h.D5.cell 13
theorem CE.rY(h:CE mb V own w s):w.cell? ⟨mb,14,N⟩=Z (I U s.sc.pick):=h.D5.cell 14
theorem CE.nM(h:CE mb V own w s):w.cell? ⟨mb,15,N⟩=Z (I U s.sc.EC):=h.D5.cell 15
theorem CE.kD(h:CE mb V own w s):w.cell? ⟨mb,16,N⟩=Z (I U s.sc.draw):=h.D5.cell 16
theorem CE.dU(h:CE mb V own w s):w.cell? ⟨mb,17,N⟩=Z (I U s.sc.now):=h.D5.cell 17
theorem CE.Kx(h:CE mb V own w s):w.cell? ⟨mb,18,N⟩=Z (ue s.sc.Cz):=h.D5.cell 18
theorem CE.Wq(h:CE mb V own w s):w.cell? ⟨mb,19,N⟩=Z (I U s.sc.wait):=h.D5.cell 19
theorem CE.JX(h:CE mb V own w s):w.cell? ⟨mb,20,N⟩=Z (Ej V.CR s.sc.CF):=h.D5.cell 20
theorem CE.kE(h:CE mb V own w s):w.cell? ⟨mb,21,N⟩=Z (I U s.sc.kind):=h.D5.cell 21
theorem CE.kF(h:CE mb V own w s):w.cell? ⟨mb,22,N⟩=Z (I U s.sc.eg):=h.D5.cell 22
theorem CE.kG(h:CE mb V own w s):w.cell? ⟨mb,23,N⟩=Z (I U s.sc.Kl):=h.D5.cell 23
theorem CE.fG(h:CE mb V own w s):w.cell? ⟨mb,24,N⟩=Z (I U s.sc.Km):=h.D5.cell 24
theorem CE.kH(h:CE mb V own w s):w.cell? ⟨mb,25,N⟩=Z (I U s.sc.en):=h.D5.cell 25
theorem CE.kI(h:CE mb V own w s):w.cell? ⟨mb,26,N⟩=Z (ue s.sc.seen):=h.D5.cell 26
end
theorem O7{w:rO}{mb:Nat}{V:Vr}{c:Sc}(h:Cy w mb (DE V c) 121)(u:Bool):Cy (w.setCell ⟨mb,18,N⟩ (ue u)) mb (DE V {c with Cz:=u}) 121:=h.set 18 _
theorem N6{w:rO}{mb:Nat}{V:Vr}{c:Sc}(h:Cy w mb (DE V c) 121)(u:Int):Cy (w.setCell ⟨mb,19,N⟩ (I U u)) mb (DE V {c with wait:=u}) 121:=h.set 19 _
theorem QD{w:rO}{mb:Nat}{V:Vr}{c:Sc}(h:Cy w mb (DE V c) 121)(u:Int):Cy (w.setCell ⟨mb,20,N⟩ (Ej V.CR u)) mb (DE V {c with CF:=u}) 121:=h.set 20 _
section
variable {mb:Nat}{V:Vr}{own:Nat->Nat}{w:rO}{s:St}{j:Nat}{y:M1}{xb:Nat}
theorem CC{α:Type}{l:List α}{i:Nat}{x:α}(h:l[i]?=Z x):i<l.length:=(Af.1 h).1
theorem CE.dV(h:CE mb V own w s)(a:own xb=22+5*j)(b:s.ms[j]?=Z y):xb=V.DR j:=h.ux j (CC b) xb a
theorem CE.C3(h:CE mb V own w s)(b:own xb=22+5*j)(a:s.ms[j]?=Z y):Cy w xb (Da V.CR j y) 125:=by have:=h.ms (by decide) j (CC a);rw[a]at this;rw[h.dV b a];exact this
theorem CE.xg(h:CE mb V own w s)(a:s.ms[j]?=Z y):0<=y.g/\y.g<=s.gs.length:=by have:=h.mg j (CC a);rw[a]at this;exact this
theorem CE.ji(h:CE mb V own w s)(a:own xb=22+5*j): ¬xb=mb/\ ¬mb=xb:=by have:=h.om;constructor<;>(rintro rfl;omega)
theorem pS{gb:Nat->Nat}(h:Cy w xb (Da gb j y) 125):w.cell? ⟨xb,0,N⟩=Z (I U j):=h.cell 0
theorem LH{gb:Nat->Nat}(h:Cy w xb (Da gb j y) 125):w.cell? ⟨xb,1,N⟩=Z (I U y.p):=h.cell 1
theorem R8{gb:Nat->Nat}(h:Cy w xb (Da gb j y) 125):w.cell? ⟨xb,2,N⟩=Z (Ej gb y.g):=h.cell 2
theorem Wr{gb:Nat->Nat}(h:Cy w xb (Da gb j y) 125):w.cell? ⟨xb,3,N⟩=Z (I U y.phase):=h.cell 3
theorem pT{gb:Nat->Nat}(h:Cy w xb (Da gb j y) 125):w.cell? ⟨xb,4,N⟩=Z (ue y.CU):=h.cell 4
theorem pU{gb:Nat->Nat}(h:Cy w xb (Da gb j y) 125):w.cell? ⟨xb,5,N⟩=Z (I U y.used):=h.cell 5
theorem sZ{gb:Nat->Nat}(h:Cy w xb (Da gb j y) 125):w.cell? ⟨xb,7,N⟩=Z (I U y.looks):=h.cell 7
theorem kJ{gb:Nat->Nat}(h:Cy w xb (Da gb j y) 125)(u:Int):Cy (w.setCell ⟨xb,1,N⟩ (I U u)) xb (Da gb j {y with p:=u}) 125:=h.set 1 _
theorem MY{gb:Nat->Nat}(h:Cy w xb (Da gb j y) 125)(u:Int):Cy (w.setCell ⟨xb,3,N⟩ (I U u)) xb (Da gb j {y with phase:=u}) 125:=h.set 3 _
theorem SY{gb:Nat->Nat}(h:Cy w xb (Da gb j y) 125)(u:Bool):Cy (w.setCell ⟨xb,4,N⟩ (ue u)) xb (Da gb j {y with CU:=u}) 125:=h.set 4 _
theorem Ws{gb:Nat->Nat}(h:Cy w xb (Da gb j y) 125)(u:Int):Cy (w.setCell ⟨xb,5,N⟩ (I U u)) xb (Da gb j {y with used:=u}) 125:=h.set 5 _
theorem SZ{gb:Nat->Nat}(h:Cy w xb (Da gb j y) 125)(u:Int):Cy (w.setCell ⟨xb,7,N⟩ (I U u)) xb (Da gb j {y with looks:=u}) 125:=h.set 7 _
theorem Zt{gb:Nat->Nat}(h:Cy w xb (Da gb j y) 125):Cy (w.setCell ⟨xb,2,N⟩ (J N)) xb (Da gb j {y with g:=0}) 125:=h.set 2 _
end
section
variable {mb:Nat}{V:Vr}{own:Nat->Nat}{w:rO}{s:St}{i:Nat}{x:G}{b:Nat}
theorem CE.fH(h:CE mb V own w s)(a:own b=20+5*i)(c:s.gs[i]?=Z x):b=V.CR i:=h.ug i (CC c) b a
theorem CE.Hr(h:CE mb V own w s)(c:own b=20+5*i)(a:s.gs[i]?=Z x):pQ own w b i x:=by have:=h.gs (by decide) i (CC a);rw[a]at this;rw[h.fH c a];exact this
theorem mR{sv:tR}(h:Cy w b (Dy i sv x) 130):w.cell? ⟨b,0,N⟩=Z (I U ((i:Int)+1)):=h.cell 0
theorem nN{sv:tR}(h:Cy w b (Dy i sv x) 130):w.cell? ⟨b,1,N⟩=Z (I U x.word):=h.cell 1
theorem s7{sv:tR}(h:Cy w b (Dy i sv x) 130):w.cell? ⟨b,2,N⟩=Z (I U x.fn):=h.cell 2
theorem s8{sv:tR}(h:Cy w b (Dy i sv x) 130):w.cell? ⟨b,3,N⟩=Z (I U x.Dr):=h.cell 3
theorem qK{sv:tR}(h:Cy w b (Dy i sv x) 130):w.cell? ⟨b,16,N⟩=Z (ue x.CA):=h.cell 16
theorem nO{sv:tR}(h:Cy w b (Dy i sv x) 130):w.cell? ⟨b,17,N⟩=Z (ue x.begun):=h.cell 17
theorem kK{sv:tR}(h:Cy w b (Dy i sv x) 130):w.cell? ⟨b,18,N⟩=Z (I U x.Db):=h.cell 18
theorem Wu{sv:tR}(h:Cy w b (Dy i sv x) 130)(u:Int):Cy (w.setCell ⟨b,1,N⟩ (I U u)) b (Dy i sv {x with word:=u}) 130:=h.set 1 _
theorem Wv{sv:tR}(h:Cy w b (Dy i sv x) 130)(u:Bool):Cy (w.setCell ⟨b,16,N⟩ (ue u)) b (Dy i sv {x with CA:=u}) 130:=h.set 16 _
theorem S0{sv:tR}(h:Cy w b (Dy i sv x) 130)(u:Bool):Cy (w.setCell ⟨b,17,N⟩ (ue u)) b (Dy i sv {x with begun:=u}) 130:=h.set 17 _
theorem S5{sv:tR}(h:Cy w b (Dy i sv x) 130)(u:Int):Cy (w.setCell ⟨b,18,N⟩ (I U u)) b (Dy i sv {x with Db:=u}) 130:=h.set 18 _
end
end
section
open Cx (Pr pz)
open Vm (CP)
variable {y mb b i g n cap:Nat}{V:Vr}{own C8:Nat->Nat}{w w':rO}{s:St}{l:List Pc}{a:Pc}
abbrev unit:Value:=.tuple #[]
theorem D4.drew(h:D4 y mb V own w s):D4 y mb V own w.drew s:=h.below ⟨rfl,rfl,rfl,Al _,λ_ _=>rfl⟩
theorem D4.drewN(h:D4 y mb V own w s)(n:Nat):D4 y mb V own (w.drewN n) s:=h.below ⟨rfl,rfl,rfl,Al _,λ_ _=>rfl⟩
theorem Ex{P:Program}{f:Nat}{a:Array tR}{v:tR}(h:tT P f a w λe w'=>e=ui v/\w=w'):tT P f a w λe w'=>e=ui v/\w'=w:=h.mono λe w' h=>⟨h.1,h.2.symm⟩
theorem Ext.drew(h:Ext own w C8 w'):Ext own w C8 w'.drew:=h.trans (Ext.below ⟨rfl,rfl,rfl,Al _,λ_ _=>rfl⟩)
theorem CE.drew(h:CE mb V own w s):CE mb V own w.drew s:=D4.drew h
theorem CE.drewN(h:CE mb V own w s)(n:Nat):CE mb V own (w.drewN n) s:=D4.drewN h n
theorem CE.below(h:CE mb V own w s)(a:tS w.heap.size w w'):CE mb V own w' s:=D4.below h a
theorem CE.loc{S:Nat->Prop}(h:CE mb V own w s)(o:Cw S w w')(a: ∀j,S j->own j=0):CE mb V own w' s:=D4.loc h o a
theorem CE.alloc(h:CE mb V own w s)(o:Obj):CE mb V own (w.alloc o) s:=D4.below h (Cu (tU _ _) o)
theorem Ext.alloc(h:Ext own w C8 w')(o:Obj):Ext own w C8 (w'.alloc o):=h.trans (Ext.below (Cu (tU _ _) o))
theorem Ext.drewN(h:Ext own w C8 w')(n:Nat):Ext own w C8 (w'.drewN n):=h.trans (Ext.below ⟨rfl,rfl,rfl,Al _,λ_ _=>rfl⟩)
theorem oset{a:rO}(h:Cw (λj=>j=b) a w) (i:Nat) (u:tR):Cw (λj=>j=b) a (w.setCell ⟨b,i,N⟩ u):=h.set (.inr rfl) i u
theorem DA(b:Nat)(w:rO):Cw (λj=>j=b) w w:=Cw.refl _ w
theorem Zu{x t:Int}(h:D9.Dt x)(t1:1<=t)(t6:t<=6):D9.Dt (Ia x t):=by
 have a:t=1\/t=2\/t=3\/t=4\/t=5\/t=6:=by omega
 have key: ∀x∈([0,1,2,3,4,5,6,9,11,12,13]:List Int),∀t∈([1,2,3,4,5,6]:List Int),Ia x t∈([0,1,2,3,4,5,6,9,11,12,13]:List Int):=by decide+kernel
 have b:x∈([0,1,2,3,4,5,6,9,11,12,13]:List Int):=by simpa[D9.Dt]using h
 have:=key x b t (by simpa using a);simpa[D9.Dt]using this
def ta(b i:Nat)(sv:tR)(x:G)(w:rO)(e:uh)(w':rO):Prop:=e=ui unit/\Cy w' b (Dy i sv x) 130/\Cw (λj=>j=b) w w'
theorem Zv(b i:Nat)(sv:tR)(x:G)(t:Int)(w:rO)(f:Cy w b (Dy i sv x) 130)(hw:D9.Dt x.word)(t1:1<=t)(t6:t<=6):tT prog 116 #[ptr b,I U t] w (ta b i sv {x with word:=Ia x.word t} w):=by
 have c1:=nN f;have f1:=f.free 1;have m:=f.lt;have h:=Aa (λw=>D9.Zd x.word t w hw t1 t6);have g:=Aa f;unfold Ia;by_cases c:D9.LA x.word t=0
 ·rw[Ai c]
  have n:D9.UC x.word t=D9.N0 x.word t:=by unfold D9.UC;rw[Ai c]
  rw[n,c]at h;generalize D9.N0 x.word t=u at*
  go_enter func116,ntmps116;go_wp2_with(go_at_call 170;refine(h.out _).mono ?_;rintro e o⟨rfl,a⟩;obtain⟨k,l⟩:=FC a;have d:=Aa a);go_end0;exact⟨rfl,Wu (g.out.below d.out g.out.lt) u,((Cw.refl (λj=>j=b) w).below d.out).set (.inr rfl) _ _⟩
 ·rw[Ah c]
  have p:(D9.LA x.word t==0)=false:=by simpa using c
  generalize D9.LA x.word t=u at*
  go_enter func116,ntmps116;go_wp2_with(go_at_call 170;refine(h.out _).mono ?_;rintro e o⟨rfl,a⟩;obtain⟨k,l⟩:=FC a;have d:=Aa a);go_end0;exact⟨rfl,g.out.below d.out g.out.lt,(Cw.refl (λj=>j=b) w).below d.out⟩
theorem DB(o:Cw (λj=>j=b) w w') (a:own b≠0/\own b≠14):Ext own w own w':=Ext.loc o (λj c _=>by rw[show j=b from c];exact a)
theorem CE.is(h:CE mb V own w s){x:G}(d:own b=20+5*i)(c:s.gs[i]?=Z x)(t:Int)(t1:1<=t)(t6:t<=6):tT prog 116 #[ptr b,I U t] w (Dd mb V own w unit (s.CJ i {x with word:=Ia x.word t})):=by obtain⟨k,f,g,l,m⟩:=h.Hr d c;refine(Zv b i g x t w l f t1 t6).mono ?_;rintro e w'⟨rfl,n,j⟩;have a:=h.fH d c;refine⟨rfl,own,h.Wi (CC c) (by rw[<-a];exact j) _ ⟨k,Zu f t1 t6,g,by rw[<-a];exact n,m⟩,DB j (by omega)⟩
theorem CE.Ky(h:CE mb V own w s){x:G}(a:own b=20+5*i)(c:s.gs[i]?=Z x):tT prog 193 #[ptr b] w λe w'=>e=ui (ue (decide (8<=x.word)))/\w=w':=by
 obtain⟨j,d,k,f,l⟩:=h.Hr a c;have c1:=nN f;have g:=Aa (λw=>D9.FK x.word w d);generalize decide (8<=x.word)=u at*
 go_enter func193,ntmps193;go_wp2_with(go_at_call 96;refine(g.out _).mono ?_;rintro e m⟨rfl,rfl⟩);go_ret;exact⟨rfl,rfl⟩
theorem fI(gb:Nat->Nat)(xb j:Nat)(y:M1)(w:rO)(a:Cy w xb (Da gb j y) 125):tT prog 183 #[ptr xb] w λe w'=>e=ui (Ej gb y.g)/\w'=(w.setCell ⟨xb,2,N⟩ (J N)).setCell ⟨xb,3,N⟩ (I U 1):=by
 have b:=R8 a;have c3:=Wr a;have f2:=a.free 2;have f3:=a.free 3;generalize Ej gb y.g=u at*
 go_enter func183,ntmps183;go_wp2;go_ret;exact⟨rfl,rfl⟩
theorem CE.off(h:CE mb V own w s){xb j:Nat}{y:M1}(c:own xb=22+5*j)(a:s.ms[j]?=Z y):tT prog 183 #[ptr xb] w (Dd mb V own w (Ej V.CR y.g) (s.CQ j {y with g:=0,phase:=1})):=by have d:=h.C3 c a;refine(fI V.CR xb j y w d).mono ?_;rintro e w'⟨rfl,rfl⟩;have b:=h.dV c a;subst b;refine⟨rfl,own,h.NI (CC a) (oset (oset (DA _ w) _ _) _ _) _ ⟨Zah 0,Za0 _⟩ (MY (Zt d) 1),DB (oset (oset (DA _ w) _ _) _ _) (by omega)⟩
theorem CE.gp(h:CE mb V own w s){id:Int}(a:1<=id)(b:id<=s.gs.length):Ej V.CR id=ptr (V.CR (id-1).toNat)/\own (V.CR (id-1).toNat)=20+5*(id-1).toNat:=by refine⟨?_,h.og _ (by omega)⟩;unfold Ej;rw[Ah (by omega)]
theorem Hf.at{v:tR}(h:Hf w v l)(e:l[i]?=Z a): ∃g cap,v=Y (Z ⟨g,0,N⟩) l.length cap/\g<w.heap.size/\w.cell? ⟨g,i*3,N⟩=Z (ue a.pre)/\w.cell? ⟨g,i*3+1,N⟩=Z (ue a.Eo)/\w.cell? ⟨g,i*3+2,N⟩=Z (I U a.count)/\w.frozen? ⟨g,i*3,N⟩=tY/\w.frozen? ⟨g,i*3+1,N⟩=tY/\w.frozen? ⟨g,i*3+2,N⟩=false:=by
 obtain⟨g,cap,cs,rfl,b,o,p,q,r,m⟩:=h;have c:=CC e;have d: ∀k,k<l.length*3->w.cell? ⟨g,k,N⟩=(EU l)[k]?:=λk n=>by rw[b.cell,<-m,AN n,Bm]
 obtain⟨e0,f,j⟩:=OY l i c;rw[e]at e0 f j;exact⟨g,cap,rfl,b.lt,(d _ (by omega)).trans e0,(d _ (by omega)).trans f,(d _ (by omega)).trans j,b.free _,b.free _,b.free _⟩
theorem QE(l:List Pc)(x:Pc): ∀i,i<l.length->EU (l.set i x)=(((EU l).set (i*3) (ue x.pre)).set (i*3+1) (ue x.Eo)).set (i*3+2) (I U x.count):=by
 induction l with
 |nil=>intro i a;simp at a
 |cons y l b=>
  intro i a;cases i with
  |zero=>simp[EU]
  |succ i=>have h:=b i (by simpa using a);rw[Ck,EU,h,show(i+1)*3=(i*3)+1+1+1 by omega];simp[EU]
theorem Ww(b:l[i]?=Z a):(((EU l).set (i*3) (ue a.pre)).set (i*3+1) (ue a.Eo)).set (i*3+2) (I U a.count)=EU l:=by
 rw[<-QE l a i (CC b)];congr 1;apply BI;intro k;rw[Ay];by_cases e:i=k
 ·subst e;rw[Ai rfl,Ai (CC b),b]
 ·simp[e]
theorem Hf.put(h:Hf w (Y (Z ⟨g,0,N⟩) n cap) l)(j:l[i]?=Z a)(k:Nat)(y:k<3)(u:tR)(a':Pc)(b: [ue a'.pre,ue a'.Eo,I U a'.count]=[ue a.pre,ue a.Eo,I U a.count].set k u):Hf (w.setCell ⟨g,i*3+k,N⟩ u) (Y (Z ⟨g,0,N⟩) n cap) (l.set i a'):=by
 obtain⟨z,m,cs,he,o,p,q,r,s,t⟩:=h;simp only[As,Ak,BN]at he;obtain⟨⟨rfl,_⟩,rfl,rfl⟩:=he;have e:=CC j;refine⟨g,cap,_,by rw[AX],o.set (i*3+k) u,by rw[AX];exact p,by simpa using q,by simpa using r,by rw[AX];simpa using s,?_⟩;rw[AX,QE l a' i e];have v:=Ww j;have x:(cs.setIfInBounds (i*3+k) u).toList.take (l.length*3)=(EU l).set (i*3+k) u:=by rw[<-t];simp[Zcc]
 rw[x];have f:k=0\/k=1\/k=2:=by omega
 rw[<-v];rcases f with rfl|rfl|rfl
 ·simp only[Bv,Zbj,and_true]at b
  obtain⟨rfl,c,d⟩:=b;rw[c,d];simp[List.set_comm]
 ·simp only[Ck,Bv,Zbj,and_true]at b
  obtain⟨c,rfl,d⟩:=b;rw[c,d];simp[List.set_comm]
 ·simp only[Ck,Bv,Zbj,and_true]at b
  obtain⟨c,d,rfl⟩:=b;rw[c,d];simp[List.set_comm]
theorem CE.ask(h:CE mb V own w s){p:Nat}(c:s.asked[p]?=Z a): ∃g cap,V.EG=Y (Z ⟨g,0,N⟩) s.asked.length cap/\own g=4/\ ¬g=mb/\ ¬mb=g/\g<w.heap.size/\w.cell? ⟨g,p*3,N⟩=Z (ue a.pre)/\w.cell? ⟨g,p*3+1,N⟩=Z (ue a.Eo)/\w.cell? ⟨g,p*3+2,N⟩=Z (I U a.count)/\w.frozen? ⟨g,p*3,N⟩=tY/\w.frozen? ⟨g,p*3+1,N⟩=tY/\w.frozen? ⟨g,p*3+2,N⟩=false:=by obtain⟨d,e⟩:=h.EO (by decide);obtain⟨g,cap,b,r⟩:=d.at c;have f:own g=4:=e g (by rw[b];rfl);have hm:=h.om;exact⟨g,cap,b,f,by rintro rfl;omega,by rintro rfl;omega,r⟩
theorem CE.JU(h:CE mb V own w s)(b:V.EG=Y (Z ⟨g,0,N⟩) n cap)(o:Cw (λj=>j=g) w w') (l:List Pc) (c:Hf w' V.EG l):CE mb V own w' {s with asked:=l}/\Ext own w own w':=by obtain⟨f,a⟩:=h.EO (by decide);have d:own g=4:=a g (by rw[b];rfl);exact⟨(h.Kq (x:=4) (.inl rfl) o (λj e=>by rw[show j=g from e,d];rfl) (by decide)).JU l ⟨c,a⟩,DB o (by omega)⟩
theorem CE.LI(h:CE mb V own w s)(o:Cw (λj=>j=mb) w w') (c:Sc) (a:0<=c.CF/\c.CF<=s.gs.length) (b:Cy w' mb (DE V c) 121):CE mb V own w' (s.CS c)/\Ext own w own w':=⟨(h.Kq (x:=1) (.inl rfl) o (λj d=>by rw[show j=mb from d,h.om];rfl) (by decide)).qD c a b,DB o (by rw[h.om];decide)⟩
end
section
open Cx (Pr pz)
open Vm (CP)
variable {p:Int}{k mb xb j:Nat}{w:rO}{tmps:Array tR}
theorem CT{α:Type}{c:Prop} [Decidable c]{a:Option α}{x:α}(h:(if c then a else N)=Z x):c/\a=Z x:=by
 by_cases b:c
 ·rw[Ai b]at h;exact⟨b,h⟩
 ·rw[Ah b]at h;cases h
section
variable {V:Vr}{own:Nat->Nat}{s:St}
theorem CE.serve(h:CE mb V own w s){s':St}(b:Ib s p=Z s'):tT prog 171 #[ptr mb,I U p] w (Dd mb V own w unit s'):=by
 unfold Ib at b;obtain⟨y,b⟩:=CT b;obtain⟨k,rfl⟩: ∃k:Nat,p=k:=⟨p.toNat,by omega⟩;rw[Am]at b;cases c:s.asked[k]? with
 |none=>rw[c]at b;cases b
 |some a=>
  rw[c]at b;simp only[Ak]at b;subst b;obtain⟨g,cap,j,z,A,B,o,a0,C,a2,f0,f1,f2⟩:=h.ask c;have c7:=h.c7;rw[j]at c7;have Wq:=h.Wq;have fm:=h.Fa 19;have q:(k:Int)<(s.asked.length:Int):=by have:=CC c;omega
  have l:=Aa h;have m:=Aa c;have e:=Aa j;go_enter func171,ntmps171;go_wp2;go_end0;obtain⟨d,r⟩:=l.out.EO (by decide);rw[e.out]at d;have t:=d.put m.out 1 (by decide) (ue tY) ⟨a.pre,tY,a.count⟩ rfl;have n:=t.put (i:=k) (a:=⟨a.pre,tY,a.count⟩) (by rw[Ay];simp;exact CC m.out) 2 (by decide) (I U (wrap64 (a.count+1))) ⟨a.pre,tY,wrap64 (a.count+1)⟩ rfl;rw[List.set_set]at n;obtain⟨f,u⟩:=l.out.JU e.out (oset (oset (DA g w) _ _) _ _) _ (by rw[e.out];exact n);obtain⟨v,x⟩:=f.LI (oset (DA mb _) _ _) {s.sc with wait:=wrap64 (s.sc.wait-1)} f.hold (N6 f.D5 _);exact⟨rfl,own,v,u.trans x⟩
theorem CE.NJ(h:CE mb V own w s)(b:k<s.ms.length): ∃g cap,V.MP=Y (Z ⟨g,0,N⟩) s.ms.length cap/\w.cell? ⟨g,k,N⟩=Z (ptr (V.DR k))/\g<w.heap.size/\own g=3:=by
 obtain⟨c,d⟩:=h.L8 (by decide);rcases c.open with⟨_,i⟩|⟨g,cap,a,_,e,_,f⟩
 ·omega
 ·exact⟨g,cap,a,by rw[f k (by omega),UD _ _ _ b],e,d g (by rw[a];rfl)⟩
theorem CE.grow(h:CE mb V own w s)(b:k<s.gs.length): ∃g cap,V.LB=Y (Z ⟨g,0,N⟩) s.gs.length cap/\w.cell? ⟨g,k,N⟩=Z (ptr (V.CR k))/\g<w.heap.size/\own g=2:=by
 obtain⟨c,d⟩:=h.L1 (by decide);rcases c.open with⟨_,i⟩|⟨g,cap,a,_,e,_,f⟩
 ·omega
 ·exact⟨g,cap,a,by rw[f k (by omega),UD _ _ _ b],e,d g (by rw[a];rfl)⟩
theorem CE.mS(h:CE mb V own w s): ∃a cap,V.MP= .slice a s.ms.length cap:=by
 obtain⟨c,e⟩:=h.L8 (by decide);rcases c.open with⟨b,d⟩|⟨g,cap,b,_⟩
 ·exact⟨N,0,by rw[b,d]⟩
 ·exact⟨_,cap,b⟩
theorem CE.pV(h:CE mb V own w s): ∃a cap,V.LB= .slice a s.gs.length cap:=by
 obtain⟨c,e⟩:=h.L1 (by decide);rcases c.open with⟨b,d⟩|⟨g,cap,b,_⟩
 ·exact⟨N,0,by rw[b,d]⟩
 ·exact⟨_,cap,b⟩
theorem S6{c:Sc}(h:Cy w mb (DE V c) 121)(k u f p n:Int):Cy ((((((w.setCell ⟨mb,21,N⟩ (I U k)).setCell ⟨mb,22,N⟩ (I U u)).setCell ⟨mb,23,N⟩ (I U f)).setCell ⟨mb,24,N⟩ (I U p)).setCell ⟨mb,25,N⟩ (I U n)).setCell ⟨mb,26,N⟩ (ue tZ)) mb (DE V {c with kind:=k,eg:=u,Kl:=f,Km:=p,en:=n,seen:=tZ}) 121:=(((((h.set 21 (I U k)).set 22 (I U u)).set 23 (I U f)).set 24 (I U p)).set 25 (I U n)).set 26 (ue tZ)
theorem fJ{W:rO}{s':St}(R:CE mb V own W s')(E:Ext own w own W):bodyPost prog f260 (Dd mb V own w unit s') Exit.normal {tmps:=tmps,defers:=[]} W.drew:=by have a:=R.drew;have b:=E.drew;go_end0;exact⟨rfl,own,a,b⟩
theorem fK{k u n f:Int}(h:CE mb V own w s):bodyPost prog f260 (Dd mb V own w unit (s.CS {s.sc with kind:=k,eg:=u,Kl:=f,Km:=p,en:=n,seen:=tZ})) Exit.normal {tmps:=tmps,defers:=[]}
  ((((((w.setCell ⟨mb,21,N⟩ (I U k)).setCell ⟨mb,22,N⟩ (I U u)).setCell ⟨mb,23,N⟩ (I U f)).setCell ⟨mb,24,N⟩ (I U p)).setCell ⟨mb,25,N⟩ (I U n)).setCell ⟨mb,26,N⟩ (ue tZ)).drew:=by
 have a:=oset (oset (oset (oset (oset (oset (DA mb w) 21 (I U k)) 22 (I U u)) 23 (I U f)) 24 (I U p)) 25 (I U n)) 26 (ue tZ);obtain⟨R,E⟩:=h.LI a {s.sc with kind:=k,eg:=u,Kl:=f,Km:=p,en:=n,seen:=tZ} h.hold (S6 h.D5 k u f p n);exact fJ R E
theorem CE.see(h:CE mb V own w s)(k:Int){b i:Nat}{x:G}(c:own b=20+5*i)(d:s.gs[i]?=Z x)(n:Int):tT prog 260 #[ptr mb,I U k,ptr b,I U n] w (Dd mb V own w unit (s.CS {s.sc with kind:=k,eg:=(i:Int)+1,Kl:=x.fn,Km:=x.Dr,en:=n,seen:=tZ})):=by
 obtain⟨f,g,j,a,l⟩:=h.Hr c d;have g0:=mR a;have g2:=s7 a;have g3:=s8 a;have kE:=h.kE;have kF:=h.kF;have kG:=h.kG;have fG:=h.fG;have kH:=h.kH;have kI:=h.kI;have f21:=h.Fa 21;have f22:=h.Fa 22;have f23:=h.Fa 23;have f24:=h.Fa 24;have f25:=h.Fa 25;have f26:=h.Fa 26;have e:=Aa h;generalize hu:(i:Int)+1=u at*
 go_enter func260,ntmps260;go_wp2;go_region
 all_goals exact fK e.out
theorem CE.Kz(h:CE mb V own w s)(a:Iz s p=Z k):tT prog 257 #[ptr mb,I U p] w λe i=>e=ui (ptr (V.DR k))/\w=i:=by
 unfold Iz at a;obtain⟨⟨j,l⟩,a⟩:=CT a;simp only[Ak]at a;obtain⟨b,c⟩: ∃b:Nat,Cx.Iw s.stat p=b:=⟨(Cx.Iw s.stat p).toNat,by omega⟩;have f:=Aa (h.kr p);rw[c]at j l a f;obtain rfl:b=k:=by omega
 have d:b<s.ms.length:=by omega
 obtain⟨g,cap,m,n,o,_⟩:=h.NJ d;have c6:=h.c6;rw[m]at c6;have c8:=h.c8;have q:(b:Int)<(s.ms.length:Int):=by omega
 go_enter func257,ntmps257;go_wp2_with(go_at_call 59;refine f.out.mono ?_;rintro e r⟨rfl,rfl⟩);go_ret;exact⟨rfl,rfl⟩
theorem CE.Zw(h:CE mb V own w s)(b:Iz s p=N):tT prog 257 #[ptr mb,I U p] w λe j=>e=ui (J N)/\w=j:=by
 unfold Iz at b;have c:=Aa (h.kr p);have c8:=h.c8;have c6:=h.c6;obtain⟨a,cap,k⟩:=h.mS;rw[k]at c6;by_cases d:0<=Cx.Iw s.stat p
 ·by_cases i:Cx.Iw s.stat p<s.ms.length
  ·rw[Ai ⟨d,i⟩]at b;cases b
  ·obtain⟨f,g⟩: ∃f:Nat,Cx.Iw s.stat p=f:=⟨(Cx.Iw s.stat p).toNat,by omega⟩
   rw[g]at d i c;have l:decide (f<s.ms.length)=false:=by simp;omega
   go_enter func257,ntmps257;go_wp2_with(go_at_call 59;refine c.out.mono ?_;rintro e m⟨rfl,rfl⟩);go_ret;exact⟨rfl,rfl⟩
 ·have l:decide (0<=Cx.Iw s.stat p)=false:=by simpa using d
  generalize Cx.Iw s.stat p=u at*
  go_enter func257,ntmps257;go_wp2_with(go_at_call 59;refine c.out.mono ?_;rintro e m⟨rfl,rfl⟩);go_ret;exact⟨rfl,rfl⟩
theorem CE.free(h:CE mb V own w s):tT prog 298 #[ptr mb] w λe b=>e=ui (I U (GS s))/\ ∃n,b=w.drewN n:=by
 have c:=Aa (λm=>Ex (h.drewN m).qH);have Zs:=h.Zs;have c4:=h.c4;have c6:=h.c6;obtain⟨a,cap,d⟩:=h.mS;rw[d]at c6;unfold GS;generalize s.CL.length=f at*
 generalize s.ms.length=g at*
 generalize s.sc.Gq=n3 at*
 go_enter func298,ntmps298;go_wp2;go_quiet((go_at_call 262;exact BO (c.out _)))
 go_wp2;go_ret;exact⟨rfl,_,rfl⟩
theorem nP{y:M1}{gb:Nat->Nat}(h:Cy w xb (Da gb j y) 125):Cy ((((w.setCell ⟨xb,1,N⟩ (I U (-1))).setCell ⟨xb,2,N⟩ (J N)).setCell ⟨xb,3,N⟩ (I U 0)).setCell ⟨xb,4,N⟩ (ue tY)) xb (Da gb j {y with p:= -1,g:=0,phase:=0,CU:=tY}) 125:=(((h.set 1 (I U (-1))).set 2 (J N)).set 3 (I U 0)).set 4 (ue tY)
theorem CE.Wx(h:CE mb V own w s){s':St}(f:own xb=22+5*j)(b:Gu s j=Z s'):tT prog 174 #[ptr mb,ptr xb] w (Dd mb V own w unit s'):=by
 unfold Gu at b;cases c:s.ms[j]? with
 |none=>rw[c]at b;cases b
 |some y=>
  rw[c]at b;simp only[Ak]at b;subst b;have a:=h.C3 f c;have i:=h.dV f c;subst i;have c0:=pS a;have c1:=LH a;have t:=R8 a;have c3:=Wr a;have c4:=pT a;have f1:=a.free 1;have f2:=a.free 2;have f3:=a.free 3;have f4:=a.free 4;have m10:=h.Zs;obtain⟨u,v⟩:=h.ji f;have k:=oset (oset (oset (oset (DA (V.DR j) w) 1 (I U (-1))) 2 (J N)) 3 (I U 0)) 4 (ue tY);have R:=h.NI (CC c) k {y with p:= -1,g:=0,phase:=0,CU:=tY} ⟨Zah 0,Za0 _⟩ (nP a);have l:=Aa (DB k (by omega:own (V.DR j)≠0/\own (V.DR j)≠14));have m:=Aa (R.drew.qF j);go_enter func174,ntmps174;go_wp2;go_region_with (first|(go_at_call 48;refine m.out.mono ?_;rintro e n⟨rfl,d,o,q⟩;have r:Hid (Dd mb V own w unit _ (ui unit) n):=⟨rfl,d,o,(l.out.drew).trans q⟩))
  all_goals
   go_end0;exact r.out
end
end
section
open Cx (Pr pz)
open Vm (CP)
theorem CE.asks(h:CE mb V own w s){xb j:Nat}{s':St}(p:own xb=22+5*j)(b:GR s j=Z s'):tT prog 258 #[ptr mb,ptr xb] w (Dd mb V own w unit s'):=by
 unfold GR at b;cases n:s.ms[j]? with
 |none=>rw[n]at b;cases b
 |some y=>
  rw[n]at b;obtain⟨f,b⟩:=CT b;have C:=h.C3 p n;have c0:=pS C;have c1:=LH C;have m15:=h.nM;have m17:=h.dU;have m13:=h.nL;obtain⟨P,Q⟩:=h.ji p;have i:=λ(w:rO)=>P3.Ja s.sc.EC 65 w (by decide);have HMod:=Aa i;by_cases t:y.p= -1
  ·rw[Ai t]at b
   simp only[Ak]at b;subst b;have G:(y.p != -1)=false:=by simp[t]
   have u:=Aa (λdue=>h.drew.send j f due);have v:=Aa (Ext.refl own w).drew;go_enter func258,ntmps258;go_wp2;refine wp_region_still_tail 19 (by kernel_rfl) (by kernel_rfl) ?_;simp only[Zav,Zbn,Zb4,Zbo];repeat still_step
   still_call (Ex (HMod.out _))
   repeat still_step
   refine wpStill_nil ?_;change wpList _ _ _ _ _ (World.drew _);go_wp2_with(go_at_call 311;refine(u.out _).mono ?_;rintro e x⟨⟨r,rfl⟩,c,z,A⟩;have B:Hid (Dd mb V own w unit _ (ui unit) x):=⟨rfl,c,z,v.out.trans A⟩);go_end0;exact B.out
  ·rw[Ah t]at b
   obtain⟨H,b⟩:=CT b;obtain⟨k,D⟩: ∃k:Nat,y.p=k:=⟨y.p.toNat,by omega⟩;rw[D,Am]at b;cases l:s.asked[k]? with
   |none=>rw[l]at b;cases b
   |some a=>
    rw[l]at b;simp only[Ak]at b;subst b;obtain⟨g,cap,o,R,n3,n4,K,a0,S,a2,f0,f1,f2⟩:=h.ask l;rw[D]at c1;have c7:=h.c7;rw[o]at c7;have G:((k:Int) != -1)=true:=by simp
    have q:(k:Int)<(s.asked.length:Int):=by have:=CC l;omega
    obtain⟨m,L⟩:=h.EO (by decide);rw[o]at m;have E:=m.put l 0 (by decide) (ue tZ) ⟨tZ,a.Eo,a.count⟩ rfl;rw[Zb7]at E;obtain⟨M,O⟩:=h.JU o (oset (DA g w) _ _) _ (by rw[o];exact E);have d:=Aa M.drew;have v:=Aa O.drew.drew;have F:=Aa (Ab p n);go_enter func258,ntmps258;go_wp2;go_region
    generalize(w.setCell ⟨g,k*3,N⟩ (ue tZ)).drew=W at*
    have u:=Aa (λdue=>d.out.drew.send j f due);have m15:=d.out.nM;have m17:=d.out.dU;have m13:=d.out.nL;have c0:=pS (d.out.C3 F.out.1 F.out.2);go_wp2;refine wp_region_still_tail 19 (by kernel_rfl) (by kernel_rfl) ?_;simp only[Zav,Zbn,Zb4,Zbo];repeat still_step
    still_call (Ex (HMod.out _))
    repeat still_step
    refine wpStill_nil ?_;change wpList _ _ _ _ _ (World.drew _);go_wp2_with(go_at_call 311;refine(u.out _).mono ?_;rintro e x⟨⟨r,rfl⟩,c,z,A⟩;have B:Hid (Dd mb V own w unit _ (ui unit) x):=⟨rfl,c,z,v.out.trans A⟩);go_end0;exact B.out
end
section
open Cx (Pr pz)
open Vm (CP)
variable {mb B g' Gk:Nat}{V:Vr}{own:Nat->Nat}{w W w2:rO}{s:St}{v':tR}
structure qL (X:Nat->Prop) (w0:Nat) (mb:Nat) (V:Vr) (own:Nat->Nat) (w:rO) (s:St):Prop where
 fresh: ∀j,w.heap.size<=j->own j=0
 om:own mb=1
 prog:Pg own w V.Gt s.funcs
 laid:D3.Laid w/\own 0=14
 L1: ¬X 2->GM w 0 119 1 V.LB s.gs.length (G3 s.gs.length V.CR)/\ ∀j,V.LB.ownBlock=Z j->own j=2
 L8: ¬X 3->GM w 0 123 1 V.MP s.ms.length (G3 s.ms.length V.DR)/\ ∀j,V.MP.ownBlock=Z j->own j=3
 EO: ¬X 4->Hf w V.EG s.asked/\ ∀j,V.EG.ownBlock=Z j->own j=4
 IK: ¬X 1->Cy w mb (DE V s.sc) 121
 rings: ¬X 5-> ∃rv R,Qw own V.GJ w V.procs rv R s.rings
 stat: ¬X 6-> ∃tv,Cx.Tb w V.stat tv s.stat/\ ∀j,Cx.Tf V.stat tv j->own j=6
 all: ¬X 7-> ∃S,C4.Queue w V.all S s.all/\ ∀j,S j->own j=7
 GQ: ¬X 8-> ∃g,Idle.St w V.GQ g 64 s.CL/\ ∀j,Idle.GO V.GQ g j->own j=8
 FM: ¬X 9-> ∃g,Idle.St w V.FM g 256 s.CD/\ ∀j,Idle.GO V.FM g j->own j=9
 CA: ¬X 10-> ∃v,Dg.Sm w V.CA s.owner v s.waits/\ ∀j,Dg.Sf V.CA v j->own j=10
 box: ¬X 11->pP own w V.box s.box
 gs: ¬X 12-> ∀i,i<s.gs.length->pQ own w (V.CR i) i (s.gs[i]?.getD g0)
 ms: ¬X 13-> ∀j,j<s.ms.length->Cy w (V.DR j) (Da V.CR j (s.ms[j]?.getD m0)) 125
 og: ∀i,i<s.gs.length->own (V.CR i)=20+5*i
 ug: ∀i,i<s.gs.length-> ∀b,own b=20+5*i->b=V.CR i
 ox: ∀j,j<s.ms.length->own (V.DR j)=22+5*j
 ux: ∀j,j<s.ms.length-> ∀b,own b=22+5*j->b=V.DR j
 lg: ∀b i,b<w0->own b=20+5*i->i<s.gs.length
 lx: ∀b i,b<w0->own b=22+5*i->i<s.ms.length
theorem CE.UJ{X:Nat->Prop}{C8:Nat->Nat}{w':rO}{S:Nat->Prop}(h:CE mb V own w s)(o:Cw S w w')(y: ∀j,S j->X (kind (own j))) (z: ¬X 14) (he: ∀j,j<w.heap.size->C8 j=own j) (A: ∀j,w.heap.size<=j->(¬X 5->kind (C8 j)≠5)/\(∀i,i<s.gs.length->C8 j≠20+5*i)/\ ∀i,i<s.ms.length->C8 j≠22+5*i) (C: ∀j,w'.heap.size<=j->C8 j=0):qL X w.heap.size mb V C8 w' s:=by
 have u: ∀{j t:Nat},own j=t->t≠0->j<w.heap.size:=λ{j t} k d=>by
  rcases Bc j w.heap.size with l|l
  ·exact l
  ·exact absurd ((h.fresh j l).symm.trans k).symm d
 have c: ∀{j t:Nat},own j=t->t≠0->C8 j=t:=λ{j t} k d=>(he j (u k d)).trans k;have g: ∀{j t:Nat},own j=t-> ¬X (kind t)-> ¬S j:=λ{j t} k d x=>d (by rw[<-k];exact y j x);refine⟨C,c h.om (by decide),h.prog.turn o (λj x e=>?_) he,⟨h.laid.1.only o (g h.laid.2 (by rw[H7 (by decide)];exact z)),c h.laid.2 (by decide)⟩,λa=>?_,λa=>?_,λa=>?_,λa=>?_,λa=>?_,λa=>?_,λa=>?_,λa=>?_,λa=>?_,λa=>?_,λa=>?_,λa=>?_,λa=>?_,λi p=>c (h.og i p) (by omega),λi p b r=>?_,λi p=>c (h.ox i p) (by omega),λi p b r=>?_,λb i u r=>h.lg b i (by rw[he b u]at r;exact r),λb i u r=>h.lx b i (by rw[he b u]at r;exact r)⟩
 ·have:=y j x;rw[e,H7 (by decide)]at this;exact z this
 ·obtain⟨k,d⟩:=h.L1 (by decide)
  exact⟨k.off o (λj f=>g (d j f) a),λj f=>c (d j f) (by decide)⟩
 ·obtain⟨k,d⟩:=h.L8 (by decide)
  exact⟨k.off o (λj f=>g (d j f) a),λj f=>c (d j f) (by decide)⟩
 ·obtain⟨k,d⟩:=h.EO (by decide)
  exact⟨k.only o (λj f=>g (d j f) a),λj f=>c (d j f) (by decide)⟩
 ·exact(h.IK (by decide)).only o (g h.om a)
 ·obtain⟨D,R,k⟩:=h.rings (by decide)
  exact⟨D,R,k.turn o (λj x e=>a (by have:=y j x;rwa [e]at this)) he (λj f=>(A j f).1 a)⟩
 ·obtain⟨tv,k,d⟩:=h.stat (by decide)
  exact⟨tv,k.only o (λj f=>g (d j f) a),λj f=>c (d j f) (by decide)⟩
 ·obtain⟨tv,k,d⟩:=h.all (by decide)
  exact⟨tv,k.only o (λj f=>g (d j f) a),λj f=>c (d j f) (by decide)⟩
 ·obtain⟨tv,k,d⟩:=h.GQ (by decide)
  exact⟨tv,k.only o (g (d _ (.inl rfl)) a) (g (d _ (.inr rfl)) a),λj f=>c (d j f) (by decide)⟩
 ·obtain⟨tv,k,d⟩:=h.FM (by decide)
  exact⟨tv,k.only o (g (d _ (.inl rfl)) a) (g (d _ (.inr rfl)) a),λj f=>c (d j f) (by decide)⟩
 ·obtain⟨tv,k,d⟩:=h.CA (by decide)
  exact⟨tv,k.only o (λj f=>g (d j f) a),λj f=>c (d j f) (by decide)⟩
 ·obtain⟨v,n,m,q,k,d,l,E,B⟩:=h.box (by decide)
  exact⟨v,n,m,q,k.only o (λj f=>g (B j f) a),d,l,E,λj f=>c (B j f) (by decide)⟩
 ·intro i p
  obtain⟨k,F,G,d,l⟩:=h.gs (by decide) i p;exact⟨k,F,G,d.only o (g (h.og i p) (by rw[OZ];exact a)),l.turn o (λj x e=>by have:=y j x;rw[e,H7 (by decide)]at this;exact z this) he⟩
 ·intro i p
  exact(h.ms (by decide) i p).only o (g (h.ox i p) (by rw[O0];exact a))
 ·rcases Bc b w.heap.size with l|l
  ·rw[he b l]at r;exact h.ug i p b r
  ·exact absurd r ((A b l).2.1 i p)
 ·rcases Bc b w.heap.size with l|l
  ·rw[he b l]at r;exact h.ux i p b r
  ·exact absurd r ((A b l).2.2 i p)
theorem IQ{α:Type}(l:List α)(x d:α)(k:Nat)(a:k<l.length+1):(l++[x])[k]?.getD d=if k=l.length then x else l[k]?.getD d:=by
 by_cases e:k=l.length
 ·subst e;simp
 ·rw[Ah e,Aw (by omega)]
def MZ(V:Vr)(v:tR)(n B:Nat):Vr:={V with MP:=v,DR:=λj=>if j=n then B else V.DR j}
def N7(V:Vr)(v:tR)(n B:Nat):Vr:={V with LB:=v,CR:=λj=>if j=n then B else V.CR j}
theorem CE.jk{y:M1}(hy:y.g=0)(h:CE mb V own w s)(Q:s.ms.length<64)(R:Cy W B (Da V.CR s.ms.length y) 125)(G:w.heap.size<=B)(F:tS w.heap.size w W)(p:Du W 0 123 1 V.MP s.ms.length (G3 s.ms.length V.DR) [ptr B] v' w2): ∃a,CE mb (MZ V v' s.ms.length B) a (w2.setCell ⟨mb,6,N⟩ v') {s with ms:=s.ms++[y]}/\Ext own w a (w2.setCell ⟨mb,6,N⟩ v')/\Fx V (MZ V v' s.ms.length B)/\a B=22+5*s.ms.length:=by
 classical
 obtain⟨H,q⟩:=h.L8 (by decide);have K:=h.dT;have L:=R.lt;have x:V.MP.ownBlock≠Z B:=λe=>by have:=H.lt B e;omega
 have z:V.MP.ownBlock≠Z mb:=λe=>by have:=q mb e;have:=h.om;omega
 have A: ∀j,v'.ownBlock=Z j->j≠B:=λj c e=>by
  rcases p.2.2 j c with d|d
  ·exact x (by rw[d,e])
  ·omega
 have C: ∀j,v'.ownBlock=Z j->j≠mb:=λj c e=>by
  rcases p.2.2 j c with d|d
  ·exact z (by rw[d,e])
  ·have:=F.size;omega
 have S:Cw (λj=>V.MP.ownBlock=Z j) w w2:=((Cw.refl _ w).below F).grown p.2.1 (λk l=>.inr l);have T:Cw (λj=>V.MP.ownBlock=Z j\/j=mb) w (w2.setCell ⟨mb,6,N⟩ v'):=(S.mono (λj _ c=>.inl c)).set (.inr (.inr rfl)) _ _;have M:(w2.setCell ⟨mb,6,N⟩ v').heap.size=w2.heap.size:=by simp[tV]
 have aa:B<w2.heap.size:=An L p.2.1.size;obtain⟨a,ho⟩: ∃a:Nat->Nat,a=λj=>if j<w.heap.size then own j else if v'.ownBlock=Z j then 3 else if j=B then 22+5*s.ms.length else 0:=⟨_,rfl⟩
 have r: ∀j,j<w.heap.size->a j=own j:=λj c=>by rw[ho];exact Ai c
 have m: ∀j,w.heap.size<=j->a j=if v'.ownBlock=Z j then 3 else if j=B then 22+5*s.ms.length else 0:=λj c=>by rw[ho];exact Ah (by omega)
 have D:a B=22+5*s.ms.length:=by rw[m B G,Ah (λe=>A B e rfl),Ai rfl]
 have E: ∀j,v'.ownBlock=Z j->a j=3:=λj c=>by
  rcases Bc j w.heap.size with d|d
  ·rw[r j d]
   rcases p.2.2 j c with h2|h2
   ·exact q j h2
   ·have:=F.size;omega
  ·rw[m j d,Ai c]
 have O: ∀j,(w2.setCell ⟨mb,6,N⟩ v').heap.size<=j->a j=0:=λj c=>by rw[M]at c;rw[m j (by have:=S.size;omega),Ah (λe=>by have:=(AB p.1 j e).2;omega),Ah (by omega)]
 have f:=h.UJ (X:=λt=>t=1\/t=3) (C8:=a) T (λj c=>by
  rcases c with c|rfl
  ·right;rw[q j c];rfl
  ·left;rw[h.om];rfl) (by omega) r (λj c=>by
   rw[m j c];by_cases n:v'.ownBlock=Z j
   ·rw[Ai n];exact⟨λ_=>by decide,λi _=>by omega,λi _=>by omega⟩
   ·rw[Ah n]
    by_cases o:j=B
    ·rw[Ai o,O0];exact⟨λ_=>by decide,λi _=>by omega,λi hi=>by omega⟩
    ·rw[Ah o];exact⟨λ_=>by decide,λi _=>by omega,λi _=>by omega⟩) O
 have P: ∀j,j<w.heap.size->(V.MP.ownBlock=Z j\/j=mb)->own j≠0/\own j≠14:=λj _ c=>by
  rcases c with c|rfl
  ·rw[q j c];decide
  ·rw[h.om];decide
 have hlen:(s.ms++[y]).length=s.ms.length+1:=by simp
 have u: ∀i,i<s.ms.length->(MZ V v' s.ms.length B).DR i=V.DR i:=λi hi=>Ah (by omega);have v:(MZ V v' s.ms.length B).DR s.ms.length=B:=Ai rfl;refine⟨a,⟨f.fresh,f.om,f.prog,f.laid,h.hold,λ_=>f.L1 (by omega),λ_=>?_,λ_=>f.EO (by omega),λ_=>?_,λ_=>f.rings (by omega),λ_=>f.stat (by omega),λ_=>f.all (by omega),λ_=>f.GQ (by omega),λ_=>f.FM (by omega),λ_=>f.CA (by omega),λ_=>f.box (by omega),λ_=>f.gs (by omega),λ_ k l=>?_,λk l=>?_,f.og,f.ug,λk l=>?_,λk l b g=>?_,λb k g=>?_,λb k g=>?_,by dsimp only;rw[hlen];have:=h.Hb;omega⟩,⟨T.mono P,r⟩,⟨⟨rfl,rfl,rfl,rfl,rfl,rfl,rfl,rfl⟩,rfl,rfl⟩,D⟩
 ·dsimp only
  rw[hlen,N1,v,MR _ u];exact⟨.inl (De p.1 ((Cw.refl (λj=>j=mb) w2).set (.inr rfl) _ _) (λj c e=>C j c e)),E⟩
 ·exact((h.D5.below F K).kept p.2.1 (λe=>z e.symm)).set 6 v'
 ·dsimp only at l⊢
  rw[hlen]at l;rw[IQ _ _ _ _ l];by_cases e:k=s.ms.length
  ·subst e
   rw[Ai rfl,v];exact(R.kept p.2.1 (λe=>x e.symm)).setOther (by omega) _
  ·rw[Ah e,u k (by omega)]
   exact f.ms (by omega) k (by omega)
 ·dsimp only at l⊢
  rw[hlen]at l;rw[IQ _ _ _ _ l];by_cases e:k=s.ms.length
  ·rw[Ai e,hy];exact⟨Zah 0,Za0 _⟩
  ·rw[Ah e];exact h.mg k (by omega)
 ·dsimp only at l⊢
  rw[hlen]at l;by_cases e:k=s.ms.length
  ·subst e;rw[v];exact D
  ·rw[u k (by omega)];exact f.ox k (by omega)
 ·dsimp only at l⊢
  rw[hlen]at l;by_cases e:k=s.ms.length
  ·subst e
   rw[v];rcases Bc b w.heap.size with d|d
   ·rw[r b d]at g
    exact absurd (h.lx b _ g) (Zbx _)
   ·rw[m b d]at g
    by_cases n:v'.ownBlock=Z b
    ·rw[Ai n]at g;omega
    ·rw[Ah n]at g
     by_cases o:b=B
     ·exact o
     ·rw[Ah o]at g;omega
  ·rw[u k (by omega)];exact f.ux k (by omega) b g
 ·rcases Bc b w.heap.size with d|d
  ·exact f.lg b k d g
  ·rw[m b d]at g
   by_cases n:v'.ownBlock=Z b
   ·rw[Ai n]at g;omega
   ·rw[Ah n]at g
    by_cases o:b=B
    ·rw[Ai o]at g;omega
    ·rw[Ah o]at g;omega
 ·dsimp only
  rw[hlen];rcases Bc b w.heap.size with d|d
  ·have:=f.lx b k d g;omega
  ·rw[m b d]at g
   by_cases n:v'.ownBlock=Z b
   ·rw[Ai n]at g;omega
   ·rw[Ah n]at g
    by_cases o:b=B
    ·rw[Ai o]at g;omega
    ·rw[Ah o]at g;omega
theorem CE.qM(h:CE mb V own w s)(b:s.ms.length<64)(d:Cy W B (Da V.CR s.ms.length m0) 125)(c:w.heap.size<=B)(e:tS w.heap.size w W)(f:Du W 0 123 1 V.MP s.ms.length (G3 s.ms.length V.DR) [ptr B] v' w2): ∃a,CE mb (MZ V v' s.ms.length B) a (w2.setCell ⟨mb,6,N⟩ v') {s with ms:=s.ms++[m0]}/\Ext own w a (w2.setCell ⟨mb,6,N⟩ v')/\Fx V (MZ V v' s.ms.length B)/\a B=22+5*s.ms.length:=CE.jk (y:=m0) rfl h b d c e f
theorem CE.qN{x:G}(h:CE mb V own w s)(aa:s.gs.length<64)(K:x.CO.length=8/\D9.Dt x.word/\x.stack=[])(hB:Cy W B (Dy s.gs.length (Y N 0 0) x) 130)(L:w.heap.size<=B)(H:tS w.heap.size w W)(q:Du W 0 119 1 V.LB s.gs.length (G3 s.gs.length V.CR) [ptr B] v' w2): ∃a,CE mb (N7 V v' s.gs.length B) a (w2.setCell ⟨mb,5,N⟩ v') {s with gs:=s.gs++[x]}/\Ext own w a (w2.setCell ⟨mb,5,N⟩ v')/\Fw V (N7 V v' s.gs.length B)/\a B=20+5*s.gs.length:=by
 classical
 obtain⟨M,r⟩:=h.L1 (by decide);have O:=h.dT;have P:=hB.lt;have y:V.LB.ownBlock≠Z B:=λe=>by have:=M.lt B e;omega
 have z:V.LB.ownBlock≠Z mb:=λe=>by have:=r mb e;have:=h.om;omega
 have A: ∀j,v'.ownBlock=Z j->j≠B:=λj c e=>by
  rcases q.2.2 j c with d|d
  ·exact y (by rw[d,e])
  ·omega
 have C: ∀j,v'.ownBlock=Z j->j≠mb:=λj c e=>by
  rcases q.2.2 j c with d|d
  ·exact z (by rw[d,e])
  ·have:=H.size;omega
 have o2:Cw (λj=>V.LB.ownBlock=Z j) w w2:=((Cw.refl _ w).below H).grown q.2.1 (λk l=>.inr l);have o3:Cw (λj=>V.LB.ownBlock=Z j\/j=mb) w (w2.setCell ⟨mb,5,N⟩ v'):=(o2.mono (λj _ c=>.inl c)).set (.inr (.inr rfl)) _ _;have Q:(w2.setCell ⟨mb,5,N⟩ v').heap.size=w2.heap.size:=by simp[tV]
 have ab:B<w2.heap.size:=An P q.2.1.size;obtain⟨a,ho⟩: ∃a:Nat->Nat,a=λj=>if j<w.heap.size then own j else if v'.ownBlock=Z j then 2 else if j=B then 20+5*s.gs.length else 0:=⟨_,rfl⟩
 have u: ∀j,j<w.heap.size->a j=own j:=λj c=>by rw[ho];exact Ai c
 have m: ∀j,w.heap.size<=j->a j=if v'.ownBlock=Z j then 2 else if j=B then 20+5*s.gs.length else 0:=λj c=>by rw[ho];exact Ah (by omega)
 have D:a B=20+5*s.gs.length:=by rw[m B L,Ah (λe=>A B e rfl),Ai rfl]
 have E: ∀j,v'.ownBlock=Z j->a j=2:=λj c=>by
  rcases Bc j w.heap.size with d|d
  ·rw[u j d]
   rcases q.2.2 j c with R|R
   ·exact r j R
   ·have:=H.size;omega
  ·rw[m j d,Ai c]
 have S: ∀j,(w2.setCell ⟨mb,5,N⟩ v').heap.size<=j->a j=0:=λj c=>by rw[Q]at c;rw[m j (by have:=o2.size;omega),Ah (λe=>by have:=(AB q.1 j e).2;omega),Ah (by omega)]
 have f:=h.UJ (X:=λt=>t=1\/t=2) (C8:=a) o3 (λj c=>by
  rcases c with c|rfl
  ·right;rw[r j c];rfl
  ·left;rw[h.om];rfl) (by omega) u (λj c=>by
   rw[m j c];by_cases n:v'.ownBlock=Z j
   ·rw[Ai n];exact⟨λ_=>by decide,λi _=>by omega,λi _=>by omega⟩
   ·rw[Ah n]
    by_cases o:j=B
    ·rw[Ai o,OZ];exact⟨λ_=>by decide,λi hi=>by omega,λi _=>by omega⟩
    ·rw[Ah o];exact⟨λ_=>by decide,λi _=>by omega,λi _=>by omega⟩) S
 have T: ∀j,j<w.heap.size->(V.LB.ownBlock=Z j\/j=mb)->own j≠0/\own j≠14:=λj _ c=>by
  rcases c with c|rfl
  ·rw[r j c];decide
  ·rw[h.om];decide
 have hlen:(s.gs++[x]).length=s.gs.length+1:=by simp
 have p: ∀i,i<s.gs.length->(N7 V v' s.gs.length B).CR i=V.CR i:=λi hi=>Ah (by omega);have v:(N7 V v' s.gs.length B).CR s.gs.length=B:=Ai rfl;have F: ∀id:Int,0<=id->id<=s.gs.length->Ej (N7 V v' s.gs.length B).CR id=Ej V.CR id:=λid d R=>by
  unfold Ej;by_cases e:id=0
  ·rw[Ai e,Ai e]
  ·rw[Ah e,Ah e,p _ (by omega)]
 refine⟨a,⟨f.fresh,f.om,f.prog,f.laid,⟨h.hold.1,?_⟩,λ_=>?_,λ_=>f.L8 (by omega),λ_=>f.EO (by omega),λ_=>?_,λ_=>f.rings (by omega),λ_=>f.stat (by omega),λ_=>f.all (by omega),λ_=>f.GQ (by omega),λ_=>f.FM (by omega),λ_=>f.CA (by omega),λ_=>f.box (by omega),λ_ k l=>?_,λ_ k l=>?_,λk l=>?_,λk l=>?_,λk l b g=>?_,f.ox,f.ux,λb k g=>?_,λb k g=>?_,by dsimp only;rw[hlen];have:=h.Hb;omega⟩,⟨o3.mono T,u⟩,⟨rfl,rfl,rfl,rfl,rfl,rfl,rfl,rfl⟩,D⟩
 ·have:=h.hold.2;dsimp only;rw[hlen];omega
 ·dsimp only
  rw[hlen,N1,v,MR _ p];exact⟨.inl (De q.1 ((Cw.refl (λj=>j=mb) w2).set (.inr rfl) _ _) (λj c e=>C j c e)),E⟩
 ·have hc:DE (N7 V v' s.gs.length B) s.sc=(DE V s.sc).setIfInBounds 5 v':=by unfold DE;rw[F _ h.hold.1 h.hold.2];rfl
  dsimp only;rw[hc];exact((h.D5.below H O).kept q.2.1 (λe=>z e.symm)).set 5 v'
 ·dsimp only at l⊢
  rw[hlen]at l;rw[IQ _ _ _ _ l];by_cases e:k=s.gs.length
  ·subst e
   rw[Ai rfl,v];exact⟨K.1,K.2.1,_,(hB.kept q.2.1 (λe=>y e.symm)).setOther (by omega) _,by rw[K.2.2];exact⟨by decide,.inl ⟨rfl,rfl⟩,λh=>absurd rfl h⟩⟩
  ·rw[Ah e,p k (by omega)]
   exact f.gs (by omega) k (by omega)
 ·dsimp only at l⊢
  have:=f.ms (by omega) k l;have hg:=h.mg k l;unfold Da at this⊢;rw[F _ hg.1 hg.2];exact this
 ·dsimp only at l⊢
  rw[hlen];have:=h.mg k l;omega
 ·dsimp only at l⊢
  rw[hlen]at l;by_cases e:k=s.gs.length
  ·subst e;rw[v];exact D
  ·rw[p k (by omega)];exact f.og k (by omega)
 ·dsimp only at l⊢
  rw[hlen]at l;by_cases e:k=s.gs.length
  ·subst e
   rw[v];rcases Bc b w.heap.size with d|d
   ·rw[u b d]at g
    exact absurd (h.lg b _ g) (Zbx _)
   ·rw[m b d]at g
    by_cases n:v'.ownBlock=Z b
    ·rw[Ai n]at g;omega
    ·rw[Ah n]at g
     by_cases o:b=B
     ·exact o
     ·rw[Ah o]at g;omega
  ·rw[p k (by omega)];exact f.ug k (by omega) b g
 ·dsimp only
  rw[hlen];rcases Bc b w.heap.size with d|d
  ·have:=f.lg b k d g;omega
  ·rw[m b d]at g
   by_cases n:v'.ownBlock=Z b
   ·rw[Ai n]at g;omega
   ·rw[Ah n]at g
    by_cases o:b=B
    ·rw[Ai o]at g;omega
    ·rw[Ah o]at g;omega
 ·rcases Bc b w.heap.size with d|d
  ·exact f.lx b k d g
  ·rw[m b d]at g
   by_cases n:v'.ownBlock=Z b
   ·rw[Ai n]at g;omega
   ·rw[Ah n]at g
    by_cases o:b=B
    ·rw[Ai o]at g;omega
    ·rw[Ah o]at g;omega
theorem CE.nQ(h:CE mb V own w s)(j:tS w.heap.size w W)(c:Du W 0 123 1 V.MP s.ms.length (G3 s.ms.length V.DR) [ptr B] (Y (Z ⟨g',0,N⟩) (s.ms.length+1) Gk) w2):Cy w2 mb (DE V s.sc) 121/\w2.cell? ⟨g',s.ms.length,N⟩=Z (ptr B)/\ ¬g'=mb/\ ¬mb=g':=by
 obtain⟨l,d⟩:=h.L8 (by decide);have f:=h.dT;have a:V.MP.ownBlock≠Z mb:=λe=>by have:=d mb e;have:=h.om;omega
 have b: ¬g'=mb:=λe=>by
  rcases c.2.2 g' rfl with k|k
  ·exact a (by rw[k,e])
  ·have:=j.size;omega
 refine⟨(h.D5.below j f).kept c.2.1 (λe=>a e.symm),?_,b,λe=>b e.symm⟩;rcases C6 c.1 with⟨i,_⟩|⟨g,cap,i,_,_,_,m⟩
 ·cases i
 ·cases i
  rw[m _ (by omega),Ar (by rw[Kn];exact Al _),Kn];simp
theorem CE.nR(h:CE mb V own w s)(j:tS w.heap.size w W)(c:Du W 0 119 1 V.LB s.gs.length (G3 s.gs.length V.CR) [ptr B] (Y (Z ⟨g',0,N⟩) (s.gs.length+1) Gk) w2):Cy w2 mb (DE V s.sc) 121/\w2.cell? ⟨g',s.gs.length,N⟩=Z (ptr B)/\ ¬g'=mb/\ ¬mb=g':=by
 obtain⟨l,d⟩:=h.L1 (by decide);have f:=h.dT;have a:V.LB.ownBlock≠Z mb:=λe=>by have:=d mb e;have:=h.om;omega
 have b: ¬g'=mb:=λe=>by
  rcases c.2.2 g' rfl with k|k
  ·exact a (by rw[k,e])
  ·have:=j.size;omega
 refine⟨(h.D5.below j f).kept c.2.1 (λe=>a e.symm),?_,b,λe=>b e.symm⟩;rcases C6 c.1 with⟨i,_⟩|⟨g,cap,i,_,_,_,m⟩
 ·cases i
 ·cases i
  rw[m _ (by omega),Ar (by rw[Kn];exact Al _),Kn];simp
theorem fL:(prog.info? 123).map (λi=>(i.zero,i.size,i.bytes))=Z (Z (J N),1,8):=by kernel_rfl
theorem fM:(prog.info? 119).map (λi=>(i.zero,i.size,i.bytes))=Z (Z (J N),1,8):=by kernel_rfl
theorem M0{b:Nat}(x:tR)(t:TypeId)(h:w.heap.size=b): ∀(j:Nat)(y:tR),[x][j]?=Z y->(w.alloc (.cells #[x] t)).cell? ((⟨b,0,N⟩:Addr).add j)=Z y:=by
 subst h;intro j y c;obtain⟨a,hy⟩:j=0/\y=x:=by
  cases j with
  |zero=>exact⟨rfl,by simpa using c.symm⟩
  |succ j=>simp at c
 subst a hy;rw[AE,(Cy.new w #[y] t).cell];rfl
end
section
open Cx (Pr pz)
open Vm (CP)
theorem nS{xb j:Nat}{y:M1}{gb:Nat->Nat}(h:Cy w xb (Da gb j y) 125)(p:Int):Cy (((w.setCell ⟨xb,1,N⟩ (I U p)).setCell ⟨xb,2,N⟩ (J N)).setCell ⟨xb,3,N⟩ (I U 1)) xb (Da gb j {y with p:=p,g:=0,phase:=1}) 125:=((h.set 1 (I U p)).set 2 (J N)).set 3 (I U 1)
theorem CE.QF(h:CE mb V own w s){p:Int}{j:Nat}{y:M1}(a:s.ms[j]?=Z y):CE mb V own (((w.setCell ⟨V.DR j,1,N⟩ (I U p)).setCell ⟨V.DR j,2,N⟩ (J N)).setCell ⟨V.DR j,3,N⟩ (I U 1)) {s with ms:=s.ms.set j {y with p:=p,g:=0,phase:=1}}/\
  Ext own w own (((w.setCell ⟨V.DR j,1,N⟩ (I U p)).setCell ⟨V.DR j,2,N⟩ (J N)).setCell ⟨V.DR j,3,N⟩ (I U 1)):=by
 have c:=h.ox j (CC a);have d:=h.C3 c a;have b:=oset (oset (oset (DA (V.DR j) w) 1 (I U p)) 2 (J N)) 3 (I U 1);exact⟨h.NI (CC a) b {y with p:=p,g:=0,phase:=1} ⟨Zah 0,Za0 _⟩ (nS d p),DB b (by omega)⟩
theorem Ext.lt{C8:Nat->Nat}{w':rO}(h:Ext own w C8 w'){b t:Nat}(c:own b=t)(d:t≠0)(e: ∀j,w.heap.size<=j->own j=0):C8 b=t:=by
 rcases Bc b w.heap.size with a|a
 ·rw[h.same b a];exact c
 ·exact absurd ((e b a).symm.trans c).symm d
theorem CE.begin(h:CE mb V own w s){p:Int}{r:Bool}{s':St}(c:FX s p=Z (r,s')):tT prog 293 #[ptr mb,I U p] w (Ge mb V own w (ue r) s'):=by
 unfold FX at c;have E:=Aa h.qG;have Zs:=h.Zs;cases L:s.CL with
 |cons id rest=>
  rw[L]at c E;obtain⟨h0,c⟩:=CT c;obtain⟨k,rfl⟩: ∃k:Nat,id=k:=⟨id.toNat,by omega⟩;rw[Am]at c;unfold JG at c;cases Q:s.ms[k]? with
  |none=>dsimp only at c;rw[Q]at c;cases c
  |some y=>
   dsimp only at c;rw[Q]at c;simp only[BJ,Ak,AV]at c;obtain⟨rfl,rfl⟩:=c;have B:=Aa Q;go_enter func293,ntmps293;go_wp2_with fail;refine E.out.mono ?_;rintro e C⟨rfl,j,b,l⟩;obtain⟨g,cap,D,cg,ao,_⟩:=b.NJ (k:=k) (CC B.out);have c6:=b.c6;rw[D]at c6;have c8:=b.c8;have q:(k:Int)<(s.ms.length:Int):=by have:=CC B.out;omega
   have HT:=Aa (b.Qz p k);have m:=Aa l;go_wp2_with(go_at_call 49;refine HT.out.mono ?_;rintro e w2⟨rfl,u,d,v⟩;obtain⟨n1,n2⟩:=d.ji (d.ox k (CC B.out));have f:=d.C3 (d.ox k (CC B.out)) B.out;have x1:=LH f;have x2:=R8 f;have x3:=Wr f;have S:=f.free 1;have T:=f.free 2;have W:=f.free 3;have n:=Aa d;have X:=Aa v);go_ret;obtain⟨R3,E3⟩:=n.out.QF (p:=p) B.out;exact⟨rfl,V,u,R3,(m.out.trans X.out).trans E3,Fx.refl V⟩
 |nil=>
  rw[L]at c E;dsimp only at c;by_cases M:s.sc.Gq<=s.ms.length
  ·rw[Ai M]at c
   simp only[Ak,AV]at c;obtain⟨rfl,rfl⟩:=c;have hd:decide (s.sc.Gq<=(s.ms.length:Int))=true:=by simpa using M
   have O:=Aa L;go_enter func293,ntmps293;go_wp2_with fail;refine E.out.mono ?_;rintro e C⟨rfl,j,b,l⟩;obtain⟨a,cap,D⟩:=b.mS;have c6:=b.c6;rw[D]at c6;have c4:=b.c4;have m:=Aa l;have x:=Aa b;go_wp2;go_quiet(fail)
   go_wp2;go_ret;have e1:({s with CL:=([]:List Int).tail}:St)=s:=by rw[List.tail_nil,<-O.out]
   have R:=x.out;rw[e1]at R;exact⟨rfl,V,j,R.drewN _,m.out.drewN _,Fx.refl V⟩
  ·rw[Ah M]at c
   obtain⟨aa,c⟩:=CT c;have o:(s.ms++[m0])[s.ms.length]?=Z m0:=by simp
   unfold JG at c;dsimp only at c;rw[o]at c;simp only[BJ,Ak,AV]at c;obtain⟨rfl,rfl⟩:=c;have hd:decide (s.sc.Gq<=(s.ms.length:Int))=false:=by simpa using M
   have O:=Aa L;have ab:=Aa aa;go_enter func293,ntmps293;go_wp2_with fail;refine E.out.mono ?_;rintro e C⟨rfl,j,b,l⟩;have e1:({s with CL:=([]:List Int).tail}:St)=s:=by rw[List.tail_nil,<-O.out]
   rw[e1]at b;obtain⟨a,cap,D⟩:=b.mS;have c6:=b.c6;rw[D]at c6;have c4:=b.c4;have m:=Aa l;have x:=Aa b;have HV:=Aa D;go_wp2;go_quiet(fail)
   have n:=Aa (x.out.drewN nq);have F:=Aa (n.out.L8 (by decide)).1;rw[HV.out]at F;go_wp2_with(first|(at_builtin;refine Iu underlying117 fL rfl (by decide) (by decide) 0 _ rfl _ _ rfl (.slice a s.ms.length cap) s.ms.length (G3 s.ms.length V.DR) ⟨C.heap.size+1,0,N⟩ 1 [ptr C.heap.size] rfl rfl ((F.out.below (Cu (tU _ _) _)).below (Cu (tU _ _) _)) rfl (M0 _ _ (by simp)) (by simp[Value.oneCell']) (Ap _) (by omega) ?_;intro v' w3 P;obtain⟨g',G,rfl⟩:=P.some;rw[<-HV.out]at P;obtain⟨z,aq,n3,n4⟩:=n.out.nQ (Cu (Cu (tU _ _) _) _) P;obtain⟨u,d,v,ad,f⟩:=n.out.qM ab.out ((Cy.ID _ 125 (by simp)).alloc _) (by simp) (Cu (Cu (tU _ _) _) _) P;have k6:w3.cell? ⟨mb,6,N⟩=Z V.MP:=z.cell 6;have k8:w3.cell? ⟨mb,8,N⟩=Z (ptr V.stat):=z.cell 8;have kf:=z.free 6;have ae:=Aa d;have af:=Aa v;have ag:=Aa ad)|(go_at_call 49;refine(ae.out.Qz p s.ms.length).mono ?_;rintro e w2⟨rfl,H,t,ah⟩;have o:(s.ms++[m0])[s.ms.length]?=Z m0:=(by simp);have ai:(MZ V (Y (Z ⟨g',0,N⟩) (s.ms.length+1) G) s.ms.length C.heap.size).DR s.ms.length=C.heap.size:=Ai rfl;have K:=t.QF (p:=p) o;have A:=t.ox s.ms.length (by simp);rw[ai]at K A;obtain⟨n1,n2⟩:=t.ji A;have i:=t.C3 A o;have x1:=LH i;have x2:=R8 i;have x3:=Wr i;have S:=i.free 1;have T:=i.free 2;have W:=i.free 3;have aj:=Aa K;have ak:=Aa ah));go_ret;obtain⟨R5,E5⟩:=aj.out;rw[O.out]at R5;exact⟨rfl,_,H,R5,((((m.out.drewN _).trans af.out).trans ak.out).trans E5),ag.out⟩
end
open Cx (Pr pz)
open Vm (CP)
theorem S7{l:List M1}{k:Nat}{y:M1}(h:l[k]?=Z y):IL (l.take (k+1))=IL (l.take k)+if y.phase=1 then 1 else 0:=by obtain⟨a,hy⟩:=Af.1 h;unfold IL;rw[Bg a,Zal,hy];by_cases e:y.phase=1<;>simp[e]
theorem Zx(l:List M1)(k:Nat):IL (l.take k)<=k:=AA Zap (List.length_take_le _ _)
theorem CE.OV(h:CE mb V own w s):SU s.rings s.rings.length<=65792:=by obtain⟨c,R,a⟩:=h.rings (by decide);rw[<-a.Qr _ (Al _)];have:=CZ.OV a.Ff s.rings.length (Al _);have b:=h.Hb.2.2;omega
theorem CE.Zy(h:CE mb V own w s){s':St}(b:Hg s=Z s'):tT prog 247 #[ptr mb] w (Ge mb V own w unit s'):=by
 unfold Hg at b;have Kx:=h.Kx;by_cases f:s.sc.Cz=tZ
 ·rw[Ai f]at b
  rw[f]at Kx;simp only[Ak]at b;subst b;have d:=Aa h;clear h f;go_enter func247,ntmps247;go_wp2;go_end0;exact⟨rfl,V,own,d.out,Ext.refl _ _,Fx.refl V⟩
 ·have u:s.sc.Cz=false:=by simpa using f
  rw[Ah f]at b;have X: ¬200000<=s.all.length:=λe=>by rw[Ai e]at b;cases b
  rw[Ah X]at b;rw[u]at Kx;have af:=h.Hb.2.1;obtain⟨a,cap,hv⟩:=h.mS;have c6:=h.c6;rw[hv]at c6;have HV:=Aa hv;have d:=Aa h;clear f u h hv;go_enter func247,ntmps247;go_wp2;go_loop [2,16] (λc i=> ∃k:Nat,k<=s.ms.length/\i=I U k/\c=I U (IL (s.ms.take k))) (λ_ i=>s.ms.length-(intOf i).toNat)
  case atStart=>exact⟨0,Ap _,rfl,rfl⟩
  case round=>
   obtain⟨k,hk,rfl,rfl⟩:=hrel;by_cases j:k<s.ms.length
   ·obtain⟨y,hy⟩: ∃y,s.ms[k]?=Z y:=⟨_,Ae j⟩
    obtain⟨g,ae,v,cg,ag,_⟩:=d.out.NJ j;rw[HV.out]at v;simp only[As]at v;obtain⟨rfl,_,rfl⟩:=v;have hB:=d.out.C3 (d.out.ox k j) hy;have x3:=Wr hB;have R:=Aa (S7 hy);have hle:=Zx s.ms k;clear hB hy;generalize IL (s.ms.take k)=c at*
    by_cases e:y.phase=1
    ·have hd:(y.phase==1)=true:=by simpa using e
     rw[Ai e]at R;clear e;go_wp2;go_round
     case rel=>exact⟨k+1,by omega,by go_num,by rw[R.out];go_num⟩
     case measure=>simp[intOf];omega
    ·have hd:(y.phase==1)=false:=by simpa using e
     rw[Ah e]at R;clear e;go_wp2;go_round
     case rel=>exact⟨k+1,by omega,by go_num,by rw[R.out];go_num⟩
     case measure=>simp[intOf];omega
   ·obtain rfl:k=s.ms.length:=by omega
    rw[Cd];have Wp:=d.out.Wp;have c0:=d.out.c0;have c9:=d.out.c9;have B:=Aa d.out.jg;have ht:=d.out.OV;have C:=Aa (λm=>Ex (d.out.drewN m).qI);have D:=Aa (λm=>(d.out.drewN m).total);have E:=Aa (λm=>(d.out.drewN m).qE (by omega));cases z:s.CD with
    |nil=>
     rw[z]at b B;simp only[Ak]at b;subst b;clear z hk j ht;go_wp2_with(go_at_call 189;refine B.out.mono ?_;rintro e o⟨rfl,rfl⟩);go_quiet(fail)
     go_wp2;go_end0;exact⟨rfl,V,own,d.out.drewN _,(Ext.refl _ _).drewN _,Fx.refl V⟩
    |cons p rest=>
     rw[z]at b B;dsimp only at b;have F:(s.CD.length:Int)=(rest.length:Int)+1:=by rw[z];simp
     generalize hT:SU s.rings s.rings.length=T at*
     generalize hL:IL s.ms=L at*
     generalize hA:s.all.length=A at*
     have e1:IntKind.i64.wrap ((T:Int)+(A:Int))=(T:Int)+(A:Int):=Cn _ (by omega);have q:=Aa (λW=>FU.YJ s.CD.length L ((T:Int)+(A:Int)) W);by_cases S:L=0/\0<T+A
     ·rw[Ai S]at b
      rw[show decide (0<(s.CD.length:Int)/\(L:Int)<=0/\0<(T:Int)+(A:Int))=tZ by simp;omega]at q;cases t:FX s p with
      |none=>rw[t]at b;cases b
      |some rs=>
       obtain⟨r,s1⟩:=rs;rw[t]at b;have aa:=Aa (λm=>(d.out.drewN m).begin t);clear z hk j ht F S hT hL hA t;go_wp2_with(go_at_call 189;refine B.out.mono ?_;rintro e o⟨rfl,rfl⟩);go_region_held3(λw'=>w'.cell? ⟨mb,11,N⟩=Z (ptr V.FM)/\w'.cell? ⟨mb,0,N⟩=Z (ptr V.procs)/\w'.cell? ⟨mb,9,N⟩=Z (ptr V.all)) (go_keep) (first|(go_at_call 262;refine(C.out 1).mono ?_;rintro e o⟨rfl,rfl⟩)|(go_at_call 292;refine(D.out 1).mono ?_;rintro e o⟨rfl,m1,rfl⟩)|(go_at_call 284;refine(E.out _).mono ?_;rintro e o⟨rfl,m2,rfl⟩)|(go_at_call 291;refine(q.out _).mono ?_;rintro e o⟨rfl,rfl⟩)|(go_at_call 293;refine(aa.out _).mono ?_;rintro e o⟨rfl,V1,G,l,H,n⟩;have Yo:o.cell? ⟨mb,11,N⟩=Z (ptr V.FM):=n.FM▸l.Wp;have k0:o.cell? ⟨mb,0,N⟩=Z (ptr V.procs):=n.procs▸l.c0;have k9:o.cell? ⟨mb,9,N⟩=Z (ptr V.all):=n.all▸l.c9;have K:=Aa l;have M:=Aa H;have x:=Aa n;clear l H n))
       all_goals
        cases r
        ·simp only[Ak]at b
         subst b;go_wp2;go_end0;exact⟨rfl,V1,G,K.out,((Ext.refl _ _).drewN _).trans M.out,x.out⟩
        ·simp only[Ak]at b
         subst b;have HD:=Aa (K.out.UE p);rw[x.out.FM]at HD;go_wp2_with(go_at_call 191;refine HD.out.mono ?_;rintro e w2⟨rfl,O,P,Q⟩;have ab:=Aa P;have ad:=Aa Q;clear P Q);go_end0;exact⟨rfl,V1,O,ab.out,(((Ext.refl _ _).drewN _).trans M.out).trans ad.out,x.out⟩
     ·rw[Ah S]at b
      simp only[Ak]at b;subst b;rw[show decide (0<(s.CD.length:Int)/\(L:Int)<=0/\0<(T:Int)+(A:Int))=tY by simp;omega]at q;clear z hk j ht F S hT hL hA;go_wp2_with(go_at_call 189;refine B.out.mono ?_;rintro e o⟨rfl,rfl⟩);go_quiet((first|(go_at_call 262;exact BO (C.out _))|(go_at_call 292;exact Za8 (D.out _))|(go_at_call 284;exact Za8 (E.out _))|(go_at_call 291;exact BO (Ex (q.out _)))))
      go_wp2;go_end0;exact⟨rfl,V,own,d.out.drewN _,(Ext.refl _ _).drewN _,Fx.refl V⟩
end C2
end Go.Proofs.YtgadhchejmlfjaaGreatDoor
