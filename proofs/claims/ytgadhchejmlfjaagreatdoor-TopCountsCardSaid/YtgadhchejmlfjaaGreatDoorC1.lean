/- A part of the proof. -/
import Derived.Test.YtgadhchejmlfjaaGreatDoorC0
set_option linter.unusedVariables false
set_option maxRecDepth 20000
set_option maxHeartbeats 16000000
open Go.Value renaming int->I,pointer->J,slice->Y
open Go.IntKind renaming i64->U
open Option renaming none->N,some->Z
open Bool renaming false->tY,true->tZ
open Go renaming TypeId->uf,Value->tR,World->rO
open Go.Ending renaming returned->ui
open Go.Value renaming bool->ue,string->um
open Go.Proofs.Tryz Go.RowKit Go.CN
namespace Go.Proofs.YtgadhchejmlfjaaGreatDoor
namespace Qv
open C2
open dC
variable {w W w5:rO}{base g c mb k:Nat}{tv:tR}{T:List Tp}{s s0:St}{l:List En}
def Yi(t:Tp):List Value:=[Y (Z ⟨t.I7,0,N⟩) t.Ei.length t.Dr,I U t.x,I U t.y,I U t.z]
structure dE (W:rO) (t:Tp):Prop where
 row: ∀j,j<t.Ei.length->W.cell? ⟨t.I7,j,N⟩=Z (ue (t.Ei[j]?.getD tY))
 lt:t.I7<W.heap.size
 pos:0<t.Ei.length
 dY:t.Ei.length<=1000
theorem dE.only{S:Nat->Prop}{w':rO}{t:Tp}(h:dE w t)(o:Cw S w w')(a: ¬S t.I7):dE w' t:=⟨λj b=>(AK (o.block t.I7 h.lt a)).trans (h.row j b),An h.lt o.size,h.pos,h.dY⟩
theorem mI{ms:List M1}(h:w.ownsRow base 4 1 (Y (Z ⟨g,0,N⟩) (I2 ms).length c) (I2 ms).length (Oq ms))(f:0<ms.length)(i:ms.length<=64)(x y z:Int):dE w ⟨I2 ms,g,c,x,y,z⟩:=by
 have k:(I2 ms).length=ms.length:=by simp[I2]
 rcases C6 h with⟨e,_⟩|⟨l,m,e,_,b,_,q⟩
 ·cases e
 ·cases e
  refine⟨λj d=>?_,b,by show 0<(I2 ms).length;omega,by show(I2 ms).length<=1000;omega⟩;have a:j<(I2 ms).length:=d;show w.cell? ⟨g,j,N⟩=Z (ue ((I2 ms)[j]?.getD tY));rw[q j (by omega),Oq,AZ,Ae a];rfl
theorem pF(h:w.ownsRow base 68 4 tv T.length (T.flatMap Yi))(e:0<T.length)(f: ∀t∈T,dE w t): ∃g cap,tv=Y (Z ⟨g,0,N⟩) T.length cap/\dq w g T:=by
 obtain⟨g,cap,cur,i,m,d,j⟩:=Et h e;refine⟨g,cap,i,d.lt,λk t b=>?_⟩;have c:=(Af.1 b).1;have a: ∀r,r<4->w.cell? ⟨g,k*4+r,N⟩=(Yi t)[r]?:=λr l=>by rw[d.cell,<-Bm,<-AN (show k*4+r<T.length*4 by omega),j];have q:=C2.Js Yi 4 ⟨[],0,0,0,0,0⟩ (λ_=>rfl) T k r c l;rw[b]at q;exact q
 have q:=f t (AP b);exact⟨a 0 (by decide),a 1 (by decide),a 2 (by decide),a 3 (by decide),q.row,q.lt,q.pos,q.dY⟩
theorem mJ{wr f h:rO}{F:Nat->Prop}{v':tR}{x:En}(p:Sr W F s mb wr)(z:Inv 1000 s)(q: ∀j,tv.ownBlock=Z j->F j) (A: ∀t∈T,F t.I7/\tv.ownBlock≠Z t.I7/\dE wr t) (a:Below wr.heap.size wr f) (B:wr.heap.size<=g) (i:f.ownsRow wr.heap.size 4 1 (Y (Z ⟨g,0,N⟩) (I2 s.ms).length c) (I2 s.ms).length (Oq s.ms)) (b:Below f.heap.size f h) (C:Du h W.heap.size 68 4 tv T.length (T.flatMap Yi) (Yi ⟨I2 s.ms,g,c,x.1,x.2.1,x.2.2⟩) v' w5): ∃G:Nat->Prop,Sr W G s mb w5/\(∀j,v'.ownBlock=Z j->G j)/\(∀t∈T++[(⟨I2 s.ms,g,c,x.1,x.2.1,x.2.2⟩:Tp)],G t.I7/\v'.ownBlock≠Z t.I7/\dE w5 t)/\w5.ownsRow W.heap.size 68 4 v' (T++[(⟨I2 s.ms,g,c,x.1,x.2.1,x.2.2⟩:Tp)]).length ((T++[(⟨I2 s.ms,g,c,x.1,x.2.1,x.2.2⟩:Tp)]).flatMap Yi):=by
 obtain⟨u,a2,a3⟩:=C;have D:Cw (λj=>tv.ownBlock=Z j) wr h:=((Cw.refl _ wr).below a).below b;have o:Cw (λj=>tv.ownBlock=Z j) wr w5:=D.grown a2 (λk r=>.inr r);have E:Cw (λj=>tv.ownBlock=Z j) h w5:=(Cw.refl _ h).grown a2 (λk r=>.inr r);have v:=mI i z.RV.2.1 p.dY x.1 x.2.1 x.2.2;have H:=b.size;have d:tv.ownBlock≠Z g:=λe=>by have:=p.lt (q g e);omega
 have l:dE w5 ⟨I2 s.ms,g,c,x.1,x.2.1,x.2.2⟩:=(v.only ((Cw.refl (λj=>tv.ownBlock=Z j) f).below b) d).only E d;refine⟨_,p.mG (o.mono λj _ n=>q j n),λj n=>?_,λt m=>?_,?_⟩
 ·rcases a3 j n with e|e
  ·exact .inl (q j e)
  ·have K:=a.size
   exact .inr ⟨by omega,(AB u j n).2⟩
 ·rcases Br.1 m with m|m
  ·obtain⟨L,w,y⟩:=A t m
   refine⟨.inl L,λe=>?_,y.only o w⟩;rcases a3 _ e with e|e
   ·exact w e
   ·have K:=a.size;have:=y.lt;omega
  ·obtain rfl:=Cj.1 m
   refine⟨.inr ⟨B,l.lt⟩,λe=>?_,l⟩;rcases a3 _ e with e|e
   ·exact d e
   ·have:=v.lt
    have e':h.heap.size<=g:=e;have M:g<f.heap.size:=this;omega
 ·rw[Au,Zbf]
  simpa using u
def sy(W:rO)(l:List En)(L:List Sp)(s0:St)(mb:Nat)(ti tv:tR)(wr:rO):Prop:= ∃(s:St)(F:Nat->Prop)(T:List Tp),ti=I U (T.length:Int)/\T.length<=l.length/\Sr W F s mb wr/\Inv 1000 s/\L.drop T.length=Ls (l.drop T.length) s/\L.take T.length=T.map Tp.sp/\(D0 l s0).map (·.2)=(D0 (l.drop T.length) s).map (·.2)/\wr.ownsRow W.heap.size 68 4 tv T.length (T.flatMap Yi)/\(∀j,tv.ownBlock=Z j->F j)/\ ∀t∈T,F t.I7/\tv.ownBlock≠Z t.I7/\dE wr t
theorem iQ{s1:St}{x:En}(b:l[k]?=Z x)(c:FN s x.1 x.2.1 x.2.2=Z s1):(D0 (l.drop k) s).map (·.2)=(D0 (l.drop (k+1)) s1).map (·.2):=by
 have a:=(Af.1 b).1;have e:l.drop k=x::l.drop (k+1):=by rw[AQ a];rw[Ae a]at b;rw[Ba b]
 rw[e];show((FN s x.1 x.2.1 x.2.2).bind _).map _=_;rw[c,Zbw,Option.map_map];rfl
theorem iR{c:rO}{L:List Sp}{s2:St}{G:Nat->Prop}{t:Tp}{x:En}(d:l[T.length]?=Z x)(a:FN s x.1 x.2.1 x.2.2=Z s2)(e:Inv 1000 s2)(m:L.drop T.length=Ls (l.drop T.length) s)(n:L.take T.length=T.map Tp.sp)(o:(D0 l s0).map (·.2)=(D0 (l.drop T.length) s).map (·.2))(p:t.sp=RR s x)(q:Sr W G s2 mb c)(g:Cw (λj=> ¬G j) w5 c) (i: ∀j,tv.ownBlock=Z j->G j) (r: ∀t'∈T++[t],G t'.I7/\tv.ownBlock≠Z t'.I7/\dE w5 t') (u:w5.ownsRow W.heap.size 68 4 tv (T++[t]).length ((T++[t]).flatMap Yi)):sy W l L s0 mb (I U ((T.length+1:Nat):Int)) tv c:=by
 obtain⟨v,w⟩:=de m d a;have y:=(Af.1 d).1;have b:(T++[t]).length=T.length+1:=by simp
 refine⟨s2,G,T++[t],by rw[b],by omega,q,e,by rw[b];exact w,?_,by rw[b,o];exact iQ d a,De u g (λj z h=>h (i j z)),i,λt' f=>?_⟩
 ·rw[b,Bu,v,n,BP,<-p]
  rfl
 ·obtain⟨k,A,B⟩:=r t' f
  exact⟨k,A,B.only g (λh=>h k)⟩
theorem mK{L:List Sp}(a:T.length=l.length)(b:L.drop T.length=Ls (l.drop T.length) s)(c:L.take T.length=T.map Tp.sp):L=T.map Tp.sp:=by
 have e:L.drop T.length=[]:=by rw[b,a,Cl];rfl
 have q:=BV T.length L;rw[e,BW,c]at q;exact q.symm
theorem dF{s':St}{r:List St}(a:k=l.length)(h:(D0 l s0).map (·.2)=(D0 (l.drop k) s).map (·.2))(b:D0 l s0=Z (r,s')):s=s':=by rw[b,a,Cl]at h;have e:(D0 [] s)=Z ([],s):=rfl;rw[e]at h;exact(Ba h).symm
theorem pG(s:St)(x:En)(g c:Nat):(⟨I2 s.ms,g,c,x.1,x.2.1,x.2.2⟩:Tp).sp=RR s x:=by simp[Tp.sp,RR,rJ,I2]
theorem X4(w:rO):Calls prog 25 #[Y N 0 0] w λe a=>e=ui (I U 1)/\a=w:=by
 go_enter func25,ntmps25;go_wp2;go_loopw [3,4] (λt3 t4 wr=>t4=I U 0/\t3=I U 1/\wr=w) (λ_ _ _=>0)
 case atStart=>exact⟨rfl,rfl,rfl⟩
 case round=>obtain⟨rfl,rfl,rfl⟩:=hrel;go_wp2;go_ret;exact⟨rfl,rfl⟩
theorem dG(h:w.ownsRow base 68 4 tv T.length (T.flatMap Yi))(b: ∀t∈T,dE w t) (c:T.length<=1000):Calls prog 25 #[tv] w λe a=>e=ui (I U (FL (T.map Tp.sp) T.length))/\Below w.heap.size w a:=by
 by_cases d:0<T.length
 ·obtain⟨g,cap,rfl,f⟩:=pF h d b
  exact Vi g cap T f c
 ·have e:T=[]:=List.eq_nil_of_length_eq_zero (by omega)
  subst e;rcases C6 h with⟨rfl,_⟩|⟨g,cap,rfl,_,i,_⟩
  ·refine(X4 w).mono ?_
   rintro e a⟨rfl,rfl⟩;exact⟨rfl,Below.refl _ _⟩
  ·exact Vi g cap [] ⟨i,λk t j=>by simp at j⟩ (by decide)
end Qv
namespace topCounts
open Go.Proofs.Tryz
section
open Go.ChangeShapes Go.WideShapes Go.Deep Go.RowKit Go.CN
open Vm (CP)
open D8 (lR lS U6 ER)
open D1 (I9 Lx)
variable {t:uf}{cs:List tR}{fs:Array Field}
theorem Lt{α:Type}(d:α){Q:Nat->α->Prop}: ∀n:Nat,(∀i,i<n-> ∃x,Q i x)-> ∃l:List α,l.length=n/\ ∀i,i<n->Q i (l[i]?.getD d)
 |0,_=>⟨[],rfl,λi a=>absurd a (BX i)⟩
 |n+1,h=>by
  obtain⟨l,b,c⟩:=Lt d n (λi a=>h i (by omega));obtain⟨x,f⟩:=h n (by omega);refine⟨l++[x],by simp[b],λi a=>?_⟩;by_cases e:i<n
  ·rw[Aw (by omega)];exact c i e
  ·obtain rfl:i=n:=by omega
   rw[Ar (by omega),b];simpa using f
section
variable {H:Type}{enc:uf×tR->H}{x:DataW H×List MemPlace}{P:Program}{w:rO}{base:Nat}{spare:Nat->Bool}{held:Bool}
theorem Jt{e:uf}{size fuel:Nat}{α:Type}(d:α){Q:List tR->α->Prop}(G:P.underlying t=Z (.slice e))(K:P.cellsOf e=size)(L:0<size)(q: ∀(n:Nat)(cs:List tR)(y:DataW H×List MemPlace),cs.length=size->DataW.trod enc P w base spare held n e cs=Z y-> ∃z,Q cs z) (h:DataW.trod enc P w base spare held fuel t cs=Z x): ∃(a:Option Addr)(cap:Nat)(l:List α),cs=[.slice a l.length cap]/\(l.length=0\/ ∃b o,a=Z ⟨b,o,N⟩/\b<w.heap.size/\ ∀i,i<l.length-> ∃c:List tR,c.length=size/\(∀j,j<size->w.cell? ⟨b,o+(i*size+j),N⟩=c[j]?)/\Q c (l[i]?.getD d)):=by
 rcases open_slice G h with⟨rfl,_⟩|⟨a,len,cap,m,n,D,Pl,rfl,_,T,hm,r,_,s⟩
 ·exact⟨N,0,[],rfl,.inl rfl⟩
 ·obtain⟨l,u,E⟩:=Lt d (Q:=λi z=> ∃c:List tR,c.length=size/\(∀j,j<size->w.cell? (a.add (i*size+j))=c[j]?)/\Q c z) len (λi M=>by
   have v:i<m:=by rw[r];split<;>omega
   obtain⟨c,F,A⟩:=s i v;rw[K]at F;obtain⟨_,f,g⟩:=World.cells?_some F;obtain⟨z,B⟩:=q n c _ f A;exact⟨z,c,f,λj C=>by rw[<-Go.Deep.add_add];exact g j C,B⟩)
  subst u;refine⟨Z a,cap,l,rfl,?_⟩;by_cases B:l.length=0
  ·exact .inl B
  ·obtain⟨c,f,g,_⟩:=E 0 (by omega)
   have k:=g 0 L;rw[Ae (by omega)]at k;obtain⟨b,off,spot⟩:=a;have p:spot=none:=by simpa[Addr.add]using World.cell?_spot k
   subst p;refine .inr ⟨b,off,rfl,by have:=Ep k;simpa[Addr.add]using this,λi s=>?_⟩;obtain⟨c,O,R,S⟩:=E i s;exact⟨c,O,λj C=>by rw[<-add_plain];exact R j C,S⟩
theorem RY{fuel:Nat}(he:P.underlying t=Z (.struct fs))(b:oneCellFields P fs=tZ)(hint:(fs.toList.all λf=>match P.underlying f.type with|some (.int .i64)=>tZ|_=>tY)=tZ) (e:cs.length=fs.size) (h:DataW.trod enc P w base spare held fuel t cs=Z x): ∀j,j<fs.size-> ∃z:Int,cs[j]?=Z (I U z)/\(Lit.int .i64 z).wf=true:=by
 intro j k;obtain⟨ys,r,_,_,hlen,l,m⟩:=DataW.trod_struct he h;have c:fs[j]?=Z fs[j]:=Zbc k;obtain⟨n,o⟩:=hone_of b j _ c;have g:=m j _ c;rw[n,o]at g;have d:j<cs.length:=by omega
 have a:(cs.drop j).take 1=[cs[j]]:=by rw[AQ d];rfl
 rw[a,Ae (by omega:j<ys.length)]at g;have i:P.underlying (fs[j]).type=Z (.int .i64):=by
  have:=Bq.1 hint fs[j] (by simp);revert this;split
  ·intro _;assumption
  ·intro p;cases p
 obtain⟨z,e0,_,q⟩:=DataW.trod_int i g;exact⟨z,by rw[Ae d];simpa using e0,q⟩
end
section
variable {H:Type}{enc:uf×tR->H}{x:DataW H×List MemPlace}{w:rO}{base:Nat}{spare:Nat->Bool}{held:Bool}{fuel:Nat}
theorem open_ints{k:Nat}(g:fs.size=k)(he:prog.underlying t=Z (.struct fs))(b:oneCellFields prog fs=tZ)(hint:(fs.toList.all λf=>match prog.underlying f.type with|some (.int .i64)=>tZ|_=>tY)=tZ) (a:cs.length=k) (h:DataW.trod enc prog w base spare held fuel t cs=Z x): ∃z:Nat->Int,∀j,j<k->cs[j]?=Z (I U (z j))/\I9 (z j):=by
 subst g;have key:=RY he b hint a h;obtain⟨l,i,c⟩:=Lt (0:Int) (Q:=λj z=>cs[j]?=Z (I U z)/\(Lit.int .i64 z).wf=tZ) fs.size key;refine⟨λj=>l[j]?.getD 0,λj d=>⟨(c j d).1,?_⟩⟩;have:=(c j d).2;simp[Lit.wf]at this;have e:IntKind.i64.min= -9223372036854775808:=by kernel_rfl
 rw[e]at this;exact⟨this.1,Int.lt_of_le_of_lt this.2 (by decide)⟩
theorem dH{l:List tR}(b:cs.length=l.length)(h: ∀j,j<l.length->cs[j]?=l[j]?):cs=l:=BI λj=>by
 by_cases a:j<l.length
 ·exact h j a
 ·rw[A0 (by omega),A0 (by omega)]
theorem tL:prog.cellsOf 84=5:=by kernel_rfl
theorem tM:prog.cellsOf 36=3:=by kernel_rfl
theorem tN:prog.cellsOf 87=2:=by kernel_rfl
theorem tO:prog.cellsOf 85=1:=by kernel_rfl
theorem tP:prog.cellsOf 43=1:=by kernel_rfl
theorem c4:prog.cellsOf 4=1:=by kernel_rfl
theorem fG:prog.cellsOf 24=1:=by kernel_rfl
theorem X5(h:DataW.trod enc prog w base spare held fuel 85 cs=Z x): ∃(a:Option Addr)(cap:Nat)(l:List CP),cs=[.slice a l.length cap]/\(l.length=0\/ ∃p co,a=Z ⟨p,co,N⟩/\ER w p co l)/\ ∀i∈l,I9 i.n:=by
 obtain⟨a,cap,l,rfl,f⟩:=Jt (⟨0,0,0,0,0⟩:CP) (Q:=λcs i=>(cs=[I U i.op,I U i.a,I U i.b,I U i.c,I U i.n])/\I9 i.n) underlying85 tL (by decide) (λn cs y q A=>by
  obtain⟨z,r⟩:=open_ints (k:=5) rfl underlying84 (by kernel_rfl) (by kernel_rfl) q A;refine⟨⟨z 0,z 1,z 2,z 3,z 4⟩,dH q λj s=>?_,(r 4 (by decide)).2⟩;rw[(r j s).1];match j,s with
  |0,_=>rfl
  |1,_=>rfl
  |2,_=>rfl
  |3,_=>rfl
  |4,_=>rfl) h
 refine⟨a,cap,l,rfl,f.imp id λ⟨b,o,e,t,d⟩=>⟨b,o,e,t,λi g=>?_⟩,λi d=>?_⟩
 ·rcases f with B|⟨b,o,e,t,f⟩
  ·rw[Bl.1 B]at d;cases d
  ·obtain⟨k,u,rfl⟩:=Zas.1 d
   obtain⟨m,_,_,_,v⟩:=f k u;rw[Ae u]at v;exact v
 ·obtain⟨m,_,c,rfl,_⟩:=d i g
  exact⟨c 0 (by decide),c 1 (by decide),c 2 (by decide),c 3 (by decide),c 4 (by decide)⟩
theorem Ub(h:DataW.trod enc prog w base spare held fuel 43 cs=Z x): ∃(a:Option Addr)(cap:Nat)(l:List Bool),cs=[.slice a l.length cap]/\(l.length=0\/ ∃f g,a=Z ⟨f,g,N⟩/\FU.Bs w (Y (Z ⟨f,g,N⟩) l.length cap) l):=by obtain⟨a,cap,l,rfl,j⟩:=Jt tY (Q:=λcs b=>cs=[ue b]) underlying43 c4 (by decide) (λn cs y r k=>by obtain⟨b,e,_⟩:=DataW.trod_bool underlying4 k;exact⟨b,e⟩) h;refine⟨a,cap,l,rfl,j.imp id λ⟨b,o,e,m,p⟩=>⟨b,o,e,b,o,cap,rfl,m,λi c=>?_⟩⟩;obtain⟨q,_,d,rfl⟩:=p i c;have:=d 0 (by decide);rw[Zbl,Zb7]at this;exact this
theorem X6(F:cs.length=1)(h:DataW.trod enc prog w base spare held fuel 26 cs=Z x): ∃(a:Option Addr)(cap:Nat)(p:List (List CP×List Bool)),cs=[.slice a p.length cap]/\U6 w a p/\ ∀f∈p,∀i∈f.1,I9 i.n:=by
 obtain⟨L,n,_,_,j⟩:=trod_struct1 underlying26 h;dsimp only at j;rw[fG,Zbo,AL (by omega)]at j;obtain⟨a,cap,p,rfl,r⟩:=Jt (([],[]):List CP×List Bool) (Q:=λcs f=> ∃c d g sc,cs=[.slice c f.1.length d,.slice g f.2.length sc]/\lR w c g d sc f.1 f.2/\ ∀i∈f.1,I9 i.n) underlying24 tN (by decide) (λn cs y F M=>by
  obtain⟨L,T,V,_,_,t,z⟩:=trod_struct2 underlying87 M;dsimp only at t z;obtain⟨u,v,rfl⟩: ∃u v,cs=[u,v]:=by
   match cs,F with
   | [u,v],_=>exact⟨u,v,rfl⟩
  rw[tO]at t;rw[tP]at z;obtain⟨c,d,l,G,O,m⟩:=X5 t;obtain⟨g,sc,P,H,R⟩:=Ub z;simp only[Zbo,Zav,Zbn,Zbj,and_true]at G;simp only[Zb4,Zbo,Zav,Zbn,Zbj,and_true]at H;subst G H;exact⟨(l,P),c,d,g,sc,rfl,⟨O,R,λi C=>by have:=(m i C).2;omega⟩,m⟩) j
 refine⟨a,cap,p,rfl,r.imp id λ⟨b,o,e,K,C⟩=>⟨b,o,e,K,λk s=>?A⟩,λf D=>?B⟩
 case A=>obtain⟨E,_,q,c,d,g,sc,rfl,S,_⟩:=C k s;exact⟨c,d,g,sc,q 0 (by decide),q 1 (by decide),S⟩
 case B=>
  rcases r with j|⟨b,o,e,K,r⟩
  ·rw[Bl.1 j]at D;cases D
  ·obtain⟨k,s,rfl⟩:=Zas.1 D
   obtain⟨E,_,_,_,_,_,_,_,_,m⟩:=r k s;rw[Ae s]at m;exact m
theorem PD(h:DataW.trod enc prog w base spare held fuel 52 cs=Z x): ∃(a:Option Addr)(cap:Nat)(l:List Qv.En),cs=[.slice a l.length cap]/\dC.R9 w a l/\ ∀x∈l,Lx x:=by
 obtain⟨a,cap,l,rfl,d⟩:=Jt ((0,0,0):Qv.En) (Q:=λcs x=>cs=[I U x.1,I U x.2.1,I U x.2.2]/\Lx x) underlying52 tM (by decide) (λn cs y p t=>by
  obtain⟨z,f⟩:=open_ints (k:=3) rfl underlying36 (by kernel_rfl) (by kernel_rfl) p t;refine⟨(z 0,z 1,z 2),dH p λj q=>?_,(f 0 (by decide)).2,(f 1 (by decide)).2,(f 2 (by decide)).2⟩;rw[(f j q).1];match j,q with
  |0,_=>rfl
  |1,_=>rfl
  |2,_=>rfl) h
 refine⟨a,cap,l,rfl,d.imp id λ⟨b,o,e,r,u⟩=>⟨b,o,e,λk g=>?A,r⟩,λx i=>?B⟩
 case A=>obtain⟨m,_,c,rfl,_⟩:=u k g;exact⟨c 0 (by decide),c 1 (by decide),c 2 (by decide)⟩
 case B=>
  rcases d with v|⟨b,o,e,r,d⟩
  ·rw[Bl.1 v]at i;cases i
  ·obtain⟨k,g,rfl⟩:=Zas.1 i
   obtain⟨m,_,_,_,s⟩:=d k g;rw[Ae g]at s;exact s
theorem X7(d:cs.length=3)(h:DataW.trod enc prog w base spare held fuel 34 cs=Z x): ∃a b c:Int,cs=[I U a,I U b,I U c]:=by
 obtain⟨z,f⟩:=open_ints (k:=3) rfl underlying34 (by kernel_rfl) (by kernel_rfl) d h;refine⟨z 0,z 1,z 2,dH d λj e=>?_⟩;rw[(f j e).1];match j,e with
 |0,_=>rfl
 |1,_=>rfl
 |2,_=>rfl
end
end
open Go.ChangeShapes Go.WideShapes Go.ChangeAt Go.RowKit Go.CN
variable {cs:List tR}{W:rO}{p:List MemPlace}
theorem Nz{H:Type}{enc:uf×tR->H}{a:Assume}{C:Checked}{os:Os}{f:FuncId}{fn:Func}{s:ChangeSpec}{conds:List PathCond}{apart fresh handsOn again:Bool}{X:rO->Array tR->Prop}(p: ∀(w h:rO)(args:Array tR),w.heap=h.heap->X w args->X h args) (own:ownKnob C.prog.godebug=N) (started:os.Started) (b:C.prog.inits.idxOf? f=N) (k:C.prog.funcs[f]?=Z fn) (witness: ∃(w:rO)(tape:Tape)(i:Input),w.os=os/\(w.forCall tape i).Shaped C.prog/\i.vars=[]/\Input.okWide C.prog (w.forCall tape i) .any w.heap.size f i/\((s.pre enc C.prog fn conds apart (w.forCall tape i).memory i.args/\X (w.forCall tape i).memory i.args)/\sizedMet enc C.prog fn (OpenSpec.ofChange s) apart (w.forCall tape i).memory i.args)/\a.holds C.prog (lone (Frame.enter C.prog f i.args .normal) [] (w.forCall tape i))) (contract: ∀(W:rO)(base:Nat)(args:Array tR)(ds gs:List (DataW H))(before:List MemPlace),(∀(j:Nat) t v,fn.params[j]?=Z t->args[j]?=Z v->Value.okWide C.prog W .any base t v)->DataW.Whole enc C.prog fn.params.toList s.vars apart W args.toList ds gs before->X W args->W.ShapedOpen C.prog->Calls C.prog f args W λe o=> ∃v,e=ui v/\s.post enc C.prog fn apart fresh handsOn again W args v o):ReturnsInHanded a C os f .any (λw args=>(s.pre enc C.prog fn conds apart w args/\X w args)/\sizedMet enc C.prog fn (OpenSpec.ofChange s) apart w args) (s.post enc C.prog fn apart fresh handsOn again):=by refine returnsInHanded_of_calls own started b witness ?_;intro w tape i _ l _ m c g;obtain⟨_,_,_,n,d,_,_,_,_,hval⟩:=m;have e:n=fn:=Ba (d.symm.trans k);subst e;obtain⟨⟨⟨ds,gs,before,hw,u⟩,q⟩,x⟩:=c;have hw':=DataW.Whole.of_heap (w':=w.forCall tape i) (by rfl) hw;refine(contract (w.forCall tape i) w.heap.size i.args ds gs before hval hw' (p _ _ _ (by rfl) q) l).mono λe o⟨v,he,r⟩=>?_;subst he;exact ChangeSpec.post_blind r
theorem own:ownKnob prog.godebug=none:=by kernel_rfl
theorem laidOut:laidOutB prog=true:=by kernel_rfl
def iS(r:D3.Row):DataW Unit:=.agg [.lit (.string r.name),.lit (.int .i64 r.CO),.lit (.int .i64 r.target),.lit (.bool r.number),.lit (.bool r.waits),.lit (.bool r.ends),.lit (.bool r.asks)]
theorem X8:(Rows.laid_escapement_isa_rows:DataW Unit)= .agg (D3.rows.map iS):=by rfl
theorem drop_one{a b:Nat}{v:tR}(h:((((cs.drop a).take 7).drop b).take 1)=[v]):cs[a+b]?=Z v:=by
 have:=Aq (·[0]?) h;simp only[Zan,Zak,Ac]at this;split at this
 ·split at this
  ·simpa using this
  ·cases this
 ·cases this
theorem iT{fuel:Nat}{s:List UInt8}(h:DataW.trod (λ_=>()) prog W 0 (λ_=>tZ) tY fuel 9 cs=Z (.lit (.string s),p)):cs=[um ⟨s.toArray⟩]:=by obtain⟨b,e,a,_⟩:=DataW.trod_string underlying9 h;simp only[AV,DataW.lit.injEq,Lit.string.injEq]at a;obtain⟨rfl,_⟩:=a;rw[e]
theorem Vl{fuel:Nat}{n:Int}(h:DataW.trod (λ_=>()) prog W 0 (λ_=>tZ) tY fuel 3 cs=Z (.lit (.int .i64 n),p)):cs=[I U n]:=by obtain⟨b,e,a,_⟩:=DataW.trod_int underlying3 h;simp only[AV,DataW.lit.injEq,Lit.int.injEq,true_and]at a;obtain⟨rfl,_⟩:=a;exact e
theorem KO{fuel:Nat}{b:Bool}(h:DataW.trod (λ_=>()) prog W 0 (λ_=>tZ) tY fuel 4 cs=Z (.lit (.bool b),p)):cs=[ue b]:=by obtain⟨c,e,a⟩:=DataW.trod_bool underlying4 h;simp only[AV,DataW.lit.injEq,Lit.bool.injEq]at a;obtain⟨rfl,_⟩:=a;exact e
theorem dI{α β:Type}{xs:List (α×β)}{l:List α}(h:l=xs.map (·.1)){i:Nat}{a:α}(b:l[i]?=Z a): ∃p,xs[i]?=Z (a,p):=by
 rw[h,AZ]at b;cases c:xs[i]? with
 |none=>rw[c]at b;cases b
 |some y=>rw[c]at b;simp only[BJ,Ak]at b;exact⟨y.2,by rw[<-b]⟩
theorem iU(k:Nat)(a:k<24):(D3.rows.map iS)[k]?=Z (iS (D3.rows[k]?.getD D3.Di)):=by
 have b:D3.rows.length=24:=by kernel_rfl
 simp[b,a]
theorem dJ(h:Lib.VarReads prog W "escapement/isa.rows" Rows.laid_escapement_isa_rows):D3.Laid W:=by
 obtain⟨g,t,cs,fuel,p,n,w,x,o⟩:=h;obtain rfl:g=0:=(Ba ((show prog.globalNamed "escapement/isa.rows" =Z 0 by kernel_rfl).symm.trans n)).symm;obtain rfl:t=312:=(Ba ((show(prog.globals[0]?).map (·.type)=Z 312 by kernel_rfl).symm.trans w)).symm;have c: ∀i,W.cell? ⟨0,i,N⟩=cs.toList[i]?:=λi=>by rw[World.var?_cell n x i];simp
 rw[X8]at o;obtain⟨xs,m,rfl,s,_,O,l⟩:=DataW.trod_array underlying312 o;simp only[AV,DataW.agg.injEq]at s;have e:prog.cellsOf 258=7:=by kernel_rfl
 have c9:prog.cellsOf 9=1:=by kernel_rfl
 have c3:prog.cellsOf 3=1:=by kernel_rfl
 have c4:prog.cellsOf 4=1:=by kernel_rfl
 have all: ∀k,k<24->cs.toList[k*7]?=Z (um ⟨(D3.rows[k]?.getD D3.Di).name.toArray⟩)/\cs.toList[k*7+1]?=Z (I U (D3.rows[k]?.getD D3.Di).CO)/\cs.toList[k*7+2]?=Z (I U (D3.rows[k]?.getD D3.Di).target)/\
  cs.toList[k*7+3]?=Z (ue (D3.rows[k]?.getD D3.Di).number)/\cs.toList[k*7+4]?=Z (ue (D3.rows[k]?.getD D3.Di).waits)/\cs.toList[k*7+5]?=Z (ue (D3.rows[k]?.getD D3.Di).ends)/\cs.toList[k*7+6]?=Z (ue (D3.rows[k]?.getD D3.Di).asks):=λk j=>by
  generalize y:D3.rows[k]?.getD D3.Di=r;obtain⟨q,u⟩:=dI s.1 (iU k j);rw[y]at u;have f:=l k j;rw[u,e]at f;obtain⟨ys,m2,_,hy,_,_,d⟩:=DataW.trod_struct underlying258 f;simp only[iS,AV,DataW.agg.injEq]at hy;have at_: ∀i,∀a,[DataW.lit (.string r.name),.lit (.int .i64 r.CO),.lit (.int .i64 r.target),.lit (.bool r.number),.lit (.bool r.waits),.lit (.bool r.ends),.lit (.bool r.asks)][i]?=Z a-> ∃p,ys[i]?=Z (a,p):=λi a z=>dI hy.1 z;obtain⟨p0,e0⟩:=at_ 0 _ rfl;obtain⟨A,B⟩:=at_ 1 _ rfl;obtain⟨C,D⟩:=at_ 2 _ rfl;obtain⟨E,F⟩:=at_ 3 _ rfl;obtain⟨p4,G⟩:=at_ 4 _ rfl;obtain⟨H,K⟩:=at_ 5 _ rfl;obtain⟨L,M⟩:=at_ 6 _ rfl;have f0:DataW.trod (λ_=>()) prog W 0 (λ_=>tZ) tY m2 9 (List.take (prog.cellsOf 9) (List.drop 0 (List.take 7 (List.drop (k*7) cs.toList))))=Z (_,p0):=(d 0 _ rfl).trans e0;rw[c9]at f0;have f1:DataW.trod (λ_=>()) prog W 0 (λ_=>tZ) tY m2 3 (List.take (prog.cellsOf 3) (List.drop 1 (List.take 7 (List.drop (k*7) cs.toList))))=Z (_,A):=(d 1 _ rfl).trans B;rw[c3]at f1;have f2:DataW.trod (λ_=>()) prog W 0 (λ_=>tZ) tY m2 3 (List.take (prog.cellsOf 3) (List.drop 2 (List.take 7 (List.drop (k*7) cs.toList))))=Z (_,C):=(d 2 _ rfl).trans D;rw[c3]at f2;have f3:DataW.trod (λ_=>()) prog W 0 (λ_=>tZ) tY m2 4 (List.take (prog.cellsOf 4) (List.drop 3 (List.take 7 (List.drop (k*7) cs.toList))))=Z (_,E):=(d 3 _ rfl).trans F;rw[c4]at f3;have f4:DataW.trod (λ_=>()) prog W 0 (λ_=>tZ) tY m2 4 (List.take (prog.cellsOf 4) (List.drop 4 (List.take 7 (List.drop (k*7) cs.toList))))=Z (_,p4):=(d 4 _ rfl).trans G;rw[c4]at f4;have f5:DataW.trod (λ_=>()) prog W 0 (λ_=>tZ) tY m2 4 (List.take (prog.cellsOf 4) (List.drop 5 (List.take 7 (List.drop (k*7) cs.toList))))=Z (_,H):=(d 5 _ rfl).trans K;rw[c4]at f5;have f6:DataW.trod (λ_=>()) prog W 0 (λ_=>tZ) tY m2 4 (List.take (prog.cellsOf 4) (List.drop 6 (List.take 7 (List.drop (k*7) cs.toList))))=Z (_,L):=(d 6 _ rfl).trans M;rw[c4]at f6;exact⟨drop_one (b:=0) (iT f0),drop_one (b:=1) (Vl f1),drop_one (b:=2) (Vl f2),drop_one (b:=3) (KO f3),drop_one (b:=4) (KO f4),drop_one (b:=5) (KO f5),drop_one (b:=6) (KO f6)⟩
 refine⟨?_,λk j=>by simp only[c];exact all k j⟩;have v:=(all 0 (by decide)).1;rw[<-c]at v;exact Ep v
theorem mL(h:Lib.VarReads prog W "internal/strconv.uint64pow10" Rows.laid_internal_strconv_uint64pow10):Fq.Pow W:=by obtain⟨g,t,cs,fuel,p,b,c,d,a⟩:=h;obtain rfl:g=2:=(Ba ((show prog.globalNamed "internal/strconv.uint64pow10" =Z 2 by kernel_rfl).symm.trans b)).symm;obtain rfl:t=384:=(Ba ((show(prog.globals[2]?).map (·.type)=Z 384 by kernel_rfl).symm.trans c)).symm;rw[show(Rows.laid_internal_strconv_uint64pow10:DataW Unit)=Lib.tabData .u64 Lib.pow10Tab from by rfl]at a;have e:=Lib.cells_of_tab underlying384 underlying328 (by kernel_rfl) (by kernel_rfl) a;show prog |> λP=>W.var? P "internal/strconv.uint64pow10" =Z (Lib.pow10Tab.map λz=>Value.int .u64 z).toArray;dsimp only;rw[d,<-e]
end topCounts
end Go.Proofs.YtgadhchejmlfjaaGreatDoor
