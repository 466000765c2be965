/- A part of the proof. -/
import Derived.Test.YtgadhchejmlfjaaGreatDoorB0
set_option linter.unusedVariables false
set_option maxRecDepth 20000
set_option maxHeartbeats 16000000
open Go.Value renaming int->I,pointer->J,slice->Y
open Go.IntKind renaming i64->U
open Option renaming none->N,some->Z
open Bool renaming false->tY,true->tZ
open Go renaming Calls->tT,Value->tR,World->rO
open Go.Ending renaming returned->ui
open Go.Obj renaming cells->uj
open Go.RowKit renaming Below->tS
open Go.RowKit.Below renaming refl->tU
open Go.Value renaming bool->ue
open Go.Proofs.Tryz Go.RowKit Go.CN
namespace Go.Proofs.YtgadhchejmlfjaaGreatDoor
namespace C2
variable {mb:Nat}{V:Vr}{own:Nat->Nat}{w:rO}{s:St}
section
open Vm (CP)
theorem CE.re(h:CE mb V own w s){x:G}{ins:CP}(i:Fh s x=Z ins): ∃a b:Nat,x.fn=a/\x.Dr=b/\Vm.At w V.Gt a b ins:=by unfold Fh at i;obtain⟨⟨E,F⟩,i⟩:=CT i;obtain⟨f,j,k⟩:=bind_some i;obtain⟨a,c⟩: ∃a:Nat,x.fn=a:=⟨x.fn.toNat,by omega⟩;obtain⟨b,d⟩: ∃b:Nat,x.Dr=b:=⟨x.Dr.toNat,by omega⟩;rw[c,Am]at j;rw[d,Am]at k;refine⟨a,b,c,d,?_⟩;obtain⟨q,r,t,l,m,u,n⟩:=h.prog;have e:=CC j;have g:=CC k;obtain⟨v,co,y,H,K,sc,o,a2,a3,a4,a5,L,p,M⟩:=(n a e).at_;rw[j]at o p;simp only[AW]at o p;have a9:=p b g;rw[k]at a9;simp only[AW]at a9;obtain⟨z,A,B,C,D⟩:=a9;exact⟨q,r,s.funcs.length,t,v,co,f.code.length,y,l,e,g,m,a3,o,z,A,B,C,D⟩
theorem CE.tC(h:CE mb V own w s){x x':G}{ins:CP}{a n:Int}{sv:tR}(b:Fh s x=Z ins)(hd:dS x ins a=Z (x',n))(c:x.CO.length=8)(d:Vm.Hu w 0 sv x.stack)(e:x.stack.length<=16):tT prog 259 #[.agg #[V.Gt],Q5 x sv,I U a] w (mV x' n w):=by obtain⟨f,g,i,j,k⟩:=h.re b;exact lz V.Gt f g x sv ins a w (x',n) hd c i j k h.laid.1 d e
end
def NN(w:rO)(b:Nat)(x:G)(sv:tR):World:=((((((((((((w.setCell ⟨b,2,N⟩ (I U x.fn)).setCell ⟨b,3,N⟩ (I U x.Dr)).setCell ⟨b,4,N⟩ (I U (rg x 0))).setCell ⟨b,5,N⟩ (I U (rg x 1))).setCell ⟨b,6,N⟩ (I U (rg x 2))).setCell ⟨b,7,N⟩ (I U (rg x 3))).setCell ⟨b,8,N⟩ (I U (rg x 4))).setCell ⟨b,9,N⟩ (I U (rg x 5))).setCell ⟨b,10,N⟩ (I U (rg x 6))).setCell ⟨b,11,N⟩ (I U (rg x 7))).setCell ⟨b,12,N⟩ sv).setCell ⟨b,13,N⟩ (ue x.done)).setCell ⟨b,17,N⟩ (ue tY)
theorem oM{b:Nat}{cs:Array tR}{t:TypeId}(h:Cy w b cs t)(x:G)(a:tR):Cy (NN w b x a) b (((((((((((((cs.setIfInBounds 2 (I U x.fn)).setIfInBounds 3 (I U x.Dr)).setIfInBounds 4 (I U (rg x 0))).setIfInBounds 5 (I U (rg x 1))).setIfInBounds 6 (I U (rg x 2))).setIfInBounds 7 (I U (rg x 3))).setIfInBounds 8 (I U (rg x 4))).setIfInBounds 9 (I U (rg x 5))).setIfInBounds 10 (I U (rg x 6))).setIfInBounds 11 (I U (rg x 7))).setIfInBounds 12 a).setIfInBounds 13 (ue x.done)).setIfInBounds 17 (ue tY)) t:=Cy.set (Cy.set (Cy.set (Cy.set (Cy.set (Cy.set (Cy.set (Cy.set (Cy.set (Cy.set (Cy.set (Cy.set (Cy.set h 2 _) 3 _) 4 _) 5 _) 6 _) 7 _) 8 _) 9 _) 10 _) 11 _) 12 _) 13 _) 17 _
theorem aQ{b i:Nat}{sv a:tR}{x x':G}(h:Cy w b (Dy i sv x) 130)(c:x'.word=x.word)(d:x'.blocked=x.blocked)(f:x'.token=x.token)(g:x'.CA=x.CA)(j:x'.Db=x.Db):Cy (NN w b x' a) b (Dy i a {x' with begun:=tY}) 130:=by
 have k:=oM h x' a;have e:(((((((((((((Dy i sv x).setIfInBounds 2 (I U x'.fn)).setIfInBounds 3 (I U x'.Dr)).setIfInBounds 4 (I U (rg x' 0))).setIfInBounds 5 (I U (rg x' 1))).setIfInBounds 6 (I U (rg x' 2))).setIfInBounds 7 (I U (rg x' 3))).setIfInBounds 8 (I U (rg x' 4))).setIfInBounds 9 (I U (rg x' 5))).setIfInBounds 10 (I U (rg x' 6))).setIfInBounds 11 (I U (rg x' 7))).setIfInBounds 12 a).setIfInBounds 13 (ue x'.done)).setIfInBounds 17 (ue tY)=Dy i a {x' with begun:=tY}:=by simp[Dy,rg,c,d,f,g,j]
 rw[e]at k;exact k
section
open Vm (CP)
section
variable {x x':G}{PU n:Int}
theorem Hu.ext{C8:Nat->Nat}{w':rO}{l:List (Int×Int)}{sv:tR}(h:Hu own w l sv)(e:Ext own w C8 w'):Hu C8 w' l sv:=h.turn e.only (λj a=>a.2) e.same
theorem CE.lL(h:CE mb V own w s){b i:Nat}{a:tR}(k:Hu own w x'.stack a)(e:own b=20+5*i)(d:s.gs[i]?=Z x)(l:x'.CO.length=8)(f:x'.word=x.word)(m:x'.blocked=x.blocked)(n:x'.token=x.token)(o:x'.CA=x.CA)(p:x'.Db=x.Db):CE mb V own (NN w b x' a) (s.CJ i {x' with begun:=tY})/\Ext own w own (NN w b x' a):=by obtain⟨t,hw,u,q,r⟩:=h.Hr e d;have c:=h.fH e d;have g:Cw (λj=>j=b) w (NN w b x' a):=oset (oset (oset (oset (oset (oset (oset (oset (oset (oset (oset (oset (oset (DA b w) _ _) _ _) _ _) _ _) _ _) _ _) _ _) _ _) _ _) _ _) _ _) _ _) _ _;exact⟨h.Wi (CC d) (by rw[<-c];exact g) {x' with begun:=tY} (by rw[<-c];exact⟨l,by rw[f];exact hw,_,aQ q f m n o p,k⟩),DB g (by omega)⟩
theorem aR{ins:CP}(h:dS x ins PU=Z (x',n))(a:x.CO.length=8):x'.CO.length=8/\x'.word=x.word/\x'.blocked=x.blocked/\x'.token=x.token/\x'.CA=x.CA/\x'.Db=x.Db:=by
 unfold dS at h;split at h
 ·simp only[Ak]at h
  have b:(F4 x ins PU).length=8:=by unfold F4;(repeat' split)<;>simp[a]
  cases he:GA x ins with
  |true=>rw[he,Ai rfl]at h;cases h;exact⟨rfl,rfl,rfl,rfl,rfl,rfl⟩
  |false=>rw[he,Ah (by decide)]at h;cases h;unfold GB;(repeat' split)<;>exact⟨b,rfl,rfl,rfl,rfl,rfl⟩
 ·cases h
theorem aS{ins:CP}(h:dS x ins PU=Z (x',n))(a:x.stack.length<=16):x'.stack.length<=16:=by
 unfold dS at h;split at h
 ·simp only[Ak]at h
  cases he:GA x ins with
  |true=>rw[he,Ai rfl]at h;cases h;simp[LD]
  |false=>
   rw[he,Ah (by decide)]at h;cases h;simp only[GA,decide_eq_false_iff_not]at he;unfold GB;split
   ·simp;omega
   ·split
    ·simp;omega
    ·exact a
 ·cases h
end
end
section
open Vm (CP)
def TF(b:Nat)(x:G)(sv:tR)(w:rO):Prop:=
 w.cell? ⟨b,2,N⟩=Z (I U x.fn)/\w.cell? ⟨b,3,N⟩=Z (I U x.Dr)/\w.cell? ⟨b,4,N⟩=Z (I U (rg x 0))/\w.cell? ⟨b,5,N⟩=Z (I U (rg x 1))/\w.cell? ⟨b,6,N⟩=Z (I U (rg x 2))/\w.cell? ⟨b,7,N⟩=Z (I U (rg x 3))/\
 w.cell? ⟨b,8,N⟩=Z (I U (rg x 4))/\w.cell? ⟨b,9,N⟩=Z (I U (rg x 5))/\w.cell? ⟨b,10,N⟩=Z (I U (rg x 6))/\w.cell? ⟨b,11,N⟩=Z (I U (rg x 7))/\w.cell? ⟨b,12,N⟩=Z sv/\w.cell? ⟨b,13,N⟩=Z (ue x.done)
theorem CE.oN(h:CE mb V own w s){b i:Nat}{x:G}(e:own b=20+5*i)(f:s.gs[i]?=Z x): ∃d sc,TF b x (.slice d x.stack.length sc) w/\Hu own w x.stack (.slice d x.stack.length sc):=by obtain⟨g,hw,j,a,c⟩:=h.Hr e f;obtain⟨d,sc,rfl⟩:=Vm.Fm c.2.1;exact⟨d,sc,⟨a.cell 2,a.cell 3,a.cell 4,a.cell 5,a.cell 6,a.cell 7,a.cell 8,a.cell 9,a.cell 10,a.cell 11,a.cell 12,a.cell 13⟩,c⟩
theorem TF.below{b:Nat}{x:G}{sv:tR}{w':rO}(h:TF b x sv w)(a:tS w.heap.size w w')(d:b<w.heap.size):TF b x sv w':=by have c:=(FC a).1;simp only[TF,c _ _ d];exact h
end
section
open Vm (CP)
section
variable {P lo:Nat}{a0 a1 a2 a3 a4 a5 a6 a7 a8 a9 sg si:tR}
def J6(x:G)(sv:tR):Array Value:=#[I U x.fn,I U x.Dr,I U (rg x 0),I U (rg x 1),I U (rg x 2),I U (rg x 3),I U (rg x 4),I U (rg x 5),I U (rg x 6),I U (rg x 7),sv,ue x.done]
def aT(w:rO)(P:Nat)(x:G)(sv:tR):World:=(((((((((((w.setCell ⟨P,0,N⟩ (I U x.fn)).setCell ⟨P,1,N⟩ (I U x.Dr)).setCell ⟨P,2,N⟩ (I U (rg x 0))).setCell ⟨P,3,N⟩ (I U (rg x 1))).setCell ⟨P,4,N⟩ (I U (rg x 2))).setCell ⟨P,5,N⟩ (I U (rg x 3))).setCell ⟨P,6,N⟩ (I U (rg x 4))).setCell ⟨P,7,N⟩ (I U (rg x 5))).setCell ⟨P,8,N⟩ (I U (rg x 6))).setCell ⟨P,9,N⟩ (I U (rg x 7))).setCell ⟨P,10,N⟩ sv).setCell ⟨P,11,N⟩ (ue x.done)
theorem oO{t:TypeId}(h:Cy w P #[a0,a1,a2,a3,a4,a5,a6,a7,a8,a9,sg,si] t)(x:G)(sv:tR):Cy (aT w P x sv) P (J6 x sv) t:=Vm.LX h
def oP(mb:Nat)(V:Vr)(own a:Nat->Nat)(b:rO)(s:St)(W:rO)(P:Nat)(x:G)(sv:tR):Prop:=CE mb V a W s/\Ext own b a W/\Cy W P (J6 x sv) 50/\a P=0/\Hu a W x.stack sv
theorem UY{W:rO}{l:List (Int×Int)}{sv:tR}(i:CE mb V own W s)(k:Ext own w own W)(m:own P=0)(p:Vm.Hu W lo sv l)(q:w.heap.size<=lo)(n:l.length<=16)(c: ∀j,sv.ownBlock=Z j->j≠P) (r: ∀j,w.heap.size<=j->own j=0): ∃a,CE mb V a W s/\Ext own w a W/\a P=0/\Hu a W l sv:=by
 rcases p with⟨b,d⟩|⟨g,cap,b,d,o,t,u⟩
 ·exact⟨own,i,k,m,n,.inl ⟨b,d⟩,λh=>absurd d h⟩
 ·refine⟨λj=>if j=g then 14 else own j,i.nE (r g (by omega)) o,⟨k.only,λj f=>Ah (by omega)⟩,?_,n,.inr ⟨g,cap,b,Ap _,o,t,u⟩,λ_ j f=>?_⟩
  ·show(if P=g then 14 else own P)=0
   rw[Ah (λe=>c g (by rw[b];rfl) e.symm)];exact m
  ·rw[b]at f;cases f;exact Ai rfl
theorem aU{w2:rO}(c:CE mb V own w s)(d:tS w.heap.size w w2)(x:G)(sv:tR)(i:Vm.Hu w2 lo sv x.stack)(f:w.heap.size<=lo)(k:x.stack.length<=16): ∃a,oP mb V own a w s (w2.alloc (uj (J6 x sv) 50)) w2.heap.size x sv:=by
 obtain⟨a,a1,a2,a3,a4⟩:=UY (l:=x.stack) (sv:=sv) (c.below (DK d (uj (J6 x sv) 50))) (Ext.below (DK d _)) (c.fresh _ d.size) (i.below (Cu (tU _ _) _)) f k (λj b e=>by
  rcases i with⟨h,-⟩|⟨g,cap,h,-,m,-⟩
  ·rw[h]at b;cases b
  ·rw[h]at b;cases b;exact absurd (show g=w2.heap.size from e) (by omega)) c.fresh
 exact⟨a,a1,a2,Cy.new w2 _ 50,a3,a4⟩
theorem Xr{w2:rO}(d:CE mb V own w s)(k:tS w.heap.size w w2)(o:Cy w2 P #[a0,a1,a2,a3,a4,a5,a6,a7,a8,a9,sg,si] 50)(f:w.heap.size<=P)(x:G)(sv:tR)(m:Vm.Hu w2 lo sv x.stack)(p:P<lo)(q:x.stack.length<=16): ∃a,oP mb V own a w s (aT w2 P x sv) P x sv:=by
 have h:Cw (λj=>j=P) w2 (aT w2 P x sv):=oset (oset (oset (oset (oset (oset (oset (oset (oset (oset (oset (oset (DA P w2) _ _) _ _) _ _) _ _) _ _) _ _) _ _) _ _) _ _) _ _) _ _) _ _;have n:own P=0:=d.fresh _ f;have c: ∀j,sv.ownBlock=Z j->j≠P:=λj b e=>by
  rcases m with⟨i,-⟩|⟨g,cap,i,t,-⟩
  ·rw[i]at b;cases b
  ·rw[i]at b;cases b;exact absurd (show g=P from e) (by omega)
 obtain⟨a,a1,a2,a3,a4⟩:=UY (w:=w) (l:=x.stack) (sv:=sv) ((d.below k).loc h (λj b=>by rw[show j=P from b];exact n)) ⟨(Ext.below k).only.andThen h (λj b r=>by rw[show j=P from r]at b;omega),λ_ _=>rfl⟩ n (m.only h c) (by omega) q c d.fresh;exact⟨a,a1,a2,oO o x sv,a3,a4⟩
theorem CE.jB(h:CE mb V own w s){xb j:Nat}{y:M1}(d:own xb=22+5*j)(b:s.ms[j]?=Z y)(u:Int):CE mb V own (w.setCell ⟨xb,5,N⟩ (I U u)) (s.CQ j {y with used:=u})/\Ext own w own (w.setCell ⟨xb,5,N⟩ (I U u)):=by have a:=h.dV d b;have e:=oset (DA xb w) 5 (I U u);have c:=h.xg b;exact⟨h.NI (CC b) (by rw[<-a];exact e) {y with used:=u} c (by rw[<-a];exact Ws (h.C3 d b) u),DB e (by omega)⟩
end
end
section
open Vm (CP)
section
variable {b i xb j:Nat}
theorem CE.rf(h:CE mb V own w s){x:G}(c:own b=20+5*i)(d:s.gs[i]?=Z x):(∃e,TF b x e w)/\w.cell? ⟨b,17,N⟩=Z (ue x.begun)/\ ∀k,w.frozen? ⟨b,k,N⟩=false:=by obtain⟨_,_,e,a,_⟩:=h.Hr c d;obtain⟨g,sc,f,-⟩:=h.oN c d;exact⟨⟨_,f⟩,nO a,λk=>a.free k⟩
theorem oQ{P:Nat}{x:G}{sv:tR}{t:TypeId}(h:Cy w P (J6 x sv) t):(w.cell? ⟨P,0,N⟩=Z (I U x.fn)/\w.cell? ⟨P,1,N⟩=Z (I U x.Dr)/\w.cell? ⟨P,2,N⟩=Z (I U (rg x 0))/\w.cell? ⟨P,3,N⟩=Z (I U (rg x 1))/\w.cell? ⟨P,4,N⟩=Z (I U (rg x 2))/\w.cell? ⟨P,5,N⟩=Z (I U (rg x 3))/\w.cell? ⟨P,6,N⟩=Z (I U (rg x 4))/\w.cell? ⟨P,7,N⟩=Z (I U (rg x 5))/\w.cell? ⟨P,8,N⟩=Z (I U (rg x 6))/\w.cell? ⟨P,9,N⟩=Z (I U (rg x 7))/\w.cell? ⟨P,10,N⟩=Z sv/\w.cell? ⟨P,11,N⟩=Z (ue x.done)):=⟨h.cell 0,h.cell 1,h.cell 2,h.cell 3,h.cell 4,h.cell 5,h.cell 6,h.cell 7,h.cell 8,h.cell 9,h.cell 10,h.cell 11⟩
theorem TG(h:CE mb V own w s){x x':G}{y:M1}{u:Int}{sv:tR}(c:Hu own w x'.stack sv)(d:own xb=22+5*j)(e:own b=20+5*i)(f:s.ms[j]?=Z y)(k:s.gs[i]?=Z x)(l:y.g=(i:Int)+1)(a:x'.CO.length=8/\x'.word=x.word/\x'.blocked=x.blocked/\x'.token=x.token/\x'.CA=x.CA/\x'.Db=x.Db):CE mb V own ((NN w b x' sv).setCell ⟨xb,5,N⟩ (I U u)) ((s.CJ i {x' with begun:=tY}).CQ j {y with g:=(i:Int)+1,used:=u})/\Ext own w own ((NN w b x' sv).setCell ⟨xb,5,N⟩ (I U u)):=by obtain⟨m,n⟩:=h.lL c e k a.1 a.2.1 a.2.2.1 a.2.2.2.1 a.2.2.2.2.1 a.2.2.2.2.2;obtain⟨o,p⟩:=m.jB (y:=y) d f u;rw[<-l];exact⟨o,n.trans p⟩
theorem CE.GG(h:CE mb V own w s){bq:Int}{s':St}(hx:own xb=22+5*j)(o:Dc s j bq=Z s'):tT prog 187 #[ptr mb,ptr xb,I U bq] w (Ge mb V own w unit s'):=by
 unfold Dc at o;cases hj:s.ms[j]? with
 |none=>rw[hj]at o;cases o
 |some y=>
 rw[hj]at o;dsimp only at o;replace o:=CT o;obtain⟨br,o⟩:=o;have bs:=(h.xg hj).2;obtain⟨i,bg⟩: ∃i:Nat,y.g=(i:Int)+1:=⟨(y.g-1).toNat,by omega⟩;rw[bg]at br bs o;have e2:((i:Int)+1-1).toNat=i:=by omega
 rw[e2]at o;cases hi:s.gs[i]? with
 |none=>rw[hi]at o;cases o
 |some x=>
 rw[hi]at o;dsimp only at o;obtain⟨e1,hb⟩:=h.gp br bs;rw[e2]at e1 hb;obtain⟨b,b9⟩: ∃b,V.CR i=b:=⟨_,rfl⟩;rw[b9]at e1 hb;replace o:=bind_some o;obtain⟨ins,hI,o⟩:=o;replace o:=bind_some o;obtain⟨⟨R,n⟩,hd,o⟩:=o;replace o:=bind_some o;obtain⟨s1,ar,o⟩:=o;dsimp only at o;replace o:=bind_some o;obtain⟨s4,T,o⟩:=o;have x2:w.cell? ⟨xb,2,N⟩=Z (ptr b):=by rw[<-e1,<-bg];exact R8 (h.C3 hx hj)
 unfold Kv at ar;rw[hi]at ar;simp only[Ak]at ar;have bt:=(h.Hr hb hi).len;obtain⟨g1,g2,g3,g4,g5,g6⟩:=aR hd bt;obtain⟨sa,sc,hT,d⟩:=h.oN hb hi;have ca:=aS hd d.1;have HD:Hid (∀W,tS w.heap.size w W->tT prog 259 #[.agg #[V.Gt],Q5 x (.slice sa x.stack.length sc),I U bq] W (mV R n W)):=λW hW=>(h.below hW).tC hI hd bt (d.2.1.below hW) d.1;have c1:=h.c1;have cb:=Aa hT;obtain⟨t2,t3,t4,t5,t6,t7,t8,t9,t10,t11,t12,t13⟩:=hT;have cc:=h.Z4 hx hj;have bu:=h.jx hb hi;have cw:=h.dT;have HR:=Aa h;have HT:Hid (∀W,tS w.heap.size w W->TF b x (.slice sa x.stack.length sc) W/\W.cell? ⟨mb,1,N⟩=Z V.Gt):=λW hW=>⟨cb.out.below hW bu,(h.below hW).c1⟩;have HX:=Aa (Ab hx (Ab cc (Ab hb (Ab bu (Ab hj (Ab hi bg))))));have HG:=Aa (Ab g1 (Ab g2 (Ab g3 (Ab g4 (Ab g5 g6)))));have bw:=Aa ar;have HQ:=Aa T;have HS:=Aa o;unfold mV Q5 Vm.tv at HD;simp only[show∀(z:G) k,Vm.r_ z.CO k=rg z k from λ_ _=>rfl]at HD;have bz:=Aa ca;have cd: ¬w.heap.size=mb:=by omega
 have cf: ¬w.heap.size=b:=by omega
 clear cb d ca h hx hb hi hI hd hj bg br bs b9 e1 e2 ar g1 g2 g3 g4 g5 g6 bt T o cc bu cw;go_enter func187,ntmps187;go_wp2;go_region_held3(λw'=>w'.cell? ⟨mb,1,N⟩=Z V.Gt/\w'.cell? ⟨b,2,N⟩=Z (I U x.fn)/\w'.cell? ⟨b,3,N⟩=Z (I U x.Dr)/\w'.cell? ⟨b,4,N⟩=Z (I U (rg x 0))/\w'.cell? ⟨b,5,N⟩=Z (I U (rg x 1))/\w'.cell? ⟨b,6,N⟩=Z (I U (rg x 2))/\w'.cell? ⟨b,7,N⟩=Z (I U (rg x 3))/\w'.cell? ⟨b,8,N⟩=Z (I U (rg x 4))/\w'.cell? ⟨b,9,N⟩=Z (I U (rg x 5))/\w'.cell? ⟨b,10,N⟩=Z (I U (rg x 6))/\w'.cell? ⟨b,11,N⟩=Z (I U (rg x 7))/\w'.cell? ⟨b,12,N⟩=Z (.slice sa x.stack.length sc)/\w'.cell? ⟨b,13,N⟩=Z (ue x.done)) (go_keep) (first|(go_at_call 259;refine(HD.out _ (by repeat(first|exact tU _ _|apply DK|apply Gh))).mono ?_;rintro e w2⟨c2,rfl,bh,au⟩;obtain⟨ae,af,rfl⟩:=Vm.Fm au;have av:tS w.heap.size w w2:=(Gi (by repeat(first|exact tU _ _|apply DK|apply Gh)) bh);obtain⟨⟨t2,t3,t4,t5,t6,t7,t8,t9,t10,t11,t12,t13⟩,c1⟩:=HT.out _ av;first|(have c:Cy w2 w.heap.size #[I U 0,I U 0,I U 0,I U 0,I U 0,I U 0,I U 0,I U 0,I U 0,I U 0,Y N 0 0,ue tY] 50:=(Cy.new w.drew _ 50).below bh (by simp);have q0:=c.cell 0;have q1:=c.cell 1;have q2:=c.cell 2;have q3:=c.cell 3;have q4:=c.cell 4;have q5:=c.cell 5;have q6:=c.cell 6;have q7:=c.cell 7;have q8:=c.cell 8;have q9:=c.cell 9;have b0:=c.cell 10;have bj:=c.cell 11;have f0:=c.free 0;have f1:=c.free 1;have f2:=c.free 2;have f3:=c.free 3;have f4:=c.free 4;have f5:=c.free 5;have f6:=c.free 6;have f7:=c.free 7;have f8:=c.free 8;have f9:=c.free 9;have f10:=c.free 10;have f11:=c.free 11;simp only[Ad,Ac,Ag]at q0 q1 q2 q3 q4 q5 q6 q7 q8 q9 b0 bj;obtain⟨cg,ch⟩:=Xr HR.out av c (Al _) R _ au (by simp) bz.out;have cj:=Aa ch;clear c av bh au ch)|(obtain⟨cg,ck⟩:=aU HR.out av R _ au (by simp) bz.out;have cl:=Aa ck;clear av bh au ck)))
 all_goals
  rename_i hh;clear hh HD HT bz t2 t3 t4 t5 t6 t7 t8 t9 t10 t11 t12 t13 c1 cd cf;clear t2 t3 t4 t5 t6 t7 t8 t9 t10 t11 t12 t13 c1 x2
  first
   |(have HL:=cl;clear cl;change Exit.then _ _ _ _ (w2.alloc (uj (J6 R (.slice ae R.stack.length af)) 50));generalize w2.alloc (uj (J6 R (.slice ae R.stack.length af)) 50)=W at*;obtain⟨P,hP⟩: ∃P,w2.heap.size=P:=⟨_,rfl⟩)
   |(have HL:=cj;clear cj;clear q0 q1 q2 q3 q4 q5 q6 q7 q8 q9 b0 bj f0 f1 f2 f3 f4 f5 f6 f7 f8 f9 f10 f11;change Exit.then _ _ _ _ (aT w2 w.heap.size R (.slice ae R.stack.length af));generalize aT w2 w.heap.size R (.slice ae R.stack.length af)=W at*;obtain⟨P,hP⟩: ∃P,w.heap.size=P:=⟨_,rfl⟩)
  rw[hP]at HL⊢;have aw:=Aa (Ab (HL.out.2.1.keep HX.out.1 HX.out.2.1) (HL.out.2.1.keep HX.out.2.2.1 HX.out.2.2.2.1));have HJ:=Aa HX.out.2.2.2.2;have HA:=HL;clear HX HR HL hP;have bo:=Aa (HA.out.1.see 2 aw.out.2 HJ.out.2.1 n);rw[bw.out]at bo;have cm:s1.ms[j]?=Z y:=by rw[<-bw.out];exact HJ.out.1
  have cp:s1.gs[i]?=Z x:=by rw[<-bw.out];exact HJ.out.2.1
  have ax:=Aa (Ab cm (Ab cp HJ.out.2.2));obtain⟨u0,b1⟩: ∃u0,y.used=u0:=⟨_,rfl⟩;obtain⟨u,hu⟩: ∃u,wrap64 (u0+1)=u:=⟨_,rfl⟩;have hQ:=HQ.out;rw[b1,hu]at hQ;obtain⟨S3,bk⟩: ∃S3,S3=(s1.CJ i {R with begun:=tY}).CQ j {y with g:=(i:Int)+1,used:=u}:=⟨_,rfl⟩;rw[<-bk]at hQ;have bp:S3.sc=s1.sc:=by rw[bk];rfl
  have cq:Hid (∀(m:Nat->Nat)(w1:rO),CE mb V m w1 s1->m xb=22+5*j->m b=20+5*i->Hu m w1 R.stack (.slice ae R.stack.length af)->CE mb V m ((NN w1 b R (.slice ae R.stack.length af)).setCell ⟨xb,5,N⟩ (I U u)) S3/\Ext m w1 m ((NN w1 b R (.slice ae R.stack.length af)).setCell ⟨xb,5,N⟩ (I U u))):=λm w1 hR hx hb hK=>by rw[bk];exact TG hR hK hx hb ax.out.1 ax.out.2.1 ax.out.2.2 HG.out
  have HU:=Aa b1;have b2:=Aa bp;clear HQ HJ cm cp b1 bk bp;have HQ:=Aa hQ;clear hQ;obtain⟨dn,b3⟩: ∃dn,R.done=dn:=⟨_,rfl⟩;have ay:=Aa b3;have D:=HS.out;rw[b3]at D;clear b3 HS;go_wp2_with fail;refine bo.out.mono ?_;rintro e w1⟨rfl,m,az,ag⟩;have aq:=ag.keep aw.out.1 (HA.out.1.CX aw.out.1 (by omega));have bm:=ag.keep aw.out.2 (HA.out.1.CX aw.out.2 (by omega));have b4:=Ey HA.out.2.2.1 HA.out.2.2.2.1 ag;have cr:=(ag.same P HA.out.2.2.1.lt).trans HA.out.2.2.2.1;obtain⟨⟨dc,t2,t3,t4,t5,t6,t7,t8,t9,t10,t11,t12,t13⟩,t17,tf⟩:=az.rf bm ax.out.2.1;obtain⟨q0,q1,q2,q3,q4,q5,q6,q7,q8,q9,b0,bj⟩:=oQ b4;rw[ay.out]at bj;have b7:=az.C3 aq ax.out.1;have k5:=pU b7;rw[HU.out]at k5;have df:=b7.free 5;have n1: ¬xb=b:=(by rintro rfl;omega);have n2: ¬b=xb:=(by rintro rfl;omega);have n3: ¬P=b:=(by rintro rfl;omega);have n4: ¬b=P:=(by rintro rfl;omega);have n5: ¬P=xb:=(by rintro rfl;omega);have n6: ¬xb=P:=(by rintro rfl;omega);have hF:=cq.out m w1 az aq bm (HA.out.2.2.2.2.ext ag);unfold NN at hF;rw[ay.out]at hF;have HF:=Aa hF;have a:=Aa (Ab az (Ab ag (Ab aq (Ab bm (Ab b4 cr)))));clear az ag aq bm b4 cr b7 hF;cases dn with
  |false=>
   have ct:s4=s':=by simpa using D
   have cu:=Aa ct;clear D ct;by_cases E:u=20
   ·have a1:(u==20)=true:=by simpa using E
    have T:=HQ.out;rw[Ai E]at T;have ak:=Aa (HF.out.1.asks a.out.2.2.1 T);clear T E;go_wp2_with(go_at_call 258;refine ak.out.mono ?_;rintro e w4⟨rfl,a6,l,X⟩;have f:=HF.out.2.trans X;have aa:=Ey a.out.2.2.2.2.1 a.out.2.2.2.2.2 f;have a7:w4.cell? ⟨P,11,N⟩=Z (ue R.done):=aa.cell 11;rw[ay.out]at a7;have F:=Aa (Ab l (HA.out.2.1.trans (a.out.2.1.trans f)));clear l X f aa)
    all_goals
     go_end0;exact⟨rfl,V,a6,by rw[<-cu.out];exact F.out.1,F.out.2,Fx.refl V⟩
   ·have a1:(u==20)=false:=by simpa using E
    have T:=HQ.out;rw[Ah E]at T;have cv:S3=s':=by rw[<-cu.out];exact Ba T
    have cx:=Aa cv;clear T cv E;go_wp2
    all_goals
     go_end0;exact⟨rfl,V,m,by rw[<-cx.out];exact HF.out.1,HA.out.2.1.trans (a.out.2.1.trans HF.out.2),Fx.refl V⟩
  |true=>
   replace D:=bind_some D;obtain⟨s5,d,D⟩:=D;cases ao:Gw s5 j with
   |none=>rw[ao]at D;cases D
   |some r=>
   rw[ao]at D;simp only[BJ,Ak]at D;have ab:=Aa (Ab ao D);have ad:=Aa d;clear D ao d;by_cases E:u=20
   ·have a1:(u==20)=true:=by simpa using E
    have T:=HQ.out;rw[Ai E]at T;have ak:=Aa (HF.out.1.asks a.out.2.2.1 T);clear T E;obtain⟨hv,a8⟩: ∃hv,Ej V.CR s4.sc.CF=hv:=⟨_,rfl⟩;have bn:=Aa a8;clear a8;have cy:=Jh (.tmp 60) (.tmp 61) hv b;by_cases q:s4.sc.CF=(i:Int)+1
    ·have d:=ad.out
     rw[Ai q]at d;have ba:=Aa d;have H:decide (s4.sc.CF=(i:Int)+1)=true:=by simpa using q
     have ah:=Aa H;clear d q ad H;go_wp2_with(first|(go_at_call 258;refine ak.out.mono ?_;rintro e w4⟨rfl,a6,l,X⟩;have f:=HF.out.2.trans X;have aa:=Ey a.out.2.2.2.2.1 a.out.2.2.2.2.2 f;have a7:w4.cell? ⟨P,11,N⟩=Z (ue R.done):=aa.cell 11;rw[ay.out]at a7;have S:=f.keep a.out.2.2.1 (a.out.1.CX a.out.2.2.1 (by omega));have bb:=f.keep a.out.2.2.2.1 (a.out.1.CX a.out.2.2.2.1 (by omega));have jc:=l.JX;have p:=l.QL bb l.hold.1 l.hold.2;rw[bn.out]at jc p;rw[ah.out]at p;have b8:=Aa (l.start S ba.out);have F:=Aa (Ab (Ab S (l.CX S (by omega))) (HA.out.2.1.trans (a.out.2.1.trans f)));clear l X f aa S bb)|(go_at_call 249;refine b8.out.mono ?_;rintro e w5⟨rfl,V5,o5,ai,aj,bc⟩;have bd:=aj.keep F.out.1.1 F.out.1.2;obtain⟨b5,t,hO⟩:=ai.QX bd ab.out.1;have HO:=Aa hO;have K:=Aa (Ab t (ai.CX t (by omega)));have bf:=Aa (Ab bc (F.out.2.trans aj));clear ai aj bc bd t hO)|(go_at_call 183;refine HO.out.mono ?_;rintro e w6⟨rfl,o6,v,A⟩;have B:=A.keep K.out.1 K.out.2;obtain⟨x6,C⟩: ∃x6,r.2.gs[r.1]?=Z x6:=⟨_,Ae (v.lg _ _ B)⟩;have HI:=Aa (v.is B C 6 (by decide) (by decide));have L:=Aa (Ab C A);clear v A B C)|(go_at_call 116;refine HI.out.mono ?_;rintro e w7⟨rfl,o7,M,O⟩;have Q:=Aa (Ab M O);clear M O))
     all_goals
      go_end0;exact⟨rfl,V5,o7,by rw[<-ab.out.2,GV L.out.1 6];exact Q.out.1,(bf.out.2.trans L.out.2).trans Q.out.2,bf.out.1⟩
    ·have d:=ad.out
     rw[Ah q]at d;obtain rfl:=Ba d;have H:decide (s4.sc.CF=(i:Int)+1)=false:=by simpa using q
     have ah:=Aa H;clear d q ad H;go_wp2_with(first|(go_at_call 258;refine ak.out.mono ?_;rintro e w4⟨rfl,a6,l,X⟩;have f:=HF.out.2.trans X;have aa:=Ey a.out.2.2.2.2.1 a.out.2.2.2.2.2 f;have a7:w4.cell? ⟨P,11,N⟩=Z (ue R.done):=aa.cell 11;rw[ay.out]at a7;have S:=f.keep a.out.2.2.1 (a.out.1.CX a.out.2.2.1 (by omega));have bb:=f.keep a.out.2.2.2.1 (a.out.1.CX a.out.2.2.2.1 (by omega));have jc:=l.JX;have p:=l.QL bb l.hold.1 l.hold.2;rw[bn.out]at jc p;rw[ah.out]at p;obtain⟨b5,t,hO⟩:=l.QX S ab.out.1;have HO:=Aa hO;have K:=Aa (Ab t (l.CX t (by omega)));clear t hO;have F:=Aa (Ab (Ab S (l.CX S (by omega))) (HA.out.2.1.trans (a.out.2.1.trans f)));clear l X f aa S bb)|(go_at_call 183;refine HO.out.mono ?_;rintro e w6⟨rfl,o6,v,A⟩;have B:=A.keep K.out.1 K.out.2;obtain⟨x6,C⟩: ∃x6,r.2.gs[r.1]?=Z x6:=⟨_,Ae (v.lg _ _ B)⟩;have HI:=Aa (v.is B C 6 (by decide) (by decide));have L:=Aa (Ab C A);clear v A B C)|(go_at_call 116;refine HI.out.mono ?_;rintro e w7⟨rfl,o7,M,O⟩;have Q:=Aa (Ab M O);clear M O))
     all_goals
      go_end0;exact⟨rfl,V,o7,by rw[<-ab.out.2,GV L.out.1 6];exact Q.out.1,(F.out.2.trans L.out.2).trans Q.out.2,Fx.refl V⟩
   ·have a1:(u==20)=false:=by simpa using E
    have T:=HQ.out;rw[Ah E]at T;obtain rfl:=Ba T;clear T E;obtain⟨hv,a8⟩: ∃hv,Ej V.CR s1.sc.CF=hv:=⟨_,rfl⟩;have bn:=Aa a8;clear a8;have cy:=Jh (.tmp 60) (.tmp 61) hv b;have n7: ¬mb=b:=(a.out.1.gy a.out.2.2.2.1).2;have n8: ¬b=mb:=(a.out.1.gy a.out.2.2.2.1).1;have cz:=a.out.1.om;have aq:=a.out.2.2.1;have n9: ¬mb=xb:=(by rintro rfl;omega);have dh: ¬xb=mb:=(by rintro rfl;omega);clear cz aq;have jc:=a.out.1.JX;have p:=HF.out.1.QL a.out.2.2.2.1 HF.out.1.hold.1 HF.out.1.hold.2;rw[b2.out]at p;rw[bn.out]at jc p;have F:=Aa (Ab (Ab a.out.2.2.1 (HF.out.1.CX a.out.2.2.1 (by omega))) (HA.out.2.1.trans (a.out.2.1.trans HF.out.2)));by_cases q:S3.sc.CF=(i:Int)+1
    ·have d:=ad.out
     rw[Ai q]at d;have ba:=Aa d;rw[b2.out]at q;have H:decide (s1.sc.CF=(i:Int)+1)=true:=by simpa using q
     have ah:=Aa H;clear d q ad H;rw[ah.out]at p;have b8:=Aa (HF.out.1.start a.out.2.2.1 ba.out);go_wp2_with(first|(go_at_call 249;refine b8.out.mono ?_;rintro e w5⟨rfl,V5,o5,ai,aj,bc⟩;have bd:=aj.keep F.out.1.1 F.out.1.2;obtain⟨b5,t,hO⟩:=ai.QX bd ab.out.1;have HO:=Aa hO;have K:=Aa (Ab t (ai.CX t (by omega)));have bf:=Aa (Ab bc (F.out.2.trans aj));clear ai aj bc bd t hO)|(go_at_call 183;refine HO.out.mono ?_;rintro e w6⟨rfl,o6,v,A⟩;have B:=A.keep K.out.1 K.out.2;obtain⟨x6,C⟩: ∃x6,r.2.gs[r.1]?=Z x6:=⟨_,Ae (v.lg _ _ B)⟩;have HI:=Aa (v.is B C 6 (by decide) (by decide));have L:=Aa (Ab C A);clear v A B C)|(go_at_call 116;refine HI.out.mono ?_;rintro e w7⟨rfl,o7,M,O⟩;have Q:=Aa (Ab M O);clear M O))
     all_goals
      go_end0;exact⟨rfl,V5,o7,by rw[<-ab.out.2,GV L.out.1 6];exact Q.out.1,(bf.out.2.trans L.out.2).trans Q.out.2,bf.out.1⟩
    ·have d:=ad.out
     rw[Ah q]at d;obtain rfl:=Ba d;rw[b2.out]at q;have H:decide (s1.sc.CF=(i:Int)+1)=false:=by simpa using q
     have ah:=Aa H;clear d q ad H;rw[ah.out]at p;obtain⟨b5,t,hO⟩:=HF.out.1.QX a.out.2.2.1 ab.out.1;have HO:=Aa hO;have K:=Aa (Ab t (HF.out.1.CX t (by omega)));clear t hO;go_wp2_with(first|(go_at_call 183;refine HO.out.mono ?_;rintro e w6⟨rfl,o6,v,A⟩;have B:=A.keep K.out.1 K.out.2;obtain⟨x6,C⟩: ∃x6,r.2.gs[r.1]?=Z x6:=⟨_,Ae (v.lg _ _ B)⟩;have HI:=Aa (v.is B C 6 (by decide) (by decide));have L:=Aa (Ab C A);clear v A B C)|(go_at_call 116;refine HI.out.mono ?_;rintro e w7⟨rfl,o7,M,O⟩;have Q:=Aa (Ab M O);clear M O))
     all_goals
      go_end0;exact⟨rfl,V,o7,by rw[<-ab.out.2,GV L.out.1 6];exact Q.out.1,(F.out.2.trans L.out.2).trans Q.out.2,Fx.refl V⟩
end
end
section
open Vm (CP)
theorem CE.Xs(h:CE mb V own w s){b i:Nat}{u:Int}(c:own b=20+5*i)(hu:u=(i:Int)+1):CE mb V own (w.setCell ⟨mb,20,N⟩ (ptr b)) (s.CS {s.sc with CF:=u})/\Ext own w own (w.setCell ⟨mb,20,N⟩ (ptr b)):=by
 have a:=h.lg b i c;have e:Ej V.CR u=ptr b:=by rw[hu];exact h.KE c (Ae a)
 have d:(0:Int)<=u:=by omega
 have f:u<=(s.gs.length:Int):=by omega
 have k:=h.LI (oset (DA mb w) 20 (Ej V.CR u)) {s.sc with CF:=u} ⟨d,f⟩ (QD h.D5 _);rw[e]at k;exact k
theorem I1{s':St}{j:Nat}{y:M1}{a:Int}(b:Dc s j a=Z s')(c:s.ms[j]?=Z y):1<=y.g:=by unfold Dc at b;rw[c]at b;dsimp only at b;exact(CT b).1
theorem CE.stop(h:CE mb V own w s){xb j:Nat}{s':St}(f:own xb=22+5*j)(a:LF s j=Z s'):tT prog 119 #[ptr mb,ptr xb] w (Ge mb V own w unit s'):=by
 unfold LF at a;cases c:s.ms[j]? with
 |none=>rw[c]at a;cases a
 |some y=>
 rw[c]at a;dsimp only at a;have Wq:=h.Wq;by_cases hw:0<s.sc.wait
 ·rw[Ai hw]at a
  have K:=Aa (h.again f c a);generalize s.sc.wait=u at*
  go_enter func119,ntmps119;go_wp2_with(go_at_call 186;refine K.out.mono ?_;rintro e L⟨rfl,m,n,o⟩;have l:=Aa n;have p:=Aa o);go_end0;exact⟨rfl,V,m,l.out,p.out,Fx.refl V⟩
 ·rw[Ah hw]at a
  have q:((s.CQ j {y with phase:=2}).CS {s.sc with CF:=y.g}).ms[j]?=Z {y with phase:=2}:=Jl (CC c);have g:1<=y.g:=I1 (y:={y with phase:=2}) a q;have k:=(h.xg c).2;obtain⟨i,d⟩: ∃i:Nat,y.g=(i:Int)+1:=⟨(y.g-1).toNat,by omega⟩;have r:=d;rw[d]at g k;have M:((i:Int)+1-1).toNat=i:=by omega
  obtain⟨t,v⟩:=h.gp g k;rw[M]at t v;obtain⟨b,x⟩: ∃b,V.CR i=b:=⟨_,rfl⟩;rw[x]at t v;have T:w.cell? ⟨xb,2,N⟩=Z (ptr b):=by rw[<-t,<-d];exact R8 (h.C3 f c)
  have O:=Wr (h.C3 f c);have f3:=(h.C3 f c).free 3;have JX:=h.JX;have f20:=h.Fa 20;obtain⟨z,A⟩:=h.Hk f c 2;obtain⟨B,C⟩:=z.Xs v r;have P:=Aa (B.GG f a);have p:=Aa (A.trans C);obtain⟨G,D⟩: ∃G,Ej V.CR s.sc.CF=G:=⟨_,rfl⟩;rw[D]at JX;obtain⟨H,E⟩: ∃H,y.phase=H:=⟨_,rfl⟩;rw[E]at O;have Q:s.sc.wait<=0:=by omega
  generalize s.sc.wait=u at*
  go_enter func119,ntmps119;go_wp2_with(go_at_call 187;refine P.out.mono ?_;rintro e L⟨rfl,R,m,n,o,S⟩;have l:=Aa (Ab n S);have F:=Aa (p.out.trans o));go_end0;exact⟨rfl,R,m,l.out.1,F.out,l.out.2⟩
end
section
open Vm (CP)
section
variable {b i t:Nat}
@[reducible] def J7(V:Vr)(t:Option Nat):Value:=match t with
 |none=>J N
 |some k=>ptr (V.CR k)
def NO(s:St)(id:Int):Option Nat:=if 1<=id/\id<=s.gs.length then Z (id-1).toNat else N
theorem CE.get(h:CE mb V own w s)(id:Int):tT prog 338 #[ptr mb,I U id] w λe c=>e=ui (J7 V (NO s id))/\w=c:=by
 obtain⟨ga,b,d⟩:=h.pV;have c5:=h.c5;by_cases j:id<1
 ·have e:NO s id=none:=by unfold NO;rw[Ah (by omega)]
  rw[e];go_enter func338,ntmps338;go_wp2;go_ret;exact⟨rfl,rfl⟩
 ·by_cases l:id<=s.gs.length
  ·obtain⟨k,rfl⟩: ∃k:Nat,id=(k:Int)+1:=⟨(id-1).toNat,by omega⟩
   have e:NO s ((k:Int)+1)=Z k:=by unfold NO;rw[Ai (by omega)];congr 1;omega
   rw[e];obtain⟨g,cap,a,gc,f,-⟩:=h.grow (k:=k) (by omega);rw[a]at c5;have m:(k:Int)+1-1=k:=by omega
   have o:(k:Int)<(s.gs.length:Int):=by omega
   have i: ¬(s.gs.length:Int)<(k:Int)+1:=by omega
   have p:wrap64 (k:Int)=k:=by have:=h.Hb.1;unfold wrap64;omega
   have q: ¬(k:Int)+1<1:=by omega
   generalize s.gs.length=n at*
   go_enter func338,ntmps338;go_wp2;go_ret;exact⟨rfl,rfl⟩
  ·have e:NO s id=none:=by unfold NO;rw[Ah (by omega)]
   rw[e];rw[d]at c5;have i:(s.gs.length:Int)<id:=by omega
   generalize s.gs.length=n at*
   go_enter func338,ntmps338;go_wp2;go_ret;exact⟨rfl,rfl⟩
theorem lM(s:St)(x:G)(a:Int):tgt s x a=NO s (rg x a.toNat):=rfl
theorem CE.target(h:CE mb V own w s){x:G}(op c d n:Int)(k:Nat)(a:own b=20+5*i)(f:s.gs[i]?=Z x)(p:k<8):tT prog 302 #[ptr mb,ptr b,.agg #[I U op,I U k,I U c,I U d,I U n]] w λe g=>e=ui (J7 V (tgt s x k))/\tS w.heap.size w g:=by
 have j:=Aa (λW(l:tS w.heap.size w W) id=>(h.below l).get id);obtain⟨t,hw,u,m,o⟩:=h.Hr a f;have v:w.cell? ⟨b,4+k,N⟩=Z (I U (rg x k)):=by
  rw[m.cell];have:k=0\/k=1\/k=2\/k=3\/k=4\/k=5\/k=6\/k=7:=by omega
  rcases this with rfl|rfl|rfl|rfl|rfl|rfl|rfl|rfl<;>rfl
 have q:(k:Int)<8:=by omega
 rw[lM,Am];generalize rg x k=r at*
 go_enter func302,ntmps302;go_wp2;go_region_held3(λW=>W.cell? ⟨b,4+k,N⟩=Z (I U r)/\W.cell? ⟨w.heap.size,1,N⟩=Z (I U k)) (go_keep) ((go_at_call 338;refine(j.out _ (by repeat(first|exact tU _ _|apply DK|apply Gh)) _).mono ?_;rintro e y⟨rfl,rfl⟩))
 all_goals(go_wp2;go_ret;exact⟨rfl,(Cu (tU _ _) _).drew⟩)
theorem UZ{id:Int}(h:NO s id=Z t):t<s.gs.length:=by
 unfold NO at h;split at h
 ·cases h;omega
 ·cases h
theorem CE.rh(h:CE mb V own w s)(b:t<s.gs.length): ∃z,s.gs[t]?=Z z/\own (V.CR t)=20+5*t/\w.cell? ⟨V.CR t,1,N⟩=Z (I U (G7 s t))/\D9.Dt (G7 s t):=by
 have a:s.gs[t]?=Z s.gs[t]:=Ae b;have c:=h.og t b;obtain⟨-,hw,f,d,-⟩:=h.Hr c a;have e:G7 s t=s.gs[t].word:=by simp[G7,a]
 exact⟨_,a,c,by rw[e];exact nN d,by rw[e];exact hw⟩
theorem CE.rj(h:CE mb V own w s)(c:own b=20+5*i)(a:t<s.gs.length):(binOp .eql 119 (ptr (V.CR t)) (ptr b)).run prog w= .ok (ue (decide (t=i))) w:=by have:=h.QL c (u:=(t:Int)+1) (by omega) (by omega);rw[h.KE (h.og t a) (Ae a)]at this;rw[this];congr 3;simp;omega
theorem CE.next(h:CE mb V own w s){x:G}(op c d n:Int)(k:Nat)(u:own b=20+5*i)(A:s.gs[i]?=Z x)(B:k<8):tT prog 255 #[ptr mb,ptr b,.agg #[I U op,I U k,I U c,I U d,I U n]] w λe C=>e=ui (I U (D7 s i (tgt s x k)))/\tS w.heap.size w C:=by
 have g:=Aa (λW(l:tS w.heap.size w W)=>(h.below l).target op c d n k u A B);have o:=Aa (Ab h u);have D: ∀p,(binOp .eql 119 (ptr p) (J N)).run prog=λw=>.ok (ue tY) w:=λp=>by funext w;rfl
 cases q:tgt s x k with
 |none=>rw[q]at g;go_enter func255,ntmps255;go_wp2_with(go_at_call 302;refine(g.out _ (by repeat(first|exact tU _ _|apply DK|apply Gh))).mono ?_;rintro e v⟨rfl,a⟩;have j:=Aa (Cv (Cu (tU _ _) _) a));go_ret;exact⟨rfl,j.out⟩
 |some t=>
  rw[q]at g;simp only[D7];have r:t<s.gs.length:=UZ q;have y:=Aa r;go_enter func255,ntmps255;go_wp2_with(go_at_call 302;refine(g.out _ (by repeat(first|exact tU _ _|apply DK|apply Gh))).mono ?_;rintro e v⟨rfl,a⟩;have j:Hid (tS w.heap.size w v):=Aa (Cv (Cu (tU _ _) _) a));have f:=o.out.1.below j.out;have E:=λm=>(f.drewN m).rj o.out.2 y.out;have F:=λm=>(f.drewN m).QL o.out.2 f.hold.1 f.hold.2;obtain⟨z,L,M,O,l⟩:=f.rh y.out;have JX:=f.JX;have H:=Aa (λW=>Wl (G7 s t) (decide (t=i)) (decide (s.sc.CF=(i:Int)+1)) W l);have K:=Jh (.tmp 24) (.tmp 25) (Ej V.CR s.sc.CF) b;go_quiet((go_at_call 310;exact BO (Ex (H.out _))))
  go_wp2;go_ret;exact⟨rfl,Cv j.out (DF _)⟩
def aV(mb:Nat)(V:Vr)(own:Nat->Nat)(w:rO)(n:Nat)(g:Int)(s':St)(t:tR)(wr:rO):Prop:= ∃(k:Nat)(a:Nat->Nat)(s1:St),k<=n/\t=I U k/\CE mb V a wr s1/\Ext own w a wr/\Eu g (n-k) k s1=Z s'/\s1.ms.length=n
theorem aV.next{n:Nat}{g:Int}{s':St}{t:tR}{wr:rO}{k m:Nat}{a:Nat->Nat}{s1:St}(h:k<n)(hm:n-(k+1)=m)(b:t=I U (k+1:Nat))(c:CE mb V a wr s1)(d:Ext own w a wr)(e:Eu g m (k+1) s1=Z s')(f:s1.ms.length=n):aV mb V own w n g s' t wr:=⟨k+1,a,s1,by omega,b,c,d,by rw[hm];exact e,f⟩
theorem CE.gS(h:CE mb V own w s){s':St}(K:own b=20+5*i)(a:Hh s i=Z s'):tT prog 303 #[ptr mb,ptr b] w (Dd mb V own w unit s'):=by
 unfold Hh at a;obtain⟨ma,L,M⟩:=h.mS;have c6:=h.c6;have x:=h.Hb.2.1;have z:=h.CX K (by omega);have r:=Aa (Ab h (Ab a (Ab K z)));have T:=Aa M;rw[M]at c6;obtain⟨n,O⟩: ∃n,s.ms.length=n:=⟨_,rfl⟩;have P:=Aa O;rw[O]at c6 x;go_enter func303,ntmps303;go_wp2;go_loopw [11] (λt wr=>aV mb V own w n ((i:Int)+1) s' t wr) (λt _=>n-(intOf t).toNat)
 case atStart=>exact⟨0,own,s,Ap _,rfl,r.out.1,Ext.refl _ _,by rw[Nat.sub_zero,<-P.out];exact r.out.2.1,P.out⟩
 case round=>
  obtain⟨k,j,s1,hk,rfl,c,u,a,Q⟩:=hrel;by_cases l:k<n
  ·obtain⟨m,hm⟩: ∃m,n-k=m+1:=⟨n-k-1,by omega⟩
   have o:n-(k+1)=m:=by omega
   rw[hm]at a;unfold Eu at a;have A:=u.keep r.out.2.2.1 r.out.2.2.2;have hy:s1.ms[k]?=Z (s1.ms[k]'(by omega)):=Ae _;generalize s1.ms[k]'(by omega)=y at hy;rw[hy]at a;dsimp only at a;obtain⟨g,cap,d,gc,W,-⟩:=c.NJ (k:=k) (by omega);rw[T.out]at d;simp only[As]at d;obtain⟨rfl,-,rfl⟩:=d;have p:=c.ox k (by omega);have x2:=R8 (c.C3 p hy);have R:=c.QL A (c.xg hy).1 (c.xg hy).2;have X:=Jh (.tmp 18) (.tmp 19) (Ej V.CR y.g) b;have aa:(k:Int)<(n:Int):=by omega
   by_cases v:y.g=(i:Int)+1
   ·rw[Ai v]at a
    rw[show decide (y.g=(i:Int)+1)=tZ by simpa using v]at R;obtain⟨s2,q,a⟩:=bind_some a;have HA:=Aa (c.asks p q);have B:=Aa (show s2.ms.length=n by rw[Pk q];exact Q);have C:=Aa u;have D:=Aa a;have E:=Aa o;generalize Ej V.CR y.g=gv at*
    go_wp2_with(go_at_call 258;refine HA.out.mono ?_;rintro e w1⟨rfl,S,F,G⟩;have f:=Aa F;have H:=Aa (C.out.trans G));go_roundw
    case rel=>exact aV.next l E.out (by go_num) f.out H.out D.out B.out
    case measure=>simp[intOf];omega
   ·rw[Ah v]at a
    rw[show decide (y.g=(i:Int)+1)=tY by simpa using v]at R;have B:=Aa Q;have f:=Aa c;have C:=Aa u;have D:=Aa a;have E:=Aa o;generalize Ej V.CR y.g=gv at*
    go_wp2;go_roundw
    case rel=>exact aV.next l E.out (by go_num) f.out C.out D.out B.out
    case measure=>simp[intOf];omega
  ·obtain rfl:k=n:=by omega
   rw[Bj]at a;unfold Eu at a;simp only[Ak]at a;subst a;have HR:=Aa (show Dd mb V own w unit s1 (ui unit) wr from⟨rfl,j,c,u⟩);go_wp2;go_end0;exact HR.out
theorem CE.Eo(h:CE mb V own w s){xb j:Nat}{s':St}(d:own xb=22+5*j)(a:QA s j=Z s'):tT prog 120 #[ptr mb,ptr xb] w (Ge mb V own w unit s'):=by
 unfold QA at a;cases c:s.ms[j]? with
 |none=>rw[c]at a;cases a
 |some y=>
 rw[c]at a;dsimp only at a;have Wq:=h.Wq;by_cases hw:0<s.sc.wait
 ·rw[Ai hw]at a
  have M:=Aa (h.again d c a);generalize s.sc.wait=u at*
  go_enter func120,ntmps120;go_wp2_with(go_at_call 186;refine M.out.mono ?_;rintro e O⟨rfl,H,n,p⟩;have P:=Aa n;have q:=Aa p);go_end0;exact⟨rfl,V,H,P.out,q.out,Fx.refl V⟩
 ·rw[Ah hw]at a
  obtain⟨f,a⟩:=CT a;obtain⟨s1,r,a⟩:=bind_some a;have g:=(h.xg c).2;obtain⟨i,k⟩: ∃i:Nat,y.g=(i:Int)+1:=⟨(y.g-1).toNat,by omega⟩;rw[k]at f g a;have K:((i:Int)+1-1).toNat=i:=by omega
  rw[K]at a;obtain⟨t,o⟩:=h.gp f g;rw[K]at t o;obtain⟨b,v⟩: ∃b,V.CR i=b:=⟨_,rfl⟩;rw[v]at t o;have x2:w.cell? ⟨xb,2,N⟩=Z (ptr b):=by rw[<-t,<-k];exact R8 (h.C3 d c)
  have x3:=Wr (h.C3 d c);have f3:=(h.C3 d c).free 3;obtain⟨x,z⟩:=h.Hk d c 2;have Q:=Aa (x.GG d r);have q:=Aa z;have L:=Aa (Ab o (h.CX o (by omega)));have R:=Aa a;have S:s.sc.wait<=0:=by omega
  generalize y.phase=ph at*
  generalize s.sc.wait=u at*
  go_enter func120,ntmps120;go_wp2_with(first|(go_at_call 187;refine Q.out.mono ?_;rintro e O⟨rfl,V1,H,n,p,T⟩;have l:=Aa (q.out.trans p);have m:=l.out.keep L.out.1 L.out.2;have A:=Aa (n.release m (Ae (n.lg _ _ m)) R.out);have W:=Aa T)|(go_at_call 188;refine A.out.mono ?_;rintro e w2⟨rfl,X,o2,B,C,D⟩;have E:=Aa B;have F:=Aa (l.out.trans C);have G:=Aa (W.out.trans D)));go_end0;exact⟨rfl,X,o2,E.out,F.out,G.out⟩
end
end
section
open Vm (CP)
section
variable {b i xb j:Nat}{x:G}
theorem CE.gF(h:CE mb V own w s)(c:own b=20+5*i)(d:s.gs[i]?=Z x):w.cell? ⟨b,0,N⟩=Z (I U ((i:Int)+1))/\w.cell? ⟨b,1,N⟩=Z (I U x.word)/\w.cell? ⟨b,14,N⟩=Z (ue x.blocked)/\w.cell? ⟨b,15,N⟩=Z (ue x.token)/\w.cell? ⟨b,16,N⟩=Z (ue x.CA)/\w.cell? ⟨b,17,N⟩=Z (ue x.begun)/\w.cell? ⟨b,18,N⟩=Z (I U x.Db)/\ ∀k,w.frozen? ⟨b,k,N⟩=false:=by obtain⟨-,-,e,a,-⟩:=h.Hr c d;exact⟨a.cell 0,a.cell 1,a.cell 14,a.cell 15,a.cell 16,a.cell 17,a.cell 18,a.free⟩
theorem CE.U0(h:CE mb V own w s)(f:own b=20+5*i)(d:s.gs[i]?=Z x)(k:Nat)(v:tR)(x':G)(l: ∀a,(Dy i a x).setIfInBounds k v=Dy i a x') (g:x'.CO=x.CO/\x'.stack=x.stack) (hw:D9.Dt x'.word):CE mb V own (w.setCell ⟨b,k,N⟩ v) (s.CJ i x')/\Ext own w own (w.setCell ⟨b,k,N⟩ v):=by obtain⟨m,-,a,n,e⟩:=h.Hr f d;have c:=h.fH f d;have j:=oset (DA b w) k v;exact⟨h.Wi (CC d) (by rw[<-c];exact j) x' (by rw[<-c];exact⟨by rw[g.1];exact m,hw,a,by rw[<-l a];exact n.set k v,by rw[g.2];exact e⟩),DB j (by omega)⟩
theorem CE.Nl(h:CE mb V own w s)(a:own b=20+5*i)(c:s.gs[i]?=Z x)(u:Bool):CE mb V own (w.setCell ⟨b,14,N⟩ (ue u)) (s.CJ i {x with blocked:=u})/\Ext own w own (w.setCell ⟨b,14,N⟩ (ue u)):=h.U0 a c 14 _ _ (λ_=>rfl) ⟨rfl,rfl⟩ (h.Hr a c).wd
theorem CE.Rj(h:CE mb V own w s)(a:own b=20+5*i)(c:s.gs[i]?=Z x)(u:Bool):CE mb V own (w.setCell ⟨b,15,N⟩ (ue u)) (s.CJ i {x with token:=u})/\Ext own w own (w.setCell ⟨b,15,N⟩ (ue u)):=h.U0 a c 15 _ _ (λ_=>rfl) ⟨rfl,rfl⟩ (h.Hr a c).wd
theorem CE.Rk(h:CE mb V own w s)(a:own b=20+5*i)(c:s.gs[i]?=Z x)(u:Int):CE mb V own (w.setCell ⟨b,18,N⟩ (I U u)) (s.CJ i {x with Db:=u})/\Ext own w own (w.setCell ⟨b,18,N⟩ (I U u)):=h.U0 a c 18 _ _ (λ_=>rfl) ⟨rfl,rfl⟩ (h.Hr a c).wd
theorem CE.U1(h:CE mb V own w s)(a:own b=20+5*i)(c:s.gs[i]?=Z x)(u:Int)(hw:D9.Dt u):CE mb V own (w.setCell ⟨b,1,N⟩ (I U u)) (s.CJ i {x with word:=u})/\Ext own w own (w.setCell ⟨b,1,N⟩ (I U u)):=h.U0 a c 1 _ _ (λ_=>rfl) ⟨rfl,rfl⟩ hw
theorem CE.aW(h:CE mb V own w s){q:Nat×St}(f:own xb=22+5*j)(g:own b=20+5*i)(k:s.gs[i]?=Z x)(l:Gw (s.CJ i {x with blocked:=tZ}) j=Z q):
  ∃a,Hid (tT prog 183 #[ptr xb] (w.setCell ⟨b,14,N⟩ (ue tZ)) (Dd mb V own (w.setCell ⟨b,14,N⟩ (ue tZ)) (ptr a) q.2))/\Hid (own a=20+5*q.1/\a<(w.setCell ⟨b,14,N⟩ (ue tZ)).heap.size)/\Hid (Ext own w own (w.setCell ⟨b,14,N⟩ (ue tZ))):=by
 obtain⟨c,e⟩:=h.Nl g k tZ;obtain⟨a,d,m⟩:=c.QX f l;exact⟨a,m,⟨d,c.CX d (by omega)⟩,e⟩
theorem CE.block(h:CE mb V own w s){alone:Bool}{s':St}(E:own xb=22+5*j)(a:JW s j alone=Z s'):tT prog 250 #[ptr mb,ptr xb,ue alone] w (Ge mb V own w unit s'):=by
 unfold JW at a;cases F:s.ms[j]? with
 |none=>rw[F]at a;cases a
 |some y=>
 rw[F]at a;dsimp only at a;obtain⟨m,a⟩:=CT a;obtain⟨s1,O,a⟩:=bind_some a;have n:=(h.xg F).2;obtain⟨i,o⟩: ∃i:Nat,y.g=(i:Int)+1:=⟨(y.g-1).toNat,by omega⟩;rw[o]at m n a;have e2:((i:Int)+1-1).toNat=i:=by omega
 rw[e2]at a;obtain⟨P,G⟩:=h.gp m n;rw[e2]at P G;obtain⟨b,Q⟩: ∃b,V.CR i=b:=⟨_,rfl⟩;rw[Q]at P G;have x2:w.cell? ⟨xb,2,N⟩=Z (ptr b):=by rw[<-P,<-o];exact R8 (h.C3 E F)
 have R:=Aa (h.GG E O);have H:=Aa (Ab G (h.CX G (by omega)));have HX:=Aa (Ab E (h.CX E (by omega)));have K:=Aa a;cases alone with
 |true=>have a:=K.out;rw[Ai rfl]at a;cases a;go_enter func250,ntmps250;go_wp2_with(go_at_call 187;refine R.out.mono ?_;rintro e w1⟨rfl,p,L,g,f,r⟩;have S:=Aa (Ab g (Ab f r)));go_end0;exact⟨rfl,p,L,S.out.1,S.out.2.1,S.out.2.2⟩
 |false=>
  have a:=K.out;rw[Ah (by decide)]at a;cases k:s1.gs[i]? with
  |none=>rw[k]at a;cases a
  |some x=>
  rw[k]at a;dsimp only at a;have M:=Aa k;cases d:x.token with
  |true=>rw[Ai d]at a;simp only[Ak]at a;have K:=Aa a;have T:=Aa d;go_enter func250,ntmps250;go_wp2_with(go_at_call 187;refine R.out.mono ?_;rintro e w1⟨rfl,p,L,g,f,r⟩;have c:=f.keep H.out.1 H.out.2;obtain⟨-,-,-,l,-,-,-,zf⟩:=g.gF c M.out;rw[T.out]at l;have t:=Aa (g.Rj c M.out tY);have u:=Aa (Ab f r));go_end0;exact⟨rfl,p,L,by rw[<-K.out];exact t.out.1,u.out.1.trans t.out.2,u.out.2⟩
  |false=>rw[Ah (by rw[d];decide)]at a;obtain⟨q,hq,rfl⟩:=AD.1 a;have HQ:=Aa hq;have T:=Aa d;go_enter func250,ntmps250;go_wp2_with(first|(go_at_call 187;refine R.out.mono ?_;rintro e w1⟨rfl,p,L,g,f,r⟩;have c:=f.keep H.out.1 H.out.2;obtain⟨-,-,ag,l,-,-,-,zf⟩:=g.gF c M.out;rw[T.out]at l;obtain⟨b2,HO,v,W⟩:=g.aW (f.keep HX.out.1 HX.out.2) c M.out HQ.out;have u:=Aa (Ab (f.trans W.out) r))|(go_at_call 183;refine HO.out.mono ?_;rintro e w2⟨rfl,o2,z,A⟩;have B:=A.keep v.out.1 v.out.2;obtain⟨x3,C⟩: ∃x3,q.2.gs[q.1]?=Z x3:=⟨_,Ae (z.lg _ _ B)⟩;have X:=Aa C;have aa:=Aa (z.is B C 4 (by decide) (by decide));have ab:=Aa (u.out.1.trans A))|(go_at_call 116;refine aa.out.mono ?_;rintro e w3⟨rfl,o3,D,ad⟩;rw[<-GV X.out]at D;have ae:=Aa D;have af:=Aa (ab.out.trans ad)));go_end0;exact⟨rfl,p,o3,ae.out,af.out,u.out.2⟩
end
end
open Vm (CP)
section
variable {xb j:Nat}{t:Option Nat}
theorem CE.ready(h:CE mb V own w s){y:M1}{n:Int}{s':St}(D:own xb=22+5*j)(E:s.ms[j]?=Z y)(a:K4 s y.p t=Z (n,s')):tT prog 306 #[ptr mb,ptr xb,J7 V t] w (Ge mb V own w (I U n) s'):=by
 unfold K4 at a;cases t with
 |none=>cases a;have i:=Aa h;go_enter func306,ntmps306;go_wp2;go_ret;exact⟨rfl,V,own,i.out,Ext.refl _ _,Fx.refl V⟩
 |some k=>
  dsimp only at a;cases f:s.gs[k]? with
  |none=>rw[f]at a;cases a
  |some x=>
  rw[f]at a;dsimp only at a;have l:=h.og k (CC f);obtain⟨z0,F,m,G,-,-,-,S⟩:=h.gF l f;generalize q:V.CR k=b at*
  have H:J7 V (Z k)=ptr b:=by rw[<-q]
  rw[H];by_cases o:x.word=6
  ·rw[Ai o]at a
   cases a;rw[o]at F;have i:=Aa h;go_enter func306,ntmps306;go_wp2;go_ret;exact⟨rfl,V,own,i.out,Ext.refl _ _,Fx.refl V⟩
  ·rw[Ah o]at a
   have K:(x.word==6)=false:=by simpa using o
   cases c:x.blocked with
   |false=>
    rw[Ai c]at a;simp only[Ak,AV]at a;obtain⟨rfl,a⟩:=a;rw[c]at m;have i:=Aa (h.Rj l f tZ);have r:=Aa a;generalize x.word=wd at*
    go_enter func306,ntmps306;go_wp2;go_ret;exact⟨rfl,V,own,by rw[<-r.out];exact i.out.1,i.out.2,Fx.refl V⟩
   |true=>
    rw[Ah (by rw[c];decide)]at a;rw[c]at m;obtain⟨u,L⟩:=h.Nl l f tY;have v:(s.CJ k {x with blocked:=tY}).gs[k]?=Z {x with blocked:=tY}:=Fc (CC f);have d:=Aa (u.Ky l v);have z:=Aa (Ab u L);by_cases p:8<=x.word
    ·rw[Ai p]at a
     simp only[Ak,AV]at a;obtain⟨rfl,a⟩:=a;rw[show decide (8<=x.word)=tZ by simpa using p]at d;have r:=Aa a;generalize x.word=wd at*
     go_enter func306,ntmps306;go_wp2_with(go_at_call 193;refine d.out.mono ?_;rintro e M⟨rfl,rfl⟩);go_ret;exact⟨rfl,V,own,by rw[<-r.out];exact z.out.1,z.out.2,Fx.refl V⟩
    ·rw[Ah p]at a
     obtain⟨s2,O,a⟩:=AD.1 a;simp only[AV]at a;obtain⟨rfl,rfl⟩:=a;rw[show decide (8<=x.word)=tY by simpa using p]at d;have P:=Aa (u.Pj (y:=y) D E l O);generalize x.word=wd at*
     go_enter func306,ntmps306;go_wp2_with(first|(go_at_call 193;refine d.out.mono ?_;rintro e M⟨rfl,rfl⟩)|(go_at_call 192;refine P.out.mono ?_;rintro e T⟨rfl,Q,R,A,B,C⟩;have g:=Aa (Ab A (Ab (z.out.2.trans B) C))));go_ret;exact⟨rfl,Q,R,g.out.1,g.out.2.1,g.out.2.2⟩
theorem CE.resume(h:CE mb V own w s){y:M1}{n:Int}{s':St}(M:own xb=22+5*j)(O:s.ms[j]?=Z y)(c:Jg s y.p t=Z (n,s')):tT prog 307 #[ptr mb,ptr xb,J7 V t] w (Ge mb V own w (I U n) s'):=by
 unfold Jg at c;cases t with
 |none=>cases c;have v:=Aa h;go_enter func307,ntmps307;go_wp2;go_ret;exact⟨rfl,V,own,v.out,Ext.refl _ _,Fx.refl V⟩
 |some k=>
  dsimp only at c;cases i:s.gs[k]? with
  |none=>rw[i]at c;cases c
  |some x=>
  rw[i]at c;dsimp only at c;have r:=h.og k (CC i);obtain⟨-,z1,z,-,A,-,-,zf⟩:=h.gF r i;have l:=(h.Hr r i).wd;generalize B:V.CR k=b at*
  have P:J7 V (Z k)=ptr b:=by rw[<-B]
  rw[P];have hand:=l.facts.1;obtain⟨bl,o⟩: ∃bl,x.blocked=bl:=⟨_,rfl⟩;obtain⟨sm,p⟩: ∃sm,x.CA=sm:=⟨_,rfl⟩;rw[o]at z;rw[p]at A;have q:=Aa (λW=>QC x.word (!x.blocked&& !x.CA) W l);obtain⟨a,K⟩: ∃a,MW x.word (!x.blocked&& !x.CA)=a:=⟨_,rfl⟩;rw[K]at c q;rw[o,p]at q;have C:a≠0->8<=x.word:=λf=>by apply Zbd;intro L;apply f;rw[<-K];unfold MW;rw[Ai (by omega)]
  by_cases f:a=0
  ·rw[Ai f]at c
   cases c;subst f;have v:=Aa h;generalize x.word=wd at*
   cases bl<;>cases sm
   all_goals
    go_enter func307,ntmps307;go_wp2;go_quiet((go_at_call 341;exact BO (Ex (q.out _))))
    go_wp2;go_ret;exact⟨rfl,V,own,v.out.drewN _,(Ext.refl _ _).drewN _,Fx.refl V⟩
  ·rw[Ah f]at c
   have L:=C f;have Q:(a==0)=false:=by simpa using f
   have D:D9.E7 x.word=x.word-8:=by unfold D9.E7;rw[Ai L]
   rw[D]at hand;have E:D9.Dt (x.word-8):=by unfold D9.Dt at*;omega
   have d:Hid (∀m,CE mb V own ((w.drewN m).setCell ⟨b,1,N⟩ (I U (x.word-8))) (s.CJ k {x with word:=x.word-8})/\Ext own w own ((w.drewN m).setCell ⟨b,1,N⟩ (I U (x.word-8)))):=λm=>by obtain⟨r1,R⟩:=(h.drewN m).U1 r i (x.word-8) E;exact⟨r1,((Ext.refl own w).drewN m).trans R⟩
   by_cases u:a=2
   ·rw[Ai u]at c
    obtain⟨s2,S,c⟩:=AD.1 c;simp only[AV]at c;obtain⟨rfl,rfl⟩:=c;subst u;have T:=Aa (λm=>(d.out m).1.Pj (y:=y) M O r S);generalize x.word=wd at*
    cases bl<;>cases sm
    all_goals
     go_enter func307,ntmps307;go_wp2;go_quiet((go_at_call 341;exact BO (Ex (q.out _))))
     go_wp2_with(go_at_call 192;refine(T.out _).mono ?_;rintro e w2⟨rfl,X,o2,F,G,H⟩;have g:=Aa (Ab F (Ab ((d.out _).2.trans G) H)));go_ret;exact⟨rfl,X,o2,g.out.1,g.out.2.1,g.out.2.2⟩
   ·rw[Ah u]at c
    simp only[Ak,AV]at c;obtain⟨rfl,c⟩:=c;have aa:(a==2)=false:=by simpa using u
    have HS:=Aa c;generalize x.word=wd at*
    cases bl<;>cases sm
    all_goals
     go_enter func307,ntmps307;go_wp2;go_quiet((go_at_call 341;exact BO (Ex (q.out _))))
     go_wp2;go_ret;exact⟨rfl,V,own,by rw[<-HS.out];exact(d.out _).1,(d.out _).2,Fx.refl V⟩
end
end C2
end Go.Proofs.YtgadhchejmlfjaaGreatDoor
