/- A part of the proof. -/
import Derived.Test.YtgadhchejmlfjaaGreatDoorB3
import Derived.Test.YtgadhchejmlfjaaGreatDoorB4
set_option linter.unusedVariables false
set_option maxRecDepth 20000
set_option maxHeartbeats 16000000
open Go.Value renaming int->I,pointer->J,slice->Y
open Go.IntKind renaming i64->U
open Option renaming none->N,some->Z
open Bool renaming false->tY,true->tZ
open Go renaming Calls->tT,TypeId->uf,Value->tR,World->rO
open Go.Ending renaming returned->ui
open Go.Obj renaming cells->uj
open Go.RowKit renaming Below->tS
open Go.RowKit.Below renaming drew->tX,refl->tU
open Go.Value renaming agg->uk,bool->ue,string->um,tuple->uo
open List renaming replicate->tW
open Go.Proofs.Tryz Go.RowKit Go.CN
namespace Go.Proofs.YtgadhchejmlfjaaGreatDoor
namespace C2
open Vm (CP)
def iN(op n:Int):CP:=⟨op,0,0,0,n⟩
def Nt:List Fn:=[⟨[iN 1 1,iN 17 0,iN 15 0,iN 18 0,iN 14 0],[tY,tZ,tZ,tY,tY]⟩]
def pd(s:St):Int×Int×Int×Int×Int:=(s.sc.kind,s.sc.eg,s.sc.Kl,s.sc.Km,s.sc.en)
def Lj:List (Int×Int×Int)->St->Option (List (Int×Int×Int×Int×Int))
 | [],s=>Z []
 |x::l,s=>(FN s x.1 x.2.1 x.2.2).bind λs1=>(Lj l s1).map λo=>(if s1.sc.seen then pd s1::o else o)
theorem XB:Lj ((List.range 1500).map λ(i:Nat)=>((i:Int),(0:Int),(i:Int))) (G8 Nt 1 1 1)=Z [(2,1,0,0,0),(1,1,0,1,0),(2,1,0,1,0),(2,1,0,2,1),(2,1,0,3,0),(2,1,0,4,0)]:=by kernel_rfl
section
variable {mb:Nat}{V:Vr}{own:Nat->Nat}{w:rO}{s:St}
variable {xb j b:Nat}
theorem CE.Ru(h:CE mb V own w s){y:M1}(d:own xb=22+5*j)(b:s.ms[j]?=Z y)(u:Bool):CE mb V own (w.setCell ⟨xb,4,N⟩ (ue u)) (s.CQ j {y with CU:=u})/\Ext own w own (w.setCell ⟨xb,4,N⟩ (ue u)):=by have a:=h.dV d b;have e:=oset (DA xb w) 4 (ue u);have c:=h.xg b;exact⟨h.NI (CC b) (by rw[<-a];exact e) {y with CU:=u} c (by rw[<-a];exact SY (h.C3 d b) u),DB e (by omega)⟩
theorem CE.pe(h:CE mb V own w s){i:Nat}{x:G}(op f c n:Int)(k:Nat)(K:k<8)(r:own b=20+5*i)(D:s.gs[i]?=Z x):tT prog 181 #[ptr mb,ptr b,uk #[I U op,I U k,I U f,I U c,I U n]] w λe L=>e=ui (ue (K2 s i x ⟨op,k,f,c,n⟩))/\tS w.heap.size w L:=by
 have o:=Aa (λW(p:tS w.heap.size w W)=>(h.below p).next op f c n k r D K);obtain⟨a,E⟩: ∃a,D7 s i (tgt s x k)=a:=⟨_,rfl⟩;rw[E]at o;have M:=(h.UR r D).1;have O:=h.CX r (by omega);have q:Hid (K2 s i x ⟨op,k,f,c,n⟩=(decide (op=20)&&x.begun&&decide (a≠3/\a≠2))):=by show _=_;unfold K2;rw[<-E]
 have F:Hid (∀W,tS (w.alloc (uj #[I U op,I U k,I U f,I U c,I U n] 84)).heap.size (w.alloc (uj #[I U op,I U k,I U f,I U c,I U n] 84)) W->
   W.cell? ⟨w.heap.size,0,N⟩=Z (I U op)/\W.cell? ⟨w.heap.size,1,N⟩=Z (I U k)/\W.cell? ⟨w.heap.size,2,N⟩=Z (I U f)/\W.cell? ⟨w.heap.size,3,N⟩=Z (I U c)/\W.cell? ⟨w.heap.size,4,N⟩=Z (I U n)/\tS w.heap.size w W):=λW p=>by
  have m:=(Cy.new w #[I U op,I U k,I U f,I U c,I U n] 84).below p (by simp);exact⟨m.cell 0,m.cell 1,m.cell 2,m.cell 3,m.cell 4,Cv (Cu (tU w.heap.size w) _) p⟩
 obtain⟨P,Q,R,S,T,t⟩:=F.out _ (tU _ _);have d:=Aa t;generalize x.begun=X at*
 by_cases g:op=20
 ·subst g
  cases X with
  |false=>go_enter func181,ntmps181;go_wp2;go_ret;exact⟨by rw[q.out];rfl,d.out⟩
  |true=>
   by_cases u:a=3
   ·subst u
    go_enter func181,ntmps181;go_wp2_with(go_at_call 255;refine(o.out _ d.out).mono ?_;rintro e w1⟨rfl,j⟩;have l:=Aa (Cv d.out j));go_ret;exact⟨by rw[q.out];rfl,l.out⟩
   ·have d3:(a !=3)=true:=by simpa using u
    obtain⟨v,y⟩: ∃v,(a !=2)=v:=⟨_,rfl⟩;have z:Hid (K2 s i x ⟨20,k,f,c,n⟩=v):=by show _=_;rw[q.out,<-y];by_cases e:a=2<;>simp[e,u]
    go_enter func181,ntmps181;go_wp2_with(go_at_call 255;first|(have H:=l.out;refine(o.out _ H).mono ?_;rintro e w2⟨rfl,A⟩;have B:=Aa (Cv H A))|(refine(o.out _ d.out).mono ?_;rintro e w1⟨rfl,j⟩;obtain⟨P,Q,R,S,T,C⟩:=F.out _ j;have l:=Aa C));go_ret;exact⟨by rw[z.out];rfl,B.out⟩
 ·have d20:(op==20)=false:=by simpa using g
  go_enter func181,ntmps181;go_wp2;go_ret;exact⟨by rw[q.out];simp[g],d.out⟩
def Ov(a:Int):Value:=if a=0 then .nilFunc else if a=1 then .func (.func 117) #[] #[]else if a=2 then .func (.func 118) #[] #[]else if a=3 then .func (.func 119) #[] #[]else if a=4 then .func (.func 120) #[] #[]else if a=5 then .func (.func 121) #[] #[]else .nilFunc
theorem CE.does(h:CE mb V own w s){y:M1}{a:Int}(c:own xb=22+5*j)(d:s.ms[j]?=Z y)(b:y.phase=a):tT prog 54 #[ptr xb] w λe f=>e=ui (Ov a)/\f=w:=by
 have g:=Wr (h.C3 c d);rw[b]at g;by_cases i:1<=a/\a<=5
 ·obtain rfl|rfl|rfl|rfl|rfl:a=1\/a=2\/a=3\/a=4\/a=5:=by omega
  all_goals
   go_enter func54,ntmps54;go_wp2;go_ret;exact⟨rfl,rfl⟩
 ·have d1:(a==1)=false:=by simp;omega
  have d2:(a==2)=false:=by simp;omega
  have d3:(a==3)=false:=by simp;omega
  have d4:(a==4)=false:=by simp;omega
  have d5:(a==5)=false:=by simp;omega
  rw[show Ov a= .nilFunc by unfold Ov;(repeat' split)<;>first|rfl|(exfalso;omega)];go_enter func54,ntmps54;go_wp2;go_ret;exact⟨rfl,rfl⟩
theorem hU{W:rO}{x0 x1 x2 x3 x4 x5 u0 u1 u2 u3 u4 u5:tR}(h:Cy W b #[x0,x1,x2,x3,x4,x5] 270):Cy ((((((W.setCell ⟨b,0,N⟩ u0).setCell ⟨b,1,N⟩ u1).setCell ⟨b,2,N⟩ u2).setCell ⟨b,3,N⟩ u3).setCell ⟨b,4,N⟩ u4).setCell ⟨b,5,N⟩ u5) b #[u0,u1,u2,u3,u4,u5] 270/\Cw (λj=>j=b) W ((((((W.setCell ⟨b,0,N⟩ u0).setCell ⟨b,1,N⟩ u1).setCell ⟨b,2,N⟩ u2).setCell ⟨b,3,N⟩ u3).setCell ⟨b,4,N⟩ u4).setCell ⟨b,5,N⟩ u5):=⟨ZJ h,oset (oset (oset (oset (oset (oset (DA b W) 0 _) 1 _) 2 _) 3 _) 4 _) 5 _⟩
theorem CE.clear(h:CE mb V own w s){r:Nat}{y:M1}{act:Int}{s':St}(a p b st t sp:Bool)(B:act=2\/act=3\/act=4)(Q:own xb=22+5*j)(l:s.ms[j]?=Z y)(R:y.p=(r:Int))(c:Ih s j y.p=Z s'):tT prog 182 #[ptr mb,ptr xb,uk #[ue a,ue p,ue b,ue st,ue t,ue sp],I U act] w (Dd mb V own w unit s'):=by
 unfold Ih at c;rw[l,R,Am]at c;cases C:s.asked[r]? with
 |none=>rw[C]at c;cases c
 |some q=>
 rw[C]at c;dsimp only at c;replace c:=CT c;obtain⟨_,c⟩:=c;simp only[Ak]at c;have D:=(h.C3 Q l).lt;have hL:=h.fresh w.heap.size (Al _);have h0:=h.alloc (uj #[ue a,ue p,ue b,ue st,ue t,ue sp] 270);have E0:=(Ext.refl own w).alloc (uj #[ue a,ue p,ue b,ue st,ue t,ue sp] 270);have B0:Cy (w.alloc (uj #[ue a,ue p,ue b,ue st,ue t,ue sp] 270)) w.heap.size #[ue a,ue p,ue b,ue st,ue t,ue sp] 270:=Cy.new w _ 270;have S:=Aa (λW=>FU.VK a p b st t sp act W B);unfold FU.PF at S;have u:=Aa (Ab h0 (Ab E0 (Ab B0 hL)));have f:=Aa (Ab Q (Ab D (Ab l (Ab R (Ab C c)))));have E:FU.VJ a act=false:=by unfold FU.VJ;rw[Ai B]
 have F:FU.VJ p act=false:=by unfold FU.VJ;rw[Ai B]
 go_enter func182,ntmps182;go_wp2_with(go_at_call 256;refine(S.out _).mono ?_;rintro e T⟨G,mZ,m,n,rfl,X⟩;unfold FU.PF;rw[E,F];have d:=u.out.2.2.1.below X u.out.2.2.1.lt;have H:=d.cell 0;have K:=d.cell 1;have q2:=d.cell 2;have q3:=d.cell 3;have q4:=d.cell 4;have q5:=d.cell 5;have f0:=d.free 0;have f1:=d.free 1;have f2:=d.free 2;have f3:=d.free 3;have f4:=d.free 4;have f5:=d.free 5;simp only[Ad,Ac,Ag]at H K q2 q3 q4 q5;have M:=Aa (Ab d X));obtain⟨B1,hO⟩:=hU (u0:=ue tY) (u1:=ue tY) (u2:=ue G) (u3:=ue mZ) (u4:=ue m) (u5:=ue n) M.out.1;have k:=(u.out.1.below M.out.2).loc hO (λj l=>by rw[show j=w.heap.size from l];exact u.out.2.2.2);have O:Ext own w own (((((((T.setCell ⟨w.heap.size,0,N⟩ (ue tY)).setCell ⟨w.heap.size,1,N⟩ (ue tY)).setCell ⟨w.heap.size,2,N⟩ (ue G)).setCell ⟨w.heap.size,3,N⟩ (ue mZ)).setCell ⟨w.heap.size,4,N⟩ (ue m)).setCell ⟨w.heap.size,5,N⟩ (ue n))):=⟨(u.out.2.1.trans (Ext.below M.out.2)).only.andThen hO (λj l c=>by rw[show j=w.heap.size from c]at l;exact absurd l (Zbx _)),λ_ _=>rfl⟩;have H:=B1.cell 0;have K:=B1.cell 1;simp only[Ad,Ac,Ag]at H K;generalize((((((T.setCell ⟨w.heap.size,0,N⟩ (ue tY)).setCell ⟨w.heap.size,1,N⟩ (ue tY)).setCell ⟨w.heap.size,2,N⟩ (ue G)).setCell ⟨w.heap.size,3,N⟩ (ue mZ)).setCell ⟨w.heap.size,4,N⟩ (ue m)).setCell ⟨w.heap.size,5,N⟩ (ue n))=W at*
 obtain⟨g,cap,hv,hg,n1,n2,ab,a0,a1,a2,f0,f1,f2⟩:=k.ask f.out.2.2.2.2.1;have c7:=k.c7;rw[hv]at c7;have qk:(r:Int)<(s.asked.length:Int):=by have:=CC f.out.2.2.2.2.1;omega
 have o:=k.C3 f.out.1 f.out.2.2.1;have x1:=LH o;rw[f.out.2.2.2.1]at x1;have x4:=pT o;have ad:=o.free 4;have m1: ¬xb=mb:=by have:=k.om;have:=f.out.1;rintro rfl;omega
 have m3: ¬xb=g:=by have:=f.out.1;rintro rfl;omega
 have m4: ¬g=xb:=λe=>m3 e.symm;have m6: ¬xb=w.heap.size:=by have:=f.out.2.1;omega
 have m7: ¬w.heap.size=g:=by have:=u.out.2.2.2;rintro rfl;omega
 have m8: ¬g=w.heap.size:=λe=>m7 e.symm;have x:=Aa (Ab k (Ab O hv));generalize ae:s.asked.length=na at*
 generalize w.heap.size=L at*
 obtain⟨am,P⟩: ∃am,y.CU=am:=⟨_,rfl⟩;rw[P]at x4;have aa: ∀(W:rO)(v:tR),(W.setCell ⟨xb,4,N⟩ v).cell? ⟨xb,1,N⟩=W.cell? ⟨xb,1,N⟩:=λW v=>Cq W _ _ v (by simp);obtain⟨qp,qb,qc⟩:=q;simp only at a0 a1 a2;go_region_held3(λA=>A.cell? ⟨mb,7,N⟩=Z (Y (Z ⟨g,0,N⟩) na cap)/\A.cell? ⟨xb,1,N⟩=Z (I U r)/\A.cell? ⟨L,0,N⟩=Z (ue tY)/\A.cell? ⟨L,1,N⟩=Z (ue tY)) (go_keep) (fail);go_end0;obtain⟨R1,E1⟩:=x.out.1.Ru f.out.1 f.out.2.2.1 tY;obtain⟨z,_⟩:=R1.EO (by decide);rw[x.out.2.2]at z;have A1:=z.put (i:=r) (a:=⟨qp,qb,qc⟩) f.out.2.2.2.2.1 0 (by decide) (ue tY) ⟨tY,qb,qc⟩ rfl;obtain⟨R2,E2⟩:=R1.JU x.out.2.2 (oset (DA g _) (r*3+0) (ue tY)) _ (by rw[x.out.2.2];exact A1);rw[<-f.out.2.2.2.2.2];exact⟨rfl,own,R2.drew,x.out.2.1.trans (E1.trans (E2.trans (Ext.below DZ)))⟩
end
end C2
namespace D1
open Vm (CP)
section
variable {w:rO}{v v':tR}{T:List uf}{P:List Fn}
def Jy(i:CP):List Value:=[I U i.op,I U i.a,I U i.b,I U i.c,I U i.n]
def Ho(l:List CP):List Value:=l.flatMap Jy
def I4(l:List Bool):List Value:=l.map ue
theorem TO(l:List CP)(i:CP):Ho (l++[i])=Ho l++Jy i:=by simp[Ho]
theorem TP(l:List Bool)(i:Bool):I4 (l++[i])=I4 l++[ue i]:=by simp[I4]
theorem Rv: ∀(l:List CP)(i r:Nat),i<l.length->r<5->(Ho l)[i*5+r]?=(Jy (l[i]?.getD ⟨0,0,0,0,0⟩))[r]?
 | [],_,_,h,_=>absurd h (BX _)
 |x::l,0,r,_,a=>by show(Jy x++Ho l)[0*5+r]?=_;rw[Nat.zero_mul,AJ,Aw (by simpa[Jy]using a)];rfl
 |x::l,i+1,r,h,a=>by show(Jy x++Ho l)[(i+1)*5+r]?=_;rw[Ar (by simp[Jy];omega),show(i+1)*5+r-(Jy x).length=i*5+r by simp[Jy];omega];exact Rv l i r (by simpa using h) a
theorem bP{base:Nat}{cv:tR}{l:List CP}(h:w.ownsRow base 84 5 cv l.length (Ho l))(g:0<l.length): ∃b c,cv=Y (Z ⟨b,0,N⟩) l.length c/\D8.ER w b 0 l:=by
 obtain⟨b,c,e,rfl,j,f,d⟩:=Et h g;refine⟨b,c,rfl,f.lt,λi k=>?_⟩;have a: ∀r,r<5->w.cell? ⟨b,i*5+r,N⟩=(Jy (l[i]?.getD ⟨0,0,0,0,0⟩))[r]?:=λr m=>by rw[f.cell,<-Bm,<-AN (show i*5+r<l.length*5 by omega),d];exact Rv l i r k m
 simp only[AJ];exact⟨a 0 (by decide),a 1 (by decide),a 2 (by decide),a 3 (by decide),a 4 (by decide)⟩
theorem XC{base:Nat}{sv:tR}{sf:List Bool}(h:w.ownsRow base 4 1 sv sf.length (I4 sf))(f:0<sf.length): ∃a sc,sv=Y (Z ⟨a,0,N⟩) sf.length sc/\FU.Bs w (Y (Z ⟨a,0,N⟩) sf.length sc) sf:=by obtain⟨a,sc,e,rfl,g,b,c⟩:=Et h f;refine⟨a,sc,rfl,a,0,sc,rfl,b.lt,λi j=>?_⟩;have d:i<sf.length:=j;rw[AJ,b.cell,<-Bm,<-AN (show i<sf.length*1 by omega),c];simp[I4,d]
theorem KK{base c:Nat}{e:uf}{size:Nat}{n:Nat}{xs:List tR}(h:w.ownsRow base e size v n xs)(d:c<=base):w.ownsRow c e size v n xs:=⟨h.1,h.2.imp id λ⟨g,cap,cur,a,b,r⟩=>⟨g,cap,cur,a,AA d b,r⟩⟩
def XD(ds:List (tR×tR)):List Value:=ds.flatMap λd=>[d.1,d.2]
theorem Rx(ds:List (tR×tR))(d:tR×tR):XD (ds++[d])=XD ds++[d.1,d.2]:=by simp[XD]
theorem U7(ds:List (tR×tR)):(XD ds).length=2*ds.length:=by
 induction ds with
 |nil=>rfl
 |cons d ds a=>simp only[XD,BE,Au,Av,AG]at a⊢;omega
theorem bQ: ∀(ds:List (tR×tR))(k:Nat)(d:tR×tR),ds[k]?=Z d->(XD ds)[k*2]?=Z d.1/\(XD ds)[k*2+1]?=Z d.2
 | [],k,d,h=>by simp at h
 |x::ds,0,d,h=>by obtain rfl:x=d:=(by simpa using h);exact⟨rfl,rfl⟩
 |x::ds,k+1,d,h=>by have:=bQ ds k d (by simpa using h);show([x.1,x.2]++XD ds)[(k+1)*2]?=_/\([x.1,x.2]++XD ds)[(k+1)*2+1]?=_;rw[Ar (by simp;omega),Ar (by simp;omega),show(k+1)*2- [x.1,x.2].length=k*2 by simp;omega,show(k+1)*2+1- [x.1,x.2].length=k*2+1 by simp;omega];exact this
structure tE (w:rO) (base m:Nat) (d:tR×tR) (f:Fn):Prop where
 code:w.ownsRow base 84 5 d.1 f.1.length (Ho f.1)
 safe:w.ownsRow base 4 1 d.2 f.2.length (I4 f.2)
 lc: ∀j,d.1.ownBlock=Z j->j<m
 XE: ∀j,d.2.ownBlock=Z j->j<m
structure JL (w0:rO) (g cap m:Nat) (ds:List (tR×tR)) (cx sx cv sv:tR) (p:List Fn) (l:List CP) (sf:List Bool) (w:rO):Prop where
 below:tS w0.heap.size w0 w
 row:w.ownsRow w0.heap.size 87 2 (Y (Z ⟨g,0,N⟩) (p.length+1) cap) (p.length+1) (XD ds++[cx,sx])
 len:ds.length=p.length
 m0:w0.heap.size<=m
 m1:m<=w.heap.size
 done: ∀(k:Nat)(d:tR×tR)(f:Fn),ds[k]?=Z d->p[k]?=Z f->tE w w0.heap.size m d f
 code:w.ownsRow m 84 5 cv l.length (Ho l)
 safe:w.ownsRow m 4 1 sv sf.length (I4 sf)
section
variable {w0 w' W3:rO}{g cap m:Nat}{ds:List (tR×tR)}{cx sx cv sv ss su:tR}{p:List Fn}{l:List CP}{sf:List Bool}{i:CP}{s:Bool}
theorem JL.kt(h:JL w0 g cap m ds cx sx cv sv p l sf w)(K:KT T w w')(a:tS w0.heap.size w0 w')(t1:87∉T)(t2:84∉T)(t3:4∉T):JL w0 g cap m ds cx sx cv sv p l sf w':=⟨a,K.row h.row t1,h.len,h.m0,AA h.m1 K.size,λk d f b c=>have q:=h.done k d f b c;⟨K.row q.code t2,K.row q.safe t3,q.lc,q.XE⟩,K.row h.code t2,K.row h.safe t3⟩
theorem JL.go(h:JL w0 g cap m ds cx sx cv sv p l sf w)(a:tS w.heap.size w w'):JL w0 g cap m ds cx sx cv sv p l sf w':=h.kt (T:=[]) (KT.below a) (h.below.trans (a.mono h.below.size)) (by simp) (by simp) (by simp)
theorem JL.more(h:JL w0 g cap m ds cx sx cv sv p l sf w)(a:Du w m 84 5 cv l.length (Ho l) (Jy i) ss W3):JL w0 g cap m ds cx sx ss sv p (l++[i]) sf W3:=by
 have K:KT [84] w W3:=KT.grown h.code a.2.1 (by simp);refine⟨CK h.below a.2.1 (λj b=>AA h.m0 (AB h.code j b).1),K.row h.row (by simp),h.len,h.m0,AA h.m1 K.size,λk d f n o=>?_,?_,K.row h.safe (by simp)⟩
 ·have q:=h.done k d f n o
  refine⟨q.code.kept a.2.1 ?_,K.row q.safe (by simp),q.lc,q.XE⟩;by_cases e:d.1.ownBlock=N
  ·exact .inl e
  ·right
   intro c;obtain⟨j,b⟩:=Option.ne_none_iff_exists'.1 e;have r:=q.lc j b;rw[b]at c;have:=(AB h.code j c.symm).1;omega
 ·rw[TO,Au];exact a.1
theorem JL.pf(h:JL w0 g cap m ds cx sx cv sv p l sf w)(a:Du w m 4 1 sv sf.length (I4 sf) [ue s] su W3):JL w0 g cap m ds cx sx cv su p l (sf++[s]) W3:=by
 have K:KT [4] w W3:=KT.grown h.safe a.2.1 (by simp);refine⟨CK h.below a.2.1 (λj b=>AA h.m0 (AB h.safe j b).1),K.row h.row (by simp),h.len,h.m0,AA h.m1 K.size,λk d f i n=>?_,K.row h.code (by simp),?_⟩
 ·have q:=h.done k d f i n
  refine⟨K.row q.code (by simp),q.safe.kept a.2.1 ?_,q.lc,q.XE⟩;by_cases e:d.2.ownBlock=N
  ·exact .inl e
  ·right
   intro c;obtain⟨j,b⟩:=Option.ne_none_iff_exists'.1 e;have o:=q.XE j b;rw[b]at c;have:=(AB h.safe j c.symm).1;omega
 ·rw[TP,Au];exact a.1
theorem JL.ge(h:JL w0 g cap m ds cx sx cv sv p l sf w):w0.heap.size<=g/\g<w.heap.size:=AB h.row g rfl
theorem JL.at_(h:JL w0 g cap m ds cx sx cv sv p l sf w):w.cell? ⟨g,p.length*2,N⟩=Z cx/\w.cell? ⟨g,p.length*2+1,N⟩=Z sx/\w.frozen? ⟨g,p.length*2,N⟩=tY/\w.frozen? ⟨g,p.length*2+1,N⟩=false:=by
 have a:(XD ds).length=p.length*2:=by rw[U7,h.len];omega
 refine⟨?_,?_,h.row.frozenAt _,h.row.frozenAt _⟩
 ·rw[h.row.cellAt (p.length*2) (by omega),Ar (by omega),a,Bj];rfl
 ·rw[h.row.cellAt (p.length*2+1) (by omega),Ar (by omega),a,show p.length*2+1-p.length*2=1 by omega];rfl
theorem JL.put(h:JL w0 g cap m ds cx sx cv sv p l sf w):JL w0 g cap m ds cv sv cv sv p l sf ((w.setCell ⟨g,p.length*2,N⟩ cv).setCell ⟨g,p.length*2+1,N⟩ sv):=by
 have a:(XD ds).length=p.length*2:=by rw[U7,h.len];omega
 obtain⟨cs,b⟩:=D6 h.row (j:=g) rfl;have K:=(KT.set (T:=[87]) b (by simp) (p.length*2) cv).trans (KT.set (T:=[87]) (b.set (p.length*2) cv) (by simp) (p.length*2+1) sv);have c:=((h.row.stored (p.length*2) cv).1.stored (p.length*2+1) sv).1;rw[Zaa _ _ (by omega),a,Bj,Zaa _ _ (by omega),a,show p.length*2+1-p.length*2=1 by omega]at c;exact⟨(h.below.setCell h.ge.1 _).setCell h.ge.1 _,c,h.len,h.m0,AA h.m1 K.size,λk d f e i=>have q:=h.done k d f e i;⟨K.row q.code (by simp),K.row q.safe (by simp),q.lc,q.XE⟩,K.row h.code (by simp),K.row h.safe (by simp)⟩
abbrev Jz:Value:=Y N 0 0
theorem JL.func(h:JL w0 g cap m ds cv sv cv sv p l sf w)(e:Du w w0.heap.size 87 2 (Y (Z ⟨g,0,N⟩) (p.length+1) cap) (p.length+1) (XD ds++[cv,sv]) [Jz,Jz] v' W3): ∃i a,v'=Y (Z ⟨i,0,N⟩) ((p++[(l,sf)]).length+1) a/\JL w0 i a W3.heap.size (ds++[(cv,sv)]) Jz Jz Jz Jz (p++[(l,sf)]) [] [] W3:=by
 have K:KT [87] w W3:=KT.grown h.row e.2.1 (by simp);obtain⟨i,a,rfl⟩:=e.some;have r:=e.1;rw[<-Rx (d:=(cv,sv))]at r;refine⟨i,a,by simp,CK h.below e.2.1 (λj b=>(AB h.row j b).1),by simpa using r,by simp[h.len],AA h.m0 (AA h.m1 K.size),Al _,λk d f n c=>?_,AH _ _ _ _,AH _ _ _ _⟩;by_cases s:k<p.length
 ·rw[Aw (by rw[h.len];exact s)]at n
  rw[Aw s]at c;have q:=h.done k d f n c;exact⟨K.row q.code (by simp),K.row q.safe (by simp),λj b=>An (q.lc j b) (AA h.m1 K.size),λj b=>An (q.XE j b) (AA h.m1 K.size)⟩
 ·have o:k=p.length:=by have:=(Af.1 c).1;simp at this;omega
  subst o;rw[<-h.len,Ar (Al _),Bj]at n;rw[Ar (Al _),Bj]at c;obtain rfl:(cv,sv)=d:=by simpa using n
  obtain rfl:(l,sf)=f:=by simpa using c
  have c3:=K.row h.code (by simp);have t:=K.row h.safe (by simp);exact⟨KK c3 h.m0,KK t h.m0,λj b=>(AB c3 j b).2,λj b=>(AB t j b).2⟩
theorem JL.start(e:tS w0.heap.size w0 w)(b:Du w w0.heap.size 87 2 Jz 0 [] [Jz,Jz] v' W3): ∃g cap,v'=Y (Z ⟨g,0,N⟩) 1 cap/\JL w0 g cap W3.heap.size [] Jz Jz Jz Jz [] [] [] W3:=by obtain⟨h,a,rfl⟩:=b.some;have c:=CK e b.2.1 (λj i=>by cases i);exact⟨h,a,rfl,c,b.1,rfl,c.size,Al _,λk d f l m=>by simp at l,AH _ _ _ _,AH _ _ _ _⟩
theorem JL.pg{W:rO}(h:JL w0 g cap m ds cv sv cv sv p l sf w)(K:KT T w W)(t1:87∉T)(t2:84∉T)(t3:4∉T)(n: ∀f∈p++[(l,sf)],0<f.1.length/\0<f.2.length):D8.Ha W g 0 (p++[(l,sf)]):=by
 refine⟨An h.ge.2 K.size,λk i=>?_⟩;have o:k<p.length+1:=by simpa using i
 obtain⟨f,b⟩: ∃f,(p++[(l,sf)])[k]?=Z f:=⟨_,Ae i⟩;obtain⟨d,r,j⟩: ∃d:tR×tR,(ds++[(cv,sv)])[k]?=Z d/\(W.ownsRow w0.heap.size 84 5 d.1 f.1.length (Ho f.1)/\W.ownsRow w0.heap.size 4 1 d.2 f.2.length (I4 f.2)):=by
  by_cases a:k<p.length
  ·rw[Aw a]at b
   obtain⟨d,e⟩: ∃d,ds[k]?=Z d:=⟨_,Ae (by rw[h.len];exact a)⟩;have q:=h.done k d f e b;exact⟨d,by rw[Aw (by rw[h.len];exact a)];exact e,K.row q.code t2,K.row q.safe t3⟩
  ·obtain rfl:k=p.length:=by omega
   rw[Ar (Al _),Bj]at b;obtain rfl:(l,sf)=f:=by simpa using b
   exact⟨(cv,sv),by rw[<-h.len,Ar (Al _),Bj];rfl,KK (K.row h.code t2) h.m0,KK (K.row h.safe t3) h.m0⟩
 obtain⟨s,t⟩:=n f (AP b);obtain⟨u,v,x,y⟩:=bP j.1 s;obtain⟨z,sc,A,B⟩:=XC j.2 t;have c:=K.row h.row t1;rw[<-Rx (d:=(cv,sv))]at c;obtain⟨C,D⟩:=bQ _ k d r;rw[b];refine⟨u,0,v,z,0,sc,?_,?_,y,B⟩
 ·rw[AJ,c.cellAt (k*2) (by omega),C,x];rfl
 ·rw[AJ,c.cellAt (k*2+1) (by omega),D,A];rfl
def ig(w0:rO)(v:tR)(P:List Fn)(w:rO):Prop:=(P=[]/\v=Jz/\tS w0.heap.size w0 w)\/ ∃g cap m ds cv sv p l sf,P=p++[(l,sf)]/\v=Y (Z ⟨g,0,N⟩) (p.length+1) cap/\JL w0 g cap m ds cv sv cv sv p l sf w
theorem ig.below(h:ig w0 v P w):tS w0.heap.size w0 w:=by
 rcases h with⟨_,_,h⟩|⟨g,cap,m,ds,cv,sv,p,l,sf,_,_,h⟩
 ·exact h
 ·exact h.below
theorem ig.kt(h:ig w0 v P w)(K:KT T w w')(c:tS w0.heap.size w0 w')(t1:87∉T)(t2:84∉T)(t3:4∉T):ig w0 v P w':=by
 rcases h with⟨a,b,h⟩|⟨g,cap,m,ds,cv,sv,p,l,sf,a,b,h⟩
 ·exact .inl ⟨a,b,c⟩
 ·exact .inr ⟨g,cap,m,ds,cv,sv,p,l,sf,a,b,h.kt K c t1 t2 t3⟩
theorem ig.head(h:ig w0 v P w): ∃a c X,v= .slice a P.length c/\(∀W,tS w.heap.size w W->W.ownsRow w0.heap.size 87 2 (.slice a P.length c) P.length X/\w0.heap.size<=W.heap.size)/\ ∀W v' W3,tS w.heap.size w W->Du W w0.heap.size 87 2 (.slice a P.length c) P.length X [Jz,Jz] v' W3->(∃a' j,v'= .slice a' (P.length+1) j)/\ig w0 v' (Mn P N) W3/\KT [87] W W3:=by
 rcases h with⟨rfl,rfl,h⟩|⟨g,cap,m,ds,cv,sv,p,l,sf,rfl,rfl,h⟩
 ·refine⟨N,0,[],rfl,λW b=>⟨AH _ _ _ _,AA h.size b.size⟩,λW v' W3 b d=>?_⟩
  obtain⟨g,cap,rfl,i⟩:=JL.start (Cv h b) d;exact⟨⟨_,_,rfl⟩,.inr ⟨g,cap,_,_,_,_,[],[],[],rfl,rfl,i⟩,KT.grown (AH W w0.heap.size 87 2) d.2.1 (by simp)⟩
 ·have e:(p++[(l,sf)]).length=p.length+1:=by simp
  rw[e];refine⟨_,cap,_,rfl,λW b=>⟨(h.go b).row,(h.go b).below.size⟩,λW v' W3 b d=>?_⟩;obtain⟨k,f,rfl,i⟩:=(h.go b).func d;exact⟨⟨_,_,by rw[e]⟩,.inr ⟨k,f,_,_,_,_,_,[],[],rfl,rfl,i⟩,KT.grown (h.go b).row d.2.1 (by simp)⟩
end
end
open D3 (row rows Laid)
open D8 (Ha ld ER)
def Bd(M:Nat)(q:List Fn):Prop:=q.length<=M/\ ∀f∈q,f.1.length<=M/\f.2.length<=M
theorem mf{M:Nat}{q:List Fn}(h:Bd M q)(x:Ln):Bd (M+1) (Mn q x):=by
 cases x with
 |none=>
  refine⟨by simp[Mn];exact h.1,λf a=>?_⟩;rcases Br.1 a with a|a
  ·have:=h.2 f a;omega
  ·rw[Cj.1 a];simp
 |some y=>
  have c:(q.getLast?.getD ([],[])).1.length<=M/\(q.getLast?.getD ([],[])).2.length<=M:=by
   cases b:q.getLast? with
   |none=>simp
   |some f=>exact h.2 f (List.mem_of_getLast? b)
  refine⟨by have:=h.1;simp only[Mn,Au,List.length_dropLast,Av,AG];omega,λf a=>?_⟩;rcases Br.1 a with a|a
  ·have:=h.2 f ((List.dropLast_sublist q).subset a);omega
  ·rw[Cj.1 a];simp only[Au,Av,AG];omega
theorem Ry: ∀(a:List Ln)(q:List Fn)(M:Nat),Bd M q->Bd (M+a.length) (a.foldl Mn q)
 | [],q,M,h=>h
 |x::a,q,M,h=>by have:=Ry a (Mn q x) (M+1) (mf h x);rw[Zad,Av,show M+(a.length+1)=M+1+a.length by omega];exact this
theorem bR(q:List Fn)(x:Ln):Mn q x≠[]:=by cases x<;>simp[Mn]
theorem bS(a:List Ln)(q:List Fn)(h:q≠[]):a.foldl Mn q≠[]:=by
 induction a generalizing q with
 |nil=>exact h
 |cons x a b=>exact b _ (bR q x)
theorem ih{p:List Fn}(a:0<p.length){k:Nat}{y:CP×Bool}(h:(C9 p)[k]?=Z (Z y)):((C9 p).take k).foldl Mn []≠[]:=by
 cases p with
 |nil=>simp at a
 |cons f p=>
  have e:C9 (f::p)=N::((f.1.zip f.2).map Z++C9 p):=by simp[C9,kS]
  rw[e]at h⊢;cases k with
  |zero=>simp at h
  |succ k=>rw[Zav,Zad];exact bS _ _ (bR _ _)
theorem fold_succ(a:List Ln)(k:Nat)(x:Ln)(h:a[k]?=Z x):(a.take (k+1)).foldl Mn []=Mn ((a.take k).foldl Mn []) x:=by rw[Bu,h,Za1,Za5];rfl
theorem Ow(a:List Ln)(k:Nat)(x:Ln)(h:a[k]?=Z x):CW (a.drop k)=kQ x++10::CW (a.drop (k+1)):=by
 have b:=(Af.1 h).1;rw[AQ b,LO,Ae b]at*
 rw[Ba h]
theorem bT(p:List Fn)(l:List CP)(sf:List Bool)(i:CP)(s:Bool):Mn (p++[(l,sf)]) (Z (i,s))=p++[(l++[i],sf++[s])]:=by simp[Mn]
theorem bU(a b:List UInt8)(w:rO)(h:(10:UInt8)∉a)(d:(a++10::b).length<=1000000)(hm:Mx w):tT prog 271 #[um ⟨(a++10::b).toArray⟩,um ⟨#[10]⟩] w λe c=>e=ui (uo #[um ⟨a.toArray⟩,um ⟨b.toArray⟩,ue tZ])/\tS w.heap.size w c:=by obtain⟨m,hm⟩:=hm;refine(Fq.cut ⟨(a++10::b).toArray⟩ ⟨#[10]⟩ m w (by show(a++10::b).toArray.size<_;simp only[Bk];omega) hm).mono ?_;rintro e c⟨rfl,n,rfl⟩;rw[show(⟨(a++10::b).toArray⟩:ByteArray).data.toList=a++10::b by simp,show(⟨#[10]⟩:ByteArray).data.toList=[10]from rfl,Uh 10 a b h];exact⟨rfl,Ce (tU _ _) n⟩
theorem pq(w:rO)(x y:tR)(t:uf): ∀(j:Nat)(u:tR),[x,y][j]?=Z u->(w.alloc (uj #[x,y] t)).cell? ((⟨w.heap.size,0,N⟩:Addr).add j)=Z u:=by have h:=Cy.new w #[x,y] t;intro j u hu;rw[show((⟨w.heap.size,0,N⟩:Addr).add j)=⟨w.heap.size,j,N⟩from by rw[AE,AJ]];rw[h.cell j,<-hu];simp
theorem I5{W:rO}{b:Nat}{ys:List tR}{t:uf}(h:Cy W b ys.toArray t): ∀(j:Nat)(u:tR),ys[j]?=Z u->W.cell? ((⟨b,0,N⟩:Addr).add j)=Z u:=by intro j u hu;rw[show((⟨b,0,N⟩:Addr).add j)=⟨b,j,N⟩from by rw[AE,AJ],h.cell j];simpa using hu
theorem Cy.M0(w:rO)(o:Obj)(cs:Array tR)(t:uf):Cy ((w.alloc o).alloc (uj cs t)) (w.heap.size+1) cs t:=by have:=Cy.new (w.alloc o) cs t;simpa using this
def jG(g o a:Nat)(b sv:tR)(i:CP)(w:rO):Prop:=w.cell? ⟨g,o,N⟩=Z b/\w.cell? ⟨g,o+1,N⟩=Z sv/\w.cell? ⟨a,0,N⟩=Z (I U i.op)/\w.cell? ⟨a,1,N⟩=Z (I U i.a)/\w.cell? ⟨a,2,N⟩=Z (I U i.b)/\w.cell? ⟨a,3,N⟩=Z (I U i.c)/\w.cell? ⟨a,4,N⟩=Z (I U i.n)
theorem JL.p6{w0 w:rO}{g cap m b:Nat}{ds:List (tR×tR)}{c d e sv:tR}{p:List Fn}{l:List CP}{sf:List Bool}{i:CP}(h:JL w0 g cap m ds c d e sv p l sf w)(a:Cy w b (Jy i).toArray 84):jG g (p.length*2) b c d i w:=⟨h.at_.1,h.at_.2.1,a.cell 0,a.cell 1,a.cell 2,a.cell 3,a.cell 4⟩
def tF(w:rO)(a:List Ln)(b:Nat)(v0 v3:tR)(wr:rO):Prop:= ∃(k:Nat)(v:tR),k<=a.length/\v0=um ⟨(CW (a.drop k)).toArray⟩/\v3=I U ((k:Int)+1)/\Cy wr b #[v] 26/\ig w v ((a.take k).foldl Mn []) wr
theorem TQ(p:List Fn)(w:rO)(hL:Laid w)(hm:Mx w)(M:U3 p)(h0:0<p.length):tT prog 207 #[um ⟨(CW (C9 p)).toArray⟩] w λe n=> ∃g cap,e=ui (uo #[uk #[Y (Z ⟨g,0,N⟩) p.length cap],I U 0,I U 0])/\tS w.heap.size w n/\ ∀(T:List uf)(W:rO),KT T n W->87∉T->84∉T->4∉T->Ha W g 0 p:=by
 have az:=Om p M.len;have bp:=M.cnt;have H:=M.lines;have u:=Oa p [] (λf hf=>(M.len f hf).1);rw[A7]at u;have aq: ∀(k:Nat)(y:CP×Bool),(C9 p)[k]?=Z (Z y)->((C9 p).take k).foldl Mn []≠[]:=λk y h=>ih h0 h;obtain⟨z,a1⟩: ∃z,C9 p=z:=⟨_,rfl⟩;rw[a1]at az H u aq⊢;have a6:z.length<=1040:=by omega
 have hdr: ∀k,(CW (z.drop k)).length<=1000000:=λk=>by
  have q1:=JZ (z.drop k) (λx hx=>H x (Zb0 hx));have q2:(z.drop k).length<=1040:=by rw[Zba];omega
  omega
 have H0:=Aa (Ab hL (Ab hm (Ab a6 (Ab H hdr))));have ar:=Aa (Ab u (Ab M h0));have bq:=Aa aq;have hb:=Cy.new w #[Y N 0 0] 26;clear hL hm M h0 az bp H u a1 a6 hdr aq;go_enter func207,ntmps207;go_wp2;go_step3;go_wp2;go_step3;go_wp2;have br:=Aa hb;clear hb;go_loopw [0,3] (λv0 v3 wr=>tF w z w.heap.size v0 v3 wr) (λ_ t _=>z.length+1-(intOf t).toNat)
 case atStart=>exact⟨0,Y N 0 0,Ap _,rfl,rfl,br.out,.inl ⟨rfl,rfl,Cu (tU _ _) _⟩⟩
 case round=>
  obtain⟨k,v,hk,rfl,rfl,hP,hR⟩:=hrel;by_cases Q:k<z.length
  ·obtain⟨x,hx⟩: ∃x,z[k]?=Z x:=⟨_,Ae Q⟩
   have D:=Ry (z.take k) [] 0 ⟨Al _,λf hf=>by cases hf⟩;rw[AJ]at D;have a7:(z.take k).length<=1040:=by have:=H0.out.2.2.1;rw[AY];omega
   have HX:=Aa (Ab (fold_succ z k x hx) (Ab Q H0.out.2.2.1));have ah:=H0.out.2.2.2.1 x (AP hx);have hC:=bU (kQ x) (CW (z.drop (k+1))) wr (ZM ah).1 (by rw[<-Ow z k x hx];exact H0.out.2.2.2.2 k) (H0.out.2.1.below hR.below);rw[Ow z k x hx];obtain⟨rt,ai⟩: ∃rt,CW (z.drop (k+1))=rt:=⟨_,rfl⟩;rw[ai]at hC⊢;have a8:=Aa ai;obtain⟨P,aj⟩: ∃P,(z.take k).foldl Mn []=P:=⟨_,rfl⟩;rw[aj]at D hR HX;cases x with
   |none=>
    have hC:tT prog 271 #[um ⟨([102,117,110,99]++10::rt).toArray⟩,um ⟨#[10]⟩] wr λe n=>e=ui (uo #[um ⟨#[102,117,110,99]⟩,um ⟨rt.toArray⟩,ue tZ])/\tS wr.heap.size wr n:=hC;have HC:=Aa hC;obtain⟨a,c,X,rfl,ba,bb⟩:=hR.head;have HH:=Aa (Ab ba bb);have bc:=Aa hP;have bs:Hid (P.length<100000000):=by have:=D.1;show _<_;omega
    show Code.wp _ _ _ {tmps:=#[um ⟨([102,117,110,99]++10::rt).toArray⟩,_,_,_,_,_,_,_,_,_,_,_,_,_,_,_,_,_,_,_,_,_,_,_,_,_,_,_,_,_,_,_,_,_,_,_,_,_,_,_,_,_,_,_,_,_,_,_,_,_,_,_,_,_,_,_,_,_,_,_,_,_,_,_,_,_,_,_,_,_,_,_,_,_,_,_,_,_,_,_,_,_],defers:=[]} _;clear hC ba bb hP hR D ai aj hx ah Q hk a7;go_wp2_with(first|(go_at_call 271;refine HC.out.mono ?_;rintro e w1⟨rfl,E⟩;have R:=bc.out.below E bc.out.lt;have B:=Aa (Ab R E);have q0:=R.cell 0;simp only[Ad,Ac]at q0;clear E R)|(at_builtin;refine Iu underlying24 QO.Pu rfl (by decide) (by decide) w.heap.size _ rfl _ _ rfl (.slice a P.length c) P.length X ⟨w1.heap.size,0,N⟩ 1 [Y N 0 0,Y N 0 0] rfl rfl (.inl (HH.out.1 _ (B.out.2.alloc B.out.2.size _)).1) rfl (pq w1 _ _ 87) (by simp[Value.oneCell']) (HH.out.1 _ (B.out.2.alloc B.out.2.size _)).2 bs.out ?_;intro v' w3 hA;obtain⟨⟨a',c',rfl⟩,bd,K3⟩:=HH.out.2 _ _ _ (B.out.2.alloc B.out.2.size _) hA;have h3:=K3.keep (B.out.1.below (Cu (tU w1.heap.size w1) (uj #[Y N 0 0,Y N 0 0] 87)) B.out.1.lt) (by simp);have HF:=Aa (Ab bd h3);have q1:=h3.cell 0;have f1:=h3.free 0;simp only[Ad,Ac]at q1;clear hA bd h3 K3));have hw:wrap64 ((k:Int)+1+1)=((k+1:Nat):Int)+1:=by have:=HX.out.2;unfold wrap64;omega
    rw[hw];refine⟨⟨k+1,.slice a' (P.length+1) c',HX.out.2.1,by rw[a8.out],rfl,HF.out.2.set 0 _,?_⟩,by have:=HX.out.2;simp[intOf];omega⟩;rw[HX.out.1];exact HF.out.1.kt (KT.set (T:=[26]) HF.out.2 (by simp) 0 _) (HF.out.1.below.setCell (Al _) _) (by simp) (by simp) (by simp)
   |some y=>
    obtain⟨i,s⟩:=y;have hi:JJ i:=ah _ rfl;have bt:=(Jk (sf:=s) hi).2.2;have S:=bq.out k (i,s) hx;rw[aj]at S;rcases hR with⟨e,_⟩|⟨g,cap,m,ds,cv,sv,q,L,F,rfl,rfl,hF⟩
    ·exact absurd e S
    have bu:Hid (Mn (q++[(L,F)]) (Z (i,s))=q++[(L++[i],F++[s])]):=bT q L F i s;have hC:tT prog 271 #[um ⟨(FO i s++10::rt).toArray⟩,um ⟨#[10]⟩] wr λe n=>e=ui (uo #[um ⟨(FO i s).toArray⟩,um ⟨rt.toArray⟩,ue tZ])/\tS wr.heap.size wr n:=hC;have HC:=Aa hC;have bf:=Aa (λW(r:tS w.heap.size w W)=>WI i s W (H0.out.1.below r) (H0.out.2.1.below r) hi);have au:Hid (L.length<100000000/\F.length<100000000/\q.length<100000):=by have R:=D.2 (L,F) (by simp);have V:=D.1;simp only[Au,Av,AG]at R V;refine⟨by omega,by omega,by omega⟩
    have HS:=Aa (Ab hF hP);show Code.wp _ _ _ {tmps:=#[um ⟨(FO i s++10::rt).toArray⟩,_,_,_,_,_,_,_,_,_,_,_,_,_,_,_,_,_,_,_,_,_,_,_,_,_,_,_,_,_,_,_,_,_,_,_,_,_,_,_,_,_,_,_,_,_,_,_,_,_,_,_,_,_,_,_,_,_,_,_,_,_,_,_,_,_,_,_,_,_,_,_,_,_,_,_,_,_,_,_,_,_],defers:=[]} _;generalize FO i s=ln at*
    have bw:(ln++10::rt).isEmpty=false:=by cases ln<;>rfl
    have bz:((q.length:Int)+1==0)=false:=by simp;omega
    have b0:wrap64 (q.length:Int)=(q.length:Int):=by have:=au.out;unfold wrap64;omega
    clear hC hF hP D ai aj hx ah Q hk a7 hi S;go_wp2_with(first|(go_at_call 271;refine HC.out.mono ?_;rintro e w1⟨rfl,E⟩;have R:=HS.out.1.go E;have V:=HS.out.2.below E HS.out.2.lt;have C:=Aa (Ab R V);clear E R V)|(go_at_call 272;refine(bf.out _ C.out.1.below).mono ?_;rintro e w2⟨rfl,aa⟩;have R:=(C.out.1.go aa).go (Cu (tU w2.heap.size w2) (uj #[I U i.op,I U i.a,I U i.b,I U i.c,I U i.n] 84));have V:=(C.out.2.below aa C.out.2.lt).below (Cu (tU w2.heap.size w2) (uj #[I U i.op,I U i.a,I U i.b,I U i.c,I U i.n] 84)) (C.out.2.below aa C.out.2.lt).lt;have bg:=Aa (Ab R (Ab V (Ab (Cy.new w2 #[I U i.op,I U i.a,I U i.b,I U i.c,I U i.n] 84) (λj hj=>(AB (C.out.1.go aa).code j hj).2))));have q0:=V.cell 0;simp only[Ad,Ac]at q0;clear aa R V));have b1:=bg.out;clear q0 bg bt bw;generalize(w2.alloc (uj #[I U i.op,I U i.a,I U i.b,I U i.c,I U i.n] 84))=W at*
    generalize w2.heap.size=ib at*
    obtain⟨hS,bh,ab,hIn⟩:=b1;obtain⟨a2,c2,rfl⟩:=DD hS.code;obtain⟨a3,c3,rfl⟩:=DD hS.safe;obtain⟨x0,x1,y0,y1,y2,y3,y4⟩:=hS.p6 ab;have O:Hid (∀A,tS W.heap.size W A->JL w g cap m ds (.slice a2 L.length c2) (.slice a3 F.length c3) (.slice a2 L.length c2) (.slice a3 F.length c3) q L F A/\jG g (q.length*2) ib (.slice a2 L.length c2) (.slice a3 F.length c3) i A/\m<=A.heap.size):=λA r=>⟨hS.go r,(hS.go r).p6 (ab.below r ab.lt),(hS.go r).m1⟩;have G:=Aa (Ab ab (Ab hIn (Ab (λj hj=>(AB hS.code j hj).2) bh)));obtain⟨o,ho⟩: ∃o,q.length*2=o:=⟨_,rfl⟩;rw[ho]at x0 x1 O;have HO:=Aa ho;clear hS bh ab hIn C HC bf HS b0 bz;rw[ho];clear ho;have ad:Hid (∀A,tS W.heap.size W A->jG g o ib (.slice a2 L.length c2) (.slice a3 F.length c3) i A):=λA r=>(O.out A r).2.1;have d:Hid (jG g o ib (.slice a2 L.length c2) (.slice a3 F.length c3) i W.drew):=ad.out _ (tU _ _).drew;refine FG 18 (jG g o ib (.slice a2 L.length c2) (.slice a3 F.length c3) i) (by kernel_rfl) ?_;refine tk 0 (v:=?_) rfl (by kernel_rfl) (λ_ _ _ h=>h) ?_ (λ_=>d.out) ?_;rotate_left
    ·intro n;go_simp;try(with_reducible rfl)
    refine tk 1 (v:=?_) rfl (by kernel_rfl) (λ_ _ _ h=>h) ?_ (λ_=>d.out) ?_;rotate_left
    ·intro n;go_simp;try(with_reducible rfl)
    refine tk 2 (v:=?_) rfl (by kernel_rfl) (λ_ _ _ h=>h) ?_ (λ_=>d.out) ?_;rotate_left
    ·intro n;go_simp;try(with_reducible rfl)
    refine tk 3 (v:=?_) rfl (by kernel_rfl) (λ_ _ _ h=>h) ?_ (λ_=>d.out) ?_;rotate_left
    ·intro n;go_simp;try(with_reducible rfl)
    refine tk 4 (v:=?_) rfl (by kernel_rfl) (λ_ _ _ h=>h) ?_ (λ_=>d.out) ?_;rotate_left
    ·intro n;go_simp;try(with_reducible rfl)
    refine DN (i:=5) (v:=?_) rfl rfl (by kernel_rfl) (by kernel_rfl) (by kernel_rfl) (by kernel_rfl) (by kernel_rfl) (λ_ _ _ h=>h) (Or.inl ⟨by kernel_rfl,?_⟩) d.out ?_;rotate_left
    ·intro n hw';obtain⟨s0,s1,s2,s3,s4,s5,s6⟩:=hw';go_simp;try(with_reducible rfl)
    refine DN (i:=6) (v:=?_) rfl rfl (by kernel_rfl) (by kernel_rfl) (by kernel_rfl) (by kernel_rfl) (by kernel_rfl) (λ_ _ _ h=>h) (Or.inl ⟨by kernel_rfl,?_⟩) d.out ?_;rotate_left
    ·intro n hw';obtain⟨s0,s1,s2,s3,s4,s5,s6⟩:=hw';go_simp;try(with_reducible rfl)
    refine tk 9 (v:=?_) rfl (by kernel_rfl) (λ_ _ _ h=>h) ?_ (λ_=>d.out) ?_;rotate_left
    ·intro n;go_simp;try(with_reducible rfl)
    refine tk 10 (v:=?_) rfl (by kernel_rfl) (λ_ _ _ h=>h) ?_ (λ_=>d.out) ?_;rotate_left
    ·intro n;go_simp;try(with_reducible rfl)
    refine tk 11 (v:=?_) rfl (by kernel_rfl) (λ_ _ _ h=>h) ?_ (λ_=>d.out) ?_;rotate_left
    ·intro n;go_simp;try(with_reducible rfl)
    refine DN (i:=12) (v:=?_) rfl rfl (by kernel_rfl) (by kernel_rfl) (by kernel_rfl) (by kernel_rfl) (by kernel_rfl) (λ_ _ _ h=>h) (Or.inl ⟨by kernel_rfl,?_⟩) d.out ?_;rotate_left
    ·intro n hw';obtain⟨s0,s1,s2,s3,s4,s5,s6⟩:=hw';go_simp;try(with_reducible rfl)
    refine tk 13 (v:=?_) rfl (by kernel_rfl) (λ_ _ _ h=>h) ?_ (λ_=>d.out) ?_;rotate_left
    ·intro n;go_simp;try(with_reducible rfl)
    clear x0 x1 y0 y1 y2 y3 y4;refine Hw (rs:=[7,14]) (by kernel_rfl) (by simp) ?_;refine DI.cons rfl (λK b=>?_) ?_;case' _=>go_simp;refine b _ _ ⟨λ_=>ad.out _ (by(repeat(first|exact tU _ _|refine tX ?_|refine Cu ?_ _))),?_⟩;clear b K;refine Hw (rs:=[8,14]) (by kernel_rfl) (by simp) ?_;refine DI.cons rfl (λK b=>?_) ?_
    rotate_left;case' _=>refine DI.cons rfl (λK b=>?_) DI.nil;go_simp;refine b _ _ ⟨λ_=>ad.out _ (by(repeat(first|exact tU _ _|refine tX ?_|refine Cu ?_ _))),?_⟩;clear b K;refine Gb 8 (by kernel_rfl) rfl λK b=>?_
    rotate_left;case' _=>refine DI.cons rfl (λK b=>?_) DI.nil;go_simp;refine b _ _ ⟨λ_=>ad.out _ (by(repeat(first|exact tU _ _|refine tX ?_|refine Cu ?_ _))),?_⟩;clear b K;refine Gb 7 (by kernel_rfl) rfl λK b=>?_;go_simp;refine b _ _ ⟨λ_=>ad.out _ (by(repeat(first|exact tU _ _|refine tX ?_|refine Cu ?_ _))),?_⟩;clear b K;refine Gb 8 (by kernel_rfl) rfl λK b=>?_
    all_goals
     (refine JA underlying85 QO.M4 rfl (by decide) (by decide) m _ rfl (.tmp 66) (.tmp 68) rfl (.slice a2 L.length c2) L.length (Ho L) _ 1 (Jy i) (by rfl) (by rfl) (.inl (O.out _ (by(repeat(first|exact tU _ _|refine tX ?_|refine Cu ?_ _)))).1.code) rfl (I5 (by first|exact Cy.new _ _ _|exact(Cy.new _ _ _).drew|exact(Cy.new _ _ _).alloc _|exact((Cy.new _ _ _).alloc _).drew|exact Cy.M0 _ _ _ _|exact(Cy.M0 _ _ _ _).drew)) (by simp[Jy,Value.oneCell']) (O.out _ (by(repeat(first|exact tU _ _|refine tX ?_|refine Cu ?_ _)))).2.2 au.out.1 ?_;intro b2 w3 hA;obtain⟨g4,p4,rfl⟩:=hA.some;obtain⟨Wa,ae,ak⟩: ∃Wa,tS W.heap.size W Wa/\Du Wa m 84 5 (.slice a2 L.length c2) L.length (Ho L) (Jy i) _ w3:=⟨_,(by(repeat(first|exact tU _ _|refine tX ?_|refine Cu ?_ _))),hA⟩;have h3:=(O.out Wa ae).1.more ak;have af:=(G.out.1.below ae G.out.1.lt).kept ak.2.1 (λe=>by have:=G.out.2.1 _ e.symm;omega);have av:=(KT.grown (O.out Wa ae).1.code ak.2.1 (show 84∈[84] by simp)).keep (G.out.2.2.2.below ae G.out.2.2.2.lt) (by simp);(first|(have aw:Cy w3 W.heap.size #[ue s] 4:=Cy.kept (show Cy _ W.heap.size #[ue s] 4 from by first|exact(Cy.new _ _ _).alloc _|exact((Cy.new _ _ _).alloc _).drew) hA.2.1 (λe=>by have:=G.out.2.2.1 _ e.symm;omega))|(have aw:Cy w3 (W.heap.size+1) #[ue s] 4:=Cy.kept (show Cy _ (W.heap.size+1) #[ue s] 4 from by first|exact Cy.M0 _ _ _ _|exact(Cy.M0 _ _ _ _).drew) hA.2.1 (λe=>by have:=G.out.2.2.1 _ e.symm;omega))|skip);have ag:Hid (∀A,tS w3.heap.size w3 A->JL w g cap m ds (.slice a2 L.length c2) (.slice a3 F.length c3) (Y (Z ⟨g4,0,N⟩) (L.length+1) p4) (.slice a3 F.length c3) q (L++[i]) F A/\jG g o ib (.slice a2 L.length c2) (.slice a3 F.length c3) i A/\m<=A.heap.size/\Cy A w.heap.size #[Y (Z ⟨g,0,N⟩) (q.length+1) cap] 26/\Cy A ib (Jy i).toArray 84):=(λA r=>(by rw[<-HO.out];exact⟨h3.go r,(h3.go r).p6 (af.below r af.lt),(h3.go r).m1,av.below r av.lt,af.below r af.lt⟩));clear hA ak h3 af av ae)
     refine b _ _ ⟨λ_=>(ag.out _ (tU _ _)).2.1,?_⟩;clear b K
    rotate_left;case' _=>refine Gb 14 (by kernel_rfl) rfl λK b=>?_;go_simp;refine b _ _ ⟨λ_=>(ag.out _ (by(repeat(first|exact tU _ _|refine tX ?_|refine Cu ?_ _)))).2.1,?_⟩;clear b K
    all_goals
     refine Gb 15 (by kernel_rfl) rfl λK b=>?_
     (refine JA underlying43 QO.U4 rfl (by decide) (by decide) m _ rfl (.tmp 73) (.tmp 75) rfl (.slice a3 F.length c3) F.length (I4 F) _ 1 [ue s] (by rfl) (by rfl) (.inl (ag.out _ (by(repeat(first|exact tU _ _|refine tX ?_|refine Cu ?_ _)))).1.safe) rfl (I5 (by first|exact aw|exact aw.drew|exact Cy.new _ _ _|exact(Cy.new _ _ _).drew)) (by simp[Value.oneCell']) (ag.out _ (by(repeat(first|exact tU _ _|refine tX ?_|refine Cu ?_ _)))).2.2.1 au.out.2.1 ?_;intro b3 w5 r;obtain⟨g5,c5,rfl⟩:=r.some;obtain⟨Wb,bj,ax⟩: ∃Wb,tS w3.heap.size w3 Wb/\Du Wb m 4 1 (.slice a3 F.length c3) F.length (I4 F) [ue s] _ w5:=⟨_,(by(repeat(first|exact tU _ _|refine tX ?_|refine Cu ?_ _))),r⟩;have h4:=ag.out Wb bj;have h5:=h4.1.pf ax;have K5:=KT.grown h4.1.safe ax.2.1 (show 4∈[4] by simp);have bk:=K5.keep h4.2.2.2.1 (by simp);have bm:=K5.keep h4.2.2.2.2 (by simp);have ay:Hid (jG g o ib (.slice a2 L.length c2) (.slice a3 F.length c3) i w5):=(by show jG g o ib _ _ i w5;rw[<-HO.out];exact h5.p6 bm);obtain⟨z0,z1,u0,u1⟩:=h5.at_;rw[HO.out]at z0 z1 u0 u1;have HE:=Aa (Ab h5 bk);clear r ax bj h4 h5 K5 bk bm)
     refine b _ _ ⟨λ_=>ay.out,?_⟩;clear b K;refine tk 16 (v:=?_) rfl (by kernel_rfl) (λ_ _ _ h=>h) ?_ (λ_=>ay.out) ?_;rotate_left
     ·intro n;go_simp;try(with_reducible rfl)
     refine tk 17 (v:=?_) rfl (by kernel_rfl) (λ_ _ _ h=>h) ?_ (λ_=>ay.out) ?_;rotate_left
     ·intro n;go_simp;try(with_reducible rfl)
     refine Gb 18 (by kernel_rfl) rfl λK b=>?_;go_simp;refine b _ _ ⟨(λh=>absurd (h.symm.trans (show _=tZ by kernel_rfl)) BU),?_⟩;clear b K;refine eG 19 (v:=?_) rfl (by kernel_rfl) (λ_ _ _ h=>h) ?_ ?_;rotate_left
     ·intro n;go_simp;try(with_reducible rfl)
     refine eG 20 (v:=?_) rfl (by kernel_rfl) (λ_ _ _ h=>h) ?_ ?_;rotate_left
     ·intro n;go_simp;try(with_reducible rfl)
     refine Gb 21 (by kernel_rfl) rfl λK b=>?_;go_simp;refine b _ _ ⟨(λh=>absurd (h.symm.trans (show _=tZ by kernel_rfl)) BU),?_⟩;clear b K;refine FE (by kernel_rfl) ?_ _;go_wp2;have hE:=HE.out;have bn:=hE.1.put;rw[HO.out]at bn;have ao:w.heap.size≠g:=λe=>by obtain⟨cs,bo⟩:=D6 hE.1.row (j:=g) rfl;rw[<-e]at bo;exact absurd (DV hE.2 bo) (by decide)
     have hw:wrap64 ((k:Int)+1+1)=((k+1:Nat):Int)+1:=by have:=HX.out.2;unfold wrap64;omega
     rw[hw];refine⟨⟨k+1,Y (Z ⟨g,0,N⟩) (q.length+1) cap,HX.out.2.1,by rw[a8.out],rfl,(hE.2.setOther ao _).setOther ao _,?_⟩,by have:=HX.out.2;simp[intOf];omega⟩;rw[HX.out.1,bu.out];exact .inr ⟨g,cap,m,ds,_,_,q,L++[i],F++[s],rfl,rfl,by simpa using bn⟩
  ·obtain rfl:k=z.length:=by omega
   rw[Cd,ar.out.1]at hR;rw[Cl,show CW []=[]from rfl];rcases hR with⟨e,_⟩|⟨g,cap,m,ds,cv,sv,q,l,sf,e,rfl,hF⟩
   ·exact absurd e (by have:=ar.out.2.2;intro e;rw[e]at this;simp at this)
   have q0:=hP.cell 0;have f0:=hP.free 0;simp only[Ad,Ac]at q0;have b:=KT.set (T:=[26]) hP (by simp) 0 (Y (Z ⟨g,0,N⟩) (q.length+1) cap);have V:=hF.kt b (hF.below.setCell (Al _) _) (by simp) (by simp) (by simp);have c0:=(hP.set 0 (Y (Z ⟨g,0,N⟩) (q.length+1) cap)).cell 0;simp only[BK,Bv,Ad,Ac]at c0;have HS:=Aa (Ab V e);clear hF hP Q hk b V e;go_wp2;rw[Bw];refine AM (v:=uo #[uk #[Y (Z ⟨g,0,N⟩) p.length cap],I U 0,I U 0]) (by rw[HS.out.2,show(q++[(l,sf)]).length=q.length+1 by simp];simp[results,results207,go_sem,c0]) rfl ⟨g,cap,rfl,HS.out.1.below,λT W K t1 t2 t3=>?_⟩;rw[HS.out.2];exact HS.out.1.pg K t1 t2 t3 (λf hf=>by rw[<-HS.out.2]at hf;have:=ar.out.2.1.len f hf;omega)
end D1
namespace C2
open Go.RowKit Go.CN
open Vm (CP)
section
open Cx (Pr pz)
section
variable {s:St}
variable {i j:Nat}{y:M1}
theorem TR{x:G}{a:Int}{k:Nat}(h:tgt s x a=Z k):k<s.gs.length:=by
 unfold tgt at h;split at h
 ·cases h;omega
 ·cases h
theorem Rz(h:Inv 1000 s){x:G}(l:s.gs[i]?=Z x)(hy:s.ms[j]?=Z y)(b:y.phase=2)(m:y.g=(i:Int)+1)(ins:CP): ∃n,GD s j ins (decide (s.sc.CF=y.g))=Z n/\Inv 1000 n:=by
 have o: ∀a,∃n,Dc s j a=Z n/\Inv 1000 n:=λa=>by obtain⟨-,-,s1,-,-,-,k4,k5,-⟩:=D2 h hy b m a;exact⟨s1,k4,k5⟩
 obtain⟨D,p,hw,E,f1,f2,f3,f4⟩:=h.run hy (.inl b) m;rw[l]at p;cases p;have d:=h.th i x l;unfold GD;rw[hy];dsimp only;rw[Ai (by omega),show(y.g-1).toNat=i by omega,l];dsimp only;split
 ·obtain⟨c,A,c1,B,c3,c4,c5⟩: ∃c,Kv s 1 i 0=Z (s.CS c)/\c.Cz=s.sc.Cz/\c.CF=s.sc.CF/\c.wait=s.sc.wait/\c.G2=s.sc.G2/\c.Gq=s.sc.Gq:=by unfold Kv;rw[l];exact⟨_,rfl,rfl,rfl,rfl,rfl,rfl⟩
  rw[A];refine⟨_,rfl,Fe (h.sc c c1 B c3 c4 c5) (i:=i) (x:=x) l _ d.1.wd ⟨by simp[f1],by simp[f2]⟩ (λhm=>absurd hm f4) (λhm=>absurd hm f3) (λk z r t=>?_) ⟨d.1.congr d.1.wd rfl rfl rfl rfl,d.2⟩⟩;obtain⟨-,rfl⟩:=h.Xh hy r m t;exact⟨λ_=>hw,λF=>by omega,λ_=>rfl⟩
 ·cases C:tgt s x ins.a with
  |none=>exact o _
  |some k=>
   have r:=TR C;have q:s.gs[k]?=Z s.gs[k]:=Ae r;generalize s.gs[k]=z at q;dsimp only;split
   ·rw[q]
    exact Rf (h.UT q {z with Db:=y.g} rfl ⟨rfl,rfl,rfl,rfl,rfl⟩).1 k
   ·split
    ·rename_i g
     refine IX h hy (.inl ⟨b,λ_ e=>?_⟩);rw[m]at e;simp only[D7,Is,e,decide_true]at g;split at g
     ·cases g
     ·split at g
      ·cases g
      ·(repeat' split at g)<;>cases g
    ·split
     ·rename_i f
      have u:z.word=1\/z.word=3\/z.word=4\/z.word=5:=by
       have e:G7 s k=z.word:=by simp[G7,q]
       simp only[D7,Is,e]at f;split at f
       ·cases f
       ·split at f
        ·split at f<;>cases f
        ·split at f
         ·assumption
         ·split at f<;>cases f
      obtain⟨s1,k1,k2,k3⟩:=aM h q u;rw[k1];obtain⟨H,v,w⟩:=k3.ms j y hy (by omega);obtain⟨-,-,s2,-,-,-,k4,k5,-⟩:=D2 k2 v ((Aq MC.phase w).trans b) ((Aq MC.g w).trans m) 1;exact⟨s2,k4,k5⟩
     ·exact o _
theorem TS(h:Inv 1000 s){x:G}{ins:CP}(o:s.gs[i]?=Z x)(hy:s.ms[j]?=Z y)(a:y.phase=2)(w:y.g=(i:Int)+1)(g:Fh s x=Z ins): ∃n b,Ig s j i ins=Z (n,b)/\Inv 1000 b/\ ∃f:M1,b.ms[j]?=Z f/\f.phase=2/\f.g=y.g:=by
 obtain⟨K,l,hw,C,f1,f2,f3,f4⟩:=h.run hy (.inl a) w;rw[o]at l;cases l;have q:y.p= -1\/(0<=y.p/\y.p<s.rings.length):=by obtain⟨-,-,-,-,a5,-⟩:=h.base.mp j _ (CG hy);obtain⟨p,e,D,-⟩:=a5 (by simp only[mc];omega) (by simp only[mc];omega);simp only[mc]at e;have:p<s.rings.length:=D;omega
 have E: ∀b:St,Kp s b-> ∃f:M1,b.ms[j]?=Z f/\f.phase=2/\f.g=y.g:=λb k=>by obtain⟨m,c,d⟩:=k.ms j y hy (by omega);exact⟨m,c,(Aq MC.phase d).trans a,Aq MC.g d⟩
 unfold Ig;rw[hy,o];dsimp only;split
 ·rename_i r
  split
  ·exact⟨_,_,rfl,h,y,hy,a,rfl⟩
  ·have t:=h.base.G2
   have z:s.gs.length<64:=by simp only[core]at t;omega
   rw[Ai z];obtain⟨A,B,-,-,-,u,-⟩:=Tt h.DL rfl (h.th i x o).1 C 0;rw[g]at B;cases B;obtain⟨F,H⟩:=aL h z ins.n (rg x ins.a.toNat) (u r);obtain⟨b,k1,k2,k3⟩:=Fs F H y.p q tZ;rw[k1];obtain⟨m,c,d⟩:=k3.ms j y hy (by omega);exact⟨_,_,rfl,k2,m,c,(Aq MC.phase d).trans a,Aq MC.g d⟩
 ·split
  ·obtain⟨n,b,k1,k2,k3⟩:=Xo h y.p q (tgt s x ins.a) (λk v=>TR v)
   exact⟨n,b,k1,k2,E b k3⟩
  ·split
   ·obtain⟨n,b,k1,k2,k3⟩:=TB h y.p q (tgt s x ins.a) (λk v=>TR v)
    obtain⟨m,c,d⟩:=k3 j y hy (by omega);exact⟨n,b,k1,k2,m,c,(Aq MC.phase d).trans a,Aq MC.g d⟩
   ·split
    ·exact TD h hy a w _
    ·split<;>exact⟨_,_,rfl,h,y,hy,a,rfl⟩
theorem TT(h:Inv 1000 s){x:G}{ins:CP}(f:s.gs[i]?=Z x)(hy:s.ms[j]?=Z y)(a:y.phase=2)(c:y.g=(i:Int)+1)(b:Fh s x=Z ins): ∃g,Yg s j ins=Z g/\Inv 1000 g:=by
 have l: ∃g,Dc s j 0=Z g/\Inv 1000 g:=by obtain⟨-,-,s1,-,-,-,k4,k5,-⟩:=D2 h hy a c 0;exact⟨s1,k4,k5⟩
 have d:ins.op≠14->ins.op≠8->ins.op≠9-> ∃s1 e,Dc s j 0=Z s1/\Inv 1000 s1/\s1.ms[j]?=Z e/\e.phase=2/\e.g=y.g/\s1.sc.CF=s.sc.CF:=λq r t=>by obtain⟨v,o,s1,k1,k2,k3,k4,k5,k6,-⟩:=D2 h hy a c 0;rw[f]at k1;cases k1;rw[b]at k2;cases k2;obtain⟨c1,u,c3⟩:=k6 q r t;obtain⟨⟨e,m,p⟩,-⟩:=after f hy c1;exact⟨s1,e,k4,k5,m,(Aq MC.phase p).trans a,Aq MC.g p,u⟩
 unfold Yg;rw[hy];dsimp only;split
 ·split
  ·exact l
  ·rename_i k
   exact Xn h hy a c (by simpa using k) _
 split
 ·obtain⟨s1,e,k1,k2,k3,k4,k5,k6⟩:=d (by omega) (by omega) (by omega)
  rw[k1];dsimp only[Option.bind_some];split
  ·rename_i k
   obtain⟨s2,k7,k8,-⟩:=Ok k2 (i:=i) k3 k4 (by omega) (by rw[k6,k5];simpa using k);exact⟨s2,k7,k8⟩
  ·exact⟨s1,rfl,k2⟩
 split
 ·obtain⟨s1,e,k1,k2,k3,k4,k5,k6⟩:=d (by omega) (by omega) (by omega)
  rw[k1];dsimp only[Option.bind_some];split
  ·exact⟨s1,rfl,k2⟩
  ·rename_i k
   exact IX k2 k3 (.inl ⟨k4,λ_=>by rw[k6,k5];simpa using k⟩)
 split
 ·exact Xp h f hy a c b (by assumption)
 split
 ·exact gQ h f hy a c b (by assumption)
 split
 ·exact Rz h f hy a c ins
 ·rw[Ai (by omega),show(y.g-1).toNat=i by omega]
  obtain⟨n,s1,k1,k2,e,k3,k4,k5⟩:=TS h f hy a c b;rw[k1];obtain⟨-,-,s2,-,-,-,k6,k7,-⟩:=D2 k2 k3 k4 (k5.trans c) n;exact⟨s2,k6,k7⟩
theorem Lk(h:Inv 1000 s){p:Nat}(hy:s.ms[j]?=Z y)(m:p<s.rings.length): ∃c f,Ih s j p=Z c/\Inv 1000 c/\c.ms[j]?=Z f/\mc f=mc y/\c.sc=s.sc:=by
 have d:p<s.asked.length:=by have:=h.base.nb;simp[core]at this;omega
 have e:=(Af.1 hy).1;have g:s.asked[p]?=Z s.asked[p]:=Ae d;generalize s.asked[p]=a at g;obtain⟨i,-⟩:=h.Ng hy {y with CU:=tY} rfl;have hm:(s.asked.set p ⟨tY,a.Eo,a.count⟩).map (·.Eo)=s.asked.map (·.Eo):=by apply BI;intro k;simp only[Bz];grind
 obtain⟨l,-⟩:=EA (a:=s.asked.set p ⟨tY,a.Eo,a.count⟩) (b:=s.box) i hm rfl;refine⟨_,{y with CU:=tY},by unfold Ih;rw[hy,Int.toNat_natCast,g];dsimp only;rw[if_pos (by omega)];rfl,l,by dsimp only;exact List.getElem?_set_self e,rfl,rfl⟩
theorem TU{n:Nat}{l:List Bool}{pc:Int}{a p b st c sp:Bool}(h:FU.Jb n l pc a p b st c sp=1):b=true:=by
 unfold FU.Jb FU.Kg at h
 (repeat' split at h)<;>first|assumption|cases h
theorem ij(h:Inv 1000 s)(hy:s.ms[j]?=Z y)(n:y.phase=2): ∃R,O4 s j=Z R/\Inv 1000 R:=by
 obtain⟨i,C⟩: ∃i:Nat,y.g=(i:Int)+1:=by obtain⟨-,-,-,-,-,S,-⟩:=h.base.mp j _ (CG hy);obtain⟨i,z,T,-⟩:=S (by simp only[mc];omega);exact⟨i,T⟩
 obtain⟨x,B,hw,D,f1,f2,f3,f4⟩:=h.run hy (.inl n) C;obtain⟨ins,d,-,-,E,-⟩:=Tt h.DL rfl (h.th i x B).1 D 0;have w:Zm s x=Z ins:=by unfold Zm;rw[d];exact Ai E
 have F:=(Af.1 hy).1;unfold O4;rw[hy];dsimp only;rw[Ai (by omega),show(y.g-1).toNat=i by omega,B];dsimp only;rw[w];dsimp only[Option.bind_some];split
 ·exact TT h B hy n C d
 rename_i V;obtain⟨l,s1,W,X,m,c,G,H,hsc,aa,K⟩: ∃(l:M1)(s1:St),(if x.begun=tZ then{y with used:=min y.used 19}else y)=l/\(if x.begun=tZ then s.CQ j (if x.begun=tZ then{y with used:=min y.used 19}else y)else s)=s1/\Inv 1000 s1/\s1.ms[j]?=Z l/\mc l=mc y/\s1.gs=s.gs/\s1.sc=s.sc/\s1.rings=s.rings/\s1.funcs=s.funcs:=by
  cases x.begun with
  |true=>exact⟨_,_,rfl,rfl,(h.Ng hy {y with used:=min y.used 19} rfl).1,by rw[Ai rfl,Ai rfl];exact Aj F,rfl,rfl,rfl,rfl,rfl⟩
  |false=>exact⟨_,_,rfl,rfl,h,hy,rfl,rfl,rfl,rfl,rfl⟩
 rw[X,W];have o:l.g=(i:Int)+1:=(Aq MC.g G).trans C;have b:l.phase=2:=(Aq MC.phase G).trans n;have q:s1.gs[i]?=Z x:=by rw[H];exact B
 have r:s1.sc.CF≠l.g:=by rw[hsc,show l.g=y.g from Aq MC.g G];exact V
 have e:Fh s1 x=Z ins:=by unfold Fh;rw[K];exact d
 obtain⟨p,hp,L,hs⟩:=m.one c (.inr (.inr ⟨b,r⟩));have M:p<s1.asked.length:=by have:=m.base.nb;simp[core]at this;omega
 have O:s1.asked[p]?=Z s1.asked[p]:=Ae M;generalize s1.asked[p]=a at O;obtain⟨-,-,f,hf,-⟩:=(m.th i x q).1.at_;rw[hp,Ai (by omega),Am,O,hf];dsimp only;split
 ·rename_i hc
  exact Lf m O (TU hc)
 split
 ·split
  ·exact TT m q c b o e
  ·obtain⟨s2,t,k1,k2,k3,k4,k5⟩:=Lk m c L
   rw[k1];dsimp only[Option.bind_some];have ab:t.g=(i:Int)+1:=(Aq MC.g k4).trans o;have g:t.phase=2:=(Aq MC.phase k4).trans b;obtain⟨u,z,P,m1,m2,m3,m4,m5,m6,m7,-⟩:=KH k2 k3 (.inl ⟨g,λ_=>by rw[k5,show t.g=l.g from Aq MC.g k4];exact r⟩);have:u=i:=by omega
   subst this;rw[m1];dsimp only[Option.bind_some];have e5:Ia z.word 5=5:=by rw[m7 g];decide+kernel
   have e6:P.mv u 5=P.CJ u {z with word:=5}:=by simp[St.mv,m3.at_,e5]
   rw[e6];have A:=m2.th u z m3.at_;have hI:Inv 1000 (P.CJ u {z with word:=5}):=Fe m2 m3.at_ _ (by dsimp only;unfold D9.Dt;omega) ⟨by simp[m3.fl],by simp[m3.fl]⟩ (λhm=>absurd hm m3.qs) (λhm=>absurd hm m3.ws) (λk v hk Q=>absurd Q (m3.ms k v hk)) ⟨A.1.congr (by dsimp only;unfold D9.Dt;omega) rfl rfl rfl rfl,λD=>by have:=A.2 D;have:=m7 g;have:=m2.oF m3.at_;omega⟩;obtain⟨s4,k6,k7,-⟩:=Le hI u;exact⟨s4,k6,k7⟩
 split
 ·obtain⟨s2,t,k1,k2,k3,k4,k5⟩:=Lk m c L
  rw[k1];exact IX k2 k3 (.inl ⟨(Aq MC.phase k4).trans b,λ_=>by rw[k5,show t.g=l.g from Aq MC.g k4];exact r⟩)
 split
 ·obtain⟨s2,t,k1,k2,-⟩:=Lk m c L
  exact⟨s2,k1,k2⟩
 ·exact TT m q c b o e
theorem ik{i n:Int}(h:1<=n):0<=Dk i n/\Dk i n<n:=by unfold Dk;rw[Ah (by omega)];exact⟨Zbi _ (by omega),Zax _ (by omega)⟩
theorem Nu(h:Inv 1000 s)(pick EC draw:Int): ∃l,FN s pick EC draw=Z l/\Inv 1000 l:=by
 unfold FN;have d:=h.sc {s.sc with now:=wrap64 (s.sc.now+1),pick:=pick,EC:=EC,draw:=draw,kind:=0,eg:=0,Kl:=0,Km:=0,en:=0,seen:=tY} rfl rfl rfl rfl rfl;dsimp only;generalize s.CS {s.sc with now:=wrap64 (s.sc.now+1),pick:=pick,EC:=EC,draw:=draw,kind:=0,eg:=0,Kl:=0,Km:=0,en:=0,seen:=tY}=s1 at d;have hm:=d.base.m1;have g:=d.base.m2;simp only[core,A9]at hm g;have p:=ik (i:=pick) (n:=s1.ms.length) (by omega);generalize m:(Dk pick s1.ms.length).toNat=j;have e:j<s1.ms.length:=by omega
 have hy:s1.ms[j]?=Z s1.ms[j]:=Ae e;generalize s1.ms[j]=y at hy;rw[hy];dsimp only;split
 ·exact⟨s1,rfl,d⟩
 rw[Ai (by omega)];have k:(Kt s1.box j s1.sc.now).length=s1.box.length:=by unfold Kt;split<;>simp
 obtain⟨o,-⟩:=d.Ng hy {y with CU:=Iy s1.box j s1.sc.now||y.CU} rfl;obtain⟨f,-⟩:=EA (a:=s1.asked) (b:=Kt s1.box j s1.sc.now) o rfl k;have c:({s1.CQ j {y with CU:=Iy s1.box j s1.sc.now||y.CU}with asked:=s1.asked,box:=Kt s1.box j s1.sc.now}:St).ms[j]?=Z {y with CU:=Iy s1.box j s1.sc.now||y.CU}:=Aj e;split
 ·exact aE f c (by assumption)
 split
 ·exact ij f c (by assumption)
 split
 ·exact aP f c (by assumption)
 split
 ·exact gR f c (by assumption)
 split
 ·exact aO f c (by assumption)
 ·exact⟨s1,rfl,d⟩
end
end
section
open Cx (Pr pz)
theorem iq{o:List Fn}(s:W8 o){g cg cm:Int}(G:1<=g/\g<=256)(v:1<=cg/\cg<=64)(A:1<=cm/\cm<=64):Inv 1000 (G8 o g cg cm):=by
 obtain⟨n,rfl⟩: ∃n:Nat,g=((n+1:Nat):Int):=⟨(g-1).toNat,by omega⟩;have l: ∀(p:Nat)(a w:Int),p<n+1->((1,0)::tW n ((0,-1):Pr))[p]?=Z (a,w)->p=0/\a=1/\w=0\/1<=p/\a=0/\w= -1:=λp a w f d=>by
  cases p with
  |zero=>simp at d;exact .inl ⟨rfl,d.1.symm,d.2.symm⟩
  |succ p=>simp[BM]at d;exact .inr ⟨by omega,d.2.1.symm,d.2.2.symm⟩
 have c: ∀(j:Nat)(y:MC),([⟨0,0,1⟩]:List MC)[j]?=Z y->j=0/\y=⟨0,0,1⟩:=λj y hy=>by
  cases j with
  |zero=>simp at hy;exact⟨rfl,hy.symm⟩
  |succ j=>simp at hy
 have q: ∀(j:Nat)(y:GC),([⟨1,tY,tY,tY⟩]:List GC)[j]?=Z y->j=0/\y=⟨1,tY,tY,tY⟩:=λj y hy=>by
  cases j with
  |zero=>simp at hy;exact⟨rfl,hy.symm⟩
  |succ j=>simp at hy
 have t:core (G8 o ((n+1:Nat):Int) cg cm)=⟨n+1,[1],0::tW n 0,(1,0)::tW n (0,-1),[⟨1,tY,tY,tY⟩],[⟨0,0,1⟩],tW (n+1) tY,(List.range n).map λ(i:Nat)=>(i:Int)+1,[],0,[],tY,0,0,cg,cm⟩:=by simp[core,G8,Df,gc,mc,p0,r0];simp[Ring.C7]
 refine⟨⟨?_,s,λi x m=>?_,by simp[G8]⟩,?_⟩
 ·rw[t]
  refine{oA:=by simp,W9:=by dsimp only;omega,nb:=by simp,an:=by simp,ns:=by simp,sl:=by simp;omega,g1:=by simp,g2:=by simp,m1:=by simp,m2:=by simp,G2:=v.2,Gq:=A.2,qn:=by simp,qw:=λid hid=>?_,rn:=λa B=>?_,mp:=λj y hy=>?_,mu:=λj k y z C D _ _=>?_,sp:=λp a w f d=>?_,sd:=λp f r=>?_,Oi:=?_,Kb:=λp f=>?_,lE:=by simp,J2:=by simp,J1:=by simp,GL:=by simp,wn:=by simp,ww:=by simp,gw:=λi x m=>?_}
  ·simp at hid;exact⟨0,_,by simpa using hid,rfl,.inl rfl⟩
  ·simp at B;omega
  ·obtain⟨rfl,rfl⟩:=c j y hy
   exact⟨by simp,by simp,by simp,by simp,λ_ _=>⟨0,rfl,by simp,.inl rfl⟩,by simp,by simp⟩
  ·rw[(c j y C).1,(c k z D).1]
  ·rcases l p a w f d with⟨rfl,rfl,rfl⟩|⟨u,rfl,rfl⟩
   ·exact .inr ⟨by omega,by omega,0,_,rfl,rfl,rfl,by simp⟩
   ·exact .inl ⟨rfl,.inl rfl⟩
  ·simp at f r;omega
  ·exact List.pairwise_map.2 (List.nodup_range.imp λh e=>h (by omega))
  ·simp only[BL,BZ]at f
   obtain⟨i,E,rfl⟩:=f;exact⟨i+1,by simp,by dsimp only;omega,by simp[E]⟩
  ·obtain⟨rfl,rfl⟩:=q i x m
   simp[D9.Dt]
 ·have:i=0/\x=⟨1,0,0,[0,0,0,0,0,0,0,0],tY,tY,tY,tY,tY,0,[]⟩:=by
   cases i with
   |zero=>simp[G8]at m;exact⟨rfl,m.symm⟩
   |succ i=>simp[G8]at m
  obtain⟨rfl,rfl⟩:=this;exact⟨⟨rfl,.inr (.inl rfl),s.first,by simp,by simp⟩,by simp⟩
 ·rw[t]
  refine⟨λ_=>⟨rfl,λp a w f d=>?_,λj y hy=>?_⟩,λ_ b F=>?_,λj y hy u=>?_,λh=>by cases h⟩
  ·rcases l p a w f d with⟨-,rfl,-⟩|⟨-,rfl,-⟩<;>decide
  ·obtain⟨-,rfl⟩:=c j y hy;decide
  ·exact Zau F
  ·obtain⟨-,rfl⟩:=c j y hy;cases u
end
section
open Cx (Pr pz)
end
open D8 (Gf Eh Mo PG Fb)
open D3 (row rows Di)
theorem mh{op:Int}(h:(row op).name.isEmpty=tY):0<=op/\op<=23:=by
 unfold row at h;by_cases a:0<=op
 ·refine⟨a,Int.not_lt.1 λb=>?_⟩
  rw[Ai a,A0 (by show 24<=op.toNat;omega)]at h;cases h
 ·rw[Ah a]at h
  cases h
theorem bV{op:Int}(h:(row op).ends=tZ):op=6\/op=9\/op=14:=by
 have k: ∀k:Fin 24,(rows[k.val]?.getD Di).ends=tZ->k.val=6\/k.val=9\/k.val=14:=by decide
 unfold row at h;by_cases a:0<=op
 ·rw[Ai a]at h
  by_cases b:op.toNat<24
  ·have:=k ⟨op.toNat,b⟩ h
   simp only at this;omega
  ·rw[A0 (by show 24<=op.toNat;omega)]at h
   cases h
 ·rw[Ah a]at h
  cases h
theorem Pw{r k n:Int}(h:Eh r k n=tZ):Fi r:=by
 unfold Eh at h;split at h
 ·exact B8 h
 ·have:=B8 h
  subst this;exact⟨by decide,by decide⟩
theorem ir{f:Fn}{nf:Nat}{i:CP}(h:Gf i.op i.a i.b i.c i.n f.code.length nf=tZ):JJ f nf i:=by
 unfold Gf at h;simp only[AR,Za6]at h;obtain⟨⟨d,g,j,k⟩,b⟩:=h;have c:=mh d;refine⟨c.1,c.2,Pw g,Pw j,Pw k,λe=>?_,λe=>?_⟩
 ·have a:(row i.op).target=1:=by rcases e with e|e<;>rw[e]<;>rfl
  rw[a,Ah (by decide),Ah (by decide)]at b;exact B8 b
 ·have a:(row i.op).target=2:=by rcases e with e|e<;>rw[e]<;>rfl
  rw[a,Ah (by decide),Ai rfl]at b;exact B8 b
theorem mi{f:Fn}{nf:Nat}(h:PG f.code f.safe nf=tZ):oz nf f:=by
 unfold PG at h;simp only[AR,Bo]at h;obtain⟨⟨⟨⟨l,d,g⟩,b⟩,m⟩,a⟩:=h;refine⟨⟨l,d⟩,g,λi x j=>?_⟩;obtain⟨k,n⟩:=Af.1 j;have c:=Bq.1 b i (BZ.2 k);unfold Fb at c;rw[j]at c;simp only[AR]at c;refine⟨ir c.1,?_⟩;by_cases o:i+1<f.code.length
 ·exact .inr (.inr (.inr o))
 ·rw[show f.code.length-1=i by omega,j]at a
  rcases bV a with e|e|e
  ·exact .inl e
  ·exact .inr (.inl e)
  ·exact .inr (.inr (.inl e))
theorem mj{p:List (List CP×List Bool)}(h:Mo p=tZ):W8 (p.map λf=>⟨f.1,f.2⟩):=by
 unfold Mo at h;simp only[AR,Bo]at h;refine⟨by rw[A9];exact h.1.1,λk f a=>?_⟩;rw[AZ]at a;cases b:p[k]? with
 |none=>rw[b]at a;cases a
 |some g=>rw[b]at a;cases a;rw[A9];exact mi (Bq.1 h.2 g (AP b))
theorem RA: ∀(k:Nat)(l:List Int),(∀x∈l,(k:Int)<x)->k<=255->KJ k l=((List.range k).map λ(i:Nat)=>(i:Int)+1)++l
 |0,l,_,_=>rfl
 |k+1,l,h,c=>by
  have a:Idle.Iv 256 l ((k+1:Nat):Int)=((k+1:Nat):Int)::l:=by
   unfold Idle.Iv;refine Ah λe=>?_;rcases e with e|e|e
   ·omega
   ·omega
   ·have:=h _ e;omega
  show KJ k (Idle.Iv 256 l ((k+1:Nat):Int))=_;rw[a,RA k _ (λx b=>by
   rcases Be.1 b with e|e
   ·rw[e];omega
   ·have:=h x e;omega) (by omega),Cc,BP]
  simp
theorem iu(a:List Fn)(n:Nat)(cg cm:Int)(f:n+1<=256):Rp a (n+1) cg cm=G8 a ((n+1:Nat):Int) cg cm:=by
 have b:KJ (n+1-1) []=(List.range n).map λ(i:Nat)=>(i:Int)+1:=by rw[show n+1-1=n from rfl,RA n [] (λx c=>by cases c) (by omega),BW]
 have d:Ro (n+1)=(1,0)::tW n (0,-1):=by unfold Ro Cx.Mh Cx.Dn;rw[Ah (λe=>by have:=e.2;revert this;decide),Ai ⟨by decide,by simp⟩];rfl
 unfold Rp;rw[b,d];rfl
end C2
namespace Qv
section
variable {W W':rO}{wb:Nat}{c:List Nat}{wo:Int}{lv:tR}
theorem iv(x:Nat)(r:List Nat)(g cap:Nat)(w:rO)(h: ∀j,j<r.length+1->w.cell? ⟨g,j,N⟩=Z (I U ((((x::r)[j]?.getD 0:Nat)):Int))) (q:g<w.heap.size) (l:r.length<1000):tT prog 137 #[Y (Z ⟨g,0,N⟩) (r.length+1) cap] w λe s=>e=ui (I U ((r.foldl max x:Nat):Int))/\s=w:=by
 have c0:=h 0 (by omega);simp only[Ac,AW]at c0;have H:=Aa (Ab h (Ab q l));clear h l;obtain⟨n,d⟩: ∃n,r.length=n:=⟨_,rfl⟩;have b:=Aa d;rw[d];clear d;have d1:decide ((n:Int)+1<1)=false:=by simp;omega
 go_enter func137,ntmps137;go_wp2;go_loopw [3,4] (λt3 t4 wr=> ∃k:Nat,k<=n/\t4=I U ((k:Int)+1)/\t3=I U (((r.take k).foldl max x:Nat):Int)/\wr=w) (λ_ t _=>n+1-(intOf t).toNat)
 case atStart=>exact⟨0,Ap _,rfl,rfl,rfl⟩
 case round=>
  obtain⟨k,f,rfl,rfl,rfl⟩:=hrel;by_cases a:k<n
  ·have u:(k:Int)+1<(n:Int)+1:=by omega
   have i:k+1<n+1:=by omega
   have v:=H.out.1 (k+1) (by rw[b.out];omega);rw[Ag,Ae (by rw[b.out];exact a),AW]at v;have o:(r.take (k+1)).foldl max x=max ((r.take k).foldl max x) (r[k]'(by rw[b.out];exact a)):=by rw[Bu,Ae (by rw[b.out];exact a),Za5];rfl
   have p:=Aa o;clear o;generalize r[k]'(by rw[b.out];exact a)=y at*
   generalize(r.take k).foldl max x=m at*
   have hw:wrap64 ((k:Int)+1+1)=((k+1:Nat):Int)+1:=by have:=H.out.2.2;have:=b.out;unfold wrap64;omega
   have c:=Aa i;by_cases hm:(m:Int)<(y:Int)
   ·clear a f
    have q9:max (m:Int) y=y:=by omega
    go_wp2;rw[hw];refine⟨⟨k+1,by have:=c.out;omega,rfl,by rw[p.out,Zbv (by omega)],trivial⟩,by have:=c.out;simp[intOf];omega⟩
   ·clear a f
    have q9:max (m:Int) y=m:=by omega
    go_wp2;rw[hw];refine⟨⟨k+1,by have:=c.out;omega,rfl,by rw[p.out,Nat.max_eq_left (by omega)],trivial⟩,by have:=c.out;simp[intOf];omega⟩
  ·obtain rfl:k=n:=by omega
   rw[AL (by rw[b.out];exact Al _)];clear f a;go_wp2;go_ret;exact⟨rfl,rfl⟩
structure Wt (wb:Nat) (c:List Nat) (wo:Int) (lv:tR) (W:rO):Prop where
 Dj:Cy W wb #[I U 1000,lv,I U wo,ue tY] 241
 row:W.ownsRow 0 3 1 lv c.length (c.map λn=>I U ((n:Nat):Int))
theorem Wt.off{S:Nat->Prop}(h:Wt wb c wo lv W)(k:Cw S W W')(a: ¬S wb)(b:Hs S lv):Wt wb c wo lv W':=⟨h.Dj.only k a,De h.row k b⟩
theorem Wt.go(h:Wt wb c wo lv W)(a:tS W.heap.size W W'):Wt wb c wo lv W':=⟨h.Dj.below a h.Dj.lt,CM h.row a⟩
theorem F8(w:rO):tT prog 74 #[I U 1000] w λe a=> ∃wb,e=ui (J (Z ⟨wb,0,N⟩))/\Wt wb [] 1 (Y N 0 0) a/\tS w.heap.size w a/\w.heap.size<=wb:=by have c:=Cy.new w #[I U 1000,Y N 0 0,I U 1,ue tY] 241;have b:=Aa (Ab c (Cu (tU w.heap.size w) (uj #[I U 1000,Y N 0 0,I U 1,ue tY] 241)));go_enter func74,ntmps74;go_wp2;go_ret;exact⟨w.heap.size,rfl,⟨b.out.1,AH _ _ _ _⟩,b.out.2,Al _⟩
theorem XF(w:rO)(h:Wt wb c wo lv w):tT prog 76 #[J (Z ⟨wb,0,N⟩)] w λe a=>e=ui (I U wo)/\a=w:=by have q:=h.Dj.cell 2;simp only[Ad,Ac,Ag]at q;go_enter func76,ntmps76;go_wp2;go_ret;exact⟨rfl,rfl⟩
theorem bW(w:rO)(h:Wt wb c wo lv w):tT prog 138 #[J (Z ⟨wb,0,N⟩)] w λe a=>(∃b:Bool,e=ui (ue b))/\a=w.drew:=by
 have d:=h.Dj.cell 0;have f:=h.Dj.cell 2;have g:=h.Dj.cell 3;simp only[Ad,Ac,Ag]at d f g;go_enter func138,ntmps138;go_wp2;go_region_held3(λa=>a.cell? ⟨wb,0,N⟩=Z (I U 1000)/\a.cell? ⟨wb,2,N⟩=Z (I U wo)/\a.cell? ⟨wb,3,N⟩=Z (ue tY)) (go_keep) (fail)
 all_goals
  go_wp2;go_ret;exact⟨⟨_,rfl⟩,rfl⟩
end
variable {W w:rO}{base n cap size wb:Nat}{e:uf}{xs:List tR}{TV:tR}
theorem Dv:(prog.info? 3).map (λi=>(i.zero,i.size,i.bytes))=Z (Z (I U 0),1,8):=by kernel_rfl
def ci(s:Sp)(c:List Nat)(i:Nat):List Nat:=(List.range i).map (one s c)++(c.take s.Ei.length).drop i
theorem iw(s:Sp)(c:List Nat):ci s c 0=c.take s.Ei.length:=by simp[ci]
theorem ml(s:Sp)(c:List Nat):ci s c s.Ei.length=(List.range s.Ei.length).map (one s c):=by simp[ci]
theorem bX(s:Sp)(c:List Nat)(i:Nat)(h:i<c.length)(d:i<s.Ei.length):(ci s c i)[i]?=Z (c[i]?.getD 0)/\i<(ci s c i).length/\(ci s c i).set i (one s c i)=ci s c (i+1):=by
 have b:(c.take s.Ei.length).drop i=(c[i]?.getD 0)::(c.take s.Ei.length).drop (i+1):=by rw[AQ (show i<(c.take s.Ei.length).length by rw[AY];omega),List.getElem_take,Ae h];rfl
 unfold ci;rw[b];have a:((List.range i).map (one s c)).length=i:=by simp
 refine⟨by rw[Ar (by omega),a,Bj];rfl,by simp,?_⟩;rw[Zaa _ _ (by omega),a,Bj,Bv,Cc,BP,AU];rfl
theorem bY(s:Sp)(c:List Nat)(i:Nat)(h:c.length<=i):(ci s c i).length=i/\(ci s c i++[0]).set i (one s c i)=ci s c (i+1):=by
 have a: ∀j,i<=j->(c.take s.Ei.length).drop j=[]:=λj d=>Zbq (by rw[AY];omega);unfold ci;rw[a i (Al _),a (i+1) (Bh _),BW,BW];have b:((List.range i).map (one s c)).length=i:=by simp
 refine⟨b,?_⟩;rw[Zaa _ _ (by omega),b,Bj,Bv,Cc,BP];rfl
abbrev cn (c:List Nat):List Value:=c.map λn=>I U ((n:Nat):Int)
theorem iy{a:Option Addr}(h:W.ownsRow base e 1 (.slice a n cap) n xs):n<=cap:=by
 rcases C6 h with⟨e,d⟩|⟨g,c,e,b⟩
 ·cases e;exact Al _
 ·cases e;exact b.2.2.1
theorem EW(w:rO)(v:tR)(t:uf): ∀(j:Nat)(u:tR),[v][j]?=Z u->(w.alloc (uj #[v] t)).cell? ((⟨w.heap.size,0,N⟩:Addr).add j)=Z u:=by have h:=Cy.new w #[v] t;intro j u hu;rw[show((⟨w.heap.size,0,N⟩:Addr).add j)=⟨w.heap.size,j,N⟩from by rw[AE,AJ],h.cell];simpa using hu
theorem U8(B:Nat): ∀(r:List Nat)(x:Nat),x<=B->(∀y∈r,y<=B)->r.foldl max x<=B
 | [],x,h,_=>h
 |y::r,x,h,a=>U8 B r (max x y) (by have:=a y (by simp);omega) (λz b=>a z (AO _ b))
theorem Px{g:Nat}(h:W.ownsRow base e 1 (Y (Z ⟨g,0,N⟩) n cap) n xs)(i:Nat)(d:i<n):W.cell? ⟨g,i,N⟩=Z (xs[i]?.getD undef)/\W.frozen? ⟨g,i,N⟩=tY/\g<W.heap.size:=by
 obtain⟨cs,a⟩:=D6 h (j:=g) rfl;refine⟨?_,a.free i,a.lt⟩;rcases C6 h with⟨e,f⟩|⟨k,c,e,b⟩
 ·cases e
 ·cases e;exact b.2.2.2 i (by omega)
section
variable {W0 Wa w3:rO}{g:Nat}{c:List Nat}{wo:Int}{lv v':tR}
theorem bZ{m:Nat}(h:w.ownsRow base e size (Y (Z ⟨g,0,N⟩) n cap) n xs)(hm:m<=n):w.ownsRow base e size (Y (Z ⟨g,0,N⟩) m cap) m (xs.take (m*size)):=by
 obtain⟨f,⟨i,_⟩|⟨p,d,cur,j,k,l,q,a,b,o⟩⟩:=h
 ·cases i
 ·cases j
  have c:m*size<=n*size:=Zar _ hm;exact⟨by rw[AY,f];omega,.inr ⟨g,cap,cur,rfl,k,l,by omega,a,b,by rw[<-o,Za7,Nat.min_eq_left c]⟩⟩
theorem Wt.lb(h:Wt wb c wo (Y (Z ⟨g,0,N⟩) c.length cap) W):g<W.heap.size/\g≠wb:=by refine⟨(AB h.row g rfl).2,λe=>?_⟩;obtain⟨cs,a⟩:=D6 h.row (j:=g) rfl;rw[e]at a;exact absurd (DV a h.Dj) (by decide)
structure Ko (wb:Nat) (TV:tR) (W0 W:rO) (lv:tR):Prop where
 only:Cw (λj=>j=wb\/TV.ownBlock=Z j) W0 W
 now: ∀j,lv.ownBlock=Z j->TV.ownBlock=Z j\/W0.heap.size<=j
theorem U9(a:Option Addr)(n c n2 b:Nat):(Value.slice a n c).ownBlock=(Value.slice a n2 b).ownBlock:=by cases a<;>rfl
theorem Ko.refl(wb:Nat)(lv:tR)(W:rO):Ko wb lv W W lv:=⟨Cw.refl _ _,λj a=>.inl a⟩
theorem cA{j:Nat}{c1 c:Array tR}{t:uf}(a:Cy W0 j c1 t)(d:Cy W0 wb c 241)(f:W0.ownsRow 0 3 1 TV n xs)(b:t≠241/\t≠3): ¬(j=wb\/TV.ownBlock=Z j):=by
 rintro(rfl|e)
 ·exact b.1 (DV a d)
 ·obtain⟨cs,g⟩:=D6 f e
  exact b.2 (DV a g)
theorem Ko.go(h:Ko wb TV W0 W lv){W':rO}(a:tS W.heap.size W W'):Ko wb TV W0 W' lv:=⟨h.only.below a,h.now⟩
theorem Ko.iz(h:Ko wb TV W0 W lv)(i:Nat)(u:tR):Ko wb TV W0 (W.setCell ⟨wb,i,N⟩ u) lv:=⟨h.only.set (.inr (.inl rfl)) i u,h.now⟩
theorem Ko.as{a:tR}(h:Ko wb TV W0 W lv)(e:a.ownBlock=lv.ownBlock):Ko wb TV W0 W a:=⟨h.only,λj b=>h.now j (e▸b)⟩
theorem Ko.ry(h:Ko wb TV W0 W lv)(a:lv.ownBlock=Z g)(i:Nat)(u:tR):Ko wb TV W0 (W.setCell ⟨g,i,N⟩ u) lv:=⟨h.only.set ((h.now g a).elim (λe=>.inr (.inr e)) .inl) i u,h.now⟩
theorem Ko.app{ys:List tR}(h:Ko wb TV W0 W lv)(a:Du W base e size lv n xs ys v' w3):Ko wb TV W0 w3 v':=⟨h.only.grown a.2.1 λk b=>(h.now k b).elim (λe=>.inr (.inr e)) .inl,λj c=>(a.2.2 j c).elim (h.now j) λq=>.inr (AA h.only.size q)⟩
theorem Wt.store(h:Wt wb c wo (Y (Z ⟨g,0,N⟩) c.length cap) W)(i v:Nat):Wt wb (c.set i v) wo (Y (Z ⟨g,0,N⟩) c.length cap) (W.setCell ⟨g,i,N⟩ (I U (v:Int))):=by obtain⟨b,a⟩:=h.lb;refine⟨h.Dj.setOther (λe=>a e.symm) _,?_⟩;have:=(h.row.stored i (I U (v:Int))).1;rw[AX,Bz];exact this
theorem Wt.app(h:Wt wb c wo lv W)(b:Du W 0 3 1 lv c.length (cn c) [I U 0] v' w3):Cy w3 wb #[I U 1000,lv,I U wo,ue tY] 241/\Wt wb (c++[0]) wo v' (w3.setCell ⟨wb,1,N⟩ v'):=by have K:KT [3] W w3:=KT.grown h.row b.2.1 (by simp);have a:=K.keep h.Dj (by simp);have d:=KT.set (T:=[241]) a (by simp) 1 v';refine⟨a,a.set 1 v',?_⟩;have:=d.row b.1 (by simp);rw[Au,BP];exact this
theorem Wt.cut(h:Wt wb c wo lv W)(n:Nat): ∃a b,lv= .slice a c.length b/\Wt wb (c.take n) wo (.slice a (min c.length n) b) (W.setCell ⟨wb,1,N⟩ (.slice a (min c.length n) b)):=by
 have d:(c.take n).length=min c.length n:=by rw[AY,Nat.min_comm]
 have i:=λu=>KT.set (T:=[241]) h.Dj (by simp) 1 u;rcases C6 h.row with⟨e,j⟩|⟨g,b,e,_⟩
 ·have k:c=[]:=Bl.1 j
  subst k;refine⟨N,0,e,?_⟩;simp only[AG,Nat.zero_min,List.take_nil];exact⟨h.Dj.set 1 _,AH _ _ _ _⟩
 ·refine⟨_,b,e,h.Dj.set 1 _,?_⟩
  have f:=h.row;rw[e]at f;have:=(i (Y (Z ⟨g,0,N⟩) (min c.length n) b)).row (bZ f (Nat.min_le_left c.length n)) (by simp);rw[d,List.map_take,<-d,AY];rw[Zbl]at this;have m:(cn c).take (min c.length n)=(cn c).take n:=by rw[Nat.min_comm];conv=>rhs;rw[<-Cd (l:=cn c),Za7];simp
  rw[m]at this;rw[Nat.min_comm n];exact this
theorem Wt.jH(h:Wt wb c wo lv W)(u:Int):Wt wb c u lv (W.setCell ⟨wb,2,N⟩ (I U u)):=⟨h.Dj.set 2 _,(KT.set (T:=[241]) h.Dj (by simp) 2 _).row h.row (by simp)⟩
end
theorem cB{pb pc ad:Nat}{c:List Nat}{wo:Int}{lv:tR}(f:List Bool)(x y z:Int)(h:Wt wb c wo lv w)(hp:w.ownsRow ad 4 1 (Y (Z ⟨pb,0,N⟩) f.length pc) f.length (f.map ue))(hn:0<f.length)(u:f.length<=1000)(hc: ∀i:Nat,c[i]?.getD 0<=1000000):tT prog 75 #[J (Z ⟨wb,0,N⟩),Y (Z ⟨pb,0,N⟩) f.length pc,uk #[I U x,I U y,I U z]] w λe w'=>(∃b:Bool,e=ui (ue b))/\ ∃av,Ko wb lv w w' av/\Wt wb ((List.range f.length).map (one ⟨f,Dk x f.length,Dk y 65⟩ c)) (up (max wo (Dk y 65)) ((List.range f.length).map (one ⟨f,Dk x f.length,Dk y 65⟩ c))) av w':=by
 obtain⟨s,hs⟩: ∃s:Sp,(⟨f,Dk x f.length,Dk y 65⟩:Sp)=s:=⟨_,rfl⟩;have s1:s.Ei=f:=by rw[<-hs]
 have s2:s.at_=Dk x f.length:=by rw[<-hs]
 have s3:s.dl=Dk y 65:=by rw[<-hs]
 rw[hs,<-s3];have ae:=Aa (λW=>P3.Ja x f.length W (by omega));have af:=Aa (λW=>P3.Ja y 65 W (by decide));rw[<-s2]at ae;rw[<-s3]at af;obtain⟨n,ag⟩: ∃n,f.length=n:=⟨_,rfl⟩;have R:=Aa (Ab hp (Ab hc (Ab s1 u)));rw[ag]at hn u ae⊢;have B:=Aa ag;have hb:=h.go (Cu (tU w.heap.size w) (uj #[I U x,I U y,I U z] 36));have ah:=Cy.new w #[I U x,I U y,I U z] 36;obtain⟨a,A,rfl,hcut⟩:=hb.cut n;have ab:=Aa hcut;have HH:=Aa (Ab hb ah);have C:=hb.Dj.cell 1;have u1:=hb.Dj.free 1;have b0:=ah.cell 0;simp only[Ad,Ac,Ag]at C b0;have bs:((n:Int)==0)=false:=by simp;omega
 obtain⟨m,hm⟩: ∃m,min c.length n=m:=⟨_,rfl⟩;have ba:min (c.length:Int) (n:Int)=(m:Int):=by omega
 have bb:=Aa (Ab hm u);rw[hm]at hcut;clear h hp u hc hs s1 s2 s3 hcut ag;go_enter func75,ntmps75;go_wp2;go_step3;clear hb ah;go_upto_region 5 with fail
 go_cut [7]from 18 to 22 (λc7 F=>c7=I U s.at_/\F=w.alloc (uj #[I U x,I U y,I U z] 36))
 case first=>
  go_wp2_with(go_at_call 53;refine(ae.out _).mono ?_;rintro e S⟨rfl,rfl⟩)
  all_goals(go_meet;exact⟨rfl,rfl⟩)
 case rest=>
 obtain⟨rfl,rfl⟩:=hcut;go_wp2_with fail;go_upto_region 6 with fail
 go_cut []from 23 to 38 (λF=>Wt wb (c.take n) wo (.slice a m A) F/\Ko wb (.slice a c.length A) (w.alloc (uj #[I U x,I U y,I U z] 36)) F (.slice a m A))
 case first=>
  have T:c.length<=A:=iy HH.out.1.row;have q:=ab.out;rw[hm]at q;have qq:=q.go (tU _ _).drew;have qk:Ko wb (.slice a c.length A) (w.alloc (uj #[I U x,I U y,I U z] 36)) _ (.slice a m A):=(((Ko.refl wb (.slice a c.length A) (w.alloc (uj #[I U x,I U y,I U z] 36))).iz 1 (.slice a m A)).go (tU _ _).drew).as (U9 _ _ _ _ _);have l:=Aa (Ab qq qk);clear q qq qk;by_cases bt:n<c.length
  ·have h2:(n:Int)<=(A:Int):=by omega
   obtain rfl:m=n:=by omega
   go_region_law(fail)
   all_goals go_wp2
   all_goals go_meet
   all_goals exact l.out
  ·have h2:(c.length:Int)<=(A:Int):=by omega
   obtain rfl:m=c.length:=by omega
   go_region_law(fail)
   all_goals go_wp2
   all_goals go_meet
   all_goals exact l.out
 case rest=>
 have HS:=Aa hcut;clear hcut C u1 ba hm bb ab;have u:=R.out.2.2.2;rw[B.out]at u;go_wp2;go_step3;go_wp2;go_loopw [41] (λt41 wr=> ∃i:Nat,i<=n/\t41=I U (i:Int)/\ ∃lv,Wt wb (ci s c i) wo lv wr/\Ko wb (.slice a c.length A) (w.alloc (uj #[I U x,I U y,I U z] 36)) wr lv) (λt _=>n-(intOf t).toNat)
 case atStart=>refine⟨0,Ap _,rfl,.slice a m A,?_,HS.out.2⟩;have:=HS.out.1;rw[iw,R.out.2.2.1,B.out];exact this
 case round=>
  obtain⟨i,hi,rfl,lv,k,G⟩:=hrel;by_cases O:i<n
  ·have ai:=CM R.out.1 (Cu (tU w.heap.size w) (uj #[I U x,I U y,I U z] 36))
   have aj:=Px (De ai G.only (λj hj hs=>by obtain⟨cs,bc⟩:=D6 ai hj;exact cA bc HH.out.1.Dj HH.out.1.row (by decide) hs)) i (by rw[B.out];exact O);clear ai;obtain⟨L,hL⟩: ∃L,(ci s c i).length=L:=⟨_,rfl⟩;have bd:(L=i/\c.length<=i)\/(i<L/\i<c.length):=by
    by_cases h:i<c.length
    ·exact .inr ⟨by have:=(bX s c i h (by rw[R.out.2.2.1,B.out];exact O)).2.1;omega,h⟩
    ·exact .inl ⟨by rw[<-hL];exact(bY s c i (by omega)).1,by omega⟩
   obtain⟨p,hp⟩: ∃p,f[i]?.getD tY=p:=⟨_,rfl⟩;have d:one s c i=if p||s.at_==i then 0 else c[i]?.getD 0+1:=by unfold one;rw[R.out.2.2.1,hp]
   have aw:(List.map ue f)[i]?.getD undef=ue p:=by
    rw[AZ];have:i<f.length:=by rw[B.out];exact O
    rw[Ae this]at hp⊢;simpa using hp
   rw[aw]at aj;obtain⟨aj,-⟩:=aj;have S:=k.Dj.cell 1;simp only[Ad,Ac,Ag]at S;have bf:=DD k.row;obtain⟨la,lc,rfl⟩:=bf;rw[hL]at S;have V:=Aa (Ab k (Ab G (Ab d (Ab hL bd))));have bg:(i:Int)<(n:Int):=by omega
   clear k G d aw hp O hi hL;obtain⟨bq,ak⟩: ∃bq:Bool,((i:Int)==(L:Int))=bq:=⟨_,rfl⟩;have l:=Aa ak;go_upto_if 52 with fail
   go_cut []from 53 to 61 (λF=> ∃lv E,Wt wb E wo lv F/\Ko wb (.slice a c.length A) (w.alloc (uj #[I U x,I U y,I U z] 36)) F lv/\i<E.length/\E[i]?=Z (c[i]?.getD 0)/\E.set i (one s c i)=ci s c (i+1))
   case first=>
    clear ak;cases bq
    ·go_wp2
     go_meet
     have ao:i<L:=by
      have:=l.out;rcases V.out.2.2.2.2 with⟨h,-⟩|⟨h,-⟩
      ·rw[h]at this;simp at this
      ·exact h
     obtain⟨a1,a2,a3⟩:=bX s c i (by rcases V.out.2.2.2.2 with⟨h,-⟩|⟨-,h⟩<;>omega) (by rw[R.out.2.2.1,B.out];omega);exact⟨_,_,V.out.1,V.out.2.1,a2,a1,a3⟩
    ·have ao:L=i:=by have:=l.out;simp at this;omega
     obtain⟨a1,a2⟩:=bY s c i (by rcases V.out.2.2.2.2 with⟨-,h⟩|⟨h,-⟩<;>omega);have aq:tS wr.heap.size wr (wr.alloc (uj #[I U 0] 3)):=Cu (tU _ _) _;have b1:=V.out.1.go aq;rw[a1]at b1;have b2:=b1.row;rw[a1]at b2;have HA:=Aa (Ab a2 (Ab a1 (Ab b1 (Ab b2 (V.out.2.1.go aq)))));have ax:c[i]?.getD 0=0:=by
      rcases V.out.2.2.2.2 with⟨-,h⟩|⟨h,-⟩
      ·rw[A0 h];rfl
      ·omega
     have bh:=Aa ax;have HI:=Aa u;rw[ao]at S;clear a1 a2 b1 b2 aq ax ao;go_wp2_with(at_builtin;refine Iu underlying22 Dv rfl (by decide) (by decide) 0 _ rfl _ _ rfl (.slice la i lc) i (cn (ci s c i)) ⟨wr.heap.size,0,N⟩ 1 [I U 0] rfl rfl (.inl HA.out.2.2.2.1) rfl (EW _ _ _) (by simp[Value.oneCell']) (Ap _) (by have:=HI.out;omega) ?_;intro v' w5 hA;obtain⟨g5,bj,rfl⟩:=hA.some;obtain⟨k1,k2⟩:=Wt.app HA.out.2.2.1 (by rw[HA.out.2.1];exact hA);have k5:=((HA.out.2.2.2.2.as (U9 la i lc _ _)).app hA).iz 1 (Y (Z ⟨g5,0,N⟩) (i+1) bj);have k3:=k1.cell 1;have k4:=k1.free 1;simp only[Ad,Ac,Ag]at k3;have HK:=Aa (Ab k2 k5);clear k1 k2 k5 hA);go_meet
     refine⟨_,_,HK.out.1,HK.out.2,by rw[Au,HA.out.2.1];simp,?_,HA.out.1⟩;rw[bh.out,Ar (by rw[HA.out.2.1];exact Al _),HA.out.2.1,Bj];rfl
   case rest=>
    obtain⟨lv,E,C,q2,q3,q4,q5⟩:=hcut;obtain⟨g,X,cur,rfl,ay,az,bk⟩:=Et C.row (by omega);have e1:=C.Dj.cell 1;simp only[Ad,Ac,Ag]at e1;obtain⟨e2,e3,e4⟩:=Px C.row i q3;rw[show(cn E)[i]?.getD undef=I U ((c[i]?.getD 0:Nat):Int) by unfold cn;rw[AZ,q4];rfl]at e2;have aa:=R.out.2.1 i;obtain⟨v,hv⟩: ∃v,c[i]?.getD 0=v:=⟨_,rfl⟩;rw[hv]at aa e2;obtain⟨L2,ar⟩: ∃L2,E.length=L2:=⟨_,rfl⟩;rw[ar]at e1 q3;have l:=Aa (Ab C (Ab q2 (Ab ar (Ab hv (Ab q5 (Ab ay az))))));have bu:(i:Int)<(L2:Int):=by omega
    have a6: ∀o:Nat,one s c i=o->Wt wb (ci s c (i+1)) wo (Y (Z ⟨g,0,N⟩) L2 X) (wc.setCell ⟨g,i,N⟩ (I U (o:Int)))/\Ko wb (.slice a c.length A) (w.alloc (uj #[I U x,I U y,I U z] 36)) (wc.setCell ⟨g,i,N⟩ (I U (o:Int))) (Y (Z ⟨g,0,N⟩) L2 X):=λo K=>by have:=l.out.1.store i o;rw[l.out.2.2.1,<-K,l.out.2.2.2.2.1]at this;rw[K]at this;exact⟨this,(l.out.2.1.ry rfl i _).as rfl⟩
    have HT:=Aa a6;have d:=V.out.2.2.1;rw[hv]at d;clear C q2 q4 q5 hv ar ay az bk ak a6;have H:=Aa bg;cases p
    ·by_cases ha:s.at_=(i:Int)
     ·have hb:((i:Int)==s.at_)=true:=by rw[ha];simp
      have K:=HT.out 0 (by rw[d,ha];simp);have HO:=Aa K;clear K d ha;go_wp2;exact⟨⟨i+1,by have:=H.out;omega,rfl,_,HO.out⟩,by have:=H.out;simp[intOf];omega⟩
     ·have hb:((i:Int)==s.at_)=false:=by simp;omega
      have K:=HT.out (v+1) (by rw[d];simp[ha]);rw[show((v+1:Nat):Int)=(v:Int)+1 from rfl]at K;have HO:=Aa K;clear K d ha;go_wp2;exact⟨⟨i+1,by have:=H.out;omega,rfl,_,HO.out⟩,by have:=H.out;simp[intOf];omega⟩
    ·have K:=HT.out 0 (by rw[d];rfl)
     have HO:=Aa K;clear K d;go_wp2;exact⟨⟨i+1,by have:=H.out;omega,rfl,_,HO.out⟩,by have:=H.out;simp[intOf];omega⟩
  ·obtain rfl:i=n:=by omega
   have e:ci s c i=(List.range i).map (one s c):=by have:=ml s c;rwa [R.out.2.2.1,B.out]at this
   rw[e]at k;clear e O hi;obtain⟨E,P⟩: ∃E,(List.range i).map (one s c)=E:=⟨_,rfl⟩;have T:E.length=i:=by rw[<-P];simp
   have aa: ∀x∈E,x<=1000001:=by rw[<-P];intro x hx;obtain⟨j,-,rfl⟩:=BL.1 hx;unfold one;have:=R.out.2.1 j;split<;>omega
   rw[P]at k;obtain⟨D,r,rfl⟩: ∃D r,E=D::r:=by cases E with
    |nil=>simp at T;omega
    |cons D r=>exact⟨D,r,rfl⟩
   have bm:=Aa P;have hB:=HH.out.2.only G.only (cA HH.out.2 HH.out.1.Dj HH.out.1.row (by decide));have bn:=Aa G;have HE:=Aa (Ab k (Ab hB (Ab T (Ab aa u))));have d1:=hB.cell 1;have e2:=k.Dj.cell 2;have bo:=k.Dj.free 2;simp only[Ad,Ac,Ag]at d1 e2;clear k hB T aa u G P;go_wp2;go_cut []from 84 to 94 (λF=>Wt wb (D::r) (max wo s.dl) lv F/\Ko wb (.slice a c.length A) (w.alloc (uj #[I U x,I U y,I U z] 36)) F lv)
   case first=>
    have C:=Ab ((HE.out.1.jH (max wo s.dl)).go (tU _ _).drew) ((bn.out.iz 2 (I U (max wo s.dl))).go (tU _ _).drew);have l:=Aa C;clear C;by_cases hmx:wo<s.dl
    ·have hm:max wo s.dl=s.dl:=by omega
     rw[hm]at l;have HM:=Aa hm;clear hm;go_region_law(first|(go_simp;go_wp2_with(go_at_call 53;refine(af.out _).mono ?_;rintro e S⟨rfl,rfl⟩)))
     all_goals go_wp2
     all_goals go_meet
     all_goals(rw[HM.out];exact l.out)
    ·have hm:max wo s.dl=wo:=by omega
     rw[hm]at l;have HM:=Aa hm;clear hm;go_region_law(first|(go_simp;go_wp2_with(go_at_call 53;refine(af.out _).mono ?_;rintro e S⟨rfl,rfl⟩)))
     all_goals go_wp2
     all_goals go_meet
     all_goals(rw[HM.out];exact l.out)
   case rest=>
   obtain⟨gl,gc,rfl⟩: ∃gl gc,lv=Y (Z ⟨gl,0,N⟩) i gc:=by obtain⟨g,X,cur,e,-⟩:=Et HE.out.1.row (by simp);exact⟨g,X,by rw[e,HE.out.2.2.1]⟩
   have f1:=hcut.1.Dj.cell 1;have f2:=hcut.1.Dj.cell 2;have bp:=hcut.1.Dj.free 2;simp only[Ad,Ac,Ag]at f1 f2;have HF:=Aa hcut.1;have br:=Aa hcut.2;clear hcut d1 e2 bo;obtain⟨M,hM⟩: ∃M,r.foldl max D=M:=⟨_,rfl⟩;have bw:M<=1000001:=by rw[<-hM];exact U8 _ r D (HE.out.2.2.2.1 D (by simp)) (λy hy=>HE.out.2.2.2.1 y (AO _ hy))
   have hmx: ∀W,tS wc.heap.size wc W->tT prog 137 #[Y (Z ⟨gl,0,N⟩) i gc] W λe w'=>e=ui (I U (M:Int))/\w'=W:=λW hB=>by
    have qr:=(HF.out.go hB).row;have hl:=HE.out.2.2.1;rw[hl]at qr;simp only[Av]at hl;have:=iv D r gl gc W (λj hj=>by
     have:=(Px qr j (by omega)).1;rw[this,AZ];have:j<(D::r).length:=by simpa using hj
     rw[Ae this];rfl) (Px qr 0 (by omega)).2.2 (by have:=HE.out.2.2.2.2;omega)
    rw[hl,hM]at this;exact this
   have a7:=Aa hmx;obtain⟨Q,au⟩: ∃Q:Int,max wo s.dl=Q:=⟨_,rfl⟩;have a8:up Q (D::r)=max Q ((M:Int)+1):=by rw[ko,hM]
   rw[au]at f2 HF;have HU:=Aa (Ab a8 au);clear hM hmx a8 au;go_wp2;go_cut []from 101 to 114 (λF=>Wt wb (D::r) (up Q (D::r)) (Y (Z ⟨gl,0,N⟩) i gc) F/\Ko wb (.slice a c.length A) (w.alloc (uj #[I U x,I U y,I U z] 36)) F (Y (Z ⟨gl,0,N⟩) i gc))
   case first=>
    have C:=Ab ((HF.out.jH (up Q (D::r))).go (tU _ _).drew) ((br.out.iz 2 (I U (up Q (D::r)))).go (tU _ _).drew);rw[HU.out.1]at C;have l:=Aa C;clear C;have bz:IntKind.i64.wrap ((M:Int)+1)=(M:Int)+1:=Cn _ (by omega);by_cases hmx:Q<(M:Int)+1
    ·have hm:max Q ((M:Int)+1)=(M:Int)+1:=by omega
     rw[hm]at l;have HM:=Aa hm;clear hm;go_region_law(first|(go_simp;go_wp2_with(go_at_call 137;refine(a7.out _ (by first|exact tU _ _|exact(tU _ _).drew)).mono ?_;rintro e S⟨rfl,rfl⟩)))
     all_goals go_wp2
     all_goals go_meet
     all_goals(rw[HU.out.1,HM.out];exact l.out)
    ·have hm:max Q ((M:Int)+1)=Q:=by omega
     rw[hm]at l;have HM:=Aa hm;clear hm;go_region_law(first|(go_simp;go_wp2_with(go_at_call 137;refine(a7.out _ (by first|exact tU _ _|exact(tU _ _).drew)).mono ?_;rintro e S⟨rfl,rfl⟩)))
     all_goals go_wp2
     all_goals go_meet
     all_goals(rw[HU.out.1,HM.out];exact l.out)
   case rest=>
   have HG:=Aa hcut;clear hcut f1 f2 bp;go_wp2_with(go_at_call 138;refine(bW _ HG.out.1).mono ?_;rintro e S⟨⟨b1,rfl⟩,rfl⟩);rw[Bw];go_ret;have hA:=Cu (tU w.heap.size w) (uj #[I U x,I U y,I U z] 36);have hK:=HG.out.2.go (tU _ _).drew;refine⟨⟨_,rfl⟩,Y (Z ⟨gl,0,N⟩) i gc,⟨((Cw.refl _ w).below hA).andThen hK.only (λ_ _ h=>h),λj hj=>(hK.now j hj).imp id (AA hA.size)⟩,?_⟩;rw[bm.out,HU.out.2];exact HG.out.1.go (tU _ _).drew
end Qv
namespace C2
open Go.RowKit Go.CN
open Cx (Pr pz)
open Vm (CP)
variable {a b c s s':St}{p n:Int}{j i:Nat}
def Nw(s s':St):Prop:=s'.sc.now=s.sc.now
theorem Nw.refl(s:St):Nw s s:=rfl
theorem Nw.then(h:Nw b c)(k:Nw a b):Nw a c:=h.trans k
theorem Nw.of(h:s'.sc=s.sc):Nw s s':=by unfold Nw;rw[h]
theorem Nw.sc(h:Nw b c)(d:b.sc.now=a.sc.now):Nw a c:=h.trans d
theorem KL(s:St)(i:Nat)(t:Int):(s.mv i t).sc=s.sc:=by unfold St.mv St.CJ;split<;>rfl
theorem Nv(h:Ib s p=Z s'):Nw s s':=by unfold Ib at h;unfold Nw;grind
theorem KM(h:GR s j=Z s'):s'.sc=s.sc:=by unfold GR at h;grind
theorem iA(h:JG s p j=Z s'):s'.sc=s.sc:=by unfold JG at h;grind
theorem RB{b:Bool}(h:FX s p=Z (b,s')):s'.sc=s.sc:=by
 unfold FX at h
 (repeat' split at h)<;>first|(cases h;rfl)|cases h|(simp only[AD]at h;obtain⟨a,c,d⟩:=h;cases d;have:=iA c;exact this)
theorem Py(h:Gu s j=Z s'):s'.sc=s.sc:=by unfold Gu at h;grind
theorem Pz(h:Hg s=Z s'):s'.sc=s.sc:=by
 unfold Hg at h
 (repeat' split at h)<;>grind [RB]
theorem FQ{b:Bool}(h:Ec s p i b=Z s'):s'.sc=s.sc:=by
 unfold Ec at h
 (repeat' split at h)<;>first|cases h|(have:=Pz h;simpa[St.put,KL]using this)
theorem Ll(id:Int): ∀(n k:Nat)(s s':St),Gv id n k s=Z s'->s'.sc=s.sc:=by
 intro n;induction n with
 |zero=>intro k s s' h;cases h;rfl
 |succ n b=>intro k s s' h;unfold Gv at h;(repeat' split at h)<;>first|cases h|exact b _ _ _ h|(have:=b _ _ _ h;simpa[St.CJ]using this)|(simp only[Ax]at h;obtain⟨a,c,d⟩:=h;have:=(b _ _ _ d).trans (FQ c);simpa[St.CJ]using this)
theorem Lm{q:Nat×St}(h:Gw s j=Z q):q.2.sc=s.sc:=by unfold Gw at h;grind [St.CQ]
theorem KN(h:Gx s j=Z s'):s'.sc=s.sc:=by unfold Gx at h;simp only[Ax]at h;obtain⟨q,a,b⟩:=h;exact(FQ b).trans (Lm a)
theorem TW(h:Gy s j i=Z s'):s'.sc=s.sc:=by
 unfold Gy at h
 (repeat' split at h)<;>first|cases h;rfl|cases h|(have:=Ll _ _ _ _ _ h;simpa[KL]using this)|(have:=Pz h;simpa[St.CQ,KL]using this)
theorem cC(p:Nat): ∀(l:List Int)(s s':St)(n:Int),E8 p l s=Z (n,s')->s'.sc=s.sc:=by
 intro l;induction l with
 |nil=>intro s s' n h;cases h;rfl
 |cons q r a=>
  intro s s' n h;unfold E8 at h;split at h
  ·dsimp only at h
   split at h
   ·have:=a _ _ _ h;exact this
   ·cases h;rfl
  ·cases h
theorem XG{p:Nat}{a:Int}(h:G4 s p a=Z (n,s')):s'.sc=s.sc:=by
 unfold G4 at h;split at h
 ·cases h;rfl
 ·dsimp only at h
  split at h
  ·cases h;rfl
  ·have:=cC _ _ _ _ _ h;exact this
theorem RC(h:G5 s j=Z (n,s')):s'.sc=s.sc:=by
 unfold G5 at h
 (repeat' split at h)<;>first|cases h;rfl|cases h|(have:=XG h;exact this)
theorem iB(h:Ku s j=Z s'):Nw s s':=by
 unfold Ku at h
 (repeat' split at h)<;>first|cases h|exact Nv h|(have:=Py h;exact(Aq Sc.now this).trans rfl)|skip
 ·rename_i a _;have:=Py h;have k:=RC a;exact .of (this.trans k)
 ·rename_i a _ _;have:=TW h;have k:=RC a;exact .of (this.trans k)
theorem Ox(j:Nat): ∀(n k:Nat)(s s':St),Gz j n k s=Z s'->s'.sc=s.sc:=by
 intro n;induction n with
 |zero=>intro k s s' h;cases h;rfl
 |succ n b=>intro k s s' h;unfold Gz at h;(repeat' split at h)<;>first|cases h|exact b _ _ _ h|(simp only[Ax]at h;obtain⟨a,c,d⟩:=h;exact(b _ _ _ d).trans (KM c))
theorem XH(j:Nat): ∀(n k:Nat)(s s':St),E9 j n k s=Z s'->Nw s s':=by
 intro n;induction n with
 |zero=>intro k s s' h;cases h;exact .refl _
 |succ n b=>
  intro k s s' h;unfold E9 at h;dsimp only at h
  (repeat' split at h)<;>first|cases h|(have:=b _ _ _ h;exact this.sc rfl)|(obtain⟨a,c,d⟩:=Ax.1 h;have e:=KM c;exact(b _ _ _ d).sc (by rw[e];rfl))
theorem cD(j:Nat): ∀(n k:Nat)(s s':St),IM j n k s=Z s'->Nw s s':=by
 intro n;induction n with
 |zero=>intro k s s' h;cases h;exact .refl _
 |succ n b=>
  intro k s s' h;unfold IM at h
  (repeat' split at h)<;>first|cases h|(have:=b _ _ _ h;exact this.sc rfl)|(obtain⟨a,c,d⟩:=Ax.1 h;have e:=KM c;exact(b _ _ _ d).sc (by rw[e]))
theorem TX{k:Int}(h:Kv s k i n=Z s'):Nw s s':=by unfold Kv at h;unfold Nw;grind [St.CS]
theorem cE{op:Int}(h:Ic s j op=Z s'):Nw s s':=by
 unfold Ic at h;split at h
 ·cases h
 split at h
 ·split at h
  ·cases h
  dsimp only at h;split at h
  ·obtain⟨a,c,b⟩:=Ax.1 h
   have d:a.sc.now=s.sc.now:=by have:=TX c;exact this
   split at b
   ·unfold N5 at b
    split at b
    ·cases b
    ·exact(cD _ _ _ _ _ b).sc d
   ·unfold K1 at b
    split at b
    ·cases b
    ·exact(XH _ _ _ _ _ b).sc d
  ·obtain⟨q,c,rfl⟩:=AD.1 h
   have:=Lm c;exact .of ((KL _ _ _).trans this)
 ·cases h
theorem Lo(h:EM s i=Z s'):s'.sc=s.sc:=by
 unfold EM at h;dsimp only at h
 (repeat' split at h)<;>first|cases h;rfl|cases h|(have:=FQ h;exact this)
theorem mm: ∀(l:List Int)(s s':St),fz l s=Z s'->s'.sc=s.sc:=by
 intro l;induction l with
 |nil=>intro s s' h;cases h;rfl
 |cons p r c=>intro s s' h;unfold fz at h;simp only[Ax]at h;obtain⟨⟨b,a⟩,d,e⟩:=h;have k:=RB d;exact(c _ _ e).trans k
theorem cG: ∀(l:List Int)(s s':St),JH l s=Z s'->s'.sc=s.sc:=by
 intro l;induction l with
 |nil=>intro s s' h;cases h;rfl
 |cons p r a=>intro s s' h;unfold JH at h;split at h;have:=a _ _ h;exact this;cases h
theorem RD(h:G6 s j=Z s'):Nw s s':=by
 unfold G6 at h;dsimp only at h
 (repeat' split at h)<;>first|cases h|skip
 simp only[Ax]at h;obtain⟨a,d,b,e,h⟩:=h;have f:=(cG _ _ _ e).trans (mm _ _ _ d);split at h
 ·cases h
 ·simp only[Ax]at h
  obtain⟨c,g,i⟩:=h;have k:=(Pz i).trans (Lo g);have l:s'.sc={s.sc with CF:=0,Cz:=tY}:=k.trans f;unfold Nw;rw[l]
theorem DU(h:Dc s j n=Z s'):Nw s s':=by
 unfold Dc at h;split at h
 ·cases h
 split at h
 ·dsimp only at h
  split at h
  ·cases h
  obtain⟨ins,-,h⟩:=Ax.1 h;obtain⟨r,-,h⟩:=Ax.1 h;obtain⟨s1,e,h⟩:=Ax.1 h;obtain⟨f,a,h⟩:=Ax.1 h;have d:s1.sc.now=s.sc.now:=by have:=TX e;exact this
  have b:f.sc.now=s.sc.now:=by
   split at a
   ·rw[KM a];exact d
   ·cases a;exact d
  split at h
  ·obtain⟨i,c,h⟩:=Ax.1 h
   obtain⟨q,g,rfl⟩:=AD.1 h;unfold Nw;rw[KL,Lm g];split at c
   ·exact(RD c).sc b
   ·cases c;exact b
  ·cases h;exact b
 ·cases h
theorem iC{k:Nat}(h:JI s k=Z s'):s'.sc=s.sc:=by
 unfold JI at h;split at h
 ·obtain⟨a,c,b⟩:=Ax.1 h
  have d:=Ll _ _ _ _ _ c;unfold UH at b;split at b
  ·split at b
   ·have key: ∀(t:St),t.sc=a.sc->MV k t=Z s'->s'.sc=a.sc:=λt e h=>by
     unfold MV at h
     (repeat' split at h)<;>first|(cases h;exact e)|cases h|(rw[Lo h];exact e)
    refine(key _ ?_ b).trans d;split<;>rfl
   ·cases b
  ·cases b
 ·cases h
theorem XI{ins:CP}(h:Ig s j i ins=Z (n,s')):s'.sc=s.sc:=by
 unfold Ig at h;split at h
 ·split at h
  ·split at h
   ·cases h;rfl
   ·split at h
    ·obtain⟨a,b,c⟩:=AD.1 h
     cases c;have:=FQ b;exact this
    ·cases h
  split at h
  ·unfold K4 at h
   (repeat' split at h)<;>first|(cases h;rfl)|cases h|(obtain⟨a,b,c⟩:=AD.1 h;cases c;have:=FQ b;exact this)|skip
   all_goals(dsimp only at h;(repeat' split at h)<;>first|(cases h;rfl)|cases h|(obtain⟨a,b,c⟩:=Option.map_eq_some_iff.1 h;cases c;have:=FQ b;exact this))
  split at h
  ·unfold Jg at h
   (repeat' split at h)<;>first|(cases h;rfl)|cases h|skip
   all_goals(dsimp only at h;(repeat' split at h)<;>first|(cases h;rfl)|cases h|(obtain⟨a,b,c⟩:=Option.map_eq_some_iff.1 h;cases c;have:=FQ b;exact this))
  split at h
  ·unfold FB at h
   (repeat' split at h)<;>first|(cases h;rfl)|cases h|skip
   all_goals(dsimp only at h;(repeat' split at h)<;>first|(cases h;rfl)|cases h)
  split at h
  ·cases h;rfl
  ·cases h;rfl
 ·cases h
theorem RE(g:Int): ∀(n k:Nat)(s s':St),Eu g n k s=Z s'->s'.sc=s.sc:=by
 intro n;induction n with
 |zero=>intro k s s' h;cases h;rfl
 |succ n b=>intro k s s' h;unfold Eu at h;(repeat' split at h)<;>first|cases h|exact b _ _ _ h|(simp only[Ax]at h;obtain⟨a,c,d⟩:=h;exact(b _ _ _ d).trans (KM c))
theorem cH{ins:CP}(h:Yg s j ins=Z s'):Nw s s':=by
 unfold Yg at h;split at h
 ·cases h
 dsimp only at h;split at h
 ·split at h
  ·exact DU h
  ·exact cE h
 split at h
 ·obtain⟨a,b,h⟩:=Ax.1 h
  have c:=DU b;split at h
  ·exact(RD h).then c
  ·cases h;exact c
 split at h
 ·obtain⟨a,b,h⟩:=Ax.1 h
  have c:=DU b;split at h
  ·cases h;exact c
  ·exact(Nw.of (KN h)).then c
 split at h
 ·unfold JW at h
  split at h
  ·cases h
  split at h
  ·obtain⟨a,b,h⟩:=Ax.1 h
   have c:=DU b;split at h
   ·cases h;exact c
   ·split at h
    ·cases h
    split at h
    ·cases h;exact c
    ·obtain⟨q,d,rfl⟩:=AD.1 h
     unfold Nw;rw[KL,Lm d];exact c
  ·cases h
 split at h
 ·unfold SV at h
  split at h
  ·cases h
  split at h
  ·exact DU h
  split at h
  ·split at h
   ·split at h
    ·exact Nv h
    split at h
    ·exact .of (KN h)
    ·obtain⟨a,b,h⟩:=Ax.1 h
     have c:=DU b;split at h
     ·cases h
     split at h
     ·cases h;unfold Nw;simp only[St.CQ,KL];exact c
     ·cases h
   ·cases h
  ·cases h
 split at h
 ·unfold GD at h
  split at h
  ·cases h
  split at h
  ·dsimp only at h
   split at h
   ·cases h
   split at h
   ·obtain⟨q,b,rfl⟩:=AD.1 h
    have:=TX b;exact this
   ·split at h
    ·exact DU h
    split at h
    ·split at h
     ·have:=RE _ _ _ _ _ h;exact .of this
     ·cases h
    split at h
    ·exact .of (KN h)
    split at h
    ·obtain⟨q,b,h⟩:=Ax.1 h
     exact(DU h).then (.of (iC b))
    ·exact DU h
  ·cases h
 split at h
 ·obtain⟨⟨n,q⟩,b,h⟩:=Ax.1 h
  exact(DU h).then (.of (XI b))
 ·cases h
theorem Nx(h:Ih s j p=Z s'):s'.sc=s.sc:=by unfold Ih at h;grind
theorem mn(h:O4 s j=Z s'):Nw s s':=by
 unfold O4 at h;split at h
 ·cases h
 rename_i c _;split at h
 ·split at h
  ·cases h
  rename_i x _;obtain⟨ins,-,h⟩:=Ax.1 h;split at h
  ·exact cH h
  dsimp only at h;generalize hy:(if x.begun=tZ then({c with used:=min c.used 19}:M1)else c)=y at h
  have e:(if x.begun=tZ then s.CQ j y else s).sc=s.sc:=by split<;>rfl
  generalize(if x.begun=tZ then s.CQ j y else s)=s1 at h e
  refine Nw.sc (b:=s1) ?_ (by rw[e]);split at h
  ·split at h
   ·split at h
    ·exact Nv h
    split at h
    ·split at h
     ·exact cH h
     ·obtain⟨a,d,h⟩:=Ax.1 h
      obtain⟨q,f,h⟩:=Ax.1 h;have:=Ll _ _ _ _ _ h;exact .of (this.trans ((KL _ _ _).trans ((Lm f).trans (Nx d))))
    split at h
    ·obtain⟨a,d,h⟩:=Ax.1 h
     exact .of ((KN h).trans (Nx d))
    split at h
    ·exact .of (Nx h)
    ·exact cH h
   ·cases h
  ·cases h
 ·cases h
theorem RF{g:Int}(h:call2 s j g=Z s'):s'.sc=s.sc:=by
 unfold call2 at h;split at h
 ·cases h
 split at h
 ·exact KN h
 ·dsimp only at h
  split at h
  ·cases h;exact KL _ _ _
  ·cases h
theorem iD(h:Kw s j=Z s'):s'.sc=s.sc:=by
 unfold Kw at h;split at h
 ·cases h
 split at h
 ·cases h;rfl
 split at h
 ·split at h
  ·have:=RF h;exact this
  split at h
  ·have:=RF h;exact this
  ·obtain⟨q,b,h⟩:=Ax.1 h
   obtain⟨a,c,h⟩:=Ax.1 h;exact(FQ h).trans ((Py c).trans (Lm b))
 ·cases h
theorem iE{pick EC draw:Int}(h:FN s pick EC draw=Z s'):s'.sc.now=wrap64 (s.sc.now+1):=by
 have key: ∀a:St,a.sc.now=wrap64 (s.sc.now+1)->Nw a s'->s'.sc.now=wrap64 (s.sc.now+1):=λa e k=>k.trans e;unfold FN at h;dsimp only at h;split at h
 ·cases h
 split at h
 ·cases h;rfl
 split at h
 ·split at h
  ·exact key _ rfl (iB h)
  split at h
  ·exact key _ rfl (mn h)
  split at h
  ·unfold LF at h
   split at h
   ·cases h
   split at h
   ·exact key _ rfl (.of (Ox _ _ _ _ _ h))
   ·exact key _ rfl (DU h)
  split at h
  ·unfold QA at h
   split at h
   ·cases h
   split at h
   ·exact key _ rfl (.of (Ox _ _ _ _ _ h))
   split at h
   ·obtain⟨a,b,h⟩:=Ax.1 h
    exact key _ rfl ((Nw.of (Lo h)).then (DU b))
   ·cases h
  split at h
  ·exact key _ rfl (.of (iD h))
  ·cases h;rfl
 ·cases h
end C2
end Go.Proofs.YtgadhchejmlfjaaGreatDoor
