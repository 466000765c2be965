/- A part of the proof. -/
import Derived.Test.YtgadhchejmlfjaaGreatDoorA0
set_option linter.unusedVariables false
set_option maxRecDepth 20000
set_option maxHeartbeats 16000000
open Go.Value renaming int->I,pointer->J,slice->Y
open Go.IntKind renaming i64->U
open Option renaming none->N,some->Z
open Bool renaming false->tY,true->tZ
open Go renaming Calls->tT,Ending->uh,TypeId->uf,Value->tR,World->rO
open Go.Ending renaming returned->ui
open Go.Obj renaming cells->uj
open Go.RowKit renaming Below->tS
open Go.RowKit.Below renaming refl->tU
open Go.Value renaming bool->ue,ownBlock->ud,tuple->uo
open Go.World renaming setCell->tV
open Go.Proofs.Tryz Go.RowKit Go.CN
namespace Go.CN
theorem Ys(n:Nat): ∀(l:List Int),l.Nodup->(∀x∈l,0<=x/\x<n)->l.length<=n:=by
 induction n with
 |zero=>
  intro l _ h;match l with
  | []=>simp
  |x::_=>have:=h x (by simp);omega
 |succ n d=>
  intro l b h;by_cases hm:(n:Int)∈l
  ·have i:=List.length_erase_of_mem hm
   have f:=d (l.erase (n:Int)) (b.erase _) (λx a=>by obtain⟨g,c⟩:=b.mem_erase_iff.1 a;have:=h x c;omega);omega
  ·have f:=d l b (λx a=>by have:=h x a;have:x≠n:=λe=>hm (e▸a);omega)
   omega
def link:List Int->Int->Int
 | [],_=> -2
 |a::r,i=>if i=a then r.headD (-1)else link r i
theorem Me: ∀{x:List Int}{i:Int},i∉x->link x i= -2
 | [],_,_=>rfl
 |a::r,i,h=>by rw[link,Ah (λe=>h (by simp[e]))];exact Me (λhm=>h (by simp[hm]))
theorem OJ: ∀(p:List Int)(q:Int)(s:List Int),q∉p->link (p++q::s) q=s.headD (-1)
 | [],q,s,_=>by simp[link]
 |a::p,q,s,h=>by simp only[Bp,link];rw[Ah (λe=>h (by simp[e]))];exact OJ p q s (λhm=>h (by simp[hm]))
theorem Yt{x:List Int}(h: ∀y∈x,0<=y): -1<=x.headD (-1):=by
 cases x with
 |nil=>simp
 |cons a r=>have:=h a (by simp);simp;omega
theorem PV: ∀{x:List Int}{i:Int},(∀y∈x,0<=y)->i∈x-> -1<=link x i
 |a::r,i,h,hm=>by
  rw[link];split
  ·exact Yt (λy hy=>h y (by simp[hy]))
  ·rename_i b
   rcases Be.1 hm with e|hm
   ·exact absurd e b
   ·exact PV (λy hy=>h y (by simp[hy])) hm
theorem Yu{x:List Int}{i:Int}(h: ∀y∈x,0<=y):(link x i != -2)=decide (i∈x):=by
 by_cases hm:i∈x
 ·have:=PV h hm
  rw[A8 hm,bne_iff_ne];omega
 ·rw[Bi hm,Me hm];rfl
theorem MD: ∀(p:List Int)(id:Int)(r:List Int)(j:Int),j≠id->(∀p0 q,p=p0++[q]->j≠q)->link (p++r) j=link (p++id::r) j
 | [],id,r,j,d,_=>by simp only[A7,link];rw[Ah d]
 |a::p,id,r,j,d,f=>by
  simp only[Bp,link];by_cases c:j=a
  ·rw[Ai c,Ai c]
   cases p with
   |nil=>exact absurd c (f [] a rfl)
   |cons b g=>rfl
  ·rw[Ah c,Ah c]
   exact MD p id r j d (λp0 q e=>f (a::p0) q (by rw[e];rfl))
theorem PW{p:List Int}{id:Int}{r:List Int}(h:id∉p):(p++id::r).erase id=p++r:=by rw[List.erase_append_right _ h];simp
end Go.CN
namespace Go.Proofs.YtgadhchejmlfjaaGreatDoor
namespace Idle
section
variable {w w':rO}{b g m n:Nat}{x r:List Int}
def St(w:rO)(b g m:Nat)(x:List Int):Prop:=Cy w b #[I U (x.headD (-1)),Y (Z ⟨g,0,N⟩) m m,I U x.length] 205/\Dz w g m 3 (λi=>I U (link x i))/\x.Nodup/\(∀y∈x,0<=y/\y<(m:Int))/\b≠g/\m<=1024
theorem St.len(h:St w b g m x):x.length<=1024:=AA (Ys m x h.2.2.1 h.2.2.2.1) h.2.2.2.2.2
theorem St.only{S:Nat->Prop}(h:St w b g m x)(k:Cw S w w')(a: ¬S b)(c: ¬S g):St w' b g m x:=⟨h.1.only k a,h.2.1.only k c,h.2.2⟩
theorem St.below(h:St w b g m x)(a:tS w.heap.size w w'):St w' b g m x:=h.only (S:=λ_=>False) ((Cw.refl _ w).below a) (λx=>x) (λx=>x)
theorem St.drew(h:St w b g m x):St w.drew b g m x:=h
theorem St.drewN(h:St w b g m x)(n:Nat):St (w.drewN n) b g m x:=h
theorem DW(b g m:Nat)(x:List Int)(w:rO)(h:St w b g m x):tT prog 262 #[J (Z ⟨b,0,N⟩)] w λe w'=>e=ui (I U x.length)/\w=w':=by have a:=h.1.cell 2;simp at a;go_enter func262,ntmps262;go_wp2;go_ret;exact⟨rfl,rfl⟩
theorem Mf(b g m:Nat)(x:List Int)(id:Int)(w:rO)(h:St w b g m x):tT prog 111 #[J (Z ⟨b,0,N⟩),I U id] w λe w'=>e=ui (ue (decide (id∈x)))/\w=w':=by
 obtain⟨f,j,o,a,k,hm⟩:=h;have c1:=f.cell 1;simp at c1;by_cases p:id<0
 ·rw[Bi (λc=>by have:=a id c;omega)]
  have d:decide (0<=id)=false:=by simp;omega
  go_enter func111,ntmps111;go_wp2;go_ret;exact⟨rfl,rfl⟩
 ·obtain⟨n,rfl⟩:=AF (show 0<=id by omega)
  by_cases q:m<=n
  ·rw[Bi (λc=>by have:=a _ c;omega)]
   have d:decide (0<=(n:Int))=true:=by simp
   go_enter func111,ntmps111;go_wp2;go_ret;exact⟨rfl,rfl⟩
  ·have cn:=j.cell (i:=n) (by omega)
   have l:=Aa (Yu (x:=x) (i:=n) (λy hy=>(a y hy).1));rw[<-l.out];have d:decide (0<=(n:Int))=true:=by simp
   generalize link x n=y at*
   go_enter func111,ntmps111;go_wp2;go_ret;exact⟨rfl,rfl⟩
theorem PX(b g m:Nat)(w:rO)(h:St w b g m []):tT prog 189 #[J (Z ⟨b,0,N⟩)] w λe w'=>e=ui (uo #[I U 0,ue tY])/\w=w':=by have a:=h.1.cell 2;simp at a;go_enter func189,ntmps189;go_wp2;go_ret2;exact⟨rfl,rfl⟩
theorem NS(b g m:Nat)(a:Int)(x:List Int)(w:rO)(h:St w b g m (a::x)):tT prog 189 #[J (Z ⟨b,0,N⟩)] w λe w'=>e=ui (uo #[I U a,ue tZ])/\w=w':=by
 have c:=h.1.cell 2;have c0:=h.1.cell 0;have d:=h.len;simp at c0 c d;have f:(((x.length:Int)+1)==0)=false:=by rw[Az];omega
 go_enter func189,ntmps189;go_wp2;go_ret2;exact⟨rfl,rfl⟩
def GO(b g:Nat)(k:Nat):Prop:=k=b\/k=g
theorem jT(h:St w b g m x)(f:n<m)(j:(n:Int)∉x):St (((w.setCell ⟨g,n,N⟩ (I U (x.headD (-1)))).setCell ⟨b,0,N⟩ (I U n)).setCell ⟨b,2,N⟩ (I U ((x.length:Int)+1))) b g m ((n:Int)::x):=by
 obtain⟨k,l,d,o,a,hm⟩:=h;refine⟨?_,?_,BH.2 ⟨j,d⟩,?_,a,hm⟩
 ·exact(((k.setOther (c:=g) (i:=n) a (I U (x.headD (-1)))).set 0 (I U n)).set 2 (I U ((x.length:Int)+1)))
 ·refine(((l.set f (I U (x.headD (-1)))).setOther (c:=b) (i:=0) (Cb a) (I U n)).setOther (c:=b) (i:=2) (Cb a) (I U ((x.length:Int)+1))).congr λi _=>?_
  rw[link];by_cases e:i=n
  ·subst e;simp
  ·rw[Ah e,Ah (by omega)]
 ·intro y hy
  rcases Be.1 hy with rfl|hy
  ·omega
  ·exact o y hy
def Gl(b g m:Nat)(x':List Int)(r:Bool)(w:rO)(e:uh)(w':rO):Prop:=e=ui (ue r)/\St w' b g m x'/\Cw (GO b g) w w'
theorem jU(b g m:Nat)(x:List Int)(id:Int)(w:rO)(h:St w b g m x)(hid:id<0\/(m:Int)<=id\/id∈x):tT prog 48 #[J (Z ⟨b,0,N⟩),I U id] w (Gl b g m x tY w):=by
 have a:=h;have d:=Aa (Mf b g m x id w h);obtain⟨i,p,q,r,j,hm⟩:=h;have c1:=i.cell 1;simp at c1;by_cases k:id<0
 ·have f:decide (0<=id)=false:=by simp;omega
  go_enter func48,ntmps48;go_wp2;go_ret;exact⟨rfl,a,Cw.refl _ _⟩
 ·by_cases l:(m:Int)<=id
  ·have f:decide (0<=id)=true:=by simp;omega
   have c:decide (id<(m:Int))=false:=by simp;omega
   go_enter func48,ntmps48;go_wp2;go_ret;exact⟨rfl,a,Cw.refl _ _⟩
  ·have n:id∈x:=(hid.resolve_left k).resolve_left l
   have f:decide (0<=id)=true:=by simp;omega
   have c:decide (id<(m:Int))=true:=by simp;omega
   have o:=Aa (A8 n);rw[o.out]at d;go_enter func48,ntmps48;go_wp2_with(first|(go_at_call 111;refine d.out.mono ?_;rintro e w'⟨rfl,rfl⟩)|(go_at_call 110;go_in));go_ret;exact⟨rfl,a,Cw.refl _ _⟩
theorem ev(b g m n:Nat)(x:List Int)(w:rO)(h:St w b g m x)(a:n<m)(f:(n:Int)∉x):tT prog 48 #[J (Z ⟨b,0,N⟩),I U n] w (Gl b g m ((n:Int)::x) tZ w):=by
 have l:=Aa (jT h a f);have i:=Aa (Mf b g m x n w h);rw[Bi f]at i;have q:=h.len;obtain⟨c,j,r,s,d,hm⟩:=h;have c0:=c.cell 0;have c1:=c.cell 1;have o:=c.cell 2;have f0:=c.free 0;have f2:=c.free 2;have cn:=j.cell a;have fn:=j.free n;simp only[Ad,Ac,Ag]at c0 c1 o;generalize x.headD (-1)=p at*
 generalize link x n=y at*
 have k:g≠b:=Cb d;go_enter func48,ntmps48;go_wp2_with(first|(go_at_call 111;refine i.out.mono ?_;rintro e w'⟨rfl,rfl⟩)|(go_at_call 110;go_in));go_region
 go_wp2;go_ret;exact⟨rfl,l.out.drew,((((Cw.refl _ w).set (.inr (.inr rfl)) _ _).set (.inr (.inl rfl)) _ _).set (.inr (.inl rfl)) _ _).drew⟩
theorem Sv(h:St w b g m ((n:Int)::r))(j:n<m):St (((w.setCell ⟨b,0,N⟩ (I U (r.headD (-1)))).setCell ⟨g,n,N⟩ (I U (-2))).setCell ⟨b,2,N⟩ (I U r.length)) b g m r:=by
 obtain⟨k,l,e,o,a,hm⟩:=h;obtain⟨p,d⟩:=BH.1 e;refine⟨?_,?_,d,λy hy=>o y (by simp[hy]),a,hm⟩
 ·exact(((k.set 0 (I U (r.headD (-1)))).setOther (c:=g) (i:=n) a (I U (-2))).set 2 (I U r.length))
 ·refine(((l.setOther (c:=b) (i:=0) (Cb a) (I U (r.headD (-1)))).set j (I U (-2))).setOther (c:=b) (i:=2) (Cb a) (I U r.length)).congr λi _=>?_
  by_cases f:i=n
  ·subst f;rw[Ai rfl,Me p]
  ·rw[Ah f,link,Ah (by omega)]
theorem Sw{q:Nat}{p:List Int}(h:St w b g m (p++(q:Int)::(n:Int)::r))(x:n<m)(z:q<m):St (((w.setCell ⟨g,q,N⟩ (I U (r.headD (-1)))).setCell ⟨g,n,N⟩ (I U (-2))).setCell ⟨b,2,N⟩ (I U (p++(q:Int)::r).length)) b g m (p++(q:Int)::r):=by
 obtain⟨u,A,a,B,d,hm⟩:=h;have e:p++(q:Int)::(n:Int)::r=(p++[(q:Int)])++(n:Int)::r:=by simp
 have e':p++(q:Int)::r=(p++[(q:Int)])++r:=by simp
 have f:List.Sublist (p++(q:Int)::r) (p++(q:Int)::(n:Int)::r):=by apply List.Sublist.append_left;exact List.Sublist.cons_cons _ (List.sublist_cons_self _ _)
 have k:=a.sublist f;have o:(q:Int)∉p:=by intro j;have:=(Cg.1 a).2.2 _ j (q:Int) (by simp);exact this rfl
 have s:(n:Int)∉p++(q:Int)::r:=by
  rw[e]at a;have C:=(Cg.1 a).2.2;have D:=(Cg.1 a).2.1;rw[e'];intro j;rcases Br.1 j with t|t
  ·exact C _ t (n:Int) (by simp) rfl
  ·exact(BH.1 D).1 t
 refine⟨?_,?_,k,λy hy=>B y (f.subset hy),d,hm⟩
 ·have E:(p++(q:Int)::(n:Int)::r).headD (-1)=(p++(q:Int)::r).headD (-1):=by cases p<;>simp
  rw[E]at u;exact(((u.setOther (c:=g) (i:=q) d (I U (r.headD (-1)))).setOther (c:=g) (i:=n) d (I U (-2))).set 2 (I U (p++(q:Int)::r).length))
 ·refine(((A.set z (I U (r.headD (-1)))).set x (I U (-2))).setOther (c:=b) (i:=2) (Cb d) (I U (p++(q:Int)::r).length)).congr λi _=>?_
  by_cases v:i=n
  ·subst v;rw[Ai rfl,Me s]
  ·rw[Ah v]
   by_cases l:i=q
   ·subst l;rw[Ai rfl,OJ p _ _ o]
   ·rw[Ah l,e,e']
    congr 1;exact(MD (p++[(q:Int)]) n r i (by omega) (λp0 F e0=>by have:=List.append_inj_right' e0 rfl;simp at this;omega)).symm
end
theorem PY: ∀(x:List Int)(k:Nat),x.Nodup->k+1<x.length->link x (x[k]?.getD 0)=x[k+1]?.getD 0
 |a::r,0,_,h=>by
  simp only[link,Ac,AW,Ag];rw[Ai trivial];cases r with
  |nil=>simp at h
  |cons b r=>simp
 |a::r,k+1,c,h=>by
  obtain⟨d,f⟩:=BH.1 c;have g:k+1<r.length:=by simp at h;omega
  have i:k<r.length:=by omega
  simp only[Ag,link];rw[Ah (λe=>d (by rw[<-e];simp[i]))];exact PY r k f g
theorem ew(b g m:Nat)(x:List Int)(id:Int)(w:rO)(h:St w b g m x)(c:id∉x):tT prog 191 #[J (Z ⟨b,0,N⟩),I U id] w (Gl b g m x tY w):=by
 have d:=Aa h;have a:=Aa (Mf b g m x id w h);rw[Bi c]at a;go_enter func191,ntmps191;go_wp2;go_step3;go_wp2_with(go_at_call 111;refine a.out.mono ?_;rintro e w'⟨rfl,rfl⟩);try rw[Bw]
 go_ret;exact⟨rfl,d.out,Cw.refl _ _⟩
def At(b g:Nat)(x:List Int):Nat->Addr
 |0=>⟨b,0,N⟩
 |k+1=>⟨g,(x[k]?.getD 0).toNat,N⟩
theorem eA{w:rO}{b g m:Nat}{x:List Int}(h:St w b g m x)(k:Nat)(d:k<x.length):w.cell? (At b g x k)=Z (I U (x[k]?.getD 0)):=by
 obtain⟨e,f,c,i,j,hm⟩:=h;cases k with
 |zero=>
  rw[At,e.cell];cases x with
  |nil=>simp at d
  |cons a r=>simp
 |succ k=>have l:=i (x[k]?.getD 0) (by have:k<x.length:=(by omega);simp[this]);rw[At,f.cell (by omega)];rw[show(((x[k]?.getD 0).toNat:Nat):Int)=x[k]?.getD 0 by omega,PY x k c d]
theorem VA(b g m n P:Nat)(x:List Int)(w:rO)(h:St w b g m x)(hP:P<x.length)(Q:x[P]?.getD 0=n)(B: ∀k,k<P->x[k]?.getD 0≠n) (f:n<m) (u:(P=0/\ ∃r,x=(n:Int)::r)\/ ∃p q r,P=p.length+1/\q<m/\x=p++((q:Nat):Int)::(n:Int)::r):tT prog 191 #[J (Z ⟨b,0,N⟩),I U n] w (Gl b g m (x.erase n) tZ w):=by
 have v:=Aa h;have HD:=Aa u;have HA:=Aa (eA h);have R:=Aa (Mf b g m x n w h);have HX:=Aa Q;have HF:=Aa B;have C:(n:Int)∈x:=by rw[<-Q];simp[hP]
 rw[A8 C]at R;have HR:=Aa h.2.2.2.1;have c1:=h.1.cell 1;have D:=h.1.cell 2;have f0:=h.1.free 0;have f2:=h.1.free 2;have cn:=h.2.1.cell f;have S:=h.2.1.free;have fn:=S n;have T:=h.len;have i:=h.2.2.2.2.1;have V:g≠b:=Cb i;simp only[Ad,Ac,Ag]at c1 D;have E:=Aa S;go_enter func191,ntmps191;go_wp2;go_step3;go_wp2_with(go_at_call 111;refine R.out.mono ?_;rintro e w'⟨rfl,rfl⟩);go_step3;go_wp2;go_loopg [5] P (λgk t wr=> ∃k o:Nat,k<=P/\gk=P-k/\t=J (Z (At b g x k))/\wr=w.drewN o)
 case atStart=>exact⟨0,0,Ap _,rfl,rfl,rfl⟩
 case round=>
  obtain⟨k,o,hk,F,rfl,rfl⟩:=hrel;have HG:=Aa F;have c0:=HA.out k (by omega);by_cases G:k=P
  ·subst G
   rw[HX.out]at c0;rcases HD.out with⟨rfl,r,a⟩|⟨p,q,r,H,hq,a⟩
   ·have s:=v.out
    rw[a]at s;have K:Hid (link x n=r.headD (-1)):=by show _=_;rw[a,link,Ai rfl]
    have L:Hid (x.erase n=r):=by show _=_;rw[a];simp
    have hlen:x.length=r.length+1:=by rw[a];rfl
    have c:=Aa (Sv (s.drewN o) f);rw[K.out]at cn;rw[hlen]at D T;generalize r.headD (-1)=z at*
    rw[At]at c0⊢;go_wp2;go_region
    go_wp2;rw[Bw];go_ret;exact⟨rfl,by rw[L.out];exact c.out.drew,((((((Cw.refl _ w).drewN o).set (.inr (.inl rfl)) _ _).set (.inr (.inr rfl)) _ _).set (.inr (.inl rfl)) _ _)).drew⟩
   ·have s:=v.out
    rw[a]at s;have d:=s.2.2.1;have j:(n:Int)∉p++[(q:Int)]:=by
     intro M;have e:p++(q:Int)::(n:Int)::r=(p++[(q:Int)])++(n:Int)::r:=by simp
     rw[e]at d;exact(Cg.1 d).2.2 _ M (n:Int) (by simp) rfl
    have K:Hid (link x n=r.headD (-1)):=by show _=_;rw[a,show p++(q:Int)::(n:Int)::r=(p++[(q:Int)])++(n:Int)::r by simp];exact OJ _ _ _ j
    have L:Hid (x.erase n=p++(q:Int)::r):=by show _=_;rw[a,show p++(q:Int)::(n:Int)::r=(p++[(q:Int)])++(n:Int)::r by simp,PW j];simp
    have hlen:x.length=(p++(q:Int)::r).length+1:=by rw[a];simp;omega
    have c:=Aa (Sw (s.drewN o) f hq);have l:At b g x k=⟨g,q,N⟩:=by rw[H,At,a];simp
    have O:q≠n:=by rintro rfl;exact j (by simp)
    have aa:n≠q:=Cb O;have fq:=E.out q;rw[K.out]at cn;rw[hlen]at D T;rw[l]at c0⊢;generalize r.headD (-1)=z at*
    generalize p++(q:Int)::r=xx at*
    go_wp2;go_region
    go_wp2;rw[Bw];go_ret;exact⟨rfl,by rw[L.out];exact c.out.drew,((((((Cw.refl _ w).drewN o).set (.inr (.inr rfl)) _ _).set (.inr (.inr rfl)) _ _).set (.inr (.inl rfl)) _ _)).drew⟩
  ·have A:k<P:=by omega
   have i:=HF.out k A;have W:=HR.out (x[k]?.getD 0) (by have:k<x.length:=(by omega);simp[this]);obtain⟨y,X⟩:=AF W.1;rw[X]at c0 i W;have ab:((y:Int) !=(n:Int))=true:=by simp;omega
   have ae:y<m:=by omega
   have l:Hid (At b g x (k+1)=⟨g,y,N⟩):=by show _=_;rw[At,X];simp
   generalize At b g x k=ad at*
   go_wp2;go_quiet(fail)
   go_wp2;go_roundg (P-(k+1))
   case rel=>exact⟨k+1,_,by omega,rfl,by rw[l.out],World.drewN_drewN _ _ _⟩
   case measure=>have:=HG.out;omega
theorem Dv:(prog.info? 3).map (λi=>(i.zero,i.size,i.bytes))=Z (Z (I U 0),1,8):=by kernel_rfl
theorem ME(m:Nat)(hm:m<=100000)(w:rO):(Instr.makeSlice 22 (I U (m:Int)) (I U (m:Int))).run prog w= .ok (Y (Z ⟨w.heap.size,0,N⟩) m m) (w.alloc (uj (madeCells #[I U 0] m) 3)):=run_make_row' 22 3 (I U 0) 8 underlying22 Dv rfl .i64 .i64 m (by omega) (by omega) w
theorem PZ(b g m:Nat)(x:List Int)(id:Int)(w:rO)(h:St w b g m x)(f:id∈x):tT prog 191 #[J (Z ⟨b,0,N⟩),I U id] w (Gl b g m (x.erase id) tZ w):=by
 have j:=h.2.2.2.1 id f;obtain⟨n,rfl⟩:=AF j.1;obtain⟨p,r,a,d⟩:=List.append_of_mem f |> λ⟨p,r,e⟩=>(⟨p,r,e,λhm=>by have c:=h.2.2.1;rw[e]at c;exact(Cg.1 c).2.2 _ hm (n:Int) (by simp) rfl⟩: ∃p r,x=p++(n:Int)::r/\(n:Int)∉p);refine VA b g m n p.length x w h (by rw[a];simp) (by rw[a];simp) (λk i=>?_) (by omega) ?_
 ·intro e
  apply d;rw[<-e,a,Aw i];simp[i]
 ·rcases List.eq_nil_or_concat p with rfl|⟨l,q,rfl⟩
  ·exact .inl ⟨rfl,r,a⟩
  ·have o:=h.2.2.2.1 q (by rw[a];simp)
   obtain⟨s,rfl⟩:=AF o.1;exact .inr ⟨l,s,r,by simp,by omega,by rw[a];simp⟩
theorem MF(b g m:Nat)(x:List Int)(id:Int)(w:rO)(h:St w b g m x):tT prog 191 #[J (Z ⟨b,0,N⟩),I U id] w (Gl b g m (x.erase id) (decide (id∈x)) w):=by
 by_cases a:id∈x
 ·rw[A8 a];exact PZ b g m x id w h a
 ·rw[Bi a,Zao a];exact ew b g m x id w h a
def Iv(m:Nat)(x:List Int)(id:Int):List Int:=if id<0\/(m:Int)<=id\/id∈x then x else id::x
def Yv(m:Nat)(x:List Int)(id:Int):Bool:=!decide (id<0\/(m:Int)<=id\/id∈x)
theorem EK(b g m:Nat)(x:List Int)(id:Int)(w:rO)(h:St w b g m x):tT prog 48 #[J (Z ⟨b,0,N⟩),I U id] w (Gl b g m (Iv m x id) (Yv m x id) w):=by
 unfold Iv Yv;by_cases a:id<0\/(m:Int)<=id\/id∈x
 ·rw[Ai a,A8 a];exact jU b g m x id w h a
 ·rw[Ah a,Bi a]
  obtain⟨n,rfl⟩:=AF (show 0<=id by omega);exact ev b g m n x w h (by omega) (λhm=>a (.inr (.inr hm)))
def GP(b g m:Nat)(x:List Int)(w:rO)(e:uh)(w':rO):Prop:=e=ui (uo #[I U (x.headD 0),ue (!x.isEmpty)])/\St w' b g m x.tail/\Cw (GO b g) w w'
theorem F9(b g m:Nat)(x:List Int)(w:rO)(h:St w b g m x):tT prog 334 #[J (Z ⟨b,0,N⟩)] w (GP b g m x w):=by
 cases x with
 |nil=>have c:=Aa (PX b g m w h);have f:=Aa h;go_enter func334,ntmps334;go_wp2_with(first|(go_at_call 189;refine c.out.mono ?_;rintro e w'⟨rfl,rfl⟩));go_ret2;exact⟨rfl,f.out,Cw.refl _ _⟩
 |cons a r=>have c:=Aa (NS b g m a r w h);have d:=Aa (PZ b g m (a::r) a w h (by simp));rw[List.erase_cons_head]at d;go_enter func334,ntmps334;go_wp2_with(first|(go_at_call 189;refine c.out.mono ?_;rintro e w'⟨rfl,rfl⟩)|(go_at_call 191;refine d.out.mono ?_;rintro e w'⟨rfl,i,j⟩));go_ret2;exact⟨rfl,i,j⟩
def Mg(m:Nat)(w:rO)(e:uh)(w':rO):Prop:=e=ui (J (Z ⟨w.heap.size+1,0,N⟩))/\St w' (w.heap.size+1) w.heap.size m []/\tS w.heap.size w w'
theorem FD(m:Nat)(w:rO)(hm:m<=1024):tT prog 45 #[I U m] w (Mg m w):=by
 have n:decide ((m:Int)<0)=false:=by simp
 have o:decide ((1024:Int)<(m:Int))=false:=by simp;omega
 have p:=ME m (by omega);go_enter func45,ntmps45;go_wp2
 go_loopw [20] (λi wr=> ∃k:Nat,k<=m/\i=I U k/\Cy wr (w.heap.size+1) #[I U (-1),Y (Z ⟨w.heap.size,0,N⟩) m m,I U 0] 205/\Dz wr w.heap.size m 3 (λj=>I U (if j<k then-2 else 0))/\tS w.heap.size w wr)
  (λi _=>m-(intOf i).toNat)
 case atStart=>refine⟨0,Ap _,rfl,Cy.ID _ _ (by simp),((Dz.made w m 3 (I U 0)).alloc _).congr λi _=>?_,Cu (Cu (tU _ _) _) _⟩;simp
 case round=>
  obtain⟨k,u,rfl,f,e,a⟩:=hrel;have c1:=f.cell 1;simp only[Ad,Ac,Ag]at c1;by_cases b:k<m
  ·have v:=e.cell b
   have x:=e.free k;have q:=Aa (e.set b (I U (-2)));have r:=Aa (f.setOther (c:=w.heap.size) (i:=k) (by omega) (I U (-2)));have g:=Aa (C5 a (c:=w.heap.size) (Al _) k (I U (-2)));go_wp2;go_roundw
   case rel=>
    refine⟨k+1,by omega,by go_num,r.out,q.out.congr λj s=>?_,g.out⟩;by_cases d:j=k
    ·subst d;simp
    ·rw[Ah d]
     by_cases l:j<k
     ·rw[Ai l,Ai (by omega)]
     ·rw[Ah l,Ah (by omega)]
   case measure=>simp[intOf];omega
  ·have h:=e.congr (G:=λj=>I U (link [] j)) (λj s=>by rw[Ai (by omega)];rfl)
   have t:Hid (St wr (w.heap.size+1) w.heap.size m []):=⟨f,h,List.nodup_nil,by simp,by omega,hm⟩;go_wp2;go_ret;exact⟨rfl,t.out,a⟩
end Idle
end Go.Proofs.YtgadhchejmlfjaaGreatDoor
namespace Go.CN
def LY(a b:Int):Int:=if a<0\/b<0 then 0 else(Nat.gcd a.toNat b.toNat:Nat)
theorem Yw(x y:Nat):LY x y=(Nat.gcd x y:Nat):=by unfold LY;rw[Ah (by omega)];simp
theorem Yx(x y:Nat):Nat.gcd y (x%y)=Nat.gcd x y:=by rw[Nat.gcd_comm y (x%y),<-Nat.gcd_rec y x,Nat.gcd_comm]
def KU(n:Int)(k:Nat):List Int:=((List.range k).map (λi:Nat=>(i:Int)+1)).filter λi=>LY i n==1
def EN(n:Int):List Int:=if n<1\/1024<n then []else KU n n.toNat
theorem Yy(n:Int)(k:Nat)(h:(LY ((k:Int)+1) n==1)=tZ):KU n (k+1)=KU n k++[(k:Int)+1]:=by unfold KU;rw[Cc,BP,Zaz];simp[h]
theorem eB(n:Int)(k:Nat)(h:(LY ((k:Int)+1) n==1)=tY):KU n (k+1)=KU n k:=by unfold KU;rw[Cc,BP,Zaz];simp[h]
theorem P0(n:Int)(k:Nat):(KU n k).length<=k:=by unfold KU;have:=Ch (λi=>LY i n==1) ((List.range k).map (λi:Nat=>(i:Int)+1));simpa using this
theorem Yz{n:Int}(a:1<=n)(b:n<=1024):0<(EN n).length:=by
 have:(1:Int)∈EN n:=by unfold EN;rw[Ah (by omega)];unfold KU;refine List.mem_filter.2 ⟨BL.2 ⟨0,BZ.2 (by omega),by simp⟩,?_⟩;unfold LY;rw[Ah (by omega)];simp
 exact List.length_pos_of_mem this
theorem P1(n:Int):(EN n).length<=1024:=by
 unfold EN;split
 ·simp
 ·rename_i h
  have:=P0 n n.toNat;omega
def DM(n:Int):Prop:=n<1\/256<n
instance (n:Int):Decidable (DM n):=by unfold DM;infer_instance
def Gm(n:Int):Int:=if DM n then 0 else n*(EN n).length
def ja(n d:Int):Int:=(EN n)[(d/n).toNat]?.getD 0
def FT(n draw:Int):List Int:=if DM n then []else Im n (Dk draw (Gm n)%n) (ja n (Dk draw (Gm n)))
def EL(n self draw:Int):List Int:=(FT n draw).filter (λp=>p !=self)
theorem P2{n:Int}(h: ¬DM n):n<=Gm n:=by
 have a:=h;unfold DM at a;unfold Gm;rw[Ah h];have:=Yz (n:=n) (by omega) (by omega)
 calc n=n*1:=by omega
  _<=n*((EN n).length:Int):=Int.mul_le_mul_of_nonneg_left (by omega) (by omega)
theorem Um{n:Int}:Gm n<=262144:=by
 unfold Gm;split
 ·omega
 ·rename_i h
  unfold DM at h;have:=P1 n
  calc n*((EN n).length:Int)<=256*((EN n).length:Int):=Int.mul_le_mul_of_nonneg_right (by omega) (by omega)
   _<=262144:=by omega
theorem eC{n d:Int}(h: ¬DM n)(b:0<=d)(a:d<Gm n):(d/n).toNat<(EN n).length/\0<=d%n/\d%n<n/\0<=d/n:=by have c:=h;unfold DM at c;unfold Gm at a;rw[Ah h]at a;refine⟨?_,Zbi _ (by omega),Zax _ (by omega),Zb1 b (by omega)⟩;have:d/n<(EN n).length:=Int.ediv_lt_of_lt_mul (by omega) (by rw[Int.mul_comm];exact a);have:=Zb1 b (show 0<=n by omega);omega
theorem Sx(n draw:Int):(FT n draw).length<=1024:=by
 unfold FT;split
 ·simp
 ·exact KP _ _ _
end Go.CN
namespace Go.Proofs.YtgadhchejmlfjaaGreatDoor
namespace P3
section
open Go.Proofs.Tryz Go.RowKit Go.Shelf Go.CN
attribute [local go_sem] Oper.semAt_some
variable {b c m:Nat}
theorem Ja(i n:Int)(w:rO)(c:n<=4611686018427387904):tT prog 53 #[I U i,I U n] w λe a=>e=ui (I U (Dk i n))/\w=a:=by
 by_cases h:n<1
 ·go_enter func53,ntmps53
  go_wp2;go_ret;exact⟨by simp[Dk,h],rfl⟩
 ·have b:1<=n:=by omega
  go_enter func53,ntmps53;go_wp2;go_ret;refine⟨Fv ?_,rfl⟩;have d:=Zay i (show(0:Int)<n by omega);have f:=Zb9 i (show(0:Int)<n by omega);rw[Cm _ ⟨by omega,by omega⟩,PH i n b,Dk,Ah (by omega)]
theorem Sy(F:Fence)(n:Nat)(d:F.fn 332)(f:F.round=N)(a b c:Int)(w:rO):CallsIn F n prog 332 #[I U a,I U b,I U c] w λe g=>e=ui (.func (.func 357) #[] #[J (Z ⟨w.heap.size,0,N⟩),J (Z ⟨w.heap.size+1+1,0,N⟩),J (Z ⟨w.heap.size+1,0,N⟩)])/\g=((w.alloc (uj #[I U a] 3)).alloc (uj #[I U b] 3)).alloc (uj #[I U c] 3):=by
 refine Zag func332 rfl d ?_ f;simp only[ntmps332,Bk,Av,AG,Nat.reduceAdd,Nat.reduceSub,BB,BC,BR,BF,A7,Bp];gi_wp2
 go_ret;exact⟨rfl,rfl⟩
theorem jV(F:Fence)(m:Nat)(a:F.fn 53)(b:F.round=N)(i n:Int)(w:rO)(c:1<=n)(f:n<=4611686018427387904):CallsIn F m prog 53 #[I U i,I U n] w λe d=>e=ui (I U (Dk i n))/\w=d:=by
 refine Zag func53 rfl a ?_ b;simp only[ntmps53,Bk,Av,AG,Nat.reduceAdd,Nat.reduceSub,BB,BC,BR,BF,A7,Bp];gi_wp2
 go_ret;refine⟨Fv ?_,rfl⟩;have g:=Zay i (show(0:Int)<n by omega);have h:=Zb9 i (show(0:Int)<n by omega);rw[Cm _ ⟨by omega,by omega⟩,PH i n c,Dk,Ah (by omega)]
def JQ(b c:Nat)(W W':rO):Prop:=(∀v,W.cell? ⟨b,0,N⟩=Z v->W'.cell? ⟨b,0,N⟩=Z v)/\(∀v,W.cell? ⟨c,0,N⟩=Z v->W'.cell? ⟨c,0,N⟩=Z v)
theorem YA{A B C:rO}(h:JQ b c A B)(k:JQ b c B C):JQ b c A C:=⟨λv a=>k.1 v (h.1 v a),λv a=>k.2 v (h.2 v a)⟩
theorem YB{w:rO}(W:rO)(l:Nat)(o a:Obj)(_:w.heap.size<=l)(h:W.heap[l]?=Z o)(f:o.isCells=tY)(_:o.isWalk=tY):JQ b c W (W.putObj l a):=⟨λ_ d=>cell_kept d (grownBy_putObj' W l a) (λr e=>by cases e;exact⟨o,h,f⟩),λ_ d=>cell_kept d (grownBy_putObj' W l a) (λr e=>by cases e;exact⟨o,h,f⟩)⟩
theorem VB{k:Nat}(h:k<=m):List.range k<+:List.range m:=⟨(List.range (m-k)).map (k+ ·),by rw[<-List.range_add];congr 1;omega⟩
theorem Sz(m:Nat)(start step:Int)(k:Nat):(List.range (k+1)).map (Es m start step)=(List.range k).map (Es m start step)++[Es m start step k]:=by rw[Cc,BP];rfl
theorem YC(F:Fence)(n:Nat)(p:F.fn 357)(q:F.fn 53)(c:F.round=N)(V:2<=n)(l o Bs z:Nat)(m:Nat)(start step:Int)(C:1<=m)(D:m<=1024)(E:1<=step)(G:step<=1024)(a A:List Int->rO->Prop)(H: ∀pre x W,a pre W->pre.length<m->YieldAt F (n-1) prog l #[I U x] W λe b=>(e=ui (ue tZ)/\a (pre++[x]) b/\JQ o Bs W b)\/(e=ui (ue tY)/\A (pre++[x]) b)) (W:rO) (r:W.cell? ⟨o,0,N⟩=Z (I U m)) (s:W.cell? ⟨Bs,0,N⟩=Z (I U step)) (K:W.cell? ⟨z,0,N⟩=Z (I U start)) (L:a [] W):CallsIn F n prog 357 #[.func (.yield l) #[] #[],J (Z ⟨o,0,N⟩),J (Z ⟨Bs,0,N⟩),J (Z ⟨z,0,N⟩)] W λe b=>(∃v,e=ui v)/\((∃ys,ys=(List.range m).map (Es m start step)/\a ys b)\/(∃pre,pre<+:(List.range m).map (Es m start step)/\A pre b)):=by
 refine Zag func357 rfl p ?_ c;simp only[ntmps357,Bk,Av,AG,Nat.reduceAdd,Nat.reduceSub,BB,BC,BR,BF,A7,Bp];have M:1<=n:=by omega
 have O:decide ((m:Int)<1)=false:=by simp;omega
 have P:decide ((1024:Int)<m)=false:=by simp;omega
 have Q:decide (step<1)=false:=by simp;omega
 have R:decide ((1024:Int)<step)=false:=by simp;omega
 gi_wp2_with (gi_at_call 53;refine(jV F (n-1) q c _ _ _ (by omega) (by omega)).mono ?_;rintro e X⟨rfl,rfl⟩)
 gi_loopw [5,24] (λat_ i wr=> ∃k:Nat,k<=m/\at_=I U (Es m start step k)/\i=I U k/\wr.cell? ⟨o,0,N⟩=Z (I U m)/\wr.cell? ⟨Bs,0,N⟩=Z (I U step)/\a ((List.range k).map (Es m start step)) wr)
  (λ_ i _=>m-(intOf i).toNat)
 case atStart=>exact⟨0,Ap _,by rw[PI _ _ _ (by omega)],rfl,r,s,L⟩
 case round=>
  obtain⟨k,hk,rfl,rfl,t,u,d⟩:=hrel;by_cases w:k<m
  ·have w0:=Vp m start step k (by omega)
   have w1:=Vq m start step k (by omega);have S:=Aa (PJ m start step k);have B:=Aa (Sz m start step k);obtain⟨fn,tmps,assign,body,hy,T⟩:=H _ (Es m start step k) wr d (by simp;exact w);gi_wp2
   refine T.mono ?_;rintro e W3(⟨rfl,y,f⟩|⟨rfl,g⟩)
   ·have h:=f.1 _ t
    have j:=f.2 _ u;gi_wp2
    go_roundw
    case rel=>exact⟨k+1,by omega,by rw[S.out],by go_num,h,j,by rw[B.out];exact y⟩
    case measure=>simp[intOf];omega
   ·gi_wp2
    refine AM (results_none rfl _ _ _) rfl ?_;exact⟨⟨_,rfl⟩,.inr ⟨_,by rw[<-B.out];exact List.IsPrefix.map _ (VB (by omega)),g⟩⟩
  ·obtain rfl:k=m:=by omega
   gi_wp2
   go_end0;exact⟨⟨_,rfl⟩,.inl ⟨_,rfl,d⟩⟩
theorem VC(F:Fence)(n:Nat)(a:F.fn 357)(b:F.round=N)(l d Bs f:Nat)(m step:Int)(c:F7 m step)(W:rO)(g:W.cell? ⟨d,0,N⟩=Z (I U m))(h:W.cell? ⟨Bs,0,N⟩=Z (I U step)):CallsIn F n prog 357 #[.func (.yield l) #[] #[],J (Z ⟨d,0,N⟩),J (Z ⟨Bs,0,N⟩),J (Z ⟨f,0,N⟩)] W λe i=>(∃v,e=ui v)/\W=i:=by
 by_cases j:m<1
 ·refine Zag func357 rfl a ?_ b
  simp only[ntmps357,Bk,Av,AG,Nat.reduceAdd,Nat.reduceSub,BB,BC,BR,BF,A7,Bp];gi_wp2
  refine AM (results_none rfl _ _ _) rfl ?_;exact⟨⟨_,rfl⟩,rfl⟩
 ·by_cases k:1024<m
  ·refine Zag func357 rfl a ?_ b
   simp only[ntmps357,Bk,Av,AG,Nat.reduceAdd,Nat.reduceSub,BB,BC,BR,BF,A7,Bp];gi_wp2
   refine AM (results_none rfl _ _ _) rfl ?_;exact⟨⟨_,rfl⟩,rfl⟩
  ·by_cases o:step<1
   ·refine Zag func357 rfl a ?_ b
    simp only[ntmps357,Bk,Av,AG,Nat.reduceAdd,Nat.reduceSub,BB,BC,BR,BF,A7,Bp];gi_wp2
    refine AM (results_none rfl _ _ _) rfl ?_;exact⟨⟨_,rfl⟩,rfl⟩
   ·have p:1024<step:=by unfold F7 at c;omega
    refine Zag func357 rfl a ?_ b;simp only[ntmps357,Bk,Av,AG,Nat.reduceAdd,Nat.reduceSub,BB,BC,BR,BF,A7,Bp];gi_wp2
    refine AM (results_none rfl _ _ _) rfl ?_;exact⟨⟨_,rfl⟩,rfl⟩
theorem VD{start step:Int}(h: ¬F7 m step):Im m start step=(List.range m).map (Es m start step):=by unfold Im;rw[Ah h];simp
theorem SA(F:Fence)(n:Nat)(f:F.fn 357)(i:F.fn 53)(g:F.round=N)(r:2<=n)(c Bs d:Nat)(a start step:Int)(w:rO)(s:c<w.heap.size)(t:Bs<w.heap.size)(u:d<w.heap.size)(c1:w.cell? ⟨c,0,N⟩=Z (I U a))(v:w.cell? ⟨Bs,0,N⟩=Z (I U step))(c3:w.cell? ⟨d,0,N⟩=Z (I U start)):SeqStopsK F n prog 357 #[J (Z ⟨c,0,N⟩),J (Z ⟨Bs,0,N⟩),J (Z ⟨d,0,N⟩)] (λx:Int=>#[I U x]) (JQ c Bs) (λys=>ys=Im a start step) (λpre=>pre<+:Im a start step) (Im a start step).length w:=by
 intro l b y W j _ _ o q;have d1:=(j.cell (p:=⟨c,0,N⟩) s).trans c1;have d2:=(j.cell (p:=⟨Bs,0,N⟩) t).trans v;have d3:=(j.cell (p:=⟨d,0,N⟩) u).trans c3;by_cases h:F7 a step
 ·refine(VC F n f g l c Bs d a step h W d1 d2).mono ?_
  rintro e D⟨z,rfl⟩;exact⟨z,.inl ⟨[],by simp[Im,h],q⟩⟩
 ·have k:=h
  unfold F7 at k;obtain⟨m,rfl⟩:=AF (show 0<=a by omega);rw[VD h]at o⊢;exact YC F n f i g r l c Bs d m start step (by omega) (by omega) (by omega) (by omega) b y (λpre x A B C=>o pre x A B (by simpa using C)) W d1 d2 d3 q
end
section
open Go.Proofs.Tryz Go.RowKit Go.Shelf Go.CN
attribute [local go_sem] Oper.semAt_some
variable {size R B:Nat}{xs:List tR}
theorem Dv:(prog.info? 3).map (λi=>(i.zero,i.size,i.bytes))=Z (Z (I U 0),1,8):=by kernel_rfl
theorem Fp{w:rO}{base a:Nat}{e:uf}{v:tR}{n:Nat}(h:w.ownsRow base e size v n xs)(c:a<=base):w.ownsRow a e size v n xs:=by
 obtain⟨b,d|⟨g,cap,cur,f,i,j,r⟩⟩:=h
 ·exact⟨b,.inl d⟩
 ·exact⟨b,.inr ⟨g,cap,cur,f,AA c i,j,r⟩⟩
theorem KV{W w1:rO}{MG:Nat}{t e:uf}{v v':tR}{k m:Nat}{ys:List tR}{tmp:Obj}(n:Boxed W B t v)(g:t≠e)(d:W.ownsRow R e size v k xs)(f:MG<=W.heap.size)(o:MG<=B)(j:MG<=R)(a:w1.ownsRow R e size v' m ys)(c:(W.alloc tmp).grownBy w1 v.ownBlock):Boxed w1 B t v/\Boxed (w1.setCell ⟨B,0,N⟩ v') B t v'/\(w1.setCell ⟨B,0,N⟩ v').ownsRow R e size v' m ys/\KeepsOthers W (w1.setCell ⟨B,0,N⟩ v')/\tS MG W (w1.setCell ⟨B,0,N⟩ v')/\ ∀b,b<R->b≠B->b<W.heap.size->(w1.setCell ⟨B,0,N⟩ v').heap[b]?=W.heap[b]?:=by obtain⟨l,p,_,q,r⟩:=n.appended g (Fp d j) f o (Fp a j) c;refine⟨l,p,a.kept (grownBy_setCell' w1 B v') (.inr (l.not_row g a).symm),q,r,λb s h i=>?_⟩;rw[Zaj _ _ _ b h,c.block b (by simp;omega) ?_,Zab _ _ _ i];intro e;have:=(d.lt b e.symm).1;omega
theorem VE{b c:Nat}{W W':rO}(h: ∀k,k<R->k≠B->k<W.heap.size->W'.heap[k]?=W.heap[k]?) (f:b≠B) (g:c≠B) (d:b<R) (e:c<R):JQ b c W W':=⟨λ_ a=>(AK (h b d f (Ep a))).trans a,λ_ a=>(AK (h c e g (Ep a))).trans a⟩
def Eg(L:List Int)(w:rO)(e:uh)(w':rO):Prop:= ∃v,e=ui v/\CH w' w.heap.size v L/\tS w.heap.size w w'
end
theorem eD(a b:Int)(w:rO)(h:a<0\/b<0):tT prog 356 #[I U a,I U b] w λe c=>e=ui (I U (LY a b))/\ ∃n,c=w.drewN n:=by
 have d:LY a b=0:=by unfold LY;rw[Ai h]
 rw[d];by_cases f:a<0
 ·go_enter func356,ntmps356
  go_wp2;go_step3;go_wp2;try rw[Bw]
  go_ret;exact⟨rfl,0,rfl⟩
 ·have g:b<0:=by omega
  go_enter func356,ntmps356;go_wp2;go_step3;go_wp2;try rw[Bw]
  go_ret;exact⟨rfl,0,rfl⟩
theorem YD(x y:Nat)(w:rO):tT prog 356 #[I U x,I U y] w λe d=>e=ui (I U (Nat.gcd x y:Nat))/\ ∃n,d=w.drewN n:=by
 have f:decide ((x:Int)<0)=false:=by simp
 have g:decide ((y:Int)<0)=false:=by simp
 go_enter func356,ntmps356;go_wp2;go_step3;go_wp2;go_step3;go_wp2;go_loopw [0,1] (λa b wr=> ∃(p q n:Nat),a=I U p/\b=I U q/\Hid (Nat.gcd p q=Nat.gcd x y)/\wr=w.drewN n) (λ_ b _=>(intOf b).toNat)
 case atStart=>exact⟨x,y,0,rfl,rfl,rfl,rfl⟩
 case round=>
  obtain⟨p,q,n,rfl,rfl,c,rfl⟩:=hrel;by_cases h:q=0
  ·subst h
   go_wp2;rw[Bw];go_ret;exact⟨Fv (by rw[<-c.out];simp),n,rfl⟩
  ·have i:((q:Int)==0)=false:=by simp;omega
   have j:=Aa (Yx p q);have k:p%q<q:=Zbr _ (by omega);go_wp2;go_quiet(fail)
   go_wp2;refine⟨⟨q,p%q,n+nq,rfl,rfl,j.out.trans c.out,by rw[World.drewN_drewN]⟩,?_⟩;simp only[intOf];omega
theorem Un(a b:Int)(w:rO):tT prog 356 #[I U a,I U b] w λe c=>e=ui (I U (LY a b))/\ ∃n,c=w.drewN n:=by
 by_cases h:a<0\/b<0
 ·exact eD a b w h
 ·obtain⟨x,rfl⟩:=AF (show 0<=a by omega)
  obtain⟨y,rfl⟩:=AF (show 0<=b by omega);rw[Yw];exact YD x y w
theorem OK(n:Int)(w:rO):tT prog 331 #[I U n] w (Eg (EN n) w):=by
 by_cases h:n<1\/1024<n
 ·have y:EN n=[]:=by unfold EN;rw[Ai h]
  rw[y];by_cases M:n<1
  ·go_enter func331,ntmps331
   go_wp2;go_ret;exact⟨_,rfl,CH.nil _ _,tU _ _⟩
  ·have O:1024<n:=by omega
   go_enter func331,ntmps331;go_wp2;go_ret;exact⟨_,rfl,CH.nil _ _,tU _ _⟩
 ·have z:EN n=KU n n.toNat:=by unfold EN;rw[Ah h]
  rw[z];obtain⟨m,rfl⟩:=AF (show 0<=n by omega);simp only[Am];have A:1<=m:=by omega
  have B:m<=1024:=by omega
  have C:decide ((m:Int)<1)=false:=by simp;omega
  have D:decide ((1024:Int)<(m:Int))=false:=by simp;omega
  obtain⟨i0,E,q,r,s⟩:=info_parts Dv;go_enter func331,ntmps331;go_wp2;go_loopw [2,3] (λv i wr=> ∃k:Nat,k<=m/\i=I U ((k:Int)+1)/\CH wr w.heap.size v (KU m k)/\tS w.heap.size w wr) (λ_ i _=>m+1-(intOf i).toNat)
  case atStart=>exact⟨0,Ap _,rfl,CH.nil _ _,tU _ _⟩
  case round=>
   obtain⟨k,P,rfl,b,c⟩:=hrel;have F:=P0 m k;by_cases G:k<m
   ·cases u:(LY ((k:Int)+1) m==1)
    ·have t:=Aa (eB m k u)
     go_wp2_with fail;refine(Un _ _ _).mono ?_;rintro e H⟨rfl,p,rfl⟩;go_wp2_with fail;go_roundw
     case rel=>exact⟨k+1,by omega,by go_num,by rw[t.out];exact b.drewN _,Ce c _⟩
     case measure=>simp[intOf];omega
    ·have t:=Aa (Yy m k u)
     go_wp2_with fail;refine(Un _ _ _).mono ?_;rintro e H⟨rfl,p,rfl⟩;have a:=b.drewN p;have d:=Ce c p;generalize wr.drewN p=K at*
     unfold CH at a;go_wp2_with(at_builtin;refine wpList_append_own _ rfl _ _ 22 rfl w.heap.size 3 i0 (I U 0) 1 8 underlying22 E q r s rfl (by decide) _ _ _ rfl (a.alloc _) ⟨K.heap.size,0,N⟩ 1 1 [I U ((k:Int)+1)] rfl rfl (cell_one_new _ _ _) (by simp[Value.oneCell']) (by unfold maxLen;omega) (by omega) (by have:=d.size;simp;omega) ?_;intro L x f g _);have o:CH x w.heap.size L (KU m (k+1)):=by rw[t.out];unfold CH;simpa using f
     have l:tS w.heap.size w x:=CK (Cu d _) g (λj e=>(a.lt j e).1);go_roundw
     case rel=>exact⟨k+1,by omega,by go_num,o,l⟩
     case measure=>simp[intOf];omega
   ·obtain rfl:k=m:=by omega
    go_wp2;go_ret;exact⟨_,rfl,b,c⟩
theorem eE{w:rO}{v:tR}{l:List Int}(h:Sl w v l)(c:l≠[]): ∃b off cap,v=Y (Z ⟨b,off,N⟩) l.length cap/\b<w.heap.size/\ ∀i,i<l.length->w.cell? ⟨b,off+i,N⟩=Z (I U (l[i]?.getD 0)):=by
 obtain⟨a,cap,rfl,_,d|⟨b,off,rfl,e,f⟩⟩:=h
 ·exact absurd d c
 ·exact⟨b,off,cap,rfl,e,f⟩
end P3
namespace P4
section
open Go.Proofs.Tryz Go.RowKit Go.CN Go.Shelf P3
end
section
open Go.Proofs.Tryz Go.RowKit Go.CN Go.Shelf P3
theorem YE{n draw:Int}(h: ¬DM n): ∃m D q r:Nat,n=m/\1<=m/\m<=256/\Dk draw (Gm n)=D/\q<(EN m).length/\r<m/\(D:Int)<=262144/\(D:Int).tdiv m=q/\(D:Int)/m=q/\(D:Int).tmod m=r/\(D:Int)%m=r/\FT n draw=Im m r (((EN m)[q]?).getD 0):=by have d:=h;unfold DM at d;obtain⟨m,rfl⟩:=AF (show 0<=n by omega);have hw:=P2 h;have e:=Um (n:=(m:Int));have f:=OI draw (Gm m);have b:=Uf draw (Gm m) (by omega);obtain⟨D,a⟩:=AF f;rw[a]at b;have c:=(eC h (show(0:Int)<=D by omega) b).1;rw[<-Int.natCast_ediv,Am]at c;refine⟨m,D,D/m,D%m,rfl,by omega,by omega,a,c,Zbr _ (by omega),by omega,rfl,rfl,rfl,rfl,?_⟩;unfold FT ja;rw[Ah h,a,<-Int.natCast_ediv,Am];rfl
end
section
open Go.Proofs.Tryz Go.RowKit Go.CN Go.Shelf P3
attribute [local go_sem] Oper.semAt_some
theorem KW{P:Program}{c:Code}{K:Act->rO->Prop}{Q:Exit->Act->rO->Prop}{a:Act}{w:rO}(h:c.wp P (Exit.then K (λ_ _ _=>False)) a w):c.wp P (Exit.then K Q) a w:=Code.wp_mono (λe a w h=>by cases e<;>first|exact h|exact h.elim) h
theorem YF(a:Int)(w:rO)(c:1<=a)(d:a<=256):tT prog 289 #[I U a] w λe b=>e=ui (ue tZ)/\w=b:=by go_enter func289,ntmps289;go_wp2;go_ret;exact⟨rfl,rfl⟩
theorem SC(m D q r:Nat)(s draw:Int)(w:rO)(ad:1<=m)(ae:m<=256)(HD:Hid (Dk draw (Gm m)=D))(j:q<(EN m).length)(af:r<m)(hD:(D:Int)<=262144)(e1:(D:Int).tdiv m=q)(e2:(D:Int)/m=q)(e3:(D:Int).tmod m=r)(e4:(D:Int)%m=r)(HS:Hid ((EN m)[q]?.getD 0=s)):tT prog 290 #[I U m,I U draw] w (Eg (Im m r s) w):=by
 have k:=Um (n:=(m:Int));have hlen:=P1 m;have F:EN m≠[]:=by intro h;simp[h]at j
 have o: ¬DM m:=by unfold DM;omega
 have G:=P2 o;have A:Hid (Gm m=m*(EN m).length):=by show _=_;unfold Gm;rw[Ah o]
 have H:(m:Int)*((EN m).length:Int)<=262144:=by rw[<-A.out];exact k
 have p:1<=(m:Int)*((EN m).length:Int):=by rw[<-A.out];omega
 have e5:IntKind.i64.wrap (q:Int)=q:=Cn _ (by omega);have L:(q:Int)<((EN m).length:Int):=by omega
 refine(callsIn_wide (n:=4)).1 ?_;refine callsIn_of_wp_marks func290 rfl trivial ?_ rfl;simp only[ntmps290,Bk,Av,AG,Nat.reduceAdd,Nat.reduceSub,BB,BC,BR,BF,A7,Bp];refine wpIn_wide.2 ?_;go_wp2_with(first|(go_at_call 331;refine(OK _ _).mono ?_;rintro e a⟨v,rfl,ho,t⟩;obtain⟨b,off,cap,rfl,ag,d⟩:=eE (Sl.Er ho) F;have cq:=d q j;rw[HS.out]at cq;clear d)|(go_at_call 53;refine(Ja _ _ _ (by omega)).mono ?_;rintro e w2⟨rfl,rfl⟩;rw[<-A.out,HD.out])|(go_at_call 289;refine(YF _ _ (by omega) (by omega)).mono ?_;rintro e w0⟨rfl,rfl⟩));refine KW ?_;go_region_with (go_at_call 332;refine(callsIn_wide.1 (Sy Fence.wide 4 trivial rfl _ _ _ _)).mono ?_;rintro e w'⟨rfl,rfl⟩)
 all_goals go_wp2
 all_goals
  clear cq H p k A L e1 e2 e3 e4 e5 HD HS G;refine(wpIn_wide (n:=4)).1 ?_;obtain⟨i0,hi,M,O,P⟩:=info_parts Dv;have bO:=Boxed.new a 22 (Y N 0 0);have b1:=Boxed.new (a.alloc (uj #[Y N 0 0] 22)) 3 (I U m);have b2:=Boxed.new ((a.alloc (uj #[Y N 0 0] 22)).alloc (uj #[I U m] 3)) 3 (I U r);have b3:=Boxed.new (((a.alloc (uj #[Y N 0 0] 22)).alloc (uj #[I U m] 3)).alloc (uj #[I U r] 3)) 3 (I U s);simp only[World.size_alloc]at b1 b2 b3;have Q:tS a.heap.size a ((((a.alloc (uj #[Y N 0 0] 22)).alloc (uj #[I U m] 3)).alloc (uj #[I U r] 3)).alloc (uj #[I U s] 3)).drew:=(Cu (Cu (Cu (Cu (tU _ _) _) _) _) _).drew
  refine wpIn_rangeFunc_ownG rfl (by decide) (gf:=357) (lb:=#[J (Z ⟨a.heap.size+1,0,N⟩),J (Z ⟨a.heap.size+1+1+1,0,N⟩),J (Z ⟨a.heap.size+1+1,0,N⟩)]) rfl trivial (enters_of func357 (by kernel_rfl) rfl)
   (SA Fence.wide (4-1) trivial trivial rfl (by decide) (a.heap.size+1) (a.heap.size+1+1+1) (a.heap.size+1+1) m r s _ (by simp<;>omega) (by simp<;>omega) (by simp<;>omega) ((b1.alloc _).alloc _).cell b3.cell (b2.alloc _).cell) YA YB (tU _ _).drew (λ_=>rfl)
   (λ(pre:List Int) W=>(∃v,Boxed W a.heap.size 22 v/\W.ownsRow (a.heap.size+4) 3 1 v pre.length (pre.map (I U))/\True)/\tS a.heap.size a W/\a.heap.size+4<=W.heap.size)
   (λ_ _ _=>False)
   (OwnFrom.and (Own.from (holdsRow_own (a.heap.size+4) a.heap.size 22 3 1 (λpre:List Int=>pre.length) (λpre=>pre.map (I U)) (λ_ _=>True)) _) (OwnFrom.and (ownFrom_below (Al _) (by simp<;>omega)) (λ_ _ _ _ R hg _=>AA R hg.size)))
   (λ_ _ _ _ _ R _ _=>R)
   ⟨⟨_,((bO.alloc _).alloc _).alloc _,AH _ _ _ _,trivial⟩,Q,by simp<;>omega⟩
   (λx=>{tmps:=#[I U m,I U draw,undef,undef,Y N 0 0,Y (Z ⟨b,off,N⟩) (EN m).length cap,I U D,J (Z ⟨a.heap.size,0,N⟩),I U x,I U m,ue tZ,ue tY,I U m,Y (Z ⟨b,off,N⟩) (EN m).length cap,I U draw,I U m,Y (Z ⟨b,off,N⟩) (EN m).length cap,I U ((EN m).length:Nat),I U (Gm m),I U D,I U m,I U D,I U m,I U r,Y (Z ⟨b,off,N⟩) (EN m).length cap,I U D,I U m,I U q,J (Z ⟨b,off+q,N⟩),I U s,.func (.func 357) #[] #[J (Z ⟨a.heap.size+1,0,N⟩),J (Z ⟨a.heap.size+1+1+1,0,N⟩),J (Z ⟨a.heap.size+1+1,0,N⟩)],I U x,undef,undef,undef,undef,undef],defers:=[]}) ?assign ?body ?done ?stop
  case assign=>
   intro l x W K u;gi_wp2
   exact u
  case body=>
   rintro l pre x W⟨⟨v,B,f,_⟩,C,hS⟩ah;have ai:=KP m r s;have hc:=B.cell;gi_wp2_with (gi_at_builtin;refine wpListIn_append_own _ rfl _ _ 22 rfl (a.heap.size+4) 3 i0 (I U 0) 1 8 underlying22 hi M O P rfl (by decide) _ _ _ rfl (f.alloc _) ⟨W.heap.size,0,N⟩ 1 1 [I U x] rfl rfl (cell_one_new _ _ _) (by simp[Value.oneCell']) (by unfold maxLen;omega) (by omega) (by simp;omega) ?_;intro v' w3 g i _;obtain⟨g',aa,rfl⟩:=ownsRow_succ g;obtain⟨y,S,T,V,z,X⟩:=KV (MG:=a.heap.size) B (by decide) f C.size (Al _) (by omega) g i;have aj:=y.cell;have ak:=y.frozen)
   exact⟨V.from _,VE X (by omega) (by omega) (by omega) (by omega),⟨_,S,by simpa using T,trivial⟩,C.trans z,AA hS z.size⟩
  case done=>rintro E ys W hE rfl⟨⟨v,B,f,_⟩,C,hS⟩u;have hc:=B.cell;go_wp2;refine⟨by simp,.inl ⟨_,_,rfl,run_takeDeferred u,?_⟩⟩;exact⟨_,results_tmp rfl _ _ _,v,rfl,ownsRow_putObj (Fp f (by have:=t.size;omega)) _ u rfl,Cv t (C.trans (belowK_b (w:=a) (Al _) W E _ _ (by simp at hE;omega) u rfl rfl))⟩
  case stop=>rintro E c pre W _ _ h _;exact h.elim
theorem VF(n draw:Int)(w:rO):tT prog 290 #[I U n,I U draw] w (Eg (FT n draw) w):=by
 by_cases h:DM n
 ·have e:FT n draw=[]:=by unfold FT;rw[Ai h]
  rw[e];unfold DM at h;by_cases t:n<1
  ·have f:decide (1<=n)=false:=by simp;omega
   go_enter func290,ntmps290;go_wp2;go_ret;exact⟨_,rfl,CH.nil _ _,tU _ _⟩
  ·have u:256<n:=by omega
   have f:decide (1<=n)=true:=by simp;omega
   have g:decide (n<=256)=false:=by simp;omega
   go_enter func290,ntmps290;go_wp2;go_ret;exact⟨_,rfl,CH.nil _ _,tU _ _⟩
 ·obtain⟨m,D,q,r,rfl,a,b,i,c,d,j,k,l,o,p,s⟩:=YE (draw:=draw) h
  rw[s];exact SC m D q r _ draw w a b i c d j k l o p rfl
end
open Go.Proofs.Tryz Go.RowKit Go.CN P3
theorem P5(L:List Int)(self:Int)(k:Nat)(h:k<L.length):(L.take (k+1)).filter (λp=>p !=self)=(L.take k).filter (λp=>p !=self)++(if L[k]?.getD 0 !=self then [L[k]?.getD 0]else []):=by
 rw[Bg h,Zaz];simp only[h,Ae,AW];by_cases a:(L[k] !=self)=tZ
 ·simp[a]
 ·simp[a]
theorem SD(n self draw:Int)(w:rO):tT prog 245 #[I U n,I U self,I U draw] w (Eg (EL n self draw) w):=by
 by_cases h:DM n
 ·have G:EL n self draw=[]:=by unfold EL FT;rw[Ai h];rfl
  rw[G];unfold DM at h;by_cases Q:n<1
  ·have D:decide (1<=n)=false:=by simp;omega
   go_enter func245,ntmps245;go_wp2;go_step3;go_wp2;try rw[Bw]
   go_ret;exact⟨_,rfl,CH.nil _ _,tU _ _⟩
  ·have R:256<n:=by omega
   have D:decide (1<=n)=true:=by simp;omega
   have t:decide (n<=256)=false:=by simp;omega
   go_enter func245,ntmps245;go_wp2;go_step3;go_wp2;try rw[Bw]
   go_ret;exact⟨_,rfl,CH.nil _ _,tU _ _⟩
 ·unfold EL
  have hlen:=Sx n draw;have H:=Aa (VF n draw);generalize FT n draw=L at*
  unfold DM at h;have u:1<=n:=by omega
  have y:n<=256:=by omega
  have D:decide (1<=n)=true:=by simp;omega
  have t:decide (n<=256)=true:=by simp;omega
  go_enter func245,ntmps245;go_wp2;go_step3;go_wp2_with(first|(go_at_call 289;refine(YF _ _ u y).mono ?_;rintro e w0⟨rfl,rfl⟩));go_step3;go_wp2_with fail;refine(H.out _).mono ?_;rintro e r⟨v,rfl,K,s⟩;have z:=Sl.Er K;obtain⟨a,cap,rfl,_,A⟩:=z;have B:=Aa A;go_wp2_with fail;go_loopw [6,16] (λv i wr=> ∃k:Nat,k<=L.length/\i=I U k/\CH wr r.heap.size v ((L.take k).filter (λp=>p !=self))/\tS r.heap.size r wr) (λ_ i _=>L.length-(intOf i).toNat)
  case atStart=>exact⟨0,Ap _,rfl,CH.nil _ _,tU _ _⟩
  case round=>
   obtain⟨k,S,rfl,c,d⟩:=hrel;have M:((L.take k).filter (λp=>p !=self)).length<=k:=AA (Ch _ _) (by rw[AY];omega);by_cases g:k<L.length
   ·rcases B.out with O|⟨b,off,rfl,C,f⟩
    ·simp[O]at g
    have E:=Aa (P5 L self k g);have c0:=(d.cell (p:=⟨b,off+k,N⟩) C).trans (f k g);generalize L[k]?.getD 0=x at*
    cases F:(x==self)
    ·have l:(x !=self)=true:=by simp[bne,F]
     go_wp2_with(at_builtin;refine jP underlying22 Dv r.heap.size wr x rfl _ _ rfl _ _ rfl rfl c d.size (by omega) ?_;intro T P m o _);have q:tS r.heap.size r P:=CK d o (λj e=>(c.lt j e).1);go_roundw
     case rel=>exact⟨k+1,by omega,by go_num,by rw[E.out,Ai l];exact m,q⟩
     case measure=>simp[intOf];omega
    ·have l:(x !=self)=false:=by simp[bne,F]
     go_wp2_with fail;go_roundw
     case rel=>exact⟨k+1,by omega,by go_num,by rw[E.out,Ah (by simp[l]),BW];exact c,d⟩
     case measure=>simp[intOf];omega
   ·obtain rfl:k=L.length:=by omega
    go_wp2;try rw[Bw]
    go_ret;rw[Cd]at c;exact⟨_,rfl,c.mono s.size,Cv s d⟩
end P4
end Go.Proofs.YtgadhchejmlfjaaGreatDoor
namespace Go.CN
open Go.RowKit
section
variable {P:Program}{t:uf}(ht:P.underlying t=Z (.slice 3))(DH:(P.info? 3).map (λi=>(i.zero,i.size,i.bytes))=Z (Z (I U 0),1,8))
include ht DH
omit DH in
end
end Go.CN
namespace Go.Proofs.YtgadhchejmlfjaaGreatDoor
namespace Ref
theorem Dv:(prog.info? 3).map (λi=>(i.zero,i.size,i.bytes))=Z (Z (I U 0),1,8):=by kernel_rfl
def nh(L:List Int)(w:rO)(e:uh)(w':rO):Prop:= ∃v,e=ui v/\CH w' w.heap.size v L/\tS w.heap.size w w'
end Ref
end Go.Proofs.YtgadhchejmlfjaaGreatDoor
namespace Go.CN
open Go.RowKit
def VG(w:rO)(v:tR)(l:List Int):Prop:=CH w 0 v l\/(DG w v l/\ ∃a,v=Y (Z a) l.length l.length)
theorem VG.jb{w:rO}{v:tR}{l:List Int}(h:VG w v l):DG w v l:=h.elim DG.Er (λx=>x.1)
theorem VG.off{S:Nat->Prop}{w w':rO}{v:tR}{l:List Int}(h:VG w v l)(k:Cw S w w')(a:Hs S v):VG w' v l:=by
 rcases h with h|⟨h,b⟩
 ·exact .inl (h.off k a)
 ·exact .inr ⟨h.only k a,b⟩
theorem VG.nil(w:rO):VG w (Y N 0 0) []:=.inl (CH.nil _ _)
section
variable {P:Program}{t:uf}(ht:P.underlying t=Z (.slice 3))(DH:(P.info? 3).map (λi=>(i.zero,i.size,i.bytes))=Z (Z (I U 0),1,8))
include ht DH
theorem qu(W:rO){ops:Array Oper}{rest:List Oper}{o:Oper}{a:Act}{Q:Exit->Act->rO->Prop}(n:o.guard=N)(s y:Operand)(F:o.op= .call {callee:=.builtin .append,args:=#[s,y],argTypes:=#[t,t]})(v:tR)(l:List Int)(x:Int)(p:Nat)(G:a.eval s=v)(hy:a.eval y=Y (Z ⟨p,0,N⟩) 1 1)
  (c:VG W v l) (A:W.cell? ⟨p,0,N⟩=Z (I U x)) (hlen:l.length<10000000)
  (h: ∀d w',CH w' 0 d (l++[x])->W.grownBy w' v.ownBlock->(∀j,d.ownBlock=Z j->v.ownBlock=Z j\/W.heap.size<=j)->(∃g cap,d=Y (Z ⟨g,0,N⟩) (l.length+1) cap)->wpList P ops Q rest (a.put o.dst d) w'):
  wpList P ops Q (o::rest) a W:=by
 have hu:DG W (Y (Z ⟨p,0,N⟩) 1 1) [x]:=⟨_,1,rfl,⟨(λh=>by cases h),Al _⟩,by simp[maxLen],.inr ⟨p,0,rfl,Ep A,λi B=>by
  have:i=0:=by simpa using B
  subst this;simpa using A⟩⟩
 rcases c with c|⟨O,H,rfl⟩
 ·refine Ju ht DH 0 W n s y F v l _ [x] G hy c hu (Ap _) (by simp;omega) ?_
  intro d w' w;exact h d w' w.1 w.2.1 w.2.2 w.some
 ·obtain⟨i0,B,C,D,E⟩:=info_parts DH
  refine wpList_plain n λK R=>?_;have holds: ∀(j:Nat)(u:tR),(l.map (I U))[j]?=Z u->W.cell? (H.add j)=Z u:=by
   intro j u e;rw[AZ]at e;obtain⟨z,L,rfl⟩:=AD.1 e;have q:j<l.length:=(Af.1 L).1;rcases O.open with⟨f,_⟩|⟨_,_,_,f⟩|⟨b,off,M,he,_,_,_,S⟩
   ·simp at f
   ·simp[f]at q
   ·simp only[As,Ak]at he
    obtain⟨rfl,_,_⟩:=he;rw[AE,S j q,L];rfl
  obtain⟨d,w',T,V,r⟩:=Zac (P:=P) W t o.type 3 i0 (I U 0) 1 8 ht B C D E rfl (by decide) H l.length l.length (l.map (I U)) (by simp) holds ⟨p,0,N⟩ 1 1 [I U x] rfl (λj u e=>by
    cases j with
    |zero=>simp at e;subst e;rw[AE];exact A
    |succ j=>simp at e) (by omega) (by unfold maxLen;omega) (by omega)
  have m:CH w' W.heap.size d (l++[x]):=by unfold CH;simpa using V
  unfold Oper.wp;simp[execOp,F,resolve,invoke,builtin,G,hy,T,Result.andThen];refine R _ _ (h d w' (m.mono (Ap _)) ⟨r.os,r.tape,r.output,r.size,λk X _=>r.block k X (by simp)⟩ (λj e=>.inr (m.lt j e).1) ?_);rcases m.open with⟨_,f⟩|⟨g,cap,f,_⟩
  ·simp at f
  ·exact⟨g,cap,by rw[f];simp⟩
end
def Ga:List Int->Int->Int
 | [],_=> -1
 |x::l,g=>if x=g then 0 else if Ga l g<0 then-1 else Ga l g+1
theorem SE(l:List Int)(g:Int)(k:Nat)(a:k<l.length)(he:l[k]?.getD 0=g)(b: ∀i,i<k->l[i]?.getD 0≠g):Ga l g=k:=by
 induction l generalizing k with
 |nil=>simp at a
 |cons x l d=>
  cases k with
  |zero=>simp at he;simp[Ga,he]
  |succ k=>have c:=b 0 (by omega);simp at c;have e:=d k (by simpa using a) (by simpa using he) (λi f=>by have:=b (i+1) (by omega);simpa using this);unfold Ga;rw[Ah c,e,Ah (by omega)];omega
theorem VH(l:List Int)(g:Int)(a: ∀i,i<l.length->l[i]?.getD 0≠g):Ga l g= -1:=by
 induction l with
 |nil=>rfl
 |cons x l c=>have b:=a 0 (by simp);simp at b;unfold Ga;rw[Ah b,c (λi d=>by have:=a (i+1) (by simpa using d);simpa using this)];rfl
theorem P6(l:List Int)(g:Int):(Ga l g<0↔g∉l):=by
 induction l with
 |nil=>simp[Ga]
 |cons x l b=>
  unfold Ga;by_cases a:x=g
  ·simp[a]
  ·rw[Ah a]
   have: ¬g=x:=λe=>a e.symm;simp only[Be,this,false_or];rw[<-b];split<;>omega
end Go.CN
namespace Go.Proofs.YtgadhchejmlfjaaGreatDoor
namespace Dg
open Go.Proofs.Tryz Go.RowKit Go.CN Ref
section
variable {v:tR}{b:Nat}{w w':rO}{ow:Int}{l:List Int}
structure Sm (w:rO) (b:Nat) (ow:Int) (v:tR) (l:List Int):Prop where
 Dj:Cy w b #[I U ow,v] 207
 row:VG w v l
 ne:v.ownBlock≠Z b
 live: ∀j,v.ownBlock=Z j->j<w.heap.size
def Sf(b:Nat)(v:tR)(j:Nat):Prop:=j=b\/v.ownBlock=Z j
theorem P7(h:v.ownBlock≠Z b):Hs (λj=>j=b) v:=λj a e=>h (by rw[a,e])
theorem Sm.only{S:Nat->Prop}(h:Sm w b ow v l)(o:Cw S w w')(c: ∀j,Sf b v j-> ¬S j):Sm w' b ow v l:=⟨h.Dj.only o (c b (.inl rfl)),h.row.off o (λj a=>c j (.inr a)),h.ne,λj a=>An (h.live j a) o.size⟩
theorem Sm.below(h:Sm w b ow v l)(o:tS w.heap.size w w'):Sm w' b ow v l:=h.only (S:=λ_=>False) ((Cw.refl _ w).below o) (λ_ _ x=>x)
theorem Sm.cell0(h:Sm w b ow v l):w.cell? ⟨b,0,N⟩=Z (I U ow):=h.Dj.cell 0
theorem Sm.JC(h:Sm w b ow v l):w.cell? ⟨b,1,N⟩=Z v:=h.Dj.cell 1
theorem Sm.Uo(h:Sm w b ow v l)(x:Int):Sm (w.setCell ⟨b,0,N⟩ (I U x)) b x v l:=⟨h.Dj.Sd,h.row.off ((Cw.refl (λj=>j=b) w).set (.inr rfl) _ _) (P7 h.ne),h.ne,λj a=>by have:=h.live j a;simpa[tV]using this⟩
theorem Sm.setRow{v':tR}{l':List Int}(h:Sm w b ow v l)(c:VG w v' l')(a:v'.ownBlock≠Z b)(d: ∀j,v'.ownBlock=Z j->j<w.heap.size):Sm (w.setCell ⟨b,1,N⟩ v') b ow v' l':=⟨h.Dj.Mt,c.off ((Cw.refl (λj=>j=b) w).set (.inr rfl) _ _) (P7 a),a,λj e=>by have:=d j e;simpa[tV]using this⟩
def sL(b:Nat)(v v':tR)(w:rO):Prop:= ∀j,v'.ownBlock=Z j->v.ownBlock=Z j\/w.heap.size<=j
def Sp(b:Nat)(ow:Int)(v:tR)(l:List Int)(w w':rO):Prop:= ∃a,Sm w' b ow a l/\Cw (Sf b v) w w'/\sL b v a w
theorem F8(w:rO):tT prog 46 #[] w λe w'=>e=ui (J (Z ⟨w.heap.size,0,N⟩))/\w.alloc (uj #[I U 0,Y N 0 0] 207)=w':=by go_enter func46,ntmps46;go_wp2;go_ret;exact⟨rfl,rfl⟩
theorem Sm.new(w:rO):Sm (w.alloc (uj #[I U 0,Y N 0 0] 207)) w.heap.size 0 (Y N 0 0) []:=⟨Cy.new w _ 207,VG.nil _,by simp[ud],by simp[ud]⟩
theorem ES(u:tR)(l:List Int)(w:rO)(h:DG w u l)(v:l.length<10000000):tT prog 288 #[u] w (nh l w):=by
 have hlen:([]:List Int).length+l.length<100000000:=by simp;omega
 have b:=Aa hlen;have i:=Aa h;have k:=λ(w:rO)(a:Option Addr)(n c o p:Nat)=>Za3 (P:=prog) w 22 3 a n c o p underlying22;rcases h.open with⟨rfl,rfl⟩|⟨x,cap,rfl,rfl⟩|⟨y,off,cap,rfl,q,m,r,e⟩
 ·go_enter func288,ntmps288
  go_wp2;go_ret;exact⟨_,rfl,CH.nil _ _,tU _ _⟩
 ·go_enter func288,ntmps288
  go_wp2_with(at_builtin;refine Ju underlying22 Dv w.heap.size _ rfl _ _ rfl (Y (Z ⟨w.heap.size,0,N⟩) 0 0) [] _ [] rfl rfl (CH.new (w:=w) (l:=[]) (by simp)) (i.out.alloc _) (by simp) (by simp) ?_;intro s t f;have d:=Aa f);go_ret;exact⟨_,rfl,d.out.1,CK (Cu (tU _ _) _) d.out.2.1 (λj g=>by simp[ud]at g;omega)⟩
 ·go_enter func288,ntmps288
  go_wp2_with(at_builtin;refine Ju underlying22 Dv w.heap.size _ rfl _ _ rfl (Y (Z ⟨w.heap.size,0,N⟩) 0 0) [] _ l rfl rfl (CH.new (w:=w) (l:=[]) (by simp)) (i.out.alloc _) (by simp) b.out ?_;intro s t f;have d:=Aa f);go_ret;exact⟨_,rfl,d.out.1,CK (Cu (tU _ _) _) d.out.2.1 (λj g=>by simp[ud]at g;omega)⟩
theorem EY(x g:Int)(gb:Nat)(w:rO)(a:w.cell? ⟨gb,0,N⟩=Z (I U g)):tT prog 358 #[I U x,J (Z ⟨gb,0,N⟩)] w λe w'=>e=ui (ue (x==g))/\w=w':=by go_enter func358,ntmps358;go_wp2;go_ret;exact⟨rfl,rfl⟩
theorem OL(u:tR)(l:List Int)(g:Int)(gb:Nat)(w:rO)(h:DG w u l)(x:l.length<10000000)(n:w.cell? ⟨gb,0,N⟩=Z (I U g)):tT prog 219 #[u,.func (.func 358) #[] #[J (Z ⟨gb,0,N⟩)]] w λe w'=>e=ui (I U (Ga l g))/\w=w':=by
 obtain⟨a,cap,rfl⟩:=h.len;have p:=Aa h;clear h;go_enter func219,ntmps219;go_wp2;go_loop [8] (λi=> ∃k:Nat,k<=l.length/\i=I U k/\Hid (∀i,i<k->l[i]?.getD 0≠g)) (λi=>l.length-(intOf i).toNat)
 case atStart=>exact⟨0,Ap _,rfl,λi q=>by omega⟩
 case round=>
  obtain⟨k,z,rfl,f⟩:=hrel;by_cases c:k<l.length
  ·rcases p.out.open with⟨_,j⟩|⟨_,_,_,j⟩|⟨A,off,o,he,_,_,r,b⟩
   ·simp[j]at c
   ·simp[j]at c
   simp only[As]at he;obtain⟨rfl,_,rfl⟩:=he;have s:=b k c;clear b;by_cases d:l[k]?.getD 0=g
   ·have m:=Aa (SE l g k c d f.out)
    rw[d]at s;clear d;go_wp2_with(go_at_call 358;refine(EY _ _ _ _ n).mono ?_;rintro e w'⟨rfl,rfl⟩);go_ret;exact⟨Fv m.out.symm,rfl⟩
   ·have t:(l[k]?.getD 0==g)=false:=by rw[Az];exact d
    have v:Hid (∀i,i<k+1->l[i]?.getD 0≠g):=λi q=>by
     by_cases e:i=k
     ·subst e;exact d
     ·exact f.out i (by omega)
    generalize l[k]?.getD 0=y at*
    clear d;go_wp2_with(go_at_call 358;refine(EY _ _ _ _ n).mono ?_;rintro e w'⟨rfl,rfl⟩);go_round
    case rel=>exact⟨k+1,by omega,by go_num,v.out⟩
    case measure=>simp[intOf];omega
  ·obtain rfl:k=l.length:=by omega
   have m:=Aa (VH l g f.out);go_wp2;go_ret;exact⟨Fv m.out.symm,rfl⟩
def He(l:List Int)(g:Int)(w:rO)(e:uh)(w':rO):Prop:=e=ui (I U (Ga l g))/\tS w.heap.size w w'
theorem NT(b:Nat)(ow:Int)(v:tR)(l:List Int)(g:Int)(w:rO)(h:Sm w b ow v l)(a:l.length<10000000):tT prog 335 #[J (Z ⟨b,0,N⟩),I U g] w (He l g w):=by have c1:(w.alloc (uj #[I U g] 3)).cell? ⟨b,1,N⟩=Z v:=(h.below (Cu (tU _ _) _)).JC;have c:=Aa (OL v l g w.heap.size (w.alloc (uj #[I U g] 3)) (h.row.jb.alloc _) a ((Cy.new w #[I U g] 3).cell 0));go_enter func335,ntmps335;go_wp2_with fail;refine c.out.mono ?_;rintro e d⟨rfl,rfl⟩;go_wp2_with fail;go_ret;exact⟨rfl,Cu (tU _ _) _⟩
end
def OM(ow g:Int):Int:=if g<1 then ow else if ow=0 then g else ow
def NC(ow g:Int):Bool:=if g<1 then tY else if ow=0 then tZ else decide (ow=g)
def YG(g:Int):Int:=if g<1 then 1 else 0
def ON(ow:Int)(l:List Int)(g:Int):List Int:=if g<1 then l else if ow=0 then l else if ow=g then l else if g∈l then l else l++[g]
def Up(b:Nat)(ow:Int)(v:tR)(l:List Int)(g:Int)(w:rO)(e:uh)(w':rO):Prop:=e=ui (uo #[ue (NC ow g),I U (YG g)])/\Sp b (OM ow g) v (ON ow l g) w w'
theorem Sp.same{b:Nat}{ow:Int}{v:tR}{l:List Int}{w w':rO}(h:Sm w' b ow v l)(o:Cw (Sf b v) w w'):Sp b ow v l w w':=⟨v,h,o,λ_ h=>.inl h⟩
theorem P8(b:Nat)(ow:Int)(v:tR)(l:List Int)(g:Int)(w:rO)(h:Sm w b ow v l)(hl:l.length<1000000):tT prog 294 #[J (Z ⟨b,0,N⟩),I U g] w (Up b ow v l g w):=by
 have c0:=h.cell0;have f0:=h.Dj.free 0;unfold Up OM NC YG ON;by_cases A:g<1
 ·simp only[A,BD]
  have T:decide (g<1)=true:=by simpa using A
  have k:=Aa h;go_enter func294,ntmps294;go_wp2;go_ret2;exact⟨rfl,Sp.same k.out (Cw.refl _ _)⟩
 have T:decide (g<1)=false:=by simpa using A
 simp only[A,Bn];by_cases C:ow=0
 ·subst C
  simp only[BD];have k:=Aa (h.Uo g);go_enter func294,ntmps294;go_wp2;go_ret2;exact⟨rfl,Sp.same k.out ((Cw.refl (Sf b v) w).set (.inr (.inl rfl)) _ _)⟩
 have V:(ow==0)=false:=by rw[Az];exact C
 simp only[C,Bn];by_cases r:ow=g
 ·have D:(ow==g)=true:=by rw[Zbs];exact r
  simp only[r,BD,decide_true];have k:Hid (Sm w b g v l):=by rw[<-r];exact h
  go_enter func294,ntmps294;go_wp2;go_ret2;exact⟨rfl,Sp.same k.out (Cw.refl _ _)⟩
 have D:(ow==g)=false:=by rw[Az];exact r
 simp only[r,Bn,decide_false];have q:=Aa (NT b ow v l g w h (by omega));have hm:=P6 l g;have k:=Aa h;by_cases a:g∈l
 ·have E:decide (Ga l g<0)=false:=by rw[decide_eq_false_iff_not,hm];simpa using a
  simp only[a,BD];generalize c:Ga l g=W at*
  unfold He at q;rw[c]at q;go_enter func294,ntmps294;go_wp2_with fail;refine q.out.mono ?_;rintro e f⟨rfl,i⟩;have d:=Aa i;go_wp2_with fail;go_ret2;exact⟨rfl,Sp.same (k.out.below d.out) ((Cw.refl _ _).below d.out)⟩
 ·have E:decide (Ga l g<0)=true:=by rw[Bo,hm];exact a
  simp only[a,Bn];generalize c:Ga l g=W at*
  unfold He at q;rw[c]at q;go_enter func294,ntmps294;go_wp2_with fail;refine q.out.mono ?_;rintro e f⟨rfl,i⟩;have d:=Aa i;have B:=k.out.below i;have d1:=B.JC;have R:=B.Dj.lt;have F:Hid (VG (f.alloc (uj #[I U g] 3)) v l):=B.row.off ((Cw.refl (λ_=>False) f).alloc _) (λ_ _ x=>x);have X:Hid ((f.alloc (uj #[I U g] 3)).cell? ⟨f.heap.size,0,N⟩=Z (I U g)):=(Cy.new f #[I U g] 3).cell 0;have n:=Aa B;go_wp2_with(at_builtin;refine qu underlying22 Dv (f.alloc (uj #[I U g] 3)) rfl _ _ rfl v l g f.heap.size rfl rfl F.out X.out (by omega) ?_;intro v' G H K s L;have m:Cw (λj=>v.ownBlock=Z j) f G:=((Cw.refl _ f).alloc _).grown K (λj e=>.inr e);have o:=n.out.Dj.only m (λe=>n.out.ne e);have e1:=o.cell 1;have ef:=o.free 1;have M:v'.ownBlock≠Z b:=(λe=>by rcases s b e with p|p;exact n.out.ne p;simp at p;omega);have t:=Aa H;have u:=Aa m;have O:=Aa s;have P:=Aa o;have y:=Aa M;obtain⟨g',S,rfl⟩:=L;simp only[Ad,Ac,Ag]at e1);go_ret2;have Q:Cw (Sf b v) w G:=((Cw.refl (Sf b v) w).below d.out).andThen u.out (λj _ z=>.inr z);refine⟨rfl,_,⟨P.out.Mt,.inl (t.out.off ((Cw.refl (λj=>j=b) G).set (.inr rfl) _ _) (P7 y.out)),y.out,λj z=>by have:=(t.out.lt j z).2;simpa[tV]using this⟩,Q.set (.inr (.inl rfl)) _ _,λj z=>?_⟩;rcases O.out j z with p|p
  ·exact .inl p
  ·right
   have:=d.out.size;simp at p;omega
def eF(ow g:Int):Int:=if g<1 then 9 else if ow=g then 0 else 9
def P9(ow:Int)(l:List Int)(g:Int):Int:=if g<1 then 0 else if ow=g then l.headD 0 else 0
def Qa(ow:Int)(l:List Int)(g:Int):Int:=if g<1 then ow else if ow=g then l.headD 0 else ow
def Qb(ow:Int)(l:List Int)(g:Int):List Int:=if g<1 then l else if ow=g then l.tail else l
def Uq(b:Nat)(ow:Int)(v:tR)(l:List Int)(g:Int)(w:rO)(e:uh)(w':rO):Prop:=e=ui (uo #[I U (P9 ow l g),I U (eF ow g)])/\Sp b (Qa ow l g) v (Qb ow l g) w w'
theorem Sp.cells{b:Nat}{ow x:Int}{v v':tR}{l l':List Int}{w:rO}(h:Sm w b ow v l)(e:VG w v' l')(c:v'.ownBlock≠Z b)(d: ∀j,v'.ownBlock=Z j->v.ownBlock=Z j):Sp b x v l' w (((w.setCell ⟨b,0,N⟩ (I U 0)).setCell ⟨b,0,N⟩ (I U x)).setCell ⟨b,1,N⟩ v'):=by have f:=(h.Uo 0).Uo x;refine⟨v',f.setRow (e.off (((Cw.refl (λj=>j=b) w).set (.inr rfl) _ _).set (.inr rfl) _ _) (P7 c)) c (λj a=>by have:=h.live j (d j a);simpa[tV]using this),(((Cw.refl (Sf b v) w).set (.inr (.inl rfl)) _ _).set (.inr (.inl rfl)) _ _).set (.inr (.inl rfl)) _ _,λj a=>.inl (d j a)⟩
theorem IF(b:Nat)(ow:Int)(v:tR)(l:List Int)(g:Int)(w:rO)(h:Sm w b ow v l)(E:l.length<1000000):tT prog 261 #[J (Z ⟨b,0,N⟩),I U g] w (Uq b ow v l g w):=by
 have c0:=h.cell0;have c1:=h.JC;have f0:=h.Dj.free 0;have f1:=h.Dj.free 1;unfold Uq Qa P9 eF Qb;by_cases q:g<1
 ·simp only[q,BD]
  have F:decide (g<1)=true:=by simpa using q
  have d:=Aa h;go_enter func261,ntmps261;go_wp2;go_ret2;exact⟨rfl,Sp.same d.out (Cw.refl _ _)⟩
 have F:decide (g<1)=false:=by simpa using q
 simp only[q,Bn];by_cases s:ow=g
 ·subst s
  have t:(ow !=ow)=false:=by simp
  simp only[BD];cases l with
  |nil=>obtain⟨a,cap,rfl⟩:=h.row.jb.len;have d:=Aa (h.Uo 0);go_enter func261,ntmps261;go_wp2;go_ret2;exact⟨rfl,Sp.same d.out ((Cw.refl (Sf b _) w).set (.inr (.inl rfl)) _ _)⟩
  |cons x r=>
   rcases h.row.jb.open with⟨_,u⟩|⟨_,_,_,u⟩|⟨f,o,cap,rfl,G,i,H,c⟩
   ·cases u
   ·cases u
   have K:=c 0 (by simp);simp only[Zb7,Ac,AW]at K;have k:(x::r).length=r.length+1:=by simp
   have y:f≠b:=λe=>h.ne (by rw[e];rfl);have D: ¬b=f:=λe=>y e.symm;rw[k]at i c1 E;have z:=h.row.jb;rw[k]at h;have L:decide ((0:Int)<(r.length:Int)+1)=true:=by rw[Bo];omega
   have Q:(1:Int)<=(r.length:Int)+1:=by omega
   have R:(r.length:Int)+1<=(cap:Int):=by omega
   have S:(1:Int)<=(cap:Int):=by omega
   have T:r.length+1<=cap:=by omega
   have V:(0:Int)<(r.length:Int)+1:=by omega
   by_cases m:r=[]
   ·subst m
    have A:=Aa (Sp.cells (x:=x) (v':=Y (Z ⟨f,o,N⟩) 0 0) (l':=[]) h (.inr ⟨DG.Ug _ _ _,_,rfl⟩) h.ne (λj B=>B));simp only[AG,AJ]at*
    go_enter func261,ntmps261;go_wp2_with fail;go_region
    all_goals
     go_wp2;go_ret2;obtain⟨n,s1,s2,C⟩:=A.out;exact⟨rfl,n,⟨s1.Dj,s1.row,s1.ne,s1.live⟩,⟨s2.os,s2.tape,s2.output,s2.size,s2.block⟩,C⟩
   ·have O:0<r.length:=Cf.2 m
    have p:DG w (Y (Z ⟨f,o+1,N⟩) r.length r.length) r:=z.drop 1 (by simp) (by simp) (Al _);have A:=Aa (Sp.cells (x:=x) (v':=Y (Z ⟨f,o+1,N⟩) r.length r.length) (l':=r) h (.inr ⟨p,_,rfl⟩) h.ne (λj B=>B));have P: ¬r.length=0:=by omega
    go_enter func261,ntmps261;go_wp2_with fail;go_region
    all_goals
     go_wp2;go_ret2;obtain⟨n,s1,s2,C⟩:=A.out;exact⟨rfl,n,⟨s1.Dj,s1.row,s1.ne,s1.live⟩,⟨s2.os,s2.tape,s2.output,s2.size,s2.block⟩,C⟩
 ·have t:(ow !=g)=true:=by simpa using s
  simp only[s,Bn];have d:=Aa h;go_enter func261,ntmps261;go_wp2;go_ret2;exact⟨rfl,Sp.same d.out (Cw.refl _ _)⟩
end Dg
end Go.Proofs.YtgadhchejmlfjaaGreatDoor
namespace Go
section
variable {P:Program}{ops:Array Oper}{Q:Exit->Act->rO->Prop}{md:Region.Mode}{S:rO->Prop}{m:Nat}
variable {i fuel:Nat}{oi om o:Oper}{v:tR}{listed:Array Bool}{a:Act}{w:rO}
def DP(P:Program)(md:Region.Mode)(ops:Array Oper)(Q:Exit->Act->rO->Prop)(S:rO->Prop)(m:Nat):Nat->Array Bool->Act->rO->Prop
 |0,listed,a,w=>Region.ready md ops listed=[]/\Q .normal a w
 |fuel+1,listed,a,w=>
  (Region.ready md ops listed=[]->Q .normal a w)/\
  ∀i∈Region.ready md ops listed,wpOp P ops Q i (λa' b=>((listed.setIfInBounds i tZ).getD m tZ=tY->S b)/\DP P md ops Q S m fuel (listed.setIfInBounds i tZ) a' b) a w
theorem MH: ∀(fuel:Nat)(listed:Array Bool)(a:Act)(w:rO),DP P md ops Q S m fuel listed a w->wpAny P md ops Q fuel listed a w
 |0,_,_,_,h=>h
 |fuel+1,_,_,_,h=>⟨h.1,λi b=>wpOp_mono (λa' c d=>MH fuel _ a' c d.2) (h.2 i b)⟩
theorem OO(E:ops[i]?=Z oi)(n: ∀(j:Nat)(o:Oper) cs b,ops[j]?=Z o->o.op≠ .select cs b) (W: ∀c a w,Q (.panic c) (a.put oi.dst v) w->Q (.panic c) a w) (F:ops[m]?=Z om) (G: ∃e∈om.after,Region.binds md e=tZ/\e.on=i) (K:m≠i): ∀(fuel:Nat)(listed:Array Bool)(a:Act)(w:rO),(∀j oj,ops[j]?=Z oj->j≠i->listed.getD j tZ=tY->(∀e∈oj.after,Region.binds md e=tZ->e.on≠i)->oi.apart ops oj=tZ)->i∈Region.ready md ops listed->YieldsIf P ops S oi v a->S w->listed.getD m tZ=tY->DP P md ops Q S m fuel (listed.setIfInBounds i tZ) (a.put oi.dst v) w->DP P md ops Q S m (fuel+1) listed a w:=by
 intro fuel;induction fuel with
 |zero=>
  intro listed a w _ r hy u s H;refine⟨λh=>(by rw[h]at r;cases r),λj C=>?_⟩;by_cases d:j=i
  ·subst d;exact hy.wpOp E u ⟨λ_=>u,H⟩
  ·have:=ready_mono C d
   rw[H.1]at this;cases this
 |succ fuel X=>
  intro listed a w f r hy u s H;refine⟨λh=>(by rw[h]at r;cases r),λj C=>?_⟩;by_cases d:j=i
  ·subst d;exact hy.wpOp E u ⟨λ_=>u,H⟩
  ·have t:=H.2 j (ready_mono C d)
   obtain⟨p,oj,g,x⟩:=mem_ready.1 C;have q: ∀e∈oj.after,Region.binds md e=tZ->e.on≠i:=λe he L heq=>by
    have t:=x e he L;have V:=(mem_ready.1 r).1;rw[heq]at t;rcases Bc i listed.size with M|M
    ·simp[M]at V t;rw[V]at t;cases t
    ·simp[Zaf M]at t
   have y:j≠m:=λe=>by subst e;rw[F]at g;cases g;obtain⟨e,he,L,ho⟩:=G;exact q e he L ho
   have O:(listed.setIfInBounds j tZ).getD m tZ=false:=by rw[getD_set_ne tZ y];exact s
   have z:((listed.setIfInBounds i tZ).setIfInBounds j tZ).getD m tZ=false:=by rw[getD_set_ne tZ y,getD_set_ne tZ (Cb K)];exact s
   have h2:=wpOp_putIf g (f j oj g d p q) (λcs b=>n i oi cs b E) (λcs b=>n j oj cs b g) W hy t
   have l: ∀k ok,ops[k]?=Z ok->k≠i->(listed.setIfInBounds j tZ).getD k tZ=tY->
     (∀e∈ok.after,Region.binds md e=tZ->e.on≠i)->oi.apart ops ok=true:=λk ok hk R A T=>by
    refine f k ok hk R ?_ T;by_cases B:j=k
    ·subst B;exact p
    ·rw[getD_set_ne tZ B]at A;exact A
   refine wpOp_mono (λa' w' D=>⟨λ_=>D.2.1 z,X (listed.setIfInBounds j tZ) a' w' l (ready_mono r (Cb d)) D.1 (D.2.1 z) O ?_⟩) h2;rw[Zbg _ _ d];exact D.2.2
theorem DN(j:ops[i]?=Z oi)(d:ops[m]?=Z om)(f:(om.after.any λe=>Region.binds md e&&e.on==i)=tZ) (b:(m !=i&& !listed.getD m tZ)=tZ) (k:Region.noSelect ops=tZ) (l:Region.free md ops listed i=tZ) (n:(Region.ready md ops listed).contains i=tZ) (o: ∀c a w,Q (.panic c) (a.put oi.dst v) w->Q (.panic c) a w) (hy:YieldsIf P ops S oi v a) (p:S w) (h:DP P md ops Q S m fuel (listed.setIfInBounds i tZ) (a.put oi.dst v) w):DP P md ops Q S m (fuel+1) listed a w:=by simp only[AR,bne_iff_ne,ne_eq,Za6]at b;obtain⟨e,he,g⟩:=Array.any_eq_true'.1 f;simp only[AR,Zbs]at g;exact OO j (Region.noSelect_spec k) o d ⟨e,he,g.1,g.2⟩ b.1 fuel listed a w (Region.free_spec j l) (by simpa using n) hy p b.2 h
theorem ND(D:ops[i]?=Z oi)(l: ∀(j:Nat)(o:Oper) cs b,ops[j]?=Z o->o.op≠ .select cs b) (M: ∀c a w,Q (.panic c) (a.put oi.dst v) w->Q (.panic c) a w) (p:m≠i): ∀(fuel:Nat)(listed:Array Bool)(a:Act)(w:rO),(∀j oj,ops[j]?=Z oj->j≠i->listed.getD j tZ=tY->(∀e∈oj.after,Region.binds md e=tZ->e.on≠i)->oi.apart ops oj=tZ)->i∈Region.ready md ops listed->YieldsIf P ops (λ_=>True) oi v a->(listed.getD m tZ=tY->S w)->DP P md ops Q S m fuel (listed.setIfInBounds i tZ) (a.put oi.dst v) w->DP P md ops Q S m (fuel+1) listed a w:=by
 intro fuel;induction fuel with
 |zero=>
  intro listed a w _ q hy E H;refine⟨λh=>(by rw[h]at q;cases q),λj B=>?_⟩;by_cases d:j=i
  ·subst d;exact hy.wpOp D trivial ⟨λh=>E (by rw[getD_set_ne tZ (Cb p)]at h;exact h),H⟩
  ·have:=ready_mono B d
   rw[H.1]at this;cases this
 |succ fuel O=>
  intro listed a w f q hy E H;refine⟨λh=>(by rw[h]at q;cases q),λj B=>?_⟩;by_cases d:j=i
  ·subst d;exact hy.wpOp D trivial ⟨λh=>E (by rw[getD_set_ne tZ (Cb p)]at h;exact h),H⟩
  ·have r:=H.2 j (ready_mono B d)
   obtain⟨n,oj,s,u⟩:=mem_ready.1 B;have x: ∀e∈oj.after,Region.binds md e=tZ->e.on≠i:=λe he R heq=>by
    have r:=u e he R;have L:=(mem_ready.1 q).1;rw[heq]at r;rcases Bc i listed.size with F|F
    ·simp[F]at L r;rw[L]at r;cases r
    ·simp[Zaf F]at r
   have T:=wpOp_putIf s (f j oj s d n x) (λcs b=>l i oi cs b D) (λcs b=>l j oj cs b s) M hy r
   have g: ∀k ok,ops[k]?=Z ok->k≠i->(listed.setIfInBounds j tZ).getD k tZ=tY->
     (∀e∈ok.after,Region.binds md e=tZ->e.on≠i)->oi.apart ops ok=true:=λk ok V G y K=>by
    refine f k ok V G ?_ K;by_cases z:j=k
    ·subst z;exact n
    ·rw[getD_set_ne tZ z]at y;exact y
   have A: ∀t,(((listed.setIfInBounds i tZ).setIfInBounds j tZ).getD m tZ=tY->S t)->((listed.setIfInBounds j tZ).getD m tZ=tY->S t):=λt h hm=>h (by rw[Zbg _ _ (Cb d),getD_set_ne tZ (Cb p)];exact hm);refine wpOp_mono (λa' t C=>⟨A t C.2.1,O (listed.setIfInBounds j tZ) a' t g (ready_mono q (Cb d)) C.1 (A t C.2.1) ?_⟩) T;rw[Zbg _ _ d];exact C.2.2
theorem EZ(d:ops[i]?=Z oi)(b:(m !=i)=tZ)(e:Region.noSelect ops=tZ)(f:Region.free md ops listed i=tZ)(g:(Region.ready md ops listed).contains i=tZ)(j: ∀c a w,Q (.panic c) (a.put oi.dst v) w->Q (.panic c) a w) (hy:Yields P ops oi v a) (k:listed.getD m tZ=tY->S w) (h:DP P md ops Q S m fuel (listed.setIfInBounds i tZ) (a.put oi.dst v) w):DP P md ops Q S m (fuel+1) listed a w:=ND d (Region.noSelect_spec e) j (by simpa using b) fuel listed a w (Region.free_spec d f) (by simpa using g) hy.yieldsIf k h
theorem tk(i:Nat)(d:ops[i]?=Z oi)(b:(m !=i&&(Region.noSelect ops&&(Region.free md ops listed i&&((Region.ready md ops listed).contains i&&Region.wanted oi (yielded ops a.tmps)))))=tZ)(e: ∀c a w,Q (.panic c) (a.put oi.dst v) w->Q (.panic c) a w) (hy: ∀w,(execOp a.eval oi).run P w= .ok (.value v) w) (f:listed.getD m tZ=tY->S w) (h:DP P md ops Q S m fuel (listed.setIfInBounds i tZ) (a.put oi.dst v) w):DP P md ops Q S m (fuel+1) listed a w:=by simp only[AR]at b;exact EZ d b.1 b.2.1 b.2.2.1 b.2.2.2.1 e (.inl ⟨b.2.2.2.2,hy⟩) f h
theorem eG(i:Nat)(d:ops[i]?=Z oi)(b:(m !=i&&(Region.noSelect ops&&(Region.free md ops listed i&&((Region.ready md ops listed).contains i&&(Region.wanted oi (yielded ops a.tmps)&&listed.getD m tZ)))))=tZ)(f: ∀c a w,Q (.panic c) (a.put oi.dst v) w->Q (.panic c) a w) (hy: ∀w,(execOp a.eval oi).run P w= .ok (.value v) w) (h:DP P md ops Q S m fuel (listed.setIfInBounds i tZ) (a.put oi.dst v) w):DP P md ops Q S m (fuel+1) listed a w:=by simp only[AR]at b;exact EZ d b.1 b.2.1 b.2.2.1 b.2.2.2.1 f (.inl ⟨b.2.2.2.2.1,hy⟩) (λe=>by rw[b.2.2.2.2.2]at e;cases e) h
theorem pN(i:Nat)(d:ops[i]?=Z oi)(b:(m !=i&&(Region.noSelect ops&&(Region.free md ops listed i&&((Region.ready md ops listed).contains i&&(!Region.wanted oi (yielded ops a.tmps)&&listed.getD m tZ)))))=tZ)(f: ∀c a w,Q (.panic c) (a.put oi.dst undef) w->Q (.panic c) a w) (h:DP P md ops Q S m fuel (listed.setIfInBounds i tZ) (a.put oi.dst undef) w):DP P md ops Q S m (fuel+1) listed a w:=by simp only[AR,Za6]at b;exact EZ d b.1 b.2.1 b.2.2.1 b.2.2.2.1 f (.inr ⟨b.2.2.2.2.1,rfl⟩) (λe=>by rw[b.2.2.2.2.2]at e;cases e) h
def DI(P:Program)(md:Region.Mode)(ops:Array Oper)(Q:Exit->Act->rO->Prop)(S:rO->Prop)(m fuel:Nat)(listed:Array Bool)(a:Act)(w:rO)(rs:List Nat):Prop:= ∀i∈rs,wpOp P ops Q i (λa' b=>((listed.setIfInBounds i tZ).getD m tZ=tY->S b)/\DP P md ops Q S m fuel (listed.setIfInBounds i tZ) a' b) a w
theorem DI.nil:DI P md ops Q S m fuel listed a w []:=λ_ h=>by cases h
theorem DI.cons{rs:List Nat}(d:ops[i]?=Z o)(h: ∀b:Act->rO->Prop,(∀a w,((listed.setIfInBounds i tZ).getD m tZ=tY->S w)/\DP P md ops Q S m fuel (listed.setIfInBounds i tZ) a w->b a w)->if Region.wanted o (yielded ops a.tmps)=tZ then Oper.wp P o a w b Q else b (a.put o.dst undef) w) (e:DI P md ops Q S m fuel listed a w rs):DI P md ops Q S m fuel listed a w (i::rs):=λj c=>by
 rcases Be.1 c with rfl|c
 ·exact wpOp_step d (λb f=>h b (λa w g=>f a w g))
 ·exact e j c
theorem Hw{rs:List Nat}(c:Region.ready md ops listed=rs)(b:rs≠[])(h:DI P md ops Q S m fuel listed a w rs):DP P md ops Q S m (fuel+1) listed a w:=⟨λd=>absurd (c▸d) b,c▸h⟩
theorem Gb(i:Nat)(c:Region.ready md ops listed=[i])(d:ops[i]?=Z o)(h: ∀b:Act->rO->Prop,(∀a w,((listed.setIfInBounds i tZ).getD m tZ=tY->S w)/\DP P md ops Q S m fuel (listed.setIfInBounds i tZ) a w->b a w)->if Region.wanted o (yielded ops a.tmps)=tZ then Oper.wp P o a w b Q else b (a.put o.dst undef) w):DP P md ops Q S m (fuel+1) listed a w:=Hw c (by simp) (DI.cons d h DI.nil)
theorem FE(b:Region.ready md ops listed=[])(h:Q .normal a w): ∀fuel,DP P md ops Q S m fuel listed a w
 |0=>⟨b,h⟩
 |_+1=>⟨λ_=>h,by rw[b];simp⟩
theorem FG{id:Nat}(m:Nat)(S:rO->Prop)(hm:P.follows .mixedOrders=tZ)(h:DP P .any ops Q S m ops.size (Array.replicate ops.size tY) a w.drew):(Code.region id ops tZ).wp P Q a w:=wp_region_any hm (MH _ _ _ _ h)
end
end Go
namespace Go.Proofs.YtgadhchejmlfjaaGreatDoor
namespace topCounts
open Go.Proofs.Tryz
open Go.ChangeShapes Go.WideShapes Go.ChangeAt Go.RowKit
theorem k1:Rows.topCountsRow.wf (OpenSpec.ofChange Rows.topCountsSpec)=true:=by kernel_rfl
theorem k2:laidOutB checked.prog=true:=by kernel_rfl
theorem k3:mapsRowed checked.prog=true:=by kernel_rfl
theorem k4:f5.params.all (checked.prog.readableRec ·)=true:=by kernel_rfl
theorem k5:namedTie checked.prog Rows.topCountsRow.named Rows.topCountsSpec.vars=true:=by kernel_rfl
theorem k6:(Rows.topCountsRow.stops== [])=true:=by kernel_rfl
theorem k7:(checked.prog.stops== [])=true:=by kernel_rfl
theorem k8:(Rows.topCountsRow.knobs== [])=true:=by kernel_rfl
theorem k9:(checked.prog.stopKnobs== [])=true:=by kernel_rfl
theorem Sk:(Rows.topCountsRow.inPlace==checked.prog.inPlace 5)=true:=by kernel_rfl
theorem Yo:(Rows.topCountsRow.unfollowed==checked.prog.unfollowed 5)=true:=by kernel_rfl
theorem eH:(Rows.topCountsRow.recurses==checked.prog.recurses 5)=true:=by kernel_rfl
theorem rQ:(Rows.topCountsRow.named==checked.prog.varsNamed 5)=true:=by kernel_rfl
theorem rR:(Rows.topCountsRow.maps==(f5.params.toList++Rows.topCountsSpec.plain.varTypes checked.prog).any (checked.prog.mapsRec ·))=true:=by kernel_rfl
theorem rS:(Rows.topCountsRow.ifaces==(f5.params.toList++Rows.topCountsSpec.plain.varTypes checked.prog).any (checked.prog.ifacesRec ·))=true:=by kernel_rfl
theorem pO:(Rows.topCountsRow.mapsOut==checked.prog.mapsAmong f5.resultTypes.toList)=true:=by kernel_rfl
theorem sM:(Rows.topCountsRow.loops==(f5.params.toList++Rows.topCountsSpec.plain.varTypes checked.prog).any (checked.prog.loopsFrom ·))=true:=by kernel_rfl
theorem sN:(Rows.topCountsRow.wideKeys==(f5.params.toList++Rows.topCountsSpec.plain.varTypes checked.prog++f5.resultTypes.toList).any (checked.prog.wideKeysFrom ·))=true:=by kernel_rfl
theorem rT:Rows.topCountsSpec.vars.all (checked.prog.varReadable ·)=true:=by kernel_rfl
theorem jc:f5.resultTypes.all (λt=>checked.prog.readableRec t&&decide (t<checked.prog.types.size))=true:=by kernel_rfl
theorem rU:(Rows.topCountsRow.ifacesOut==f5.resultTypes.toList.any (checked.prog.ifacesRec ·))=true:=by kernel_rfl
theorem rV:(Rows.topCountsRow.loopsOut==f5.resultTypes.toList.any (checked.prog.loopsFrom ·))=true:=by kernel_rfl
theorem sO:(Rows.topCountsRow.plainKeys==checked.prog.plainKeys)=true:=by kernel_rfl
theorem sP:Rows.topCountsRow.shortTexts.isNone=true:=by kernel_rfl
theorem sQ:checked.prog.stopsHeard=true:=by kernel_rfl
theorem sR:checked.prog.mayEnter=true:=by kernel_rfl
theorem sT:(Rows.topCountsRow.lifted==checked.prog.liftsFinal)=true:=by kernel_rfl
theorem sU:(checked.prog.make==Z Rows.topCountsRow.make)=true:=by kernel_rfl
theorem sV:(Rows.topCountsRow.kinds==(if Rows.topCountsRow.domain.isEmpty then []else f5.params.toList.map λt=>match checked.prog.underlying t with|some (.int k)=>Z k|_=>N))=true:=by kernel_rfl
theorem sW:(Rows.topCountsRow.pinned==Rows.topCountsRow.pinnedBy)=true:=by kernel_rfl
theorem sX:(Rows.topCountsRow.veiled==(f5.params.toList++Rows.topCountsSpec.plain.varTypes checked.prog++f5.resultTypes.toList).any (checked.prog.veiledRec ·))=true:=by kernel_rfl
theorem sY:Rows.topCountsRow.veiledFits checked.prog f5.params.toList (f5.params.toList++Rows.topCountsSpec.plain.varTypes checked.prog++f5.resultTypes.toList)=true:=by kernel_rfl
theorem both{a b:Bool}(h:a=tZ)(k:b=tZ):(a&&b)=true:=by rw[h,k];rfl
theorem closed:joinedFacts checked.prog 5 f5 Rows.topCountsSpec Rows.topCountsRow=true:=by unfold joinedFacts;exact(both (both (both (both (both (both (both (both (both (both (both (both (both (both (both (both (both (both (both (both (both (both (both (both (both (both (both (both (both (both (both k1 k2) k3) k4) k5) k6) k7) k8) k9) Sk) Yo) eH) rQ) rR) rS) pO) sM) sN) rT) jc) rU) rV) sO) sP) sQ) sR) sT) sU) sV) sW) sX) sY)
theorem YH:checked.prog.funcNamed Rows.topCountsRow.func=Z 5:=by kernel_rfl
theorem jW:Rows.topCountsRow.wfByText (OpenSpec.ofChange Rows.topCountsSpec)=true:=by kernel_rfl
theorem mainIs:checked.prog.mainIs=Z (tZ,"81b73818891692d27b993e6d6bd417915a994d653eb782a953168ccbf78ae42f".toList):=by kernel_rfl
theorem YI:tZ=checked.prog.looks []:=by kernel_rfl
theorem eI:tY=Rows.topCountsRow.goesBy checked.prog:=by kernel_rfl
end topCounts
end Go.Proofs.YtgadhchejmlfjaaGreatDoor
