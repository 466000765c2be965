/- A part of the proof. -/
import Derived.Test.YtgadhchejmlfjaaGreatDoorA7
set_option linter.unusedVariables false
set_option maxRecDepth 20000
set_option maxHeartbeats 16000000
open Go.Value renaming int->I,pointer->J,slice->Y
open Go.IntKind renaming i64->U
open Option renaming none->N,some->Z
open Bool renaming false->tY,true->tZ
open Go renaming Calls->tT,Value->tR,World->rO
open Go.Ending renaming returned->ui
open Go.Obj renaming cells->uj
open Go.RowKit renaming Below->tS
open Go.RowKit.Below renaming refl->tU
open Go.Value renaming agg->uk,bool->ue,ownBlock->ud,string->um,tuple->uo
open Go.World renaming setCell->tV
open Go.Proofs.Tryz Go.RowKit Go.CN
namespace Go.Proofs.YtgadhchejmlfjaaGreatDoor
namespace D8
theorem fW(n most:Int)(w:rO)(h:1<=n/\n<=most):tT prog 106 #[I U n,I U most] w λe a=>e=ui (ue tY)/\w=a:=by
 have d1:decide (n<1)=false:=by simpa using h.1
 have d2:decide (n>most)=false:=by simpa using h.2
 go_enter func106,ntmps106;go_wp2;go_ret;exact⟨rfl,rfl⟩
theorem IU(p g m:Int)(w:rO)(a:1<=p/\p<=256)(b:1<=g/\g<=64)(hm:1<=m/\m<=64):tT prog 41 #[uk #[I U p,I U g,I U m]] w λe c=>e=ui (I U 0)/\tS w.heap.size w c:=by have H:=Aa (Ab a (Ab b hm));go_enter func41,ntmps41;go_wp2_with(go_at_call 106;refine(fW _ _ _ (by first|exact H.out.1|exact H.out.2.1|exact H.out.2.2)).mono ?_;rintro e d⟨rfl,rfl⟩);go_ret;exact⟨rfl,Cu (tU _ _) _⟩
open D3 (row rows Laid)
variable {r k n:Int}
def Eh(r k n:Int):Bool:=if k<n then decide (0<=r/\r<8)else decide (r=0)
def Gf(op a b c n places funcs:Int):Bool:=!(row op).name.isEmpty&&(Eh a 0 (row op).CO&&(Eh b 1 (row op).CO&&Eh c 2 (row op).CO))&&(if(row op).target=0 then decide (n=0)||(row op).number else if(row op).target=2 then decide (0<=n/\n<funcs)else decide (0<=n/\n<places))
theorem O9(h:Eh r k n=tZ)(a:k<n):decide (r<0)=tY/\decide (8<=r)=false:=by unfold Eh at h;rw[Ai a]at h;simp at h;simp;omega
theorem Pa(h:Eh r k n=tZ)(a:n<=k):(r !=0)=false:=by unfold Eh at h;rw[Ah (by omega)]at h;simpa using h
theorem Jj(op a b c n places funcs:Int)(w:rO)(P:Laid w)(h:Gf op a b c n places funcs=tZ)(hp:places<=9223372036854775807)(hf:funcs<=9223372036854775807)(hn:0<=n->n<=9223372036854775807):tT prog 131 #[uk #[I U op,I U a,I U b,I U c,I U n],I U places,I U funcs] w λe X=>e=ui (I U 0)/\tS w.heap.size w X:=by
 have l:tS w.heap.size w (w.alloc (uj #[I U op,I U a,I U b,I U c,I U n] 84)):=Cu (tU _ _) _;have H:=Aa (D3.Ym op _ (P.below l));unfold Gf at h;obtain⟨r,u⟩: ∃r,row op=r:=⟨_,rfl⟩;unfold D3.qe D3.agg at H;rw[u]at h H;have Q:Cy (w.alloc (uj #[I U op,I U a,I U b,I U c,I U n] 84)) w.heap.size #[I U op,I U a,I U b,I U c,I U n] 84:=Cy.new w _ 84;have v:=Aa (Ab l Q);obtain⟨rn,m,rt,d,o,K,L⟩:=r;simp only[AR,Za6]at h;obtain⟨⟨aa,z,A,B⟩,g⟩:=h;have R:=Aa g;have f:=Aa (Ab z (Ab A B));clear P l u Q g z A B;go_enter func131,ntmps131;go_wp2_with(go_at_call 162;refine H.out.mono ?_;rintro e C⟨rfl,D⟩;have E:=(v.out.2.below D v.out.2.lt).below (Cu (tU C.heap.size C) (uj #[um ⟨rn.toArray⟩,I U m,I U rt,ue d,ue o,ue K,ue L] 258)) (v.out.2.below D v.out.2.lt).lt;have q1:=E.cell 1;have q2:=E.cell 2;have q3:=E.cell 3;have q4:=E.cell 4;simp only[Ad,Ac,Ag]at q1 q2 q3 q4;have M:=Aa (v.out.1.trans ((D.alloc D.size (uj #[um ⟨rn.toArray⟩,I U m,I U rt,ue d,ue o,ue K,ue L] 258)).mono v.out.1.size));clear D E);have p:=Cy.new C #[um ⟨rn.toArray⟩,I U m,I U rt,ue d,ue o,ue K,ue L] 258;have p1:=p.cell 1;have p2:=p.cell 2;have p3:=p.cell 3;simp only[Ad,Ac,Ag]at p1 p2 p3;clear p H v;generalize C.alloc (uj #[um ⟨rn.toArray⟩,I U m,I U rt,ue d,ue o,ue K,ue L] 258)=W at*
 generalize C.heap.size=L7 at*
 generalize F:w.heap.size=L3 at*
 go_loop [8,25] (λt8 t25=> ∃k:Nat,k<=3/\t8=ue tY/\t25=I U k) (λ_ t=>3-(intOf t).toNat)
 case atStart=>exact⟨0,by omega,rfl,rfl⟩
 case round=>
  obtain⟨k,hk,rfl,rfl⟩:=hrel;have q:=Aa F;have S: ∀W,(Instr.index 237 (uk #[I U a,I U b,I U c]) (I U 0)).run prog W= .ok (I U a) W:=λ_=>by kernel_rfl
  have T: ∀W,(Instr.index 237 (uk #[I U a,I U b,I U c]) (I U 1)).run prog W= .ok (I U b) W:=λ_=>by kernel_rfl
  have V: ∀W,(Instr.index 237 (uk #[I U a,I U b,I U c]) (I U 2)).run prog W= .ok (I U c) W:=λ_=>by kernel_rfl
  clear F;rcases(show k=0\/k=1\/k=2\/k=3 by omega)with rfl|rfl|rfl|rfl
  ·by_cases u:(0:Int)<m
   ·obtain⟨x,O⟩:=O9 f.out.1 u
    go_wp2;go_round
    case rel=>exact⟨1,by omega,rfl,rfl⟩
    case measure=>simp[intOf]
   ·have i:m<=0:=by omega
    have x:=Pa f.out.1 i;go_wp2;go_round
    case rel=>exact⟨1,by omega,rfl,rfl⟩
    case measure=>simp[intOf]
  ·by_cases u:(1:Int)<m
   ·obtain⟨x,O⟩:=O9 f.out.2.1 u
    go_wp2;go_round
    case rel=>exact⟨2,by omega,rfl,rfl⟩
    case measure=>simp[intOf]
   ·have i:m<=1:=by omega
    have x:=Pa f.out.2.1 i;go_wp2;go_round
    case rel=>exact⟨2,by omega,rfl,rfl⟩
    case measure=>simp[intOf]
  ·by_cases u:(2:Int)<m
   ·obtain⟨x,O⟩:=O9 f.out.2.2 u
    go_wp2;go_round
    case rel=>exact⟨3,by omega,rfl,rfl⟩
    case measure=>simp[intOf]
   ·have i:m<=2:=by omega
    have x:=Pa f.out.2.2 i;go_wp2;go_round
    case rel=>exact⟨3,by omega,rfl,rfl⟩
    case measure=>simp[intOf]
  ·have j:=R.out
   clear R;by_cases l:rt=0
   ·rw[Ai l]at j
    subst l;by_cases s:n=0
    ·subst s
     clear j;go_wp2;go_ret;exact⟨rfl,by rw[q.out];exact M.out⟩
    ·have d1:(n !=0)=true:=by simpa using s
     have d2:d=true:=by simpa[s]using j
     subst d2;clear j s;go_wp2;go_ret;exact⟨rfl,by rw[q.out];exact M.out⟩
   ·rw[Ah l]at j
    have d0:(rt==0)=false:=by simpa using l
    by_cases G:rt=2
    ·rw[Ai G]at j
     subst G;have y:0<=n/\n<funcs:=by simpa using j
     obtain⟨x,O⟩:=y;have e3:decide (n<0)=false:=by simp;omega
     have e4:decide (funcs<=n)=false:=by simp;omega
     clear j l d0;go_wp2;go_ret;exact⟨rfl,by rw[q.out];exact M.out⟩
    ·rw[Ah G]at j
     have d2:(rt==2)=false:=by simpa using G
     have y:0<=n/\n<places:=by simpa using j
     obtain⟨x,O⟩:=y;have e3:decide (n<0)=false:=by simp;omega
     have e4:decide (places<=n)=false:=by simp;omega
     clear j l G;go_wp2;go_ret;exact⟨rfl,by rw[q.out];exact M.out⟩
end D8
namespace D1
section
open Go
open D3 (row rows Di)
open Vm (CP)
open dW (F5)
variable {op m f:Int}{i:CP}
abbrev M5:List UInt8:=[102,117,110,99]
def EH(r:Int):List UInt8:=114::Lib.itoa r
def EP(i:CP)(sf:Bool):List (List UInt8):=(if sf then [[42]]else [])++(row i.op).name::(([i.a,i.b,i.c].take (row i.op).CO.toNat).map EH++if F5 i.op then [Lib.itoa i.n]else [])
def FO(i:CP)(sf:Bool):List UInt8:=Dl 32 (EP i sf)
structure JJ (i:CP):Prop where
 op:0<=i.op/\i.op<24
 CO: ∀r∈[i.a,i.b,i.c],0<=r/\r<8
 used: ∀k,(row i.op).CO.toNat<=k->[i.a,i.b,i.c][k]?.getD 0=0
 n:I9 i.n
 no:F5 i.op=tY->i.n=0
def jv(r:D3.Row):Bool:=decide (r.name.length<=20)&&r.name.all (λc=>c !=32&&c !=10)&&r.name != [42]&&r.name !=M5&& !r.name.isEmpty&&decide (0<=r.CO/\r.CO<=3)&& !(r.number&&r.target !=0)
theorem ZK:rows.all jv=true:=by kernel_rfl
structure ot (r:D3.Row):Prop where
 len:r.name.length<=20
 sp:32∉r.name
 qT:10∉r.name
 star:r.name≠[42]
 head:r.name≠M5
 ne:r.name≠[]
 CO:0<=r.CO/\r.CO<=3
 one:r.number=tZ->r.target=0
theorem M6(h:0<=op/\op<24):ot (row op):=by
 have d:row op∈rows:=by unfold row;rw[Ai h.1,Ae (show op.toNat<rows.length from(show rows.length=24 from by kernel_rfl)▸by omega)];exact BQ _
 have q:=Bq.1 ZK _ d;generalize row op=r at*
 simp only[jv,AR,Bo,Bq,bne_iff_ne,ne_eq,Za6,Bool.and_eq_false_iff]at q;obtain⟨⟨⟨⟨⟨⟨f,b⟩,g⟩,i⟩,c⟩,j⟩,a⟩:=q;refine⟨f,λe=>(b _ e).1 rfl,λe=>(b _ e).2 rfl,g,i,λe=>?_,j,λe=>?_⟩
 ·rw[e]at c;cases c
 ·rcases a with a|a
  ·rw[e]at a;cases a
  ·simpa using a
theorem kP{a b c n:Int}(h:D8.Gf op a b c n m f=tZ):0<=op/\op<24:=by
 have e:rows.length=24:=by kernel_rfl
 unfold D8.Gf row at h;by_cases d:0<=op
 ·by_cases g:op<24
  ·exact⟨d,g⟩
  ·rw[Ai d,A0 (by omega)]at h;simp[Di]at h
 ·rw[Ah d]at h;simp[Di]at h
theorem ZL(h:D8.Gf i.op i.a i.b i.c i.n m f=tZ)(o:I9 i.n):JJ i:=by
 have l:=kP h;have g:=(M6 l).CO;unfold D8.Gf at h;simp only[AR]at h;obtain⟨⟨_,b,c,d⟩,n⟩:=h;have q: ∀(r:Int)(k:Nat),D8.Eh r k (row i.op).CO=tZ->(0<=r/\r<8)/\((row i.op).CO.toNat<=k->r=0):=λr k h=>by
  unfold D8.Eh at h;split at h
  ·have:=B8 h;exact⟨this,λe=>by omega⟩
  ·have:=B8 h;exact⟨by omega,λ_=>this⟩
 have b:=q i.a 0 b;have c:=q i.b 1 c;have d:=q i.c 2 d;refine⟨l,λr g=>?_,λk a=>?_,o,λj=>?_⟩
 ·simp only[Be,Zbb,or_false]at g
  rcases g with rfl|rfl|rfl
  ·exact b.1
  ·exact c.1
  ·exact d.1
 ·match k,a with
  |0,a=>exact b.2 a
  |1,a=>exact c.2 a
  |2,a=>exact d.2 a
  |k+3,_=>rfl
 ·simp only[F5,Bool.or_eq_false_iff,bne_eq_false_iff_eq]at j
  rw[Ai j.2,j.1]at n;simpa using n
theorem fX(h:D8.Gf i.op i.a i.b i.c i.n m f=tZ):D8.Gf i.op i.a i.b i.c (if(row i.op).target=0 then i.n else 0) 1 1=true:=by
 unfold D8.Gf at*
 simp only[AR]at*
 refine⟨h.1,?_⟩;have a:=h.2;split
 ·rename_i e;rw[Ai e]at a;simpa[e]using a
 ·split<;>simp
theorem UM{sf:Bool}(h:JJ i): ∀a∈EP i sf,32∉a/\10∉a/\a.length<=22:=by
 have c:=M6 h.op;intro a b;simp only[EP,Br,Be,BL]at b;rcases b with b|rfl|⟨r,d,rfl⟩|b
 ·cases sf
  ·cases b
  ·simp at b;subst b;decide
 ·exact⟨c.sp,c.qT,by have:=c.len;omega⟩
 ·have q:=h.CO r (Ca d)
  have:=CY r ⟨by omega,by omega⟩;exact⟨by simp[EH,this.1],by simp[EH,this.2.1],by simp[EH];omega⟩
 ·have:=CY i.n h.n
  cases e:F5 i.op<;>rw[e]at b
  ·cases b
  ·simp at b;subst b;exact⟨this.1,this.2.1,by omega⟩
theorem FP(c:UInt8)(m:Nat): ∀l:List (List UInt8),(∀a∈l,a.length<=m)->(Dl c l).length<=l.length*(m+1)
 | [],_=>by simp[Dl]
 | [a],h=>by have:=h a (by simp);simp[Dl];omega
 |a::b::l,h=>by have d:=FP c m (b::l) (λx e=>h x (AO _ e));have f:=h a (by simp);simp only[Dl,Au,Av]at d⊢;rw[Zcb (l.length+1) 1 (m+1)];omega
theorem QQ(c d:UInt8)(hd:d≠c): ∀l:List (List UInt8),(∀a∈l,d∉a)->d∉Dl c l
 | [],_=>by simp[Dl]
 | [a],h=>h a (by simp)
 |a::b::l,h=>by simp only[Dl,Br,Be,not_or];exact⟨h a (by simp),hd,QQ c d hd (b::l) (λx e=>h x (AO _ e))⟩
theorem Lb(i:CP)(sf:Bool):0<(EP i sf).length/\(EP i sf).length<=6:=by
 unfold EP;have:([i.a,i.b,i.c].take (row i.op).CO.toNat).length<=3:=by simp;omega
 simp only[Au,Av,A9];cases sf<;>cases F5 i.op<;>simp only[BD,A6,Bn,Av,AG]<;>omega
theorem Jk{sf:Bool}(h:JJ i):10∉FO i sf/\(FO i sf).length<=138/\(FO i sf==M5)=false:=by
 have hw:=UM (sf:=sf) h;have d:=M6 h.op;refine⟨QQ 32 10 (by decide) _ λa c=>(hw a c).2.1,?_,?_⟩
 ·have f:=FP 32 22 _ λa c=>(hw a c).2.2
  have g:=Zar 23 (Lb i sf).2;unfold FO;omega
 ·rw[Az]
  unfold FO EP;intro e;have q: ∀(a:List UInt8)(l:List (List UInt8)),Dl 32 (a::l)=M5->l=[]:=λa l e=>by
   cases l with
   |nil=>rfl
   |cons b l=>
    have:(32:UInt8)∈M5:=by rw[<-e];simp[Dl]
    exact absurd this (by decide)
  cases sf with
  |true=>exact absurd (q _ _ e) (by simp)
  |false=>have:=q _ _ e;simp only[A6,Bn,A7]at e;rw[this]at e;exact d.head e
abbrev Ln:=Option (CP×Bool)
def kQ:Ln->List UInt8
 |none=>M5
 |some x=>FO x.1 x.2
def CW(a:List Ln):List UInt8:=a.flatMap λx=>kQ x++[10]
theorem G9(a b:List Ln):CW (a++b)=CW a++CW b:=by simp[CW]
theorem LO(x:Ln)(b:List Ln):CW (x::b)=kQ x++10::CW b:=by simp[CW]
theorem M7(x:Ln):CW [x]=kQ x++[10]:=by simp[CW]
def kR(x:Ln):Prop:= ∀y,x=Z y->JJ y.1
theorem ZM{x:Ln}(h:kR x):10∉kQ x/\(kQ x).length<=138:=by
 cases x with
 |none=>exact⟨by decide,by decide⟩
 |some y=>exact⟨(Jk (h y rfl)).1,(Jk (h y rfl)).2.1⟩
theorem JZ: ∀a:List Ln,(∀x∈a,kR x)->(CW a).length<=a.length*139
 | [],_=>by simp[CW]
 |x::a,h=>by have b:=JZ a (λy hy=>h y (AO _ hy));have c:=(ZM (h x (by simp))).2;rw[LO,Au,Av,Av];omega
abbrev Fn:=List CP×List Bool
def kS(f:Fn):List Ln:=N::(f.1.zip f.2).map Z
def C9(p:List Fn):List Ln:=p.flatMap kS
def Mn(p:List Fn):Ln->List Fn
 |none=>p++[([],[])]
 |some x=>p.dropLast++[((p.getLast?.getD ([],[])).1++[x.1],(p.getLast?.getD ([],[])).2++[x.2])]
theorem QR(q:List Fn): ∀(l:List CP)(s:List Bool)(a:List CP)(b:List Bool),s.length=l.length->((l.zip s).map Z).foldl Mn (q++[(a,b)])=q++[(a++l,b++s)]
 | [],[],a,b,_=>by simp
 |i::l,x::s,a,b,h=>by
  have e:Mn (q++[(a,b)]) (Z (i,x))=q++[(a++[i],b++[x])]:=by simp[Mn]
  rw[List.zip_cons_cons,Zcd,Zad,e,QR q l s _ _ (by simpa using h)];simp
 | [],_::_,_,_,h=>by simp at h
 |_::_,[],_,_,h=>by simp at h
theorem Oa: ∀(p q:List Fn),(∀f∈p,f.2.length=f.1.length)->(C9 p).foldl Mn q=q++p
 | [],q,_=>by simp[C9]
 |(l,s)::p,q,h=>by
  have e:C9 ((l,s)::p)=N::((l.zip s).map Z++C9 p):=by simp[C9,kS]
  rw[e,Zad,Za5,show Mn q N=q++[([],[])]from rfl,QR q l s [] [] (h (l,s) (by simp)),A7,A7,Oa p _ (λf a=>h f (AO _ a))];simp
end
section
variable {w w':rO}{wb sb j:Nat}{ws:List (List UInt8)}
structure Wd (w:rO) (wb sb:Nat) (ws:List (List UInt8)) (j:Nat):Prop where
 Dj: ∃o,(j<ws.length->o=j)/\Cy w wb #[Y (Z ⟨sb,o,N⟩) (ws.length-j:Nat) (ws.length-j:Nat),ue tZ] 391
 str: ∀i,i<ws.length->w.cell? ⟨sb,i,N⟩=Z (um ⟨(ws[i]?.getD []).toArray⟩)
 lt:sb<w.heap.size
 ne:sb≠wb
theorem Wd.only(h:Wd w wb sb ws j){S:Nat->Prop}(o:Cw S w w')(d: ¬S wb)(e: ¬S sb):Wd w' wb sb ws j:=⟨(by obtain⟨a,b,c⟩:=h.Dj;exact⟨a,b,c.only o d⟩),λi f=>(AK (o.block sb h.lt e)).trans (h.str i f),An h.lt o.size,h.ne⟩
theorem Wd.below(h:Wd w wb sb ws j)(o:tS w.heap.size w w'):Wd w' wb sb ws j:=h.only (S:=λ_=>False) ((Cw.refl _ w).below o) (λx=>x) (λx=>x)
theorem Gp(wb sb:Nat)(ws:List (List UInt8))(j:Nat)(w:rO)(h:Wd w wb sb ws j)(c:j<ws.length)(d:ws.length<=1000):tT prog 323 #[J (Z ⟨wb,0,N⟩)] w λe w'=>e=ui (um ⟨(ws[j]?.getD []).toArray⟩)/\Wd w' wb sb ws (j+1)/\Cw (λk=>k=wb) w w':=by
 obtain⟨m,hm⟩: ∃m,ws.length-j=m:=⟨_,rfl⟩;obtain⟨o,f,a⟩:=h.Dj;obtain rfl:=f c;rw[hm]at a;have g:=a.cell 0;have f0:=a.free 0;simp only[Ad,Ac]at g;have qs:=h.str o c;have l:((m:Int)==0)=false:=by simp;omega
 have n:(0:Int)<(m:Int):=by omega
 have p:(1:Int)<=(m:Int):=by omega
 have H:=Aa (Ab h (Ab a (Ab hm d)));generalize ws[o]?.getD []=s at*
 go_enter func323,ntmps323;by_cases r:m=1
 ·subst r
  go_wp2;go_ret;refine⟨rfl,⟨⟨o,λh=>by have:=H.out.2.2.1;omega,?_⟩,λi b=>(AK ((Cw.set (S:=λk=>k=wb) (Cw.refl _ w) (.inr rfl) 0 _).block sb H.out.1.lt H.out.1.ne)).trans (H.out.1.str i b),by have:=H.out.1.lt;simpa using this,H.out.1.ne⟩,Cw.set (S:=λk=>k=wb) (Cw.refl _ w) (.inr rfl) _ _⟩;have q:=H.out.2.1.set 0 (Y (Z ⟨sb,o,N⟩) 0 0);rw[show ws.length-(o+1)=0 by have:=H.out.2.2.1;omega];exact q
 ·go_wp2
  go_ret;refine⟨rfl,⟨⟨o+1,λh=>rfl,?_⟩,λi b=>(AK ((Cw.set (S:=λk=>k=wb) (Cw.refl _ w) (.inr rfl) 0 _).block sb H.out.1.lt H.out.1.ne)).trans (H.out.1.str i b),by have:=H.out.1.lt;simpa using this,H.out.1.ne⟩,Cw.set (S:=λk=>k=wb) (Cw.refl _ w) (.inr rfl) _ _⟩;have q:=H.out.2.1.set 0 (Y (Z ⟨sb,o+1,N⟩) (m-1) (m-1));rw[show ws.length-(o+1)=m-1 by have:=H.out.2.2.1;omega];exact q
theorem fY(r:Int)(h:0<=r/\r<8):(r=0/\EH r=[114,48])\/(r=1/\EH r=[114,49])\/(r=2/\EH r=[114,50])\/(r=3/\EH r=[114,51])\/(r=4/\EH r=[114,52])\/(r=5/\EH r=[114,53])\/(r=6/\EH r=[114,54])\/(r=7/\EH r=[114,55]):=by
 have q: ∀u:Nat,u<8->EH (u:Int)=[114,UInt8.ofNat (48+u)]:=λu hu=>by unfold EH Lib.itoa;rw[Ah (by omega),Am,Lib.decDigits_one (by omega)]
 rcases(show r=0\/r=1\/r=2\/r=3\/r=4\/r=5\/r=6\/r=7 by omega)with rfl|rfl|rfl|rfl|rfl|rfl|rfl|rfl
 ·exact .inl ⟨rfl,q 0 (by decide)⟩
 ·exact .inr (.inl ⟨rfl,q 1 (by decide)⟩)
 ·exact .inr (.inr (.inl ⟨rfl,q 2 (by decide)⟩))
 ·exact .inr (.inr (.inr (.inl ⟨rfl,q 3 (by decide)⟩)))
 ·exact .inr (.inr (.inr (.inr (.inl ⟨rfl,q 4 (by decide)⟩))))
 ·exact .inr (.inr (.inr (.inr (.inr (.inl ⟨rfl,q 5 (by decide)⟩)))))
 ·exact .inr (.inr (.inr (.inr (.inr (.inr (.inl ⟨rfl,q 6 (by decide)⟩))))))
 ·exact .inr (.inr (.inr (.inr (.inr (.inr (.inr ⟨rfl,q 7 (by decide)⟩))))))
theorem fZ(wb sb:Nat)(ws:List (List UInt8))(j:Nat)(r:Int)(w:rO)(h:Wd w wb sb ws j)(c:ws[j]?=Z (EH r))(d:0<=r/\r<8)(f:ws.length<=1000):tT prog 325 #[J (Z ⟨wb,0,N⟩)] w λe w'=>e=ui (I U r)/\Wd w' wb sb ws (j+1)/\Cw (λk=>k=wb) w w':=by
 have a:j<ws.length:=(Af.1 c).1;have b:=Gp wb sb ws j w h a f;rw[c,AW]at b;have e:=fY r d;clear h c a f d;rcases e with⟨rfl,e⟩|⟨rfl,e⟩|⟨rfl,e⟩|⟨rfl,e⟩|⟨rfl,e⟩|⟨rfl,e⟩|⟨rfl,e⟩|⟨rfl,e⟩
 all_goals
  rw[e]at b;have b:=Aa b;clear e;go_enter func325,ntmps325;go_wp2_with(go_at_call 323;refine b.out.mono ?_;rintro e m⟨rfl,g,i⟩;have l:=Aa (Ab g i);clear g i);go_ret;exact⟨rfl,l.out.1,l.out.2⟩
end
open D3 (row rows Laid Di)
open Vm (CP)
open dW (F5)
variable {w0 W W':rO}{wb j:Nat}{ws:List (List UInt8)}{cs:Array tR}{a b c d e:tR}
theorem QS(ws:List (List UInt8))(w:rO)(c:ws≠[])(h: ∀a∈ws,(32:UInt8)∉a) (g:(Dl 32 ws).length<=2100) (hm:Mx w) (n:Nat) (j:ws.length=n):tT prog 322 #[um ⟨(Dl 32 ws).toArray⟩,um ⟨#[32]⟩] w λe b=>e=ui (Y (Z ⟨w.heap.size,0,N⟩) n n)/\(∀i,i<ws.length->b.cell? ⟨w.heap.size,i,N⟩=Z (um ⟨(ws[i]?.getD []).toArray⟩))/\w.heap.size<b.heap.size/\tS w.heap.size w b:=by obtain⟨m,hm⟩:=hm;have d:=Lw 32 ws c h;refine(Fq.split ⟨(Dl 32 ws).toArray⟩ ⟨#[32]⟩ m w (by show(Dl 32 ws).toArray.size<_;simp;omega) hm (by decide)).mono ?_;rintro e b⟨rfl,rfl⟩;have k:0<ws.length:=Cf.2 c;rw[d.1,d.2,show ws.length-1+1=n by omega];refine⟨rfl,λi f=>?_,by simp,Cu (tU _ _) _⟩;rw[(Cy.new w _ 9).cell i];simp[f]
structure IS (w0:rO) (wb:Nat) (ws:List (List UInt8)) (j:Nat) (cs:Array tR) (W:rO):Prop where
 wd:Wd W wb (w0.heap.size+1) ws j
 ins:Cy W w0.heap.size cs 84
 below:tS w0.heap.size w0 W
 lt:w0.heap.size+1<wb
theorem IS.go(h:IS w0 wb ws j cs W)(a:tS W.heap.size W W'):IS w0 wb ws j cs W':=⟨h.wd.below a,h.ins.below a h.ins.lt,h.below.trans (a.mono h.below.size),h.lt⟩
theorem IS.next{j':Nat}(h:IS w0 wb ws j cs W)(hw:Wd W' wb (w0.heap.size+1) ws j')(a:Cw (λk=>k=wb) W W'):IS w0 wb ws j' cs W':=⟨hw,h.ins.only a (λe=>by have:=h.lt;omega),h.below.trans ((a.toBelow (B:=w0.heap.size) h.below.size (λk b=>by have:=h.lt;omega))),h.lt⟩
theorem IS.set(h:IS w0 wb ws j cs W)(i:Nat)(u:tR):IS w0 wb ws j (cs.setIfInBounds i u) (W.setCell ⟨w0.heap.size,i,N⟩ u):=⟨h.wd.only (S:=λk=>k=w0.heap.size) (Cw.set (S:=λk=>k=w0.heap.size) (Cw.refl _ _) (.inr rfl) _ _) (λe=>by have:=h.lt;omega) (λe=>by omega),h.ins.set i u,h.below.setCell (Al _) _,h.lt⟩
theorem IS.start{w w1:rO}(n:Nat)(d:ws.length=n)(e: ∀i,i<ws.length->w1.cell? ⟨w.heap.size+1,i,N⟩=Z (um ⟨(ws[i]?.getD []).toArray⟩)) (b:w.heap.size+1<w1.heap.size) (c:tS (w.heap.size+1) (w.alloc (uj #[I U 0,I U 0,I U 0,I U 0,I U 0] 84)) w1):IS w w1.heap.size ws 0 #[I U 0,I U 0,I U 0,I U 0,I U 0] (w1.alloc (uj #[Y (Z ⟨w.heap.size+1,0,N⟩) n n,ue tZ] 391)):=by
 have a:=Cu (tU w1.heap.size w1) (uj #[Y (Z ⟨w.heap.size+1,0,N⟩) n n,ue tZ] 391);refine⟨⟨⟨0,λ_=>rfl,?_⟩,λi f=>(a.cell (p:=⟨w.heap.size+1,i,N⟩) b).trans (e i f),?_,by omega⟩,?_,?_,b⟩
 ·rw[Nat.sub_zero,d];exact Cy.new w1 _ 391
 ·simp;omega
 ·exact(((Cy.new w _ 84).below c (by omega)).below a (by omega))
 ·exact(Cu (tU _ _) _).trans ((c.mono (by omega)).trans (a.mono (by omega)))
theorem IS.ZN(h:IS w0 wb ws j #[a,b,c,d,e] W):IS w0 wb ws j #[a,b,c,d,e] (((((W.setCell ⟨w0.heap.size,0,N⟩ a).setCell ⟨w0.heap.size,1,N⟩ b).setCell ⟨w0.heap.size,2,N⟩ c).setCell ⟨w0.heap.size,3,N⟩ d).setCell ⟨w0.heap.size,4,N⟩ e):=by have:=((((h.set 0 a).set 1 b).set 2 c).set 3 d).set 4 e;simpa using this
theorem IS.held{o:Nat}(h:IS w0 wb ws j #[a,b,c,d,e] W)(f:Cy W wb #[Y (Z ⟨w0.heap.size+1,o,N⟩) 0 0,ue tZ] 391):W.cell? ⟨w0.heap.size,0,N⟩=Z a/\W.cell? ⟨w0.heap.size,1,N⟩=Z b/\W.cell? ⟨w0.heap.size,2,N⟩=Z c/\W.cell? ⟨w0.heap.size,3,N⟩=Z d/\W.cell? ⟨w0.heap.size,4,N⟩=Z e/\W.cell? ⟨wb,0,N⟩=Z (Y (Z ⟨w0.heap.size+1,o,N⟩) 0 0)/\W.cell? ⟨wb,1,N⟩=Z (ue tZ):=⟨h.ins.cell 0,h.ins.cell 1,h.ins.cell 2,h.ins.cell 3,h.ins.cell 4,f.cell 0,f.cell 1⟩
theorem IS.te{g:Array tR}(h:IS w0 wb ws j cs W)(i:Cy W wb g 391):Cy (((((W.setCell ⟨w0.heap.size,0,N⟩ a).setCell ⟨w0.heap.size,1,N⟩ b).setCell ⟨w0.heap.size,2,N⟩ c).setCell ⟨w0.heap.size,3,N⟩ d).setCell ⟨w0.heap.size,4,N⟩ e) wb g 391:=by
 have f:wb≠w0.heap.size:=by have:=h.lt;omega
 exact((((i.setOther f _).setOther f _).setOther f _).setOther f _).setOther f _
theorem IS.ou(h:IS w0 wb ws j cs W):IS w0 wb ws j cs (W.setCell ⟨wb,1,N⟩ (ue tZ)):=by have c:Cw (λk=>k=wb) W (W.setCell ⟨wb,1,N⟩ (ue tZ)):=Cw.set (S:=λk=>k=wb) (Cw.refl _ _) (.inr rfl) _ _;refine h.next (j':=j) ⟨?_,λi d=>(AK (c.block _ h.wd.lt h.wd.ne)).trans (h.wd.str i d),by have:=h.wd.lt;simpa using this,h.wd.ne⟩ c;obtain⟨o,a,b⟩:=h.wd.Dj;exact⟨o,a,b.set 1 (ue tZ)⟩
def rc(i:CP)(k:Nat):Array Value:=#[I U i.op,I U (if 0<k then i.a else 0),I U (if 1<k then i.b else 0),I U (if 2<k then i.c else 0),I U 0]
theorem kT(i:CP)(k:Nat)(a:k<3):(rc i k).setIfInBounds (k+1) (I U ([i.a,i.b,i.c][k]?.getD 0))=rc i (k+1)/\(rc i k)[k+1]?=Z (I U 0)/\(rc i (k+1))[k+1]?=Z (I U ([i.a,i.b,i.c][k]?.getD 0)):=by
 match k,a with
 |0,_=>exact⟨by simp[rc],by simp[rc],by simp[rc]⟩
 |1,_=>exact⟨by simp[rc],by simp[rc],by simp[rc]⟩
 |2,_=>exact⟨by simp[rc],by simp[rc],by simp[rc]⟩
theorem kU(i:CP)(r:Nat)(h: ∀k,r<=k->[i.a,i.b,i.c][k]?.getD 0=0) (d:r<=3):rc i r=#[I U i.op,I U i.a,I U i.b,I U i.c,I U 0]:=by
 have c:=h 0;have b:=h 1;have a:=h 2;simp only[Ac,Ag,AW]at c b a;match r,d with
 |0,_=>simp[rc,c,b,a]
 |1,_=>simp[rc,b,a]
 |2,_=>simp[rc,a]
 |3,_=>simp[rc]
structure qU (i:CP) (sf:Bool) (ws:List (List UInt8)) (j r:Nat):Prop where
 len:ws.length=j+1+r+(if F5 i.op then 1 else 0)
 name:ws[j]?.getD []=(row i.op).name
 tQ: ∀k,k<r->ws[j+1+k]?=Z (EH ([i.a,i.b,i.c][k]?.getD 0))
 num:F5 i.op=tZ->ws[j+1+r]?.getD []=Lib.itoa i.n
theorem ov(i:CP)(sf:Bool)(c:(row i.op).CO.toNat<=3):qU i sf (EP i sf) (if sf then 1 else 0) (row i.op).CO.toNat:=by
 have a:(([i.a,i.b,i.c].take (row i.op).CO.toNat).map EH).length=(row i.op).CO.toNat:=by simp;omega
 have b: ∀k,k<(row i.op).CO.toNat->(([i.a,i.b,i.c].take (row i.op).CO.toNat).map EH)[k]?=Z (EH ([i.a,i.b,i.c][k]?.getD 0)):=λk b=>by rw[AZ,AN b,Ae (show k< [i.a,i.b,i.c].length from by simp;omega)];rfl
 unfold EP;generalize([i.a,i.b,i.c].take (row i.op).CO.toNat).map EH=R at*
 generalize(row i.op).CO.toNat=r at*
 cases sf<;>refine⟨?_,by simp,λk h=>?_,λh=>?_⟩
 ·simp[a];cases F5 i.op<;>simp<;>omega
 ·simp only[A6,Bn,A7,AJ]
  rw[Nat.add_comm 1 k,Ag,Aw (by omega)];exact b k h
 ·simp only[A6,Bn,A7,AJ,h,BD]
  rw[Nat.add_comm 1 r,Ag,Ar (by omega),a,Bj];rfl
 ·simp[a];cases F5 i.op<;>simp<;>omega
 ·simp only[BD,List.singleton_append]
  rw[show 1+1+k=k+1+1 by omega,Ag,Ag,Aw (by omega)];exact b k h
 ·simp only[BD,List.singleton_append,h]
  rw[show 1+1+r=r+1+1 by omega,Ag,Ag,Ar (by omega),a,Bj];rfl
theorem WI(i:CP)(sf:Bool)(w:rO)(hL:Laid w)(hm:Mx w)(h:JJ i):tT prog 272 #[um ⟨(FO i sf).toArray⟩] w λe F=>e=ui (uo #[uk #[I U i.op,I U i.a,I U i.b,I U i.c,I U i.n],ue sf,ue tZ])/\tS w.heap.size w F:=by
 have G:=M6 h.op;obtain⟨r,hr⟩: ∃r:Nat,(row i.op).CO=r:=⟨(row i.op).CO.toNat,by have:=G.CO;omega⟩;have H:r<=3:=by have:=G.CO;omega
 obtain⟨op,Q⟩: ∃op:Nat,i.op=op:=⟨i.op.toNat,by have:=h.op;omega⟩;have R:=ov i sf (by rw[hr];simpa using H);have aj:=UM (sf:=sf) h;have ak:=(Jk (sf:=sf) h).2.1;have y:=Lb i sf;have h0:(sf=tZ/\(EP i sf)[0]?.getD []=[42])\/(sf=tY/\((EP i sf)[0]?.getD []== [42])=tY):=by
  cases sf
  ·right
   refine⟨rfl,?_⟩;have:=R.name;simp only[A6,Bn]at this;rw[this,Az];exact G.star
  ·left;exact⟨rfl,by simp[EP]⟩
 have z:=kU i r (λk hk=>h.used k (by rw[hr];simpa using hk)) H;have ao:rc i 0=#[I U op,I U 0,I U 0,I U 0,I U 0]:=by simp[rc,Q]
 unfold FO at ak⊢;rw[show(row i.op).CO.toNat=r by rw[hr];simp]at R;generalize EP i sf=ws at*
 have K:=h.no;obtain⟨v,a2,a3,a4⟩:=R;rw[Q]at v a2 a4 z hr K⊢;obtain⟨lb,S⟩: ∃lb,F5 (op:Int)=lb:=⟨_,rfl⟩;rw[S]at v a4 K;have aq:=Aa (Ab h.n K);have T:=Aa (Ab ao z);have ar:Hid (∀k,k<3->0<= [i.a,i.b,i.c][k]?.getD 0/\[i.a,i.b,i.c][k]?.getD 0<8):=λk hk=>h.CO _ (by rw[Ae (show k< [i.a,i.b,i.c].length from hk)];exact BQ _);obtain⟨V,u⟩: ∃V,(if sf then 1 else 0)=V:=⟨_,rfl⟩
 rw[u]at v a2 a3 a4;have m:=Aa (Ab v (Ab a2 (Ab a3 a4)));have HL:=Aa (Ab hL hm);have L:=Aa (Ab (show op<24 by have:=h.op;omega) (Ab hr S));have au:=Cu (tU w.heap.size w) (uj #[I U 0,I U 0,I U 0,I U 0,I U 0] 84);obtain⟨n,hn⟩: ∃n,ws.length=n:=⟨_,rfl⟩;have A:=QS ws (w.alloc (uj #[I U 0,I U 0,I U 0,I U 0,I U 0] 84)) (λe=>by rw[e]at y;simp at y) (λa ha=>(aj a ha).1) (by omega) (hm.below au) n hn;rw[show(w.alloc (uj #[I U 0,I U 0,I U 0,I U 0,I U 0] 84)).heap.size=w.heap.size+1 by simp]at A;have av:=Aa A;have f:Hid (ws.length=n/\0<n/\n<=6):=⟨hn,by omega,by omega⟩;have a8:Hid (V<ws.length):=by show V<ws.length;split at v<;>omega
 have aw:(sf=tZ/\V=1/\decide ((1:Int)<(n:Int))=tZ)\/(sf=tY/\V=0/\decide ((1:Int)<(n:Int))=tZ)\/(sf=tY/\V=0/\decide ((1:Int)<(n:Int))=tY):=by
  have hlen:=v;cases sf
  ·simp only[A6,Bn]at u
   by_cases q:(1:Int)<(n:Int)
   ·exact .inr (.inl ⟨rfl,u.symm,by simpa using q⟩)
   ·exact .inr (.inr ⟨rfl,u.symm,by simpa using q⟩)
  ·simp only[BD]at u
   exact .inl ⟨rfl,u.symm,by rw[hn]at hlen;simp;split at hlen<;>omega⟩
 have ba:0<n:=f.out.2.1;clear hL hm au A G aj ak y hn hr Q u h z ao K S v a2 a3 a4;generalize Dl 32 ws=txt at*
 go_enter func272,ntmps272;have HW:Hid (∀D:rO,(∀i,i<ws.length->D.cell? ⟨w.heap.size+1,i,N⟩=Z (um ⟨(ws[i]?.getD []).toArray⟩))->w.heap.size+1<D.heap.size->(D.alloc (uj #[Y (Z ⟨w.heap.size+1,0,N⟩) n n,ue tZ] 391)).cell? ⟨w.heap.size+1,0,N⟩=Z (um ⟨(ws[0]?.getD []).toArray⟩)):=λD hS l=>by rw[(Cu (tU D.heap.size D) (uj #[Y (Z ⟨w.heap.size+1,0,N⟩) n n,ue tZ] 391)).cell (p:=⟨w.heap.size+1,0,N⟩) l];exact hS 0 (by have:=f.out;omega)
 rcases aw with⟨rfl,rfl,d1⟩|⟨rfl,rfl,d1⟩|⟨rfl,rfl,d1⟩;case' inl=>have hx:((ws[0]?.getD []:List UInt8)== [42])=true:=by rcases h0 with⟨_,e⟩|⟨e,_⟩;rw[e];rfl;cases e
 case' inr.inl=>have hx:((ws[0]?.getD []:List UInt8)== [42])=false:=by rcases h0 with⟨e,_⟩|⟨_,e⟩;cases e;exact e
 case' inr.inr=>have hx:((ws[0]?.getD []:List UInt8)== [42])=false:=by rcases h0 with⟨e,_⟩|⟨_,e⟩;cases e;exact e
 all_goals
  have X:=Aa m.out.2.1;obtain⟨x0,aa⟩: ∃x,ws[0]?.getD []=x:=⟨_,rfl⟩;have ax:=Aa aa;rw[aa]at hx;clear h0 aa;go_wp2_with(first|(go_at_call 322;refine av.out.mono ?_;rintro e D⟨rfl,hS,l,j⟩;have g0:=HW.out D hS l;rw[ax.out]at g0;have HA:=Aa (IS.start n f.out.1 hS l j);have z0:=(Cy.new D #[Y (Z ⟨w.heap.size+1,0,N⟩) n n,ue tZ] 391).cell 0;simp only[Ad,Ac]at z0;clear hS l j)|(go_at_call 323;first|(have hh:=HC;refine(Gp _ _ ws 1 _ HC.out.wd (by have:=a8.out;omega) (by have:=f.out;omega)).mono ?_;rintro e w4⟨rfl,B,C⟩;have M:=Aa (HC.out.next B C);clear B C hh)|(refine(Gp _ _ ws 0 _ HA.out.wd (by have:=f.out;omega) (by have:=f.out;omega)).mono ?_;rintro e w3⟨rfl,B,C⟩;have HC:=Aa (HA.out.next B C);clear B C))|(go_at_call 324;first|(have hh:=M;rw[X.out];refine(dW.M2 op _ _ (HL.out.1.below M.out.below) L.out.1 rfl).mono ?_;rintro e w5⟨rfl,j⟩;have g:=M.out.go j;have HE:=Aa (g.set 0 (I U op));have e0:=g.ins.cell 0;have e1:=g.ins.free 0;have e2:=HE.out.ins.cell 0;simp only[Ad,Ac]at e0;simp only[BK,Bv,Ad,Ac]at e2;clear j g hh)|(rw[X.out];refine(dW.M2 op _ _ (HL.out.1.below HC.out.below) L.out.1 rfl).mono ?_;rintro e w5⟨rfl,j⟩;have g:=HC.out.go j;have HE:=Aa (g.set 0 (I U op));have e0:=g.ins.cell 0;have e1:=g.ins.free 0;have e2:=HE.out.ins.cell 0;simp only[Ad,Ac]at e0;simp only[BK,Bv,Ad,Ac]at e2;clear j g))|(go_at_call 133;refine(D3.PS op _ (HL.out.1.below HE.out.below)).mono ?_;rintro e w6⟨rfl,j⟩;rw[L.out.2.1];have HF:=Aa (HE.out.go j);clear j));clear HC e0 e1 e2 z0 g0 av hx HW ax X;try clear HA
  try clear M
  have hF:=HF.out;clear HE HF;generalize D.heap.size=wb at*
  obtain⟨E,bf,bb,A1,A3,A4⟩: ∃E,Hid (0<E)/\Hid (IS w wb ws E (rc i 0) w6)/\Hid (n=E+r+(if lb=tZ then 1 else 0))/\Hid (∀k,k<r->ws[E+k]?=Z (EH ([i.a,i.b,i.c][k]?.getD 0)))/\Hid (lb=tZ->ws[E+r]?.getD []=Lib.itoa i.n):=by
   first
    |exact⟨0+1,Nat.succ_pos _,by rw[T.out.1];exact hF,by show n=_;rw[<-f.out.1];exact m.out.1,m.out.2.2.1,m.out.2.2.2⟩
    |exact⟨1+1,Nat.succ_pos _,by rw[T.out.1];exact hF,by show n=_;rw[<-f.out.1];exact m.out.1,m.out.2.2.1,m.out.2.2.2⟩
  clear hF m;have ay:=Aa H;clear H ba d1;go_loopw [47] (λt wr=> ∃k:Nat,k<=r/\t=I U k/\IS w wb ws (E+k) (rc i k) wr) (λt _=>r-(intOf t).toNat)
  case atStart=>exact⟨0,Ap _,rfl,bb.out⟩
  case round=>
   obtain⟨k,hk,rfl,hI⟩:=hrel;by_cases l:k<r
   ·have bg:(k:Int)<(r:Int):=by omega
    have ab:k<3:=by have:=ay.out;omega
    have bh: ∀W,(Instr.index 344 (uk #[J (Z ⟨w.heap.size,1,N⟩),J (Z ⟨w.heap.size,2,N⟩),J (Z ⟨w.heap.size,3,N⟩)]) (I U k)).run prog W= .ok (J (Z ⟨w.heap.size,k+1,N⟩)) W:=λW=>by rcases(show k=0\/k=1\/k=2 by omega)with rfl|rfl|rfl<;>kernel_rfl
    have O:=Aa (kT i k ab);have ad:=Aa (Ab (ar.out k ab) (A3.out k l));obtain⟨rk,az⟩: ∃rk,[i.a,i.b,i.c][k]?.getD 0=rk:=⟨_,rfl⟩;rw[az]at O ad;have HI:=Aa (hI.go (tU _ _).drew);have c1:=hI.ins.cell (k+1);rw[O.out.2.1]at c1;clear hI az hk ab l;go_wp2;go_region_held3(λ_=>True) (trivial) (first|(go_at_call 325;refine(fZ wb _ ws (E+k) rk _ HI.out.wd ad.out.2 ad.out.1 (by have:=f.out;omega)).mono ?_;rintro e w7⟨rfl,B,C⟩;have P:=HI.out.next B C;have f1:=P.ins.free (k+1);have c1:=P.ins.cell (k+1);have h8:=P.set (k+1) (I U rk);rw[O.out.1]at h8;rw[O.out.2.1]at c1;have bc:=Aa h8;clear B C P h8))
    all_goals
     go_wp2;have hw:wrap64 ((k:Int)+1)=((k+1:Nat):Int):=by have:=ay.out;unfold wrap64;omega
     rw[hw];exact⟨⟨k+1,by omega,rfl,bc.out⟩,by simp[intOf];omega⟩
   ·obtain rfl:k=r:=by omega
    have ae:IS w wb ws (E+k) #[I U op,I U i.a,I U i.b,I U i.c,I U 0] wr:=by rw[<-T.out.2];exact hI
    have HI:=Aa ae;have c0:=ae.ins.cell 0;simp only[Ad,Ac]at c0;clear hI ae hk l;have af:=Aa (dW.QK op wr (HL.out.1.below HI.out.below));rw[L.out.2.2]at af;cases lb;case' false=>go_wp2_with(go_at_call 135;refine af.out.mono ?_;rintro e ag⟨rfl,j⟩;have HP:Hid (IS w wb ws n #[I U op,I U i.a,I U i.b,I U i.c,I U i.n] ag):=(by have q:=HI.out.go j;have v:=A1.out;simp only[A6,Bn,Zb7]at v;rw[aq.out.2 rfl,v];exact q);clear j)
    case' true=>go_wp2_with(first|(go_at_call 135;refine af.out.mono ?_;rintro e w6⟨rfl,j⟩;have HG:=Aa (HI.out.go j);clear j)|(go_at_call 323;refine(Gp _ _ ws (E+k) _ HG.out.wd (by have:=f.out.1;have:=A1.out;simp at this;omega) (by have:=f.out;omega)).mono ?_;rintro e w7⟨rfl,B,C⟩;rw[A4.out (by trivial)];have HN:=Aa (HG.out.next B C);clear B C)|(go_at_call 326;refine(Fl i.n _ aq.out.1).mono ?_;rintro e w8⟨rfl,j⟩;have hP:=HN.out.go j;have ah:=hP.set 4 (I U i.n);obtain⟨o8,_,a6⟩:=hP.wd.Dj;have oo:=a6.cell 1;obtain⟨o,_,hw⟩:=ah.wd.Dj;have f4:=hP.ins.free 4;have c4:=hP.ins.cell 4;have o1:=hw.cell 1;have fo:=hw.free 1;have HP:Hid (IS w wb ws n #[I U op,I U i.a,I U i.b,I U i.c,I U i.n] _):=(by have v:=A1.out;simp only[BD]at v;rw[v];exact ah.ou);simp only[Ad,Ac,Ag]at c4 o1 oo;clear j hP ah hw a6));clear f4 c4 o1 fo oo;generalize((w8.setCell ⟨w.heap.size,4,N⟩ (I U i.n)).setCell ⟨wb,1,N⟩ (ue tZ))=ag at*
    all_goals
     clear c0;have g:=HP.out;obtain⟨o,_,hw⟩:=g.wd.Dj;rw[f.out.1,Bj]at hw;have c0:=g.ins.cell 0;have c1:=g.ins.cell 1;have c2:=g.ins.cell 2;have c3:=g.ins.cell 3;have c4:=g.ins.cell 4;have f0:=g.ins.free 0;have f1:=g.ins.free 1;have f2:=g.ins.free 2;have f3:=g.ins.free 3;have f4:=g.ins.free 4;have o0:=hw.cell 0;have o1:=hw.cell 1;simp only[Ad,Ac,Ag]at c0 c1 c2 c3 c4 o0 o1;have ai:=g.te (a:=I U op) (b:=I U i.a) (c:=I U i.b) (d:=I U i.c) (e:=I U i.n) hw;have HW:=Aa (Ab g.ZN ai);have a7:=Aa (IS.held (g.ZN.go (tU _ _).drew) ai.drew);obtain⟨l0,l1,l2,l3,l4,l5,l6⟩:=a7.out;clear g hw ai a7;go_region_held3(λF=>F.cell? ⟨w.heap.size,0,N⟩=Z (I U op)/\F.cell? ⟨w.heap.size,1,N⟩=Z (I U i.a)/\F.cell? ⟨w.heap.size,2,N⟩=Z (I U i.b)/\F.cell? ⟨w.heap.size,3,N⟩=Z (I U i.c)/\F.cell? ⟨w.heap.size,4,N⟩=Z (I U i.n)/\F.cell? ⟨wb,0,N⟩=Z (Y (Z ⟨w.heap.size+1,o,N⟩) 0 0)/\F.cell? ⟨wb,1,N⟩=Z (ue tZ)) (first|go_keep|with_reducible assumption|(refine⟨?_,?_,?_,?_,?_,?_,?_⟩<;>with_reducible assumption)) (fail);rename_i hh;clear hh l0 l1 l2 l3 l4 l5 l6 f0 f1 f2 f3 f4 c0 c1 c2 c3 c4 o0 o1;have s:=HW.out.1.go (tU _ _).drew;clear HW;generalize(((((ag.setCell ⟨w.heap.size,0,N⟩ (I U op)).setCell ⟨w.heap.size,1,N⟩ (I U i.a)).setCell ⟨w.heap.size,2,N⟩ (I U i.b)).setCell ⟨w.heap.size,3,N⟩ (I U i.c)).setCell ⟨w.heap.size,4,N⟩ (I U i.n)).drew=WD at s⊢;have c0:=s.ins.cell 0;have c1:=s.ins.cell 1;have c2:=s.ins.cell 2;have c3:=s.ins.cell 3;have c4:=s.ins.cell 4;have bd:=Aa s.below;simp only[Ad,Ac,Ag]at c0 c1 c2 c3 c4;clear s;go_wp2;exact AM (by simp[results,results272,go_sem,c0,c1,c2,c3,c4]) rfl ⟨rfl,bd.out⟩
end D1
end Go.Proofs.YtgadhchejmlfjaaGreatDoor
namespace Go.CN
variable {P:Program}{l n:Nat}
variable {a:Act}{next next':Act->rO->Prop}{Q:Exit->Act->rO->Prop}{w:rO}{ops:Array Oper}
theorem Tg{o:Oper}{r:Result Next}(b: ∀a w,next a w->next' a w) (h:o.upon P a next Q r):o.uponIn (Fence.wide.inRound l) n P a next' Q r:=by
 match r,h with
 | .ok (.value v) g,h=>exact b _ _ h
 | .ok .skip g,h=>exact b _ _ h
 | .ok (.defer d) g,h=>exact b _ _ h
 | .ok (.enter f args) g,h=>
  refine⟨(λe=>by cases e),CallsIn.inRound l (callsIn_wide.2 ?_)⟩;refine Calls.mono h ?_;intro e i j;cases e with
  |returned v=>exact b _ _ j
  |panicked c=>exact j
  |outgrown=>exact j
 | .ok (.row row args) g,h=>refine⟨(λe=>by cases e),λc cs _=>?_⟩;obtain⟨v,i,r,s⟩:=h c cs;exact⟨v,i,b _ _ r,stepsIn_wide.2 s⟩
 | .halt (.panic v) g,h=>exact h
theorem ZO{o:Oper}(hd: ∀c,o.op≠ .defer c) (b: ∀a w,next a w->next' a w) (h:o.wp P a w next Q):o.wpIn (Fence.wide.inRound l) n P a w next' Q:=by refine⟨λ_ _=>trivial,?_⟩;rw[Oper.semAt_plain _ _ _ hd];exact Tg b h
theorem Th{i:Nat}{K e:Act->rO->Prop}(b: ∀a w,K a w->e a w) (hd: ∀(i:Nat)(o:Oper),ops[i]?=Z o-> ∀c,o.op≠ .defer c) (f: ¬LetsOut Q) (h:wpOp P ops Q i K a w):wpOpIn (Fence.wide.inRound l) n P ops Q i e a w:=by
 unfold wpOp at h;unfold wpOpIn;cases d:ops[i]? with
 |none=>rw[d]at h;exact b _ _ h
 |some o=>
  rw[d]at h;dsimp only at h⊢;split
  ·rename_i hw
   rw[Ai hw]at h;exact ZO (hd i o d) b (h.elim id (λx=>absurd x.2 f))
  ·rename_i hw
   rw[Ah hw]at h;exact⟨λ_ _=>trivial,b _ _ h⟩
theorem LP{md:Region.Mode}(hd: ∀(i:Nat)(o:Oper),ops[i]?=Z o-> ∀c,o.op≠ .defer c) (b: ¬LetsOut Q): ∀(fuel:Nat)(listed:Array Bool)(a:Act)(w:rO),wpAny P md ops Q fuel listed a w->wpAnyIn (Fence.wide.inRound l) n P md ops Q fuel listed a w
 |0,_,_,_,h=>h
 |fuel+1,listed,a,w,h=>⟨h.1,λi d=>Th (λa w h=>LP hd b fuel _ a w h) hd b (h.2 i d)⟩
def Pd(o:Oper):Bool:=match o.op with| .defer _=>tY|_=>tZ
theorem Pe{id:Nat}(hm:P.follows .mixedOrders=tZ)(hd:ops.all Pd=tZ)(d: ¬LetsOut Q)(h:wpAny P .any ops Q ops.size (Array.replicate ops.size tY) a {w with drawn:=w.drawn+1}):(Code.region id ops tZ).wpIn (Fence.wide.inRound l) n P Q a w:=by
 refine wpIn_region_any hm (LP ?_ d _ _ _ _ h);intro i o f c e;have b:Pd o=true:=by rw[Array.all_eq_true]at hd;obtain⟨g,rfl⟩:=BA.1 f;exact hd i g
 unfold Pd at b;rw[e]at b;cases b
end Go.CN
namespace Go.Proofs.YtgadhchejmlfjaaGreatDoor
namespace C4
theorem WJ{x:Int}(h:1<=x):right [x]=[x]:=by simp[right,h]
theorem ZP{x:Int}(h: ¬1<=x):right [x]=[]:=by simp[right,h]
theorem Ob(L:List Int):(right L).length<=L.length:=Ch _ _
section
open Go.Proofs.Tryz Go.RowKit Go.Shelf Go.CN
attribute [local go_sem] Oper.semAt_some
variable {W W' w3 w:rO}{b base g:Nat}{cs:Array tR}{t:TypeId}{row:Option Nat}{v u:tR}{l:List Int}
def Fr(w:rO)(b:Nat)(v1 v2 u:tR)(f k:List Int)(pre:List (Int×Int))(W:rO):Prop:= ∃a,Q W b a v2 (f++right (pre.map Prod.snd)) k/\Cw (Qf b v1 v2) w W/\Gr (Qf b v1 v2) (Qf b a v2) w/\Cy W w.heap.size #[J (Z ⟨b,0,N⟩)] 108/\Cy W (w.heap.size+1) #[u] 22
theorem Cy.GF(h:Cy W b cs t)(c:W.grownBy W' row)(d: ∀r,row=Z r-> ∃o:Obj,W.heap[r]?=Z o/\o.isCells=tY):Cy W' b cs t:=h.kept c (λe=>by obtain⟨o,a,f⟩:=d b e.symm;rw[show W.heap[b]?=_ from h]at a;cases a;cases f)
theorem CH.GF(h:CH W base v l)(b:W.grownBy W' row)(c: ∀r,row=Z r-> ∃o:Obj,W.heap[r]?=Z o/\o.isCells=tY):CH W' base v l:=by
 obtain⟨a,d|⟨g,cap,cur,e,f,i,r⟩⟩:=h
 ·exact⟨a,.inl d⟩
 ·exact⟨a,.inr ⟨g,cap,cur,e,f,Cy.GF (show Cy W g cur 3 from i) b c,r⟩⟩
theorem Fr.own(w:rO)(b:Nat)(v1 v2 u:tR)(f k:List Int)(B:Nat)(i:w.heap.size<=B):OwnFrom B (Fr w b v1 v2 u f k):=by rintro pre W W' row⟨g,d,l,m,n,p⟩c h;have a: ∀r,row=Z r-> ∃o:Obj,W.heap[r]?=Z o/\o.isCells=false:=λr e=>(h r e).2;exact⟨g,⟨Cy.GF d.1 c a,CH.GF d.2.1 c a,CH.GF d.2.2.1 c a,d.2.2.2⟩,l.grown c (λj e=>.inl (AA i (h j e).1)),m,Cy.GF n c a,Cy.GF p c a⟩
theorem QT(h:CH W base v l)(b:Cy W g cs t)(c:t≠3):v.ownBlock≠Z g:=λe=>by
 obtain⟨j,⟨d,_⟩|⟨f,cap,cur,i,_,a,r⟩⟩:=h
 ·rw[d]at e;cases e
 ·rw[i]at e
  simp only[ud,Ak]at e;subst e;rw[show W.heap[f]?=_ from b]at a;cases a;exact c rfl
theorem UN{v':tR}{m:List Int}{tmp:Obj}(a:Cy W g cs t)(b:v.ownBlock≠Z g)(c:JM (W.drew.alloc tmp) 0 v l m v' w3):Cy w3 g cs t:=(a.drew.alloc tmp).kept c.2.1 (λe=>b e.symm)
theorem Oc(pre:List (Int×Int))(x:Int×Int):right ((pre++[x]).map Prod.snd)=right (pre.map Prod.snd)++right [x.2]:=by unfold right;rw[BP,Zaz];rfl
structure Rd (w:rO) (b:Nat) (v1 v2 u rZ:tR) (f k l FF:List Int) (pre:List (Int×Int)) (W:rO):Prop where
 eq:f++right (pre.map Prod.snd)=FF
 only:Cw (Qf b v1 v2) w W
 gr:Gr (Qf b v1 v2) (Qf b rZ v2) w
 box:Cy W w.heap.size #[J (Z ⟨b,0,N⟩)] 108
 kV:Cy W (w.heap.size+1) #[u] 22
 own:CH W 0 rZ FF
 lt:b<w.heap.size
 jb:DG w u l
 off:l≠[]->Hs (Qf b v1 v2) u
theorem QU{l':List Int}(h:DG w u l)(d:l=[])(e:DG W u l'):l'=[]:=by obtain⟨a,c,he,_⟩:=h;obtain⟨a',f,b,_⟩:=e;subst d;rw[he]at b;simp only[As,AG]at b;exact Bl.1 b.2.1.symm
theorem WK{B:Nat}{v1 v2 a:tR}{f k s:List Int}{pre:List (Int×Int)}{x:Int×Int}{c d Gk:Nat}(h:Rd w b v1 v2 u a f k l s pre W)(t:Q (w3.setCell ⟨b,0,N⟩ (Y (Z ⟨c,0,N⟩) d Gk)) b (Y (Z ⟨c,0,N⟩) d Gk) v2 (s++[x.2]) k)(y:Cw (Qf b a v2) W.drew (w3.setCell ⟨b,0,N⟩ (Y (Z ⟨c,0,N⟩) d Gk)))(z:Gr (Qf b a v2) (Qf b (Y (Z ⟨c,0,N⟩) d Gk) v2) W.drew)(A:Cy w3 w.heap.size #[J (Z ⟨b,0,N⟩)] 108)(C:JM (W.drew.alloc (uj #[I U x.2] 3)) 0 a s [x.2] (Y (Z ⟨c,0,N⟩) d Gk) w3)(O:1<=x.2):KeepsFrom B W (w3.setCell ⟨b,0,N⟩ (Y (Z ⟨c,0,N⟩) d Gk))/\JT (w.heap.size+1) u W (w3.setCell ⟨b,0,N⟩ (Y (Z ⟨c,0,N⟩) d Gk))/\Fr w b v1 v2 u f k (pre++[x]) (w3.setCell ⟨b,0,N⟩ (Y (Z ⟨c,0,N⟩) d Gk)):=by
 have P:=h.lt;have i:a.ownBlock≠Z (w.heap.size+1):=QT h.own h.kV (by decide);have m:=UN h.kV i C;have n:Cw (λj=>j=b\/a.ownBlock=Z j) W (w3.setCell ⟨b,0,N⟩ (Y (Z ⟨c,0,N⟩) d Gk)):=((((Cw.refl (λj=>j=b\/a.ownBlock=Z j) W).drew.alloc _).grown C.2.1 (λj e=>.inr (.inr e))).set (.inr (.inl rfl)) _ _);refine⟨?_,⟨λv D=>?_,λl' g=>?_⟩,Y (Z ⟨c,0,N⟩) d Gk,?_,?_,?_,A.setOther (by omega) _,m.setOther (by omega) _⟩
 ·refine((((KeepsOthers.drew W).trans (KeepsOthers.alloc _ _)).trans (KeepsOthers.of_grownBy C.2.1 (λj o e H=>?_))).trans (KeepsOthers.setCell _ _ _)).from _
  obtain⟨h1,⟨R,_⟩|⟨g2,K,cur,D,_,L,r⟩⟩:=h.own
  ·rw[R]at e;cases e
  ·rw[D]at e
   simp only[ud,Ak]at e;subst e;have S:(W.drew.alloc (uj #[I U x.2] 3)).heap[g2]?=Z (uj cur 3 (0,0)):=(Zab W.drew _ g2 (BA.1 L).1).trans L;rw[S]at H;cases H;rfl
 ·refine(AK (n.block _ h.kV.lt (λe=>?_))).trans D
  rcases e with e|e
  ·have e':w.heap.size+1=b:=e
   omega
  ·exact i e
 ·by_cases p:l=[]
  ·have:=QU h.jb p g
   subst this;obtain⟨a',T,E,F,G,_⟩:=g;exact⟨a',T,E,F,G,.inl rfl⟩
  ·refine g.only n (λj q e=>?_)
   have V:=h.jb.lt p j q;rcases e with e|e
   ·exact h.off p j q (.inl e)
   ·rcases h.gr j (.inr (.inl e))with M|M
    ·exact h.off p j q M
    ·omega
 ·rw[Oc,WJ O,<-AU,h.eq];exact t
 ·exact h.only.andThen (Cw.Gj y) (λj q X=>(h.gr j X).elim id (λx=>by omega))
 ·exact h.gr.trans (w':=W) z h.only.size
def WL(b:Nat)(v1 v2:tR)(f k:List Int)(w:rO)(e:Ending)(w':rO):Prop:=e=ui (I U ((f.length:Int)+k.length))/\ ∃a,Q w' b a v2 f k/\Cw (Qf b v1 v2) w w'/\Gr (Qf b v1 v2) (Qf b a v2) w
theorem gd(b:Nat)(v1 v2:tR)(f k:List Int)(u:tR)(l:List Int)(w:rO)(h:Q w b v1 v2 f k)(hu:DG w u l)(ho:l≠[]->Hs (Qf b v1 v2) u)(hl:f.length+k.length+l.length<10000000):tT prog 362 #[J (Z ⟨b,0,N⟩),u] w (WL b v1 v2 (f++right l.reverse) k w):=by
 have ad:=Aa h;have H:=Aa hu;have ae:=Aa ho;have af:=h.1.lt;obtain⟨g,j,rfl⟩:=hu.len;clear h hu ho;refine(callsIn_wide (n:=4)).1 ?_;refine callsIn_of_wp_marks func362 rfl trivial ?_ rfl;simp only[ntmps362,Bk,Av,AG,Nat.reduceAdd,Nat.reduceSub,BB,BC,BR,BF,A7,Bp];gi_wp2_with fail
 refine⟨trivial,(Lz Fence.wide 3 trivial rfl _ _ _ _).mono ?_⟩;rintro e L⟨rfl,rfl⟩;gi_wp2_with fail
 have ag:Q ((w.alloc (uj #[J (Z ⟨b,0,N⟩)] 108)).alloc (uj #[.slice g l.length j] 22)) b v1 v2 f k:=(ad.out.below (Cu (tU _ _) _)).below (Cu (tU _ _) _);have b1:Cy ((w.alloc (uj #[J (Z ⟨b,0,N⟩)] 108)).alloc (uj #[.slice g l.length j] 22)) (w.heap.size+1) #[.slice g l.length j] 22:=Cy.ID _ _ (by simp);have b0:Cy ((w.alloc (uj #[J (Z ⟨b,0,N⟩)] 108)).alloc (uj #[.slice g l.length j] 22)) w.heap.size #[J (Z ⟨b,0,N⟩)] 108:=(Cy.new w _ 108).alloc _;have ah:DG ((w.alloc (uj #[J (Z ⟨b,0,N⟩)] 108)).alloc (uj #[.slice g l.length j] 22)) (.slice g l.length j) l:=(H.out.alloc _).alloc _
 refine wpIn_rangeFunc_ownG rfl (by decide) (gf:=198) (lb:=#[J (Z ⟨w.heap.size+1,0,N⟩)]) rfl trivial (enters_of func198 (by kernel_rfl) rfl)
  (MM Fence.wide (4-1) trivial rfl (by decide) (w.heap.size+1) (.slice g l.length j) l _ (by simp<;>omega) (b1.cell 0) ah (by omega)) Ql Qm (tU _ _) (λ_=>rfl)
  (Fr w b v1 v2 (.slice g l.length j) f k)
  (λ_ _ _=>False)
  (Fr.own w b v1 v2 _ f k _ (by simp<;>omega))
  (λ_ _ _ _ _ hs _ _=>hs)
  ⟨v1,by simpa[right]using ag,((Cw.refl _ w).alloc _).alloc _,Gr.refl _ _,b0,b1⟩
  (λx=>{tmps:=#[J (Z ⟨b,0,N⟩),.slice g l.length j,J (Z ⟨w.heap.size,0,N⟩),undef,I U 0,undef,I U x.2,J (Z ⟨b,0,N⟩),ue tY,.slice g l.length j,.func (.func 198) #[] #[J (Z ⟨w.heap.size+1,0,N⟩)],I U x.1,I U x.2,undef,undef,undef,undef,undef,undef,undef,undef,undef,undef,undef,undef,undef,undef],defers:=[]}) ?assign ?body ?done ?stop
 case assign=>
  intro l x W K r;gi_wp2
  exact r
 case body=>
  rintro ll pre x W⟨d,m,D,F,a,o⟩ai;have c0:=m.1.cell 0;have cb:=a.cell 0;have aj:=m.1.lt;have M:=a.lt;simp only[Ad,Ac]at c0 cb;by_cases G:1<=x.2
  ·have ak:decide (1<=x.2)=true:=by simpa using G
   have HF:=Aa G;have O:=Ob (pre.map Prod.snd);obtain⟨y,s⟩: ∃y,f++right (pre.map Prod.snd)=y:=⟨_,rfl⟩;have ao:y.length<=f.length+pre.length:=by rw[<-s];simp at O⊢;omega
   rw[s]at m;have HW:Hid (Rd w b v1 v2 (.slice g l.length j) d f k l y pre W):=⟨s,D,F,a,o,m.2.1,af,H.out,ae.out⟩;have aq:Hid (d.ownBlock≠Z w.heap.size):=QT m.2.1 a (by decide);have P:=Aa a;have HQ:=Aa m;have R:Hid (CH W.drew 0 d y):=m.2.1;have S:y.length+ [x.2].length<100000000:=by simp;omega
   have T:=Aa S;have d0: ∀q,(W.alloc q).cell? ⟨b,0,N⟩=Z d:=λq=>(AK (Zab W q b aj)).trans c0;have db: ∀q,(W.alloc q).cell? ⟨w.heap.size,0,N⟩=Z (J (Z ⟨b,0,N⟩)):=λq=>(AK (Zab W q _ M)).trans cb;clear m D F a o G S ai O s ao;gi_wp2_with fail
   refine Pe (by kernel_rfl) (by kernel_rfl) (λh=>by obtain⟨_,_,h⟩:=h;exact h) ?_;change wpAny _ _ _ _ 11 _ _ (World.drew _);refine Zb8 (i:=5) (v:=?_) rfl (by kernel_rfl) (by kernel_rfl) (by kernel_rfl) (λ_ _ _ h=>h) (Or.inl ⟨by kernel_rfl,?_⟩) ?_;rotate_left
   ·intro L;go_simp;try(with_reducible rfl)
   repeat' (first|with_reducible exact Zb6|((with_reducible show AllReady _ _ _ _ _ _ _ _ _);refine Zat rfl (λK r=>?_) ?_)|((with_reducible show wpAny _ _ _ _ _ _ _ _);refine Zb8 (i:=2) (v:=?_) rfl (by kernel_rfl) (by decide+kernel) (by decide+kernel) (λ_ _ _ h=>h) (Or.inl ⟨by kernel_rfl,?_⟩) ?_;rotate_left; ·(intro L;go_simp;try(with_reducible rfl)))|((with_reducible show wpAny _ _ _ _ _ _ _ _);refine Zb8 (i:=3) (v:=?_) rfl (by kernel_rfl) (by decide+kernel) (by decide+kernel) (λ_ _ _ h=>h) (Or.inl ⟨by kernel_rfl,?_⟩) ?_;rotate_left; ·(intro L;go_simp;try(with_reducible rfl)))|((with_reducible show wpAny _ _ _ _ _ _ _ _);refine Zb8 (i:=8) (v:=?_) rfl (by kernel_rfl) (by decide+kernel) (by decide+kernel) (λ_ _ _ h=>h) (Or.inl ⟨by kernel_rfl,?_⟩) ?_;rotate_left; ·(intro L;go_simp;try(with_reducible rfl)))|((with_reducible show wpAny _ _ _ _ _ _ _ _);refine Zb8 (i:=9) (v:=?_) rfl (by kernel_rfl) (by decide+kernel) (by decide+kernel) (λ_ _ _ h=>h) (Or.inl ⟨by kernel_rfl,?_⟩) ?_;rotate_left; ·(intro L;go_simp;try(with_reducible rfl)))|with_reducible refine B9 (rs:=[0,1,6]) (by decide+kernel) (by simp) ?_|with_reducible refine B9 (rs:=[0,1]) (by decide+kernel) (by simp) ?_|with_reducible refine B9 (rs:=[0,4,6]) (by decide+kernel) (by simp) ?_|with_reducible refine B9 (rs:=[0,4]) (by decide+kernel) (by simp) ?_|with_reducible refine B9 (rs:=[0,6]) (by decide+kernel) (by simp) ?_|with_reducible refine B9 (rs:=[0,7]) (by decide+kernel) (by simp) ?_|with_reducible refine B9 (rs:=[0]) (by decide+kernel) (by simp) ?_|with_reducible refine B9 (rs:=[1,6]) (by decide+kernel) (by simp) ?_|with_reducible refine B9 (rs:=[10]) (by decide+kernel) (by simp) ?_|with_reducible refine B9 (rs:=[1]) (by decide+kernel) (by simp) ?_|with_reducible refine B9 (rs:=[4,6]) (by decide+kernel) (by simp) ?_|with_reducible refine B9 (rs:=[4]) (by decide+kernel) (by simp) ?_|with_reducible refine B9 (rs:=[6]) (by decide+kernel) (by simp) ?_|with_reducible refine B9 (rs:=[7]) (by decide+kernel) (by simp) ?_|((with_reducible refine wpAny_done (by decide+kernel) ?_ _);exact WK HW.out ar.out au.out av.out aw.out HA.out HF.out)|(refine Yk underlying22 Dv 0 _ rfl (.tmp 19) (.tmp 21) rfl d y (Y (Z ⟨W.heap.size,0,N⟩) 1 1) [x.2] (by kernel_rfl) (by kernel_rfl) (R.out.alloc _) (DG.EW _ x.2) (Ap _) T.out ?_;intro v' w3 V;obtain⟨g',a6,rfl⟩:=V.some;obtain⟨z,X,aa,ab⟩:=HQ.out.drew.Qk (tmp:=uj #[I U x.2] 3) V;have HA:=Aa V;have q0:=z.cell 0;have a7:=z.free 0;simp only[Ad,Ac]at q0;have A:=UN P.out aq.out V;have qx:=A.cell 0;simp only[Ad,Ac]at qx;have ar:=Aa X;have au:=Aa aa;have av:=Aa ab;have aw:=Aa A;clear X z aa ab V A;refine r _ _ ?_;clear r K)|(go_simp;refine r _ _ ?_;clear r K))
  ·have ak:decide (1<=x.2)=false:=by simpa using G
   have HX:=Aa (ZP G);clear G;gi_wp2_with fail
   exact⟨KeepsFrom.refl _ _,⟨λv hv=>hv,λl hl=>hl⟩,d,by rw[Oc,HX.out,BW];exact m,D,F,a,o⟩
 case done=>
  rintro E ys W hE rfl⟨d,m,D,F,a,o⟩r;rw[Jd]at m;have cb:=a.cell 0;simp only[Ad,Ac]at cb;have ax:Hid (Fr w b v1 v2 (.slice g l.length j) f k (FI l l.length) W):=⟨d,by rw[Jd];exact m,D,F,a,o⟩;have HQ:=Aa m;have ay:=Ob l.reverse;simp at ay;clear m D F a o;gi_wp2_with fail
  refine⟨trivial,(callsIn_wide.2 (Ut _ _ _ _ _ _ HQ.out (by simp;omega))).mono ?_⟩;rintro e w2⟨rfl,n2,rfl⟩;gi_wp2
  refine⟨by simp,.inl ⟨_,_,rfl,run_takeDeferred (show(W.drewN n2).heap[E]?=_ from r),?_⟩⟩;obtain⟨v9,t,B,C,_⟩:=OwnFrom.putObj (Fr.own w b v1 v2 (.slice g l.length j) f k E (by simp at hE;omega)) (.deferred N) (show Fr w b v1 v2 (.slice g l.length j) f k (FI l l.length) (W.drewN n2)from by obtain⟨v9,t,B,C,h9,az⟩:=ax.out;exact⟨v9,t.drewN n2,B.drewN n2,C,h9,az⟩) (Al _) (show(W.drewN n2).heap[E]?=_ from r) rfl;rw[Jd]at t;exact⟨_,by simp[results,results362,go_sem],rfl,v9,t,B,C⟩
 case stop=>rintro E c pre W _ _ h _;exact h.elim
end
theorem Od(l:List Int):(right l.reverse).reverse=right l:=by simp[right]
theorem WM(b:Nat)(S:Nat->Prop)(L:List Int)(u:tR)(l:List Int)(w:rO)(h:Queue w b S L)(hu:DG w u l)(c:l≠[]->Hs S u)(d:L.length+l.length<1000000):tT prog 362 #[J (Z ⟨b,0,N⟩),u] w (NF b S (right l++L) w):=by obtain⟨v1,v2,f,k,h,rfl,rfl⟩:=h;refine(gd b v1 v2 f k u l w h hu c (by simp at d;omega)).mono ?_;rintro e m⟨rfl,a,g,i,j⟩;refine⟨?_,_,⟨a,v2,f++right l.reverse,k,g,by rw[List.reverse_append,Od,AU],rfl⟩,i,j⟩;rw[<-Od l];simp;omega
end C4
namespace CZ
open Ring (Rw Sg C7)
open C4 (Gr Queue right NF)
variable {j p n i m k q g cap:Nat}{rv:tR}{R:Nat->Rn}{row L:List Int}{w w1 wr w2:rO}{S S1:Nat->Prop}
def J0(R:Nat->Rn)(i:Nat)(nx:Int)(row:List Int):Nat->Rn:=λj=>if j=i then⟨(R i).b,(R i).g,nx,row⟩else R j
theorem Lc(R:Nat->Rn)(i:Nat)(nx:Int)(row:List Int)(j:Nat):(J0 R i nx row j).b=(R j).b:=by unfold J0;split<;>simp_all
theorem M8(R:Nat->Rn)(i:Nat)(nx:Int)(row:List Int)(j:Nat):(J0 R i nx row j).g=(R j).g:=by unfold J0;split<;>simp_all
theorem WN(R:Nat->Rn)(i:Nat)(nx:Int)(row:List Int):J0 R i nx row i=⟨(R i).b,(R i).g,nx,row⟩:=by simp[J0]
theorem gh(R:Nat->Rn)(i:Nat)(nx:Int)(row:List Int)(h:j≠i):J0 R i nx row j=R j:=by simp[J0,h]
theorem WO(n:Nat)(R:Nat->Rn)(i:Nat)(nx:Int)(row:List Int):IJ n (J0 R i nx row)=IJ n R:=by unfold IJ;apply Cp;intro j _;rw[Lc]
theorem gi{nx:Int}:Pf p rv n (J0 R i nx row)=Pf p rv n R:=by funext j;unfold Pf;simp only[Lc,M8]
theorem Hq.turn{nx:Int}(h:Hq w p rv n R)(b:i<n)(f:Rw w1 (R i).b (R i).g 256 nx row)(c:Cw (Sg (R i).b (R i).g) w w1):Hq w1 p rv n (J0 R i nx row):=by
 refine⟨h.Dj.only c (h.rp i b),?_,?_,h.SP,?_,?_,?_⟩
 ·rw[WO];exact h.own.off c (h.MO i b)
 ·intro j a
  by_cases e:j=i
  ·subst e;rw[WN];exact f
  ·rw[gh _ _ _ _ e]
   exact(h.ring j a).only c (h.OU j i a b e)
 ·intro j a;rw[Lc,M8];exact h.rp j a
 ·intro j a;rw[Lc,M8];exact h.MO j a
 ·intro j k a g d;rw[Lc,M8,Lc,M8];exact h.OU j k a g d
def dr(R:Nat->Rn)(m:Nat)(L:List Int):Nat->List Int
 |0=>L
 |k+1=>right (C7 (R (m+k)).CI (R (m+k)).row)++dr R m L k
def NK(R:Nat->Rn)(m k:Nat):Nat->Rn:=λi=>if m<=i/\i<m+k then⟨(R i).b,(R i).g,0,[]⟩else R i
theorem ZQ(R:Nat->Rn)(m:Nat):NK R m 0=R:=by funext i;simp[NK];omega
theorem ZR(R:Nat->Rn)(m k:Nat):J0 (NK R m k) (m+k) 0 []=NK R m (k+1):=by
 funext i;unfold J0 NK;by_cases e:i=m+k
 ·subst e;simp
 ·by_cases h:m<=i/\i<m+k
  ·rw[Ah e,Ai h,Ai (by omega)]
  ·rw[Ah e,Ah h,Ah (by omega)]
theorem Ph(R:Nat->Rn)(m k:Nat):NK R m k (m+k)=R (m+k):=by simp[NK]
theorem ZS(R:Nat->Rn)(m k:Nat)(h:i<m):NK R m k i=R i:=by simp[NK];omega
theorem UO(R:Nat->Rn)(m k i:Nat):(NK R m k i).b=(R i).b/\(NK R m k i).g=(R i).g:=by unfold NK;split<;>simp
theorem Ti:Pf p rv n (NK R m k)=Pf p rv n R:=by funext j;unfold Pf;simp only[(UO R m k _).1,(UO R m k _).2]
structure PQ (w:rO) (p:Nat) (rv:tR) (n:Nat) (R:Nat->Rn) (q:Nat) (S:Nat->Prop) (L:List Int):Prop where
 Ff:Hq w p rv n R
 kW:Queue w q S L
 OU: ∀j,Pf p rv n R j-> ¬S j
def Pb(p:Nat)(rv:tR)(n:Nat)(R:Nat->Rn)(S:Nat->Prop)(j:Nat):Prop:=Pf p rv n R j\/S j
theorem PQ.turn{nx:Int}(h:PQ w p rv n R q S L)(b:i<n)(d:Rw w1 (R i).b (R i).g 256 nx row)(c:Cw (Sg (R i).b (R i).g) w w1):PQ w1 p rv n (J0 R i nx row) q S L:=⟨h.Ff.turn b d c,h.kW.only c (λj a e=>h.OU j (.inr (.inr ⟨i,b,e⟩)) a),λj a=>h.OU j (by rw[gi]at a;exact a)⟩
theorem PQ.queue{S':Nat->Prop}{a:List Int}(h:PQ w p rv n R q S L)(c:Queue w1 q S' a)(d:Cw S w w1)(e:Gr S S' w):PQ w1 p rv n R q S' a:=⟨h.Ff.only d h.OU,c,λj b f=>(e j f).elim (h.OU j b) (λx=>by have:=h.Ff.lt b;omega)⟩
theorem ZT{d:Nat->Prop}(f:m+k<n)(h:PQ wr p rv n (NK R m k) q S1 (dr R m L k))(g:Cw (Pb p rv n R S) w wr)(i:Gr S S1 w)(o:Rw w1 (R (m+k)).b (R (m+k)).g 256 0 [])(a:Cw (Sg (R (m+k)).b (R (m+k)).g) wr w1)(r:Queue w2 q d (right (C7 (R (m+k)).CI (R (m+k)).row)++dr R m L k))(b:Cw S1 w1 w2)(c:Gr S1 d w1):PQ w2 p rv n (NK R m (k+1)) q d (dr R m L (k+1))/\Cw (Pb p rv n R S) w w2/\Gr S d w:=by have l:PQ w1 p rv n (J0 (NK R m k) (m+k) 0 []) q S1 (dr R m L k):=h.turn f (by rw[Ph];exact o) (by rw[Ph];exact a);rw[ZR]at l;refine⟨l.queue r b c,?_,i.trans c (AA g.size a.size)⟩;exact(g.andThen a (λj s e=>.inl (.inr (.inr ⟨m+k,f,e⟩)))).andThen b (λj s e=>(i j e).elim .inr (λx=>by omega))
theorem kX(h:Hq w p rv n R)(m:Nat)(L:List Int)(k:Nat)(c:m+k<=n):(dr R m L k).length<=L.length+257*k:=by
 induction k with
 |zero=>simp[dr]
 |succ k a=>have d:=a (by omega);have b:=Ml h (m+k) (by omega);have e:(right (C7 (R (m+k)).CI (R (m+k)).row)).length<=(C7 (R (m+k)).CI (R (m+k)).row).length:=Ch _ _;unfold Wc at b;simp only[dr,Au];omega
theorem Hq.cut(h:Hq w p (Y (Z ⟨g,0,N⟩) n cap) n R)(l:k<=n):Hq (w.setCell ⟨p,0,N⟩ (Y (Z ⟨g,0,N⟩) k k)) p (Y (Z ⟨g,0,N⟩) k k) k R:=by
 have d:Cw (λj=>j=p) w (w.setCell ⟨p,0,N⟩ (Y (Z ⟨g,0,N⟩) k k)):=(Cw.refl (λj=>j=p) w).set (.inr rfl) 0 _;have b:g≠p:=λe=>h.SP (by rw[e];rfl);refine⟨h.Dj.set 0 _,?_,?_,λe=>by simp[ud]at e;exact b e,λi c=>h.rp i (by omega),λi c j a m=>h.MO i (by omega) j a m,λi j c a=>h.OU i j (by omega) (by omega)⟩
 ·have f:=h.own.cut k l
  rw[show(IJ n R).take (k*1)=IJ k R from by simp[IJ,<-List.map_take,List.take_range];congr 2;omega]at f;exact f.off d (λj a e=>by simp[ud]at a;omega)
 ·intro i c
  exact(h.ring i (by omega)).only d (λj a e=>h.rp i (by omega) (e▸a))
theorem kY(a:k<=n)(h:Pf p (Y (Z ⟨g,0,N⟩) k k) k R j):Pf p (Y (Z ⟨g,0,N⟩) n cap) n R j:=by
 rcases h with h|h|⟨i,b,h⟩
 ·exact .inl h
 ·exact .inr (.inl h)
 ·exact .inr (.inr ⟨i,by omega,h⟩)
def UP(p:Nat)(rv:tR)(n m:Nat)(R:Nat->Rn)(q:Nat)(S:Nat->Prop)(L:List Int)(w:rO)(e:Ending)(w':rO):Prop:=e=ui (I U 0)/\ ∃b a c,PQ w' p b m a q c (dr R m L (n-m))/\Cw (Pb p rv n R S) w w'/\Gr (Pf p rv (min m n) R) (Pf p b m a) w/\Gr S c w/\(∀i,i<m->i<n->a i=R i)/\(∀i,n<=i->i<m->(a i).CI=0/\(a i).row=[])/\(∀i,n<=i->i<m->w.heap.size<=(a i).b/\w.heap.size<=(a i).g)
theorem gj{R':Nat->Rn}{NH:tR}(h:PQ wr p (Y (Z ⟨g,0,N⟩) n cap) n (NK R m (n-m)) q S1 (dr R m L (n-m)))(o:Cw (Pb p (Y (Z ⟨g,0,N⟩) n cap) n R S) w wr)(s:Gr S S1 w)(c:Y9 p (Y (Z ⟨g,0,N⟩) (min m n) (min m n)) (min m n) (NK R m (n-m)) (wr.setCell ⟨p,0,N⟩ (Y (Z ⟨g,0,N⟩) (min m n) (min m n))) NH m R' w2):UP p (Y (Z ⟨g,0,N⟩) n cap) n m R q S L w (ui (I U 0)) w2:=by
 have t:min m n<=n:=Nat.min_le_right _ _;have b: ∀j,Pf p (Y (Z ⟨g,0,N⟩) (min m n) (min m n)) (min m n) (NK R m (n-m)) j->Pf p (Y (Z ⟨g,0,N⟩) n cap) n R j:=λj a=>by have:=kY (cap:=cap) t a;rw[Ti]at this;exact this
 have d: ∀j,Pf p (Y (Z ⟨g,0,N⟩) (min m n) (min m n)) (min m n) (NK R m (n-m)) j->Pf p (Y (Z ⟨g,0,N⟩) n cap) (min m n) R j:=λj a=>by
  rcases a with h|h|⟨i,u,h⟩
  ·exact .inl h
  ·exact .inr (.inl h)
  ·rw[ZS _ _ _ (by omega)]at h;exact .inr (.inr ⟨i,u,h⟩)
 have f:Cw (Pf p (Y (Z ⟨g,0,N⟩) n cap) n R) wr w2:=((Cw.refl (Pf p (Y (Z ⟨g,0,N⟩) n cap) n R) wr).set (.inr (.inl rfl)) 0 _).trans (c.only.mono (λj _ a=>b j a));have v:Queue w2 q S1 (dr R m L (n-m)):=h.kW.only f (λj a e=>h.OU j (by rw[Ti];exact e) a);have y:=o.size;refine⟨rfl,NH,R',S1,⟨c.Ff,v,λj a e=>?_⟩,o.andThen f (λj a e=>.inl e),λj a=>(c.gr j a).imp (d j) (λx=>by simp[tV]at x;omega),s,λi l k=>?_,λi l k=>c.new i (by omega) k,λi l k=>by have q:=c.fr i (by omega) k;simp[tV]at q;omega⟩
 ·rcases(c.gr j a).imp (b j) (λx=>by simpa[tV]using x)with r|r
  ·exact h.OU j (by rw[Ti];exact r) e
  ·have:=h.kW.lt e;omega
 ·rw[c.mP i (by omega),ZS _ _ _ l]
theorem JY(p:Nat)(rv:tR)(n m:Nat)(R:Nat->Rn)(q:Nat)(S:Nat->Prop)(L:List Int)(w:rO)(h:PQ w p rv n R q S L)(ag:1<=n)(hn:n<=256)(ah:1<=m)(hm:m<=256)(hl:L.length+257*n<1000000):tT prog 343 #[J (Z ⟨p,0,N⟩),I U m,J (Z ⟨q,0,N⟩)] w (UP p rv n m R q S L w):=by
 obtain⟨g,cap,rfl⟩: ∃g cap,rv=Y (Z ⟨g,0,N⟩) n cap:=by
  rcases h.Ff.own.open with⟨_,F⟩|⟨g,cap,F,_⟩
  ·omega
  ·exact⟨g,cap,F⟩
 have HI:=Aa (EY m w);rw[A8 ⟨by omega,by omega⟩]at HI;have P:=Aa h;clear h;go_enter func343,ntmps343;go_wp2_with fail;refine HI.out.mono ?_;rintro e w1⟨rfl,rfl⟩;go_wp2_with fail;go_loopw [8] (λi wr=> ∃(k:Nat)(S1:Nat->Prop),k<=n-m/\i=I U ((m+k:Nat):Int)/\PQ wr p (Y (Z ⟨g,0,N⟩) n cap) n (NK R m k) q S1 (dr R m L k)/\Cw (Pb p (Y (Z ⟨g,0,N⟩) n cap) n R S) w wr/\Gr S S1 w) (λi _=>n-(intOf i).toNat)
 case atStart=>exact⟨0,S,Ap _,by simp,by rw[ZQ];exact P.out,Cw.refl _ _,Gr.refl _ _⟩
 case round=>
  obtain⟨k,S1,hk,rfl,a,G,H⟩:=hrel;have c0:=a.Ff.Dj.cell 0;simp only[Ad,Ac]at c0;by_cases c:m+k<n
  ·have hd:decide (m+k<n)=true:=by simpa using c
   rcases a.Ff.own.open with⟨_,F⟩|⟨g',y,he,_,f,hc,b⟩
   ·omega
   cases he;have cx:=b (m+k) (by omega);rw[Mk n _ (m+k) c,Ph]at cx;have Q:=a.Ff.ring (m+k) c;rw[Ph]at Q;have HD:=Aa (Ring.NZ _ _ _ _ _ _ Q);have r:=Aa a;have T:=Aa G;have s:=Aa H;have z:Hid ((dr R m L k).length+(C7 (R (m+k)).CI (R (m+k)).row).length<1000000):=by have V:=kX P.out.Ff m L k (by omega);have K:=Ml P.out.Ff (m+k) c;unfold Wc at K;show _<_;omega
   obtain⟨i,t⟩: ∃i,Hid (m+k=i):=⟨_,rfl⟩;rw[t.out]at cx HD c hd⊢;clear b Q a G H;go_wp2_with fail;refine HD.out.mono ?_;rintro e w2⟨v,rfl,d,A,u⟩;have ae:=Aa d;have W:=Aa A;have X:=Aa u;have HF:=Aa (C4.WM q S1 (dr R m L k) v (C7 (R i).CI (R i).row) w2 (r.out.kW.only u (λj hj hs=>r.out.OU j (.inr (.inr ⟨i,c,by rw[(UO R m k i).1,(UO R m k i).2];exact hs⟩)) hj)) (DG.Er d) (λ_ j hj hs=>by have V:=(d.lt j hj).1;have K:=r.out.kW.lt hs;omega) (by rw[<-t.out];exact z.out));obtain⟨av,cv,rfl⟩:=C4.Dm d;clear d A u;go_wp2_with fail;refine HF.out.mono ?_;rintro e w3⟨rfl,S3,B,C,D⟩;have aa:=Aa B;have ab:=Aa C;have ad:=Aa D;clear B C D;go_wp2_with fail;go_roundw
   case rel=>have hI:=t.out;subst hI;obtain⟨V,K,h3⟩:=ZT c r.out T.out s.out W.out X.out aa.out ab.out ad.out;exact⟨k+1,S3,by omega,by go_num,V,K,h3⟩
   case measure=>simp[intOf];omega
  ·have hd:decide (m+k<n)=false:=by simpa using c
   obtain rfl:k=n-m:=by omega
   have f0:=a.Ff.Dj.free 0;have r:=Aa a;have T:=Aa G;have s:=Aa H;have l:=Aa (Qs p _ (min m n) m _ _ (r.out.Ff.cut (k:=min m n) (Nat.min_le_right _ _)) (by omega) hm);have af:n<=cap:=by
    rcases a.Ff.own.open with⟨_,F⟩|⟨g',y,he,_,f,hc,b⟩
    ·omega
    ·cases he;exact hc
   have hE:=λw2 o M=>gj (w2:=w2) (NH:=o) (R':=M) r.out T.out s.out;have O:=Aa hE;clear a G H hE;by_cases ai:n<m
   ·have hle:n<=m:=by omega
    have E:n<=n:=by omega
    rw[show min m n=n by omega]at l O;have q9:min (m:Int) (n:Int)=(n:Int):=(by omega);go_wp2_with fail;refine l.out.mono ?_;rintro e w3⟨⟨v,rfl⟩,o,M,f⟩;rw[Zbv hle]at f;have x:=Aa f;clear f;go_wp2_with fail;go_ret;exact O.out _ _ _ x.out
   ·have hle:m<=m:=by omega
    have E:m<=n:=by omega
    rw[show min m n=m by omega]at l O;have q9:min (m:Int) (n:Int)=(m:Int):=(by omega);go_wp2_with fail;refine l.out.mono ?_;rintro e w3⟨⟨v,rfl⟩,o,M,f⟩;rw[Zbv hle]at f;have x:=Aa f;clear f;go_wp2_with fail;go_ret;exact O.out _ _ _ x.out
end CZ
namespace D8
open D3 (row rows Laid)
open Vm (CP)
def ER(w:rO)(a co:Nat)(l:List CP):Prop:=a<w.heap.size/\ ∀i,i<l.length->w.cell? ⟨a,co+i*5,N⟩=Z (I U (l[i]?.getD ⟨0,0,0,0,0⟩).op)/\w.cell? ⟨a,co+i*5+1,N⟩=Z (I U (l[i]?.getD ⟨0,0,0,0,0⟩).a)/\w.cell? ⟨a,co+i*5+2,N⟩=Z (I U (l[i]?.getD ⟨0,0,0,0,0⟩).b)/\w.cell? ⟨a,co+i*5+3,N⟩=Z (I U (l[i]?.getD ⟨0,0,0,0,0⟩).c)/\w.cell? ⟨a,co+i*5+4,N⟩=Z (I U (l[i]?.getD ⟨0,0,0,0,0⟩).n)
theorem ER.below{w w':rO}{a co:Nat}{l:List CP}(h:ER w a co l)(b:tS w.heap.size w w'):ER w' a co l:=⟨An h.1 b.size,λi c=>by have k:=h.2 i c;rw[<-b.cell (p:=⟨a,co+i*5,N⟩) h.1,<-b.cell (p:=⟨a,co+i*5+1,N⟩) h.1,<-b.cell (p:=⟨a,co+i*5+2,N⟩) h.1,<-b.cell (p:=⟨a,co+i*5+3,N⟩) h.1,<-b.cell (p:=⟨a,co+i*5+4,N⟩) h.1]at k;exact k⟩
def Fb(l:List CP)(sf:List Bool)(funcs:Int)(k:Nat):Bool:=
 match l[k]? with
 |some i=>Gf i.op i.a i.b i.c i.n l.length funcs&&(!(row i.op).waits||(FU.Ip sf k&&FU.Ip sf (k+1)))
 |none=>tY
theorem WQ(s co B p r sc:Nat)(l:List CP)(sf:List Bool)(k:Nat)(funcs:Int)(w:rO)(S:Laid w)(R:ER w s co l)(T:FU.Bs w (Y (Z ⟨p,r,N⟩) sf.length sc) sf)(V:k<l.length)(hl:l.length<=100000)(hf:funcs<=100000)(X: ∀i,l[k]?=Z i->i.n<=9223372036854775807) (h:Fb l sf funcs k=tZ):tT prog 163 #[uk #[Y (Z ⟨s,co,N⟩) l.length B,Y (Z ⟨p,r,N⟩) sf.length sc],I U k,I U funcs] w λe w'=>e=ui (I U 0)/\tS w.heap.size w w':=by
 unfold Fb at h;have G:=X;cases F:l[k]? with
 |none=>rw[F]at h;cases h
 |some i=>
 rw[F]at h;have t:=G i F;obtain⟨op,u,v,x,n⟩:=i;simp only at t;simp only[AR]at h;obtain⟨hI,hW⟩:=h;have H:=R.2 k V;rw[F]at H;simp only[AW]at H;obtain⟨c0,c1,c2,c3,c4⟩:=H;have aa:=R.1;generalize ab:l.length=g at*
 have ad:(k:Int)<(g:Int):=by omega
 have C:Hid (∀W,tS w.heap.size w W->Laid W/\FU.Bs W (Y (Z ⟨p,r,N⟩) sf.length sc) sf):=λW b=>⟨S.below b,T.below b⟩;have K:=Aa (Ab hI hW);have L:(g:Int)<=9223372036854775807:=by omega
 have M:funcs<=9223372036854775807:=by omega
 have j:=Aa (Ab L M);have ae:(k:Int)<=100000:=by omega
 have O:tS w.heap.size w ((w.alloc (uj #[Y (Z ⟨s,co,N⟩) g B,Y (Z ⟨p,r,N⟩) sf.length sc] 87)).alloc (uj #[I U op,I U u,I U v,I U x,I U n] 84)):=Cu (Cu (tU _ _) _) _;have b3:Cy ((w.alloc (uj #[Y (Z ⟨s,co,N⟩) g B,Y (Z ⟨p,r,N⟩) sf.length sc] 87)).alloc (uj #[I U op,I U u,I U v,I U x,I U n] 84)) w.heap.size #[Y (Z ⟨s,co,N⟩) g B,Y (Z ⟨p,r,N⟩) sf.length sc] 87:=(Cy.new w _ 87).below (Cu (tU _ _) _) (by simp);have b7:Cy ((w.alloc (uj #[Y (Z ⟨s,co,N⟩) g B,Y (Z ⟨p,r,N⟩) sf.length sc] 87)).alloc (uj #[I U op,I U u,I U v,I U x,I U n] 84)) (w.heap.size+1) #[I U op,I U u,I U v,I U x,I U n] 84:=by have q:=Cy.new (w.alloc (uj #[Y (Z ⟨s,co,N⟩) g B,Y (Z ⟨p,r,N⟩) sf.length sc] 87)) #[I U op,I U u,I U v,I U x,I U n] 84;simpa using q
 have f:=Aa (Ab O (Ab b3 b7));cases y:(row op).waits with
 |false=>have z:=Aa y;go_enter func163,ntmps163;go_wp2_with(first|(go_at_call 131;refine(Jj op u v x n g funcs _ (C.out _ f.out.1).1 K.out.1 j.out.1 j.out.2 (λ_=>t)).mono ?_;rintro e w1⟨rfl,b⟩;have c:=f.out.2.1.below b f.out.2.1.lt;have D:=f.out.2.2.below b f.out.2.2.lt;have m:=c.cell 0;have o:=c.cell 1;have p0:=D.cell 0;simp only[Ad,Ac,Ag]at m o p0;have a:=Aa (Ab (f.out.1.trans (b.mono f.out.1.size)) (Ab c D)))|(go_at_call 104;refine(D3.KQ op _ (C.out _ a.out.1).1).mono ?_;rintro e w2⟨rfl,b⟩;rw[z.out];have c:=a.out.2.1.below b a.out.2.1.lt;have m:=c.cell 0;have o:=c.cell 1;simp only[Ad,Ac,Ag]at m o;have d:=Aa (Ab (a.out.1.trans (b.mono a.out.1.size)) c)));go_ret;exact⟨rfl,d.out.1⟩
 |true=>have z:=Aa y;have P:=K.out.2;rw[y]at P;simp only[Bool.not_true,Bool.false_or,AR]at P;have E:=Aa P;go_enter func163,ntmps163;go_wp2_with(first|(go_at_call 131;refine(Jj op u v x n g funcs _ (C.out _ f.out.1).1 K.out.1 j.out.1 j.out.2 (λ_=>t)).mono ?_;rintro e w1⟨rfl,b⟩;have c:=f.out.2.1.below b f.out.2.1.lt;have D:=f.out.2.2.below b f.out.2.2.lt;have m:=c.cell 0;have o:=c.cell 1;have p0:=D.cell 0;simp only[Ad,Ac,Ag]at m o p0;have a:=Aa (Ab (f.out.1.trans (b.mono f.out.1.size)) (Ab c D)))|(go_at_call 104;refine(D3.KQ op _ (C.out _ a.out.1).1).mono ?_;rintro e w2⟨rfl,b⟩;rw[z.out];have c:=a.out.2.1.below b a.out.2.1.lt;have m:=c.cell 0;have o:=c.cell 1;simp only[Ad,Ac,Ag]at m o;have d:=Aa (Ab (a.out.1.trans (b.mono a.out.1.size)) c))|(go_at_call 155;first|(have hh:=A.out;refine(FU.MI _ _ sf _ _ (C.out _ hh).2).mono ?_;rintro e w4⟨rfl,b⟩;rw[E.out.2];have Q:=Aa (A.out.trans (b.mono A.out.size)))|(refine(FU.MI _ _ sf _ _ (C.out _ d.out.1).2).mono ?_;rintro e w3⟨rfl,b⟩;rw[E.out.1];have c:=d.out.2.below b d.out.2.lt;have m:=c.cell 0;have o:=c.cell 1;simp only[Ad,Ac,Ag]at m o;have A:=Aa (d.out.1.trans (b.mono d.out.1.size)))));go_ret;exact⟨rfl,Q.out⟩
def PG(l:List CP)(sf:List Bool)(funcs:Int):Bool:=decide (0<l.length/\l.length<=64/\sf.length=l.length)&&(List.range l.length).all (Fb l sf funcs)&&l.all (λi=>decide (i.n<=9223372036854775807))&&(row (l[l.length-1]?.getD ⟨0,0,0,0,0⟩).op).ends
theorem kZ(c co j d f sc:Nat)(l:List CP)(sf:List Bool)(funcs:Int)(w:rO)(K:Laid w)(y:ER w c co l)(P:FU.Bs w (Y (Z ⟨d,f,N⟩) sf.length sc) sf)(Q:funcs<=100000)(h:PG l sf funcs=tZ):tT prog 105 #[uk #[Y (Z ⟨c,co,N⟩) l.length j,Y (Z ⟨d,f,N⟩) sf.length sc],I U funcs] w λe p=>e=ui (uo #[I U (-1),I U 0])/\tS w.heap.size w p:=by
 unfold PG at h;simp only[AR,Bo]at h;obtain⟨⟨⟨⟨h0,R,z⟩,r⟩,A⟩,g⟩:=h;have s:Hid (∀(k:Nat)(W:rO),k<l.length->tS w.heap.size w W->tT prog 163 #[uk #[Y (Z ⟨c,co,N⟩) l.length j,Y (Z ⟨d,f,N⟩) sf.length sc],I U k,I U funcs] W λe p=>e=ui (I U 0)/\tS W.heap.size W p):=λk W B b=>WQ c co j d f sc l sf k funcs W (K.below b) (y.below b) (P.below b) B (by omega) Q (λi S=>by have q:=Bq.1 A i (AP S);simpa using q) (Bq.1 r k (BZ.2 B));obtain⟨m,hm⟩: ∃m,l.length-1=m:=⟨_,rfl⟩;have C:m<l.length:=by omega
 have D:Hid (∀W,tS w.heap.size w W->W.cell? ⟨c,co+m*5,N⟩=Z (I U (l[m]?.getD ⟨0,0,0,0,0⟩).op)/\tT prog 164 #[I U (l[m]?.getD ⟨0,0,0,0,0⟩).op] W λe p=>e=ui (ue tZ)/\tS W.heap.size W p):=λW b=>by refine⟨((y.below b).2 m C).1,?_⟩;rw[hm]at g;rw[<-g];exact D3.My _ W (K.below b)
 rw[z]at s⊢;generalize(l[m]?.getD ⟨0,0,0,0,0⟩).op=T at*
 have E:=y.1;generalize V:l.length=a at*
 have F:(a:Int)-1=(m:Int):=by omega
 have X:(m:Int)<(a:Int):=by omega
 have aa:((a:Int)==0)=false:=by simp;omega
 have L:decide ((64:Int)<(a:Int))=false:=by simp;omega
 have b3:Cy (w.alloc (uj #[Y (Z ⟨c,co,N⟩) a j,Y (Z ⟨d,f,N⟩) a sc] 87)) w.heap.size #[Y (Z ⟨c,co,N⟩) a j,Y (Z ⟨d,f,N⟩) a sc] 87:=Cy.new w _ 87;have o:=Aa (Ab (Cu (tU w.heap.size w) (uj #[Y (Z ⟨c,co,N⟩) a j,Y (Z ⟨d,f,N⟩) a sc] 87)) b3);have HM:=Aa (Ab hm (Ab F E));go_enter func105,ntmps105;go_wp2;go_step3;go_wp2;go_step3;go_wp2;generalize w.alloc (uj #[Y (Z ⟨c,co,N⟩) a j,Y (Z ⟨d,f,N⟩) a sc] 87)=M at*
 go_loopw [28] (λt wr=> ∃k:Nat,k<=a/\t=I U k/\tS M.heap.size M wr) (λt _=>a-(intOf t).toNat)
 case atStart=>exact⟨0,Ap _,rfl,tU _ _⟩
 case round=>
  obtain⟨k,B,rfl,b⟩:=hrel;have O:=o.out.2.below b o.out.2.lt;have q0:=O.cell 0;have q1:=O.cell 1;simp only[Ad,Ac,Ag]at q0 q1;by_cases G:k<a
  ·have ab:(k:Int)<(a:Int):=by omega
   have HP:=Aa (s.out k wr G (o.out.1.trans (b.mono o.out.1.size)));have u:=Aa b;go_wp2_with(go_at_call 163;refine HP.out.mono ?_;rintro e w1⟨rfl,b⟩;have n:=Aa (u.out.trans (b.mono u.out.size)));go_roundw
   case rel=>exact⟨k+1,by omega,by go_num,n.out⟩
   case measure=>simp[intOf];omega
  ·obtain rfl:k=a:=by omega
   have v:=o.out.1.trans (b.mono o.out.1.size);obtain⟨cm,hce⟩:=D.out wr v;have H:=Aa hce;have x:=Aa v;go_wp2_with(go_at_call 164;refine H.out.mono ?_;rintro e w1⟨rfl,b⟩;have n:=Aa (x.out.trans (b.mono x.out.size)));rw[Bw];go_ret2;exact⟨rfl,n.out⟩
def ld(w:rO)(a b k:Nat)(l:List CP)(sf:List Bool):Prop:= ∃c co f d e sc,w.cell? ⟨a,b+k*2,N⟩=Z (Y (Z ⟨c,co,N⟩) l.length f)/\w.cell? ⟨a,b+k*2+1,N⟩=Z (Y (Z ⟨d,e,N⟩) sf.length sc)/\ER w c co l/\FU.Bs w (Y (Z ⟨d,e,N⟩) sf.length sc) sf
def Ha(w:rO)(a b:Nat)(p:List (List CP×List Bool)):Prop:=a<w.heap.size/\ ∀k,k<p.length->ld w a b k (p[k]?.getD ([],[])).1 (p[k]?.getD ([],[])).2
theorem Ha.below{w w':rO}{b c:Nat}{p:List (List CP×List Bool)}(h:Ha w b c p)(a:tS w.heap.size w w'):Ha w' b c p:=⟨An h.1 a.size,λk d=>by obtain⟨e,co,f,g,i,sc,j,a2,a3,a4⟩:=h.2 k d;exact⟨e,co,f,g,i,sc,(a.cell (p:=⟨b,c+k*2,N⟩) h.1).trans j,(a.cell (p:=⟨b,c+k*2+1,N⟩) h.1).trans a2,a3.below a,a4.below a⟩⟩
def Mo(p:List (List CP×List Bool)):Bool:=decide (0<p.length/\p.length<=16)&&p.all (λf=>PG f.1 f.2 p.length)
theorem M9(b c pc:Nat)(p:List (List CP×List Bool))(w:rO)(K:Laid w)(u:Ha w b c p)(h:Mo p=tZ):tT prog 40 #[uk #[Y (Z ⟨b,c,N⟩) p.length pc]] w λe y=>e=ui (uo #[I U (-1),I U (-1),I U 0])/\tS w.heap.size w y:=by
 unfold Mo at h;simp only[AR,Bo]at h;obtain⟨⟨X,L⟩,r⟩:=h;have M:Hid (∀(k:Nat)(W:rO),k<p.length->tS w.heap.size w W-> ∃i n g j m sc,W.cell? ⟨b,c+k*2,N⟩=Z (.slice i n g)/\W.cell? ⟨b,c+k*2+1,N⟩=Z (.slice j m sc)/\ ∀o,tS w.heap.size w o->tT prog 105 #[uk #[.slice i n g,.slice j m sc],I U p.length] o λe y=>e=ui (uo #[I U (-1),I U 0])/\tS o.heap.size o y):=λk W v d=>by obtain⟨cb,co,g,sb,so,sc,O,a2,a3,a4⟩:=u.2 k v;refine⟨_,_,_,_,_,_,(d.cell (p:=⟨b,c+k*2,N⟩) u.1).trans O,(d.cell (p:=⟨b,c+k*2+1,N⟩) u.1).trans a2,λo l=>kZ _ _ _ _ _ _ _ _ _ o (K.below l) (a3.below l) (a4.below l) (by omega) ?_⟩;have q:=Bq.1 r (p[k]) (BQ v);rw[Ae v];exact q
 generalize P:p.length=a at*
 have z:=u.1;have Q:((a:Int)==0)=false:=by simp;omega
 have G:decide ((16:Int)<(a:Int))=false:=by simp;omega
 have R:Cy (w.alloc (uj #[Y (Z ⟨b,c,N⟩) a pc] 26)) w.heap.size #[Y (Z ⟨b,c,N⟩) a pc] 26:=Cy.new w _ 26;have x:=Aa (Ab (Cu (tU w.heap.size w) (uj #[Y (Z ⟨b,c,N⟩) a pc] 26)) (Ab R z));go_enter func40,ntmps40;go_wp2;generalize w.alloc (uj #[Y (Z ⟨b,c,N⟩) a pc] 26)=H at*
 go_loopw [22] (λt wr=> ∃k:Nat,k<=a/\t=I U k/\tS H.heap.size H wr) (λt _=>a-(intOf t).toNat)
 case atStart=>exact⟨0,Ap _,rfl,tU _ _⟩
 case round=>
  obtain⟨k,v,rfl,d⟩:=hrel;have A:=x.out.2.1.below d x.out.2.1.lt;have S:=A.cell 0;simp only[Ad,Ac]at S;have f:=x.out.1.trans (d.mono x.out.1.size);by_cases B:k<a
  ·have T:(k:Int)<(a:Int):=by omega
   obtain⟨i,n,g,j,m,sc,p0,p1,C⟩:=M.out k wr B f;have D:=Aa (C (wr.alloc (uj #[.slice i n g,.slice j m sc] 87)) (f.alloc f.size _));have s:=Aa (d.alloc d.size (uj #[.slice i n g,.slice j m sc] 87));have V:(wr.alloc (uj #[.slice i n g,.slice j m sc] 87)).cell? ⟨w.heap.size,0,N⟩=Z (Y (Z ⟨b,c,N⟩) a pc):=by have q:=(A.below (Cu (tU wr.heap.size wr) (uj #[.slice i n g,.slice j m sc] 87)) A.lt).cell 0;simpa using q
   go_wp2_with(go_at_call 105;refine D.out.mono ?_;rintro e w1⟨rfl,d⟩;have E:=Aa (s.out.trans (d.mono s.out.size)));go_roundw
   case rel=>exact⟨k+1,by omega,by go_num,E.out⟩
   case measure=>simp[intOf];omega
  ·obtain rfl:k=a:=by omega
   have F:=Aa f;go_wp2;go_ret3
   exact⟨rfl,F.out⟩
theorem WS{op:Int}(h:0<=op/\op<24):op=0\/op=1\/op=2\/op=3\/op=4\/op=5\/op=6\/op=7\/op=8\/op=9\/op=10\/op=11\/op=12\/op=13\/op=14\/op=15\/op=16\/op=17\/op=18\/op=19\/op=20\/op=21\/op=22\/op=23:=by omega
theorem WT(w:rO):tT prog 315 #[] w λe b=>(∃a,e=ui (.slice a 24 24))/\tS w.heap.size w b:=by go_enter func315,ntmps315;go_wp2;go_ret;exact⟨⟨_,rfl⟩,Cu (tU _ _) _⟩
theorem gm(op:Int)(w:rO):tT prog 264 #[I U op] w λe b=>e=ui (ue (decide (0<=op/\op<24)))/\tS w.heap.size w b:=by
 have c:=Aa (λW=>WT W);by_cases f:0<=op
 ·have e:decide (0<=op/\op<24)=decide (op<24):=by simp[f]
  rw[e];generalize g:decide (op<24)=d;go_enter func264,ntmps264;go_wp2_with(go_at_call 315;refine(c.out _).mono ?_;rintro e j⟨⟨a,rfl⟩,h⟩;have i:=Aa h);go_ret;exact⟨by rw[<-g];rfl,i.out⟩
 ·have e:decide (0<=op/\op<24)=false:=by simp;omega
  rw[e];go_enter func264,ntmps264;go_wp2;go_ret;exact⟨rfl,tU _ _⟩
theorem WU(op:Int)(w:rO)(h:0<=op/\op<24):tT prog 265 #[I U op] w λe a=>e=ui (I U (row op).CO)/\a=w:=by
 rcases WS h with rfl|rfl|rfl|rfl|rfl|rfl|rfl|rfl|rfl|rfl|rfl|rfl|rfl|rfl|rfl|rfl|rfl|rfl|rfl|rfl|rfl|rfl|rfl|rfl
 all_goals
  go_enter func265,ntmps265;go_wp2;go_ret;exact⟨rfl,rfl⟩
theorem QV(op:Int)(w:rO)(h:0<=op/\op<24):tT prog 266 #[I U op] w λe a=>e=ui (I U (row op).target)/\a=w:=by
 rcases WS h with rfl|rfl|rfl|rfl|rfl|rfl|rfl|rfl|rfl|rfl|rfl|rfl|rfl|rfl|rfl|rfl|rfl|rfl|rfl|rfl|rfl|rfl|rfl|rfl
 all_goals
  go_enter func266,ntmps266;go_wp2;go_ret;exact⟨rfl,rfl⟩
theorem Tj(op:Int)(w:rO)(h:0<=op/\op<24):tT prog 200 #[I U op] w λe a=>e=ui (ue (row op).waits)/\a=w:=by
 rcases WS h with rfl|rfl|rfl|rfl|rfl|rfl|rfl|rfl|rfl|rfl|rfl|rfl|rfl|rfl|rfl|rfl|rfl|rfl|rfl|rfl|rfl|rfl|rfl|rfl
 all_goals
  go_enter func200,ntmps200;go_wp2;go_ret;exact⟨rfl,rfl⟩
theorem WV(op:Int)(w:rO)(h:0<=op/\op<24):tT prog 202 #[I U op] w λe a=>e=ui (ue (row op).ends)/\a=w:=by
 rcases WS h with rfl|rfl|rfl|rfl|rfl|rfl|rfl|rfl|rfl|rfl|rfl|rfl|rfl|rfl|rfl|rfl|rfl|rfl|rfl|rfl|rfl|rfl|rfl|rfl
 all_goals
  go_enter func202,ntmps202;go_wp2;go_ret;exact⟨rfl,rfl⟩
theorem WW(c sv:tR)(l:List Bool)(pc:Int)(w:rO)(d:FU.Bs w sv l):tT prog 201 #[uk #[c,sv],I U pc] w λe f=>e=ui (ue (FU.Ip l pc))/\tS w.heap.size w f:=by
 obtain⟨b,off,cap,rfl,i,a⟩:=d;unfold FU.Ip;by_cases h:0<=pc
 ·rw[Ai h]
  obtain⟨k,rfl⟩: ∃k:Nat,pc=k:=⟨pc.toNat,by omega⟩;rw[Am];by_cases g:k<l.length
  ·have j:=a k g
   generalize l[k]?.getD tY=x at*
   clear a;go_enter func201,ntmps201;go_wp2;go_ret;exact⟨rfl,Cu (tU _ _) _⟩
  ·rw[A0 (by omega)]
   clear a;go_enter func201,ntmps201;go_wp2;go_ret;exact⟨rfl,Cu (tU _ _) _⟩
 ·rw[Ah h]
  clear a;go_enter func201,ntmps201;go_wp2;go_ret;exact⟨rfl,Cu (tU _ _) _⟩
section
variable {a b c rr r k n:Int}
theorem QW: ∀op:Int,(!(row op).name.isEmpty)=decide (0<=op/\op<24):=λop=>by
 by_cases h:0<=op/\op<24
 ·rw[A8 h]
  rcases WS h with rfl|rfl|rfl|rfl|rfl|rfl|rfl|rfl|rfl|rfl|rfl|rfl|rfl|rfl|rfl|rfl|rfl|rfl|rfl|rfl|rfl|rfl|rfl|rfl<;>rfl
 ·rw[Bi h]
  unfold row;by_cases a:0<=op
  ·rw[Ai a,A0 (by show 24<=_;omega)];rfl
  ·rw[Ah a];rfl
theorem gn{op:Int}(h:0<=op/\op<24):((row op).CO=0\/(row op).CO=1\/(row op).CO=3)/\((row op).target=0\/(row op).target=1\/(row op).target=2)/\((row op).target=0->(row op).number=decide (op=1)):=by rcases WS h with rfl|rfl|rfl|rfl|rfl|rfl|rfl|rfl|rfl|rfl|rfl|rfl|rfl|rfl|rfl|rfl|rfl|rfl|rfl|rfl|rfl|rfl|rfl|rfl<;>decide
def Jv(a b c:Int)(k:Nat):Int:=if k=0 then a else if k=1 then b else c
theorem UQ{k:Nat}(d:k<3)(h:Eh (Jv a b c k) k rr=tY):(Eh a 0 rr&&(Eh b 1 rr&&Eh c 2 rr))=false:=by
 have:k=0\/k=1\/k=2:=by omega
 rcases this with rfl|rfl|rfl
 ·rw[show Eh a 0 rr=tY from h];rfl
 ·rw[show Eh b 1 rr=tY from h];simp
 ·rw[show Eh c 2 rr=tY from h];simp
theorem ZU(h: ∀k:Nat,k<3->Eh (Jv a b c k) k rr=tZ):(Eh a 0 rr&&(Eh b 1 rr&&Eh c 2 rr))=true:=by rw[show Eh a 0 rr=tZ from h 0 (by decide),show Eh b 1 rr=tZ from h 1 (by decide),show Eh c 2 rr=tZ from h 2 (by decide)];rfl
theorem gq(a:k<n)(h:0<=r/\r<8):Eh r k n=true:=by unfold Eh;rw[Ai a];simpa using h
theorem ZV(a:k<n)(h: ¬(0<=r/\r<8)):Eh r k n=false:=by unfold Eh;rw[Ai a];simpa using h
theorem Tk(op a b c n places funcs:Int)(w:rO)(hp:places<=9223372036854775807)(hf:funcs<=9223372036854775807)(hn:0<=n->n<=9223372036854775807):tT prog 199 #[uk #[I U op,I U a,I U b,I U c,I U n],I U places,I U funcs] w λe w'=>(∃f,e=ui (I U f)/\(f=0↔Gf op a b c n places funcs=tZ))/\tS w.heap.size w w':=by
 have Q:=Aa (λW=>gm op W);obtain⟨ok,d⟩: ∃ok,Gf op a b c n places funcs=ok:=⟨_,rfl⟩;rw[d];unfold Gf at d;rw[QW]at d;by_cases E:0<=op/\op<24
 ·rw[A8 E]at Q d
  have HR:=Aa (λW=>WU op W E);have B:=Aa (λW=>QV op W E);obtain⟨r1,r2,r3⟩:=gn E;generalize(row op).CO=rr at*
  generalize(row op).target=rt at*
  generalize(row op).number=rn at*
  have h0:tS w.heap.size w (w.alloc (uj #[I U op,I U a,I U b,I U c,I U n] 84)):=Cu (tU _ _) _;have b0:Cy (w.alloc (uj #[I U op,I U a,I U b,I U c,I U n] 84)) w.heap.size #[I U op,I U a,I U b,I U c,I U n] 84:=Cy.new w _ 84;have F:=Aa (Ab h0 b0);have r:=Aa d;have s:=Aa r3;clear h0 b0 E d r3;go_enter func199,ntmps199;go_wp2_with(first|(go_at_call 264;refine(Q.out _).mono ?_;rintro e z⟨rfl,L⟩;have G:=F.out.2.below L F.out.2.lt;have R:=G.cell 0;have q1:=G.cell 1;have q2:=G.cell 2;have q3:=G.cell 3;have S:=G.cell 4;simp only[Ad,Ac,Ag]at R q1 q2 q3 S;have hL:=G.lt;have T:=Aa (F.out.1.trans (L.mono F.out.1.size));clear L G)|(go_at_call 265;refine(HR.out _).mono ?_;rintro e w2⟨rfl,rfl⟩));have p:=Cy.new z #[I U a,I U b,I U c] 3;have V:Hid (∀k,k<3->(z.alloc (uj #[I U a,I U b,I U c] 3)).cell? ⟨z.heap.size,k,N⟩=Z (I U (Jv a b c k))):=λk X=>by
   rw[p.cell];have:k=0\/k=1\/k=2:=by omega
   rcases this with rfl|rfl|rfl<;>rfl
  have h:=Aa (T.out.alloc T.out.size (uj #[I U a,I U b,I U c] 3));have ag:(z.alloc (uj #[I U a,I U b,I U c] 3)).cell? ⟨w.heap.size,0,N⟩=Z (I U op):=(AK (Zab z _ _ hL)).trans R;have ah:(z.alloc (uj #[I U a,I U b,I U c] 3)).cell? ⟨w.heap.size,4,N⟩=Z (I U n):=(AK (Zab z _ _ hL)).trans S;clear p R q1 q2 q3 S T F;generalize z.alloc (uj #[I U a,I U b,I U c] 3)=W at*
  generalize z.heap.size=L7 at*
  generalize O:w.heap.size=L3 at*
  have i:=Aa O;clear O;go_loop [9] (λt9=> ∃k:Nat,k<=3/\(k:Int)<=rr/\t9=I U k/\ ∀j:Nat,j<k->Eh (Jv a b c j) j rr=tZ) (λt=>3-(intOf t).toNat)
  case atStart=>exact⟨0,by omega,by omega,rfl,λj hj=>by omega⟩
  case round=>
   obtain⟨k,aa,ab,rfl,o⟩:=hrel;by_cases H:(k:Int)<rr
   ·have X:k<3:=by omega
    have M:=V.out k X;have ai:(k:Int)<3:=by omega
    have q:=Aa o;by_cases u:0<=Jv a b c k/\Jv a b c k<8
    ·have HV:=Aa (gq H u)
     obtain⟨v1,v2⟩:=u;clear o;generalize Jv a b c k=v at M v1 v2;go_wp2;go_round
     case rel=>exact⟨k+1,by omega,by omega,by go_num,λj hj=>by
      by_cases e:j=k
      ·subst e;exact HV.out
      ·exact q.out j (by omega)⟩
     case measure=>simp[intOf];omega
    ·have K:=Aa (UQ X (ZV H u))
     have x:ok=false:=by rw[<-r.out,K.out];simp
     subst x;clear o r;by_cases v1:Jv a b c k<0
     ·generalize Jv a b c k=v at M v1 u
      go_wp2;go_ret;exact⟨⟨2,rfl,by simp⟩,by rw[i.out];exact h.out⟩
     ·have v2:8<=Jv a b c k:=by omega
      generalize Jv a b c k=v at M v1 v2 u;go_wp2;go_ret;exact⟨⟨2,rfl,by simp⟩,by rw[i.out];exact h.out⟩
   ·obtain rfl:(k:Int)=rr:=by omega
    have q:=Aa o;clear o H ab;go_wp2;go_loop [10] (λt10=> ∃m:Nat,k<=m/\m<=3/\t10=I U m/\ ∀j:Nat,k<=j->j<m->Eh (Jv a b c j) j k=tZ) (λt=>3-(intOf t).toNat)
    case atStart=>exact⟨k,Al _,aa,rfl,λj A C=>by omega⟩
    case round=>
     obtain⟨m,ad,ae,rfl,l⟩:=hrel;by_cases hm:m<3
     ·have M:=V.out m hm
      have aj:(m:Int)<3:=by omega
      have P:=Aa l;clear l;by_cases u:Jv a b c m=0
      ·have HV:Hid (Eh (Jv a b c m) m k=tZ):=by show _=_;unfold Eh;rw[Ah (by omega)];simpa using u
       rw[u]at M;clear u;go_wp2;go_round
       case rel=>exact⟨m+1,by omega,by omega,by go_num,λj A C=>by
        by_cases e:j=m
        ·subst e;exact HV.out
        ·exact P.out j A (by omega)⟩
       case measure=>simp[intOf];omega
      ·have K:=Aa (UQ (rr:=k) (a:=a) (b:=b) (c:=c) hm (by unfold Eh;rw[Ah (by omega)];simpa using u))
       have x:ok=false:=by rw[<-r.out,K.out];simp
       subst x;have af:(Jv a b c m !=0)=true:=by simpa using u
       clear u r;generalize Jv a b c m=v at M af;go_wp2;go_ret;exact⟨⟨9,rfl,by simp⟩,by rw[i.out];exact h.out⟩
     ·obtain rfl:m=3:=by omega
      have y:(Eh a 0 k&&(Eh b 1 k&&Eh c 2 k))=true:=ZU λj hj=>by
       by_cases e:j<k
       ·exact q.out j e
       ·exact l j (by omega) hj
      have d:=r.out;rw[y]at d;simp only[Bool.and_true,Zbh]at d;have g:=Aa d;clear l y d r V hm ad ae q;rcases r2 with rfl|rfl|rfl
      ·have d:=g.out
       rw[Ai rfl,s.out rfl]at d;by_cases A:op=1
       ·subst A
        obtain rfl:ok=true:=by rw[<-d];simp
        clear d g s;go_wp2_with(go_at_call 266;refine(B.out _).mono ?_;rintro e D⟨rfl,rfl⟩);go_ret;exact⟨rfl,by rw[i.out];exact h.out⟩
       ·have d1:(op !=1)=true:=by simpa using A
        by_cases C:n=0
        ·subst C
         obtain rfl:ok=true:=by rw[<-d];simp
         clear d g s A;go_wp2_with(go_at_call 266;refine(B.out _).mono ?_;rintro e D⟨rfl,rfl⟩);go_ret;exact⟨rfl,by rw[i.out];exact h.out⟩
        ·have d2:(n !=0)=true:=by simpa using C
         obtain rfl:ok=false:=by rw[<-d];simp[A,C]
         clear d g s A C;go_wp2_with(go_at_call 266;refine(B.out _).mono ?_;rintro e D⟨rfl,rfl⟩);go_ret;exact⟨⟨9,rfl,by simp⟩,by rw[i.out];exact h.out⟩
      ·have d:=g.out
       rw[Ah (by decide),Ah (by decide)]at d;clear g s;by_cases A:n<0
       ·obtain rfl:ok=false:=by rw[<-d];simp;omega
        clear d;go_wp2_with(go_at_call 266;refine(B.out _).mono ?_;rintro e D⟨rfl,rfl⟩);go_ret;exact⟨⟨2,rfl,by simp⟩,by rw[i.out];exact h.out⟩
       ·by_cases C:places<=n
        ·obtain rfl:ok=false:=by rw[<-d];simp;omega
         clear d;go_wp2_with(go_at_call 266;refine(B.out _).mono ?_;rintro e D⟨rfl,rfl⟩);go_ret;exact⟨⟨2,rfl,by simp⟩,by rw[i.out];exact h.out⟩
        ·obtain rfl:ok=true:=by rw[<-d];simp;omega
         clear d;go_wp2_with(go_at_call 266;refine(B.out _).mono ?_;rintro e D⟨rfl,rfl⟩);go_ret;exact⟨rfl,by rw[i.out];exact h.out⟩
      ·have d:=g.out
       rw[Ah (by decide),Ai rfl]at d;clear g s;by_cases A:n<0
       ·obtain rfl:ok=false:=by rw[<-d];simp;omega
        clear d;go_wp2_with(go_at_call 266;refine(B.out _).mono ?_;rintro e D⟨rfl,rfl⟩);go_ret;exact⟨⟨2,rfl,by simp⟩,by rw[i.out];exact h.out⟩
       ·by_cases C:funcs<=n
        ·obtain rfl:ok=false:=by rw[<-d];simp;omega
         clear d;go_wp2_with(go_at_call 266;refine(B.out _).mono ?_;rintro e D⟨rfl,rfl⟩);go_ret;exact⟨⟨2,rfl,by simp⟩,by rw[i.out];exact h.out⟩
        ·obtain rfl:ok=true:=by rw[<-d];simp;omega
         clear d;go_wp2_with(go_at_call 266;refine(B.out _).mono ?_;rintro e D⟨rfl,rfl⟩);go_ret;exact⟨rfl,by rw[i.out];exact h.out⟩
 ·rw[Bi E]at Q d
  have d:ok=false:=by rw[<-d];rfl
  subst d;clear E;go_enter func199,ntmps199;go_wp2_with(go_at_call 264;refine(Q.out _).mono ?_;rintro e z⟨rfl,L⟩;have F:=Aa ((Cu (tU w.heap.size w) (uj #[I U op,I U a,I U b,I U c,I U n] 84)).trans (L.mono (by simp)));clear L);go_ret;exact⟨⟨1,rfl,by simp⟩,F.out⟩
end
theorem Tl(b c co a d k:Nat)(v1:tR)(op:Int)(w:rO)(f:Cy w b #[Y (Z ⟨c,co,N⟩) a d,v1] 87)(o:w.cell? ⟨c,co+k*5,N⟩=Z (I U op))(p:k<a)(g:Laid w):tT prog 103 #[I U k,J (Z ⟨b,0,N⟩)] w λe h=>e=ui (ue (row op).waits)/\tS w.heap.size w h:=by
 have i:=f.cell 0;simp only[Ad,Ac]at i;have j:(k:Int)<(a:Int):=by omega
 have l:=Aa (D3.KQ op w g);go_enter func103,ntmps103;go_wp2_with(go_at_call 104;refine l.out.mono ?_;rintro e q⟨rfl,m⟩;have n:=Aa m);go_ret;exact⟨rfl,n.out⟩
end D8
end Go.Proofs.YtgadhchejmlfjaaGreatDoor
