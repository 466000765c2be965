/- A part of the proof. -/
import Derived.Test.YtgadhchejmlfjaaGreatDoorB4
set_option linter.unusedVariables false
set_option maxRecDepth 20000
set_option maxHeartbeats 16000000
open Go.Value renaming int->I,pointer->J,slice->Y
open Go.IntKind renaming i64->U
open Option renaming none->N,some->Z
open Go renaming Calls->tT,Value->tR,World->rO
open Go.Ending renaming returned->ui
open Go.Obj renaming cells->uj
open Go.RowKit renaming Below->tS
open Go.RowKit.Below renaming refl->tU
open Go.Value renaming agg->uk,bool->ue,string->um,tuple->uo
open List renaming replicate->tW
open Go.Proofs.Tryz Go.RowKit Go.CN
namespace Go.Proofs.YtgadhchejmlfjaaGreatDoor
namespace D1
theorem IU(a b c:Int)(w:rO)(q:1<=a/\a<=256)(k:1<=b/\b<=64)(l:1<=c/\c<=64)(hm:Mx w):tT prog 209 #[um ⟨(Ds (a,b,c)).toArray⟩] w λe r=>e=ui (uo #[uk #[I U a,I U b,I U c],ue true])/\tS w.heap.size w r:=by
 have f:Cy (w.alloc (uj #[I U 0,I U 0,I U 0] 34)) w.heap.size #[I U 0,I U 0,I U 0] 34:=Cy.new w _ 34;have s:=Aa (N9 a b c w.heap.size _ _ _ 34 _ ⟨⟨by simp only;omega,by simp only;omega⟩,⟨by simp only;omega,by simp only;omega⟩,⟨by simp only;omega,by simp only;omega⟩⟩ (hm.below (Cu (tU _ _) _)) f);have m:=Aa (Ab q (Ab k l));have t:=Aa (Cu (tU w.heap.size w) (uj #[I U 0,I U 0,I U 0] 34));go_enter func209,ntmps209;go_wp2_with(first|(go_at_call 273;refine s.out.mono ?_;rintro e E⟨rfl,h,u⟩;have n:=Aa (Ab h u);have x:=h.cell 0;have y:=h.cell 1;have z:=h.cell 2;simp only[Ad,Ac,Ag]at x y z)|(go_at_call 41;refine(D8.IU a b c _ m.out.1 m.out.2.1 m.out.2.2).mono ?_;rintro e o⟨rfl,i⟩;have d:=n.out.1.below i n.out.1.lt;have g:=Aa (Ab d i);have A:=d.cell 0;have B:=d.cell 1;have C:=d.cell 2;have f3:=d.free 0;have f4:=d.free 1;have f5:=d.free 2;simp only[Ad,Ac,Ag]at A B C));have f:=((g.out.1.set 0 (I U a)).set 1 (I U b)).set 2 (I U c);have i:tS w.heap.size w (((o.setCell ⟨w.heap.size,0,N⟩ (I U a)).setCell ⟨w.heap.size,1,N⟩ (I U b)).setCell ⟨w.heap.size,2,N⟩ (I U c)):=by have k:=n.out.2.below g.out.2;have l:tS w.heap.size (w.alloc (uj #[I U 0,I U 0,I U 0] 34)) o:=k.toBelow (by simp) (λj D=>by rw[show j=w.heap.size from D];exact Al _);exact(((t.out.trans l).setCell (Al _) _).setCell (Al _) _).setCell (Al _) _
 generalize(((o.setCell ⟨w.heap.size,0,N⟩ (I U a)).setCell ⟨w.heap.size,1,N⟩ (I U b)).setCell ⟨w.heap.size,2,N⟩ (I U c))=W at*
 have c0:=f.cell 0;have c1:=f.cell 1;have p:=f.cell 2;simp only[BK,Bv,Ck,Ad,Ac,Ag]at c0 c1 p;exact AM (v:=uo #[uk #[I U a,I U b,I U c],ue true]) (by simp[results,results209,go_sem,c0,c1,p]) rfl ⟨rfl,i⟩
open jl (es O8 Td ZC ZD)
theorem iM(x:Int×Int×Int)(l:List (Int×Int×Int))(w:rO)(a: ∀y∈x::l,Lx y) (f:(x::l).length<=65536) (hm:Mx w):tT prog 271 #[um ⟨(C0 (x::l)).toArray⟩,um ⟨#[10]⟩] w λe b=>e=ui (uo #[um ⟨(Ds x).toArray⟩,um ⟨(C0 l).toArray⟩,ue true])/\tS w.heap.size w b:=by obtain⟨m,hm⟩:=hm;have c:=NR (x::l) a;refine(Fq.cut ⟨(C0 (x::l)).toArray⟩ ⟨#[10]⟩ m w (by show(C0 (x::l)).toArray.size<_;simp only[Bk];omega) hm).mono ?_;rintro e b⟨rfl,n,rfl⟩;have d:=Vw x l (a x (by simp));rw[show(⟨(C0 (x::l)).toArray⟩:ByteArray).data.toList=C0 (x::l) by simp,show(⟨#[10]⟩:ByteArray).data.toList=[10]from rfl,d];exact⟨rfl,Ce (tU _ _) n⟩
def tI(w:rO)(l:List (Int×Int×Int))(k:Nat)(v0 v2 v3:tR)(wr:rO):Prop:=k<=l.length/\v0=um ⟨(C0 (l.drop k)).toArray⟩/\v3=I U ((k:Int)+1)/\wr.ownsRow w.heap.size 36 3 v2 k (es (l.take k))/\tS w.heap.size w wr
theorem DD{w:rO}{base:Nat}{e:TypeId}{size:Nat}{v:tR}{n:Nat}{xs:List tR}(h:w.ownsRow base e size v n xs): ∃a c,v= .slice a n c:=by
 rcases C6 h with⟨rfl,b⟩|⟨g,cap,rfl,_⟩
 ·exact⟨N,0,by rw[b]⟩
 ·exact⟨_,cap,rfl⟩
theorem cU(a b c:Int)(w:rO)(f:Lx (a,b,c))(hm:Mx w):tT prog 273 #[um ⟨(Ds (a,b,c)).toArray⟩,uk #[J (Z ⟨w.heap.size,0,N⟩),J (Z ⟨w.heap.size,1,N⟩),J (Z ⟨w.heap.size,2,N⟩)]] (w.alloc (uj #[I U 0,I U 0,I U 0] 36)) λr d=>r=ui (ue true)/\Cy d w.heap.size #[I U a,I U b,I U c] 36/\tS w.heap.size w d:=by refine(N9 a b c w.heap.size _ _ _ 36 _ f (hm.below (Cu (tU _ _) _)) (Cy.new w _ 36)).mono ?_;rintro e d⟨rfl,g,h⟩;exact⟨rfl,g,(Cu (tU _ _) _).trans (h.toBelow (by simp) (λj i=>by rw[show j=w.heap.size from i];exact Al _))⟩
theorem XT(l:List (Int×Int×Int))(w:rO)(F: ∀x∈l,Lx x) (o:l.length<=65536) (hm:Mx w):tT prog 210 #[um ⟨(C0 l).toArray⟩] w λe G=> ∃v,e=ui (uo #[v,I U 0,I U 0])/\G.ownsRow w.heap.size 36 3 v l.length (es l)/\tS w.heap.size w G:=by
 have d:=Aa (Ab F (Ab o hm));clear F o hm;go_enter func210,ntmps210;go_wp2;go_step3;go_wp2;go_step3;go_wp2;go_loopw [0,2,3] (λv0 v2 v3 wr=> ∃k,tI w l k v0 v2 v3 wr) (λ_ _ t _=>l.length+1-(intOf t).toNat)
 case atStart=>exact⟨0,Ap _,rfl,rfl,AH w w.heap.size 36 3,tU _ _⟩
 case round=>
  obtain⟨k,P,rfl,rfl,n,p⟩:=hrel;obtain⟨a2,p2,rfl⟩:=DD n;by_cases f:k<l.length
  ·obtain⟨x,A⟩: ∃x,l[k]=x:=⟨_,rfl⟩
   have hdr:l.drop k=x::l.drop (k+1):=by rw[AQ f,A]
   have g:l[k]?=Z x:=by rw[Ae f,A]
   have H:=iM x (l.drop (k+1)) wr (λy hy=>d.out.1 y (Zb0 (by rw[hdr];exact hy))) (by rw[<-hdr];have:=d.out.2.1;simp;omega) (d.out.2.2.below p);have q:Lx x:=d.out.1 x (AP g);rw[hdr];have B:(C0 (x::l.drop (k+1))).isEmpty=false:=by
    cases Q:C0 (x::l.drop (k+1))with
    |nil=>exact absurd Q (Yl _ _)
    |cons _ _=>rfl
   obtain⟨a,b,c⟩:=x;have K:=Aa (Ab g (Ab q hdr));have R:=Aa H;have C:=Aa n;have u:=Aa p;have S:((k:Int)==65536)=false:=by have:=d.out.2.1;simp;omega
   clear H n p A g q hdr;go_wp2_with(first|(go_at_call 271;refine R.out.mono ?_;rintro e T⟨rfl,h⟩;have i:=Aa (u.out.trans (h.mono u.out.size));have D:=Aa (CM C.out h);have E:=Aa (d.out.2.2.below i.out);clear h)|(go_at_call 273;refine(cU a b c T K.out.2.1 E.out).mono ?_;rintro e L⟨rfl,z,m⟩;have r:=Aa (i.out.trans (m.mono i.out.size));have s:=Aa (CM D.out m);have V:=z.cell 0;have W:=z.cell 1;have X:=z.cell 2;simp only[Ad,Ac,Ag]at V W X;clear z m)|(at_builtin;refine Iu underlying52 Td rfl (by decide) (by decide) w.heap.size _ rfl _ _ rfl _ k (es (l.take k)) ⟨L.heap.size,0,N⟩ 1 [I U a,I U b,I U c] rfl rfl (.inl (CM s.out (Cu (tU _ _) _))) rfl (ZC L _ _ _ 36) (ZD _ _ _) (by have:=r.out.size;simp;omega) (by have:=d.out.2.1;omega) ?_;intro v' w3 M;have O:=Aa M;clear M));have hw:wrap64 ((k:Int)+1+1)=((k+1:Nat):Int)+1:=by have:=d.out.2.1;unfold wrap64;omega
   rw[hw];refine⟨⟨k+1,by omega,rfl,rfl,?_,?_⟩,by simp only[intOf];omega⟩
   ·rw[Bu,K.out.1,Za1,O8];exact O.out.1
   ·exact CK (Cu r.out _) O.out.2.1 (λj hj=>(AB s.out j hj).1)
  ·obtain rfl:k=l.length:=by omega
   have B:(C0 (l.drop l.length)).isEmpty=true:=by rw[Cl];rfl
   rw[Cd]at n;have C:=Aa n;have u:=Aa p;clear n p f P;go_wp2;rw[Bw];go_ret3
   exact⟨_,rfl,C.out,u.out⟩
end D1
namespace RJ
open D1
def GI(u:List UInt8)(x:Int):List UInt8:=u++32::Lib.itoa x
theorem jL(u v:List UInt8):Lib.join [u,v] [32]=u++32::v:=by simp[Lib.join,List.intercalate]
theorem pD(w:rO)(v:tR)(t:TypeId): ∀(j:Nat)(u:tR),[v][j]?=Z u->(w.alloc (uj #[v] t)).cell? ((⟨w.heap.size,0,N⟩:Addr).add j)=Z u:=by have h:=Cy.new w #[v] t;intro j u hu;rw[show((⟨w.heap.size,0,N⟩:Addr).add j)=⟨w.heap.size,j,N⟩from by rw[AE,AJ],h.cell];simpa using hu
theorem Lp(u:List UInt8)(x:Int)(g cap:Nat)(w:rO)(A:I9 x)(hu:u.length<=100)(B:w.cell? ⟨g,0,N⟩=Z (I U x))(C:g<w.heap.size)(D:Fq.Pow w):tT prog 81 #[um ⟨u.toArray⟩,Y (Z ⟨g,0,N⟩) 1 cap] w λe E=>e=ui (um ⟨(GI u x).toArray⟩)/\tS w.heap.size w E:=by
 have H:=Aa (Ab A (Ab hu (Ab C (Ab D B))));have a:(w.alloc (uj #[um ⟨u.toArray⟩] 9)).ownsRow w.heap.size 9 1 (Y (Z ⟨w.heap.size,0,N⟩) 1 1) 1 [um ⟨u.toArray⟩]:=Md (n:=1) (size:=1) (Cy.new w #[um ⟨u.toArray⟩] 9) (Al _) rfl (by decide);have h:=Aa (Ab a (Cu (tU w.heap.size w) (uj #[um ⟨u.toArray⟩] 9)));go_enter func81,ntmps81;go_wp2;go_loopw [5,12] (λt5 t12 wr=>(t12=I U 0/\t5=Y (Z ⟨w.heap.size,0,N⟩) 1 1/\wr=w.alloc (uj #[um ⟨u.toArray⟩] 9))\/(t12=I U 1/\ ∃g2 k,t5=Y (Z ⟨g2,0,N⟩) 2 k/\wr.ownsRow w.heap.size 9 1 t5 2 [um ⟨u.toArray⟩,um ⟨(Lib.itoa x).toArray⟩]/\tS w.heap.size w wr)) (λ_ t _=>1-(intOf t).toNat)
 case atStart=>exact .inl ⟨rfl,rfl,rfl⟩
 case round=>
  rcases hrel with⟨rfl,rfl,rfl⟩|⟨rfl,g2,k,rfl,a,l⟩
  ·have F:=(h.out.2.cell (p:=⟨g,0,N⟩) H.out.2.2.1).trans H.out.2.2.2.2
   go_wp2_with(first|(go_at_call 134;refine(Fq.itoa x (by have:=H.out.1;simp[I9]at this;omega) (by have:=H.out.1;simp[I9]at this;omega) _ (Pow.below H.out.2.2.2.1 h.out.2)).mono ?_;rintro e s⟨rfl,l⟩;have c:=Aa l)|(at_builtin;refine Iu underlying170 (show(prog.info? 9).map (λi=>(i.zero,i.size,i.bytes))=Z (Z (um ⟨#[]⟩),1,16) by kernel_rfl) rfl (by decide) (by decide) w.heap.size _ rfl _ _ rfl (Y (Z ⟨w.heap.size,0,N⟩) 1 1) 1 [um ⟨u.toArray⟩] ⟨s.heap.size,0,N⟩ 1 [um ⟨(Lib.itoa x).toArray⟩] rfl rfl (.inl (CM (CM h.out.1 c.out) (Cu (tU _ _) _))) rfl (pD _ _ _) (by simp[Value.oneCell']) (by have:=c.out.size;simp at this⊢;omega) (by decide) ?_;intro R S v;obtain⟨g5,m,rfl⟩:=v.some;have z:=Aa v));have G:tS w.heap.size w (s.alloc (uj #[um ⟨(Lib.itoa x).toArray⟩] 9)):=Cv (Cv h.out.2 c.out) (Cu (tU _ _) _);exact⟨.inr ⟨rfl,g5,m,rfl,z.out.1,CK G z.out.2.1 (λj d=>by cases d;exact Al _)⟩,by decide⟩
  ·have r1:=(CY _ H.out.1).2.2
   have b: ∀(j:Nat)(y:ByteArray),[(⟨u.toArray⟩:ByteArray),⟨(Lib.itoa x).toArray⟩][j]?=Z y->wr.cell? ⟨g2,0+j,N⟩=Z (um y):=λj y d=>by
    rcases C6 a with⟨e,_⟩|⟨K,L,e,_,_,_,q⟩
    ·cases e
    ·cases e
     rw[AJ];match j,d with
     |0,d=>cases d;exact q 0 (by decide)
     |1,d=>cases d;exact q 1 (by decide)
   have f:g2<wr.heap.size/\2<=k:=by
    rcases C6 a with⟨e,_⟩|⟨K,L,e,_,M,O,_⟩
    ·cases e
    ·cases e;exact⟨M,O⟩
   have P:=Aa (Fq.join g2 0 k [⟨u.toArray⟩,⟨(Lib.itoa x).toArray⟩] ⟨#[32]⟩ wr b f.1 (by simp) f.2 (by have:=H.out.2.1;rw[show Lib.join (List.map (λx=>x.data.toList) [(⟨u.toArray⟩:ByteArray),⟨(Lib.itoa x).toArray⟩]) (⟨#[32]⟩:ByteArray).data.toList=GI u x from jL u _];unfold GI;simp only[Au,Av];omega));have Q:=Aa l;go_wp2_with(go_at_call 80;refine P.out.mono ?_;rintro e T⟨rfl,o⟩;have r:=Aa o);go_ret;refine⟨?_,Cv Q.out r.out⟩;show Ending.returned (um ⟨(Lib.join [u,Lib.itoa x] [32]).toArray⟩)=_;rw[jL];rfl
theorem XU(a b c:Nat)(w:rO)(s:1<=a/\a<=256)(t:1<=b/\b<=64)(u:1<=c/\c<=64)(m:Fq.Pow w):tT prog 19 #[uk #[I U a,I U b,I U c]] w λe n=>e=ui (um ⟨(Ds ((a:Int),(b:Int),(c:Int))).toArray⟩)/\tS w.heap.size w n:=by
 have d:=Cy.new w #[I U a,I U b,I U c] 34;have o:=Cu (tU w.heap.size w) (uj #[I U a,I U b,I U c] 34);have p:=Aa (λW=>D8.IU a b c W (by omega) (by omega) (by omega));have q:=Aa (λW(h:tS w.heap.size w W)=>QJ (a:Int) b c W ⟨⟨by simp only;omega,by simp only;omega⟩,⟨by simp only;omega,by simp only;omega⟩,⟨by simp only;omega,by simp only;omega⟩⟩ (Pow.below m h));have j:=Aa (Ab d o);have c0:=d.cell 0;have c1:=d.cell 1;have r:=d.cell 2;simp only[Ad,Ac,Ag]at c0 c1 r;go_enter func19,ntmps19;go_wp2_with(first|(go_at_call 41;refine(p.out _).mono ?_;rintro e v⟨rfl,g⟩;have f:=j.out.1.below g j.out.1.lt;have d0:=f.cell 0;have d1:=f.cell 1;have d2:=f.cell 2;simp only[Ad,Ac,Ag]at d0 d1 d2;have i:=Aa (Cv j.out.2 g))|(go_at_call 73;refine(q.out _ i.out).mono ?_;rintro e x⟨rfl,k⟩;have l:=Aa (Cv i.out k)))
 all_goals go_ret
 all_goals exact⟨rfl,l.out⟩
end RJ
namespace QO
open D3 (Laid)
open Vm (CP)
open D8
variable {w w':rO}
theorem be(w:rO)(l:List tR)(t:TypeId): ∀(j:Nat)(u:tR),l[j]?=Z u->(w.alloc (uj l.toArray t)).cell? ((⟨w.heap.size,0,N⟩:Addr).add j)=Z u:=by have h:=Cy.new w l.toArray t;intro j u hu;rw[show((⟨w.heap.size,0,N⟩:Addr).add j)=⟨w.heap.size,j,N⟩from by rw[AE,AJ]];rw[h.cell j,<-hu];simp
def gl:Nat->List (Int×Int)
 |0=>[(1,1)]
 |_=>[(1,1),(17,0),(15,0),(18,0)]
structure p8 (w:rO) (k:Nat) (t:tR) (wr:rO):Prop where
 below:tS w.heap.size w wr
 out:Cy wr w.heap.size #[Y N 0 0] 26
 row:wr.ownsRow w.heap.size 84 5 t (1+3*k) ((gl k).flatMap La)
theorem p8.app{wr:rO}{v v':tR}{n m:Nat}{xs ys:List tR}(c:Cy wr w.heap.size #[Y N 0 0] 26)(d:tS w.heap.size w wr)(b:wr.ownsRow w.heap.size 84 5 v n xs)(a:jt wr w.heap.size 84 5 v n xs m ys v' w'):tS w.heap.size w w'/\Cy w' w.heap.size #[Y N 0 0] 26/\w'.ownsRow w.heap.size 84 5 v' (n+m) (xs++ys):=⟨CK d a.2 (λj e=>(AB b j e).1),(KT.grown (T:=[84]) b a.2 (by decide)).keep c (by decide),a.1⟩
def cV:List (Int×Int):=[(1,1),(17,0),(15,0),(18,0),(14,0)]
def T2:List (List CP×List Bool):=[(cV.map Ns,tW 5 false)]
theorem mB{mk lb lc:Nat}{l:List (Int×Int)}{cur:Array tR}{e:Ending}(d:Cy w mk #[J N,Y N 0 0] 96)(f:Cy w lb cur 84)(g:cur.toList.take (l.length*5)=l.flatMap La)(h:NF mk 0 l.length w.heap.size (Y N 0 0) (Y (Z ⟨lb,0,N⟩) l.length lc) [] w e w'): ∃b c,e=ui (uo #[])/\Cy w' mk #[J N,Y (Z ⟨b,0,N⟩) 1 c] 96/\Ha w' b 0 [(l.map Ns,tW l.length false)]/\KT [96,87] w w'/\Cw (λj=>j=mk) w w':=by
 obtain⟨u,y,rfl,m,n,o,q,r,v,x,rfl,z⟩:=l8 d (AH w w.heap.size 87 2) f g h;have k:=Ou (p:=[(l.map Ns,tW l.length false)]) n Nat.one_pos (λi s=>by
  obtain rfl:i=0:=by simp at s;omega
  exact o)
 obtain⟨b,c,rfl,_,t⟩:=k;exact⟨b,c,rfl,m,t,q,r.mono (λj _ a=>by rcases a with a|a;exact a;cases a)⟩
theorem cW(n b pc:Nat)(p:List (List CP×List Bool))(w:rO)(j:p.length=n)(h:0<n)(k:Laid w)(l:Ha w b 0 p)(hlen: ∀f∈p,f.2.length=f.1.length/\0<f.1.length/\f.1.length<=1000) (hm:n<=100):tT prog 39 #[uk #[Y (Z ⟨b,0,N⟩) n pc]] w λe w'=> ∃a c,e=ui (uk #[Y (Z ⟨a,0,N⟩) n c])/\tS w.heap.size w w'/\ ∀W,KT [26] w' W->Ha W a 0 (p.map JK):=by subst j;refine(bK b 0 pc p w k l hlen hm).mono ?_;rintro e w'⟨v,xs,rfl,d⟩;obtain⟨a,c,rfl,_,_⟩:=d.pa h (KT.refl _ _);refine⟨a,c,rfl,d.below,λW K=>?_⟩;obtain⟨m,rc,i,_,g⟩:=d.pa h K;simp only[As,Ak,BN,and_true,true_and]at i;rw[i.1];exact g
theorem XV(w:rO)(hL:Laid w):tT prog 32 #[I U 1] w λe w'=> ∃u A,e=ui (uo #[uk #[Y (Z ⟨u,0,N⟩) 1 A],I U 0])/\Ha w' u 0 (T2.map JK)/\tS w.heap.size w w':=by
 have H0:=Aa hL;go_enter func32,ntmps32;go_wp2_with(go_at_call 35;refine(Ji 1 _ (by decide) (by decide)).mono ?_;rintro e m⟨rfl,rfl⟩);have B:Hid (p8 w 0 (Y (Z ⟨w.heap.size+1,0,N⟩) 1 1) ((w.alloc (uj #[Y N 0 0] 26)).alloc (uj #[I U 1,I U 0,I U 0,I U 0,I U 1] 84))):=⟨Cu (Cu (tU _ _) _) _,(Cy.new w _ 26).below (Cu (tU _ _) _) (by simp),by have k:=Md (w:=(w.alloc (uj #[Y N 0 0] 26)).alloc (uj #[I U 1,I U 0,I U 0,I U 0,I U 1] 84)) (base:=w.heap.size) (n:=1) (size:=5) (Cy.new (w.alloc (uj #[Y N 0 0] 26)) #[I U 1,I U 0,I U 0,I U 0,I U 1] 84) (by simp) rfl (by decide);show World.ownsRow _ _ _ _ _ 1 [I U 1,I U 0,I U 0,I U 0,I U 1];simpa using k⟩;go_loopw [4,19] (λt4 t19 wr=> ∃k:Nat,k<=1/\t19=I U k/\p8 w k t4 wr) (λ_ t _=>1-(intOf t).toNat)
 case atStart=>exact⟨0,by decide,rfl,B.out⟩
 case round=>
  obtain⟨k,hk,rfl,V⟩:=hrel;obtain⟨a,c,rfl⟩:=DD V.row;have d:=Aa V;have f:=Aa (tU wr.heap.size wr);by_cases C:k=0
  ·subst C
   go_wp2_with(first|(go_at_call 38;refine(M2 _ _ _).mono ?_;rintro e m⟨rfl,p⟩;have f:=Aa (f.out.trans (p.mono f.out.size)))|(at_builtin;refine ju underlying85 M4 rfl (by decide) (by decide) w.heap.size _ rfl _ _ rfl _ 1 ((gl 0).flatMap La) ⟨m.heap.size,0,N⟩ 3 3 ([(17,0),(15,0),(18,0)].flatMap La) rfl rfl (CM d.out.row (f.out.alloc f.out.size _)) rfl (be m ([(17,0),(15,0),(18,0)].flatMap La) 84) (QP _) (by have:=d.out.below.size;have:=f.out.size;simp;omega) (by decide) ?_;intro v' D q;have E:=Aa (p8.app (d.out.out.below (f.out.alloc f.out.size _) d.out.out.lt) (d.out.below.trans ((f.out.alloc f.out.size _).mono d.out.below.size)) (CM d.out.row (f.out.alloc f.out.size _)) q)));go_roundw
   case rel=>exact⟨1,by decide,by go_num,E.out.1,E.out.2.1,E.out.2.2⟩
   case measure=>simp[intOf]
  ·obtain rfl:k=1:=by omega
   have hM:Cy (wr.alloc (uj #[J N,Y N 0 0] 96)) wr.heap.size #[J N,Y N 0 0] 96:=Cy.new wr _ 96;have r:=Aa hM;go_wp2_with(first|(go_at_call 38;refine(M2 _ _ _).mono ?_;rintro e m⟨rfl,p⟩;have g:=Aa (Cv (d.out.below.alloc d.out.below.size _) p);have b:=Aa ((Cu (tU wr.heap.size wr) _).trans (p.mono (by simp)));have r:=Aa (r.out.below p r.out.lt))|(at_builtin;refine ju underlying85 M4 rfl (by decide) (by decide) w.heap.size _ rfl _ _ rfl _ (1+3*1) ((gl 1).flatMap La) ⟨m.heap.size,0,N⟩ 1 1 ([(14,0)].flatMap La) rfl rfl (CM d.out.row (b.out.alloc b.out.size _)) rfl (be m ([(14,0)].flatMap La) 84) (QP _) (by have:=g.out.size;simp;omega) (by decide) ?_;intro v' D q;have W:=CM d.out.row (b.out.alloc b.out.size (uj #[I U 14,I U 0,I U 0,I U 0,I U 0] 84));have X:=KT.grown (T:=[84]) W q.2 (by decide);have F:=X.keep (r.out.below (Cu (tU _ _) _) r.out.lt) (by decide);have G:=X.keep ((d.out.out.below b.out d.out.out.lt).below (Cu (tU _ _) _) ((d.out.out.below b.out d.out.out.lt)).lt) (by decide);have H:=CK (g.out.alloc g.out.size _) q.2 (λj K=>(AB W j K).1);obtain⟨lb,lc,cur,rfl,_,L,M⟩:=Et q.1 (by decide);have h:=Aa (Ab F (Ab G (Ab H (Ab L M)))))|(go_at_call 36;refine(EK wr.heap.size 0 5 N (Z ⟨lb,0,N⟩) 0 lc D.heap.size [] D h.out.1 (AH _ _ _ _) (Al _) (by decide) (by decide) (by simp[Value.ownBlock])).mono ?_;rintro e w6 hp;obtain⟨u,A,rfl,O,P,K6,O6⟩:=mB (l:=cV) h.out.1 h.out.2.2.2.1 h.out.2.2.2.2 hp;have Q:=h.out.2.2.1.trans (O6.toBelow h.out.2.2.1.size (λj K=>by rw[show j=wr.heap.size from K];exact d.out.below.size));have R:=K6.keep h.out.2.1 (by decide);have q1:=O.cell 1;have o:=Aa (Ab P (Ab Q R));simp only[Ad,Ac,Ag]at q1)|(go_at_call 39;refine(cW 1 u A T2 w6 rfl (by decide) (H0.out.below o.out.2.1) o.out.1 (by decide) (by decide)).mono ?_;rintro e w7⟨x,y,rfl,s,S⟩;have i:=o.out.2.2.below s o.out.2.2.lt;have z0:=i.cell 0;have u0:=i.free 0;have z:=Aa (Ab s (Ab S i));simp only[Ad,Ac]at z0));have K7:KT [26] w7 (w7.setCell ⟨w.heap.size,0,N⟩ (Y (Z ⟨x,0,N⟩) 1 y)):=KT.set z.out.2.2 (by decide) 0 _;have c0:=(z.out.2.2.set 0 (Y (Z ⟨x,0,N⟩) 1 y)).cell 0;simp only[BK,Bv,Ad,Ac]at c0;exact AM (v:=uo #[uk #[Y (Z ⟨x,0,N⟩) 1 y],I U 0]) (by simp[results,results32,go_sem,c0]) rfl ⟨x,y,rfl,z.out.2.1 _ K7,((o.out.2.1.trans (z.out.1.mono o.out.2.1.size)).setCell (Al _) _)⟩
end QO
end Go.Proofs.YtgadhchejmlfjaaGreatDoor
