/- A part of the proof. -/
import Derived.Test.YtgadhchejmlfjaaGreatDoorA8
set_option linter.unusedVariables false
set_option maxRecDepth 20000
set_option maxHeartbeats 16000000
open Go.Value renaming int->I,pointer->J,slice->Y
open Go.IntKind renaming i64->U
open Option renaming none->N,some->Z
open Bool renaming false->tY,true->tZ
open Go renaming Calls->tT,Ending->uh,TypeId->uf,Value->tR,World->rO
open Go.Ending renaming returned->ui
open Go.Obj renaming cells->uj
open Go.RowKit renaming Below->tS
open Go.RowKit.Below renaming drew->tX,refl->tU
open Go.Value renaming agg->uk,bool->ue,tuple->uo
open Go.World renaming setCell->tV
open List renaming replicate->tW
open Go.Proofs.Tryz Go.RowKit Go.CN
namespace Go.Proofs.YtgadhchejmlfjaaGreatDoor
namespace QO
variable {mk n base:Nat}{v v':tR}{xs:List tR}{w W w3:rO}
theorem Pu:(prog.info? 87).map (λi=>(i.zero,i.size,i.bytes))=Z (Z (uk #[Y N 0 0,Y N 0 0]),2,48):=by kernel_rfl
theorem U4:(prog.info? 4).map (λi=>(i.zero,i.size,i.bytes))=Z (Z (ue tY),1,1):=by kernel_rfl
theorem Li(m:Nat)(hm:m<=100000)(w:rO):(Instr.makeSlice 43 (I U (m:Int)) (I U (m:Int))).run prog w= .ok (Y (Z ⟨w.heap.size,0,N⟩) m m) (w.alloc (uj (madeCells #[ue tY] m) 4)):=run_make_row' 43 4 (ue tY) 1 underlying43 U4 rfl .i64 .i64 m (by omega) (by omega) w
def NF(mk n m base:Nat)(v b:tR)(xs:List tR)(w:rO)(e:uh)(w':rO):Prop:=e=ui (uo #[])/\ ∃v' a,Cy w' mk #[J N,v'] 96/\w'.ownsRow base 87 2 v' (n+1) (xs++[b,Y (Z ⟨a,0,N⟩) m m])/\w.heap.size<=a/\Cy w' a (madeCells #[ue tY] m) 4/\Cw (λj=>j=mk\/v.ownBlock=Z j) w w'/\v'.ownBlock≠Z mk
theorem gV{ys:List tR}(b:Cy w mk #[J N,v] 96)(a:v.ownBlock≠Z mk)(c:tS w.heap.size w W)(d:Du W base 87 2 v n xs ys v' w3):Cy w3 mk #[J N,v] 96:=(b.below c b.lt).only (Cw.grown (S:=λj=>v.ownBlock=Z j) (Cw.refl _ W) d.2.1 (λj e=>.inr e)) a
theorem gW{m:Nat}{o:tR}(p:Cy w mk #[J N,v] 96)(b:v.ownBlock≠Z mk)(f:tS w.heap.size w W)(r:Cy W w.heap.size (madeCells #[ue tY] m) 4)(g: ∀j,v.ownBlock=Z j->j<w.heap.size) (c:Du W base 87 2 v n xs [o,Y (Z ⟨w.heap.size,0,N⟩) m m] v' w3):NF mk n m base v o xs w (ui (uo #[])) (w3.setCell ⟨mk,1,N⟩ v'):=by
 have i:=p.lt;have s:Cw (λj=>j=mk\/v.ownBlock=Z j) W w3:=Cw.grown (Cw.refl _ W) c.2.1 (λj a=>.inr (.inr a));have t:Cw (λj=>j=mk\/v.ownBlock=Z j) w w3:=((Cw.refl _ w).below f).andThen s (λ_ _ h=>h);have k:Cy w3 mk #[J N,v] 96:=(p.below f i).only (Cw.grown (S:=λj=>v.ownBlock=Z j) (Cw.refl _ W) c.2.1 (λj a=>.inr a)) b;have d:v'.ownBlock≠Z mk:=λe=>by
  rcases c.2.2 mk e with q|q
  ·exact b q
  ·have:=f.size;omega
 have l:Cy w3 w.heap.size (madeCells #[ue tY] m) 4:=r.only (Cw.grown (S:=λj=>v.ownBlock=Z j) (Cw.refl _ W) c.2.1 (λj a=>.inr a)) (λe=>by have:=g _ e;omega);refine⟨rfl,v',w.heap.size,k.set 1 v',De c.1 (Cw.set (S:=λj=>j=mk) (Cw.refl _ w3) (.inr rfl) 1 v') (λj a e=>d (by rw[a,show j=mk from e])),Al _,l.only (Cw.set (S:=λj=>j=mk) (Cw.refl _ w3) (.inr rfl) 1 v') (λe=>by omega),t.set (.inr (.inl rfl)) 1 v',d⟩
theorem EK(mk n m:Nat)(a e:Option Addr)(cap lc base:Nat)(xs:List tR)(w:rO)(f:Cy w mk #[J N,.slice a n cap] 96)(i:w.ownsRow base 87 2 (.slice a n cap) n xs)(o:base<=w.heap.size)(hm:m<=1000)(p:n<=1000)(g:(Value.slice a n cap).ownBlock≠Z mk):tT prog 36 #[J (Z ⟨mk,0,N⟩),.slice e m lc] w (NF mk n m base (.slice a n cap) (.slice e m lc) xs w):=by
 have q:=f.cell 1;simp only[Ad,Ac,Ag]at q;have r:=λw=>Li m (by omega) w;have s:=f.lt;have b:Hid (∀W,tS w.heap.size w W->W.ownsRow base 87 2 (.slice a n cap) n xs):=λW t=>CM i t;have c:=Aa (Ab f (Ab g (λj u=>(AB i j u).2)));have k:=Aa (Ab o p);have y:mk<w.heap.size+1:=by omega
 go_enter func36,ntmps36;go_wp2;go_region_law(refine JA underlying24 Pu rfl (by decide) (by decide) base _ rfl (.tmp 9) (.tmp 15) rfl (.slice a n cap) n xs ⟨w.heap.size+1,0,N⟩ 1 [.slice e m lc,Y (Z ⟨w.heap.size,0,N⟩) m m] (by simp[Act.eval]) (by simp[Act.eval]) (.inl (b.out _ (by(repeat(first|exact tU _ _|refine tX ?_|refine Cu ?_ _))))) rfl (LZ.jf (w:=w.drew.alloc (uj (madeCells #[ue tY] m) 4)) _ _ 87 (by simp)) (by simp[Value.oneCell']) (by have:=k.out.1;simp;omega) (by have:=k.out.2;omega) ?_;intro v' w3 h;obtain⟨z,l,rfl⟩:=h.some;have d:=gV c.out.1 c.out.2.1 (by(repeat(first|exact tU _ _|refine tX ?_|refine Cu ?_ _))) h;have v:=d.cell 1;have f3:=d.free 1;have x:=Aa (gW c.out.1 c.out.2.1 (by(repeat(first|exact tU _ _|refine tX ?_|refine Cu ?_ _))) (by exact((Cy.new w.drew (madeCells #[ue tY] m) 4).below (Cu (tU _ _) _) (by simp)):Cy ((w.drew.alloc (uj (madeCells #[ue tY] m) 4)).alloc (uj #[.slice e m lc,Y (Z ⟨w.heap.size,0,N⟩) m m] 87)) w.heap.size (madeCells #[ue tY] m) 4) c.out.2.2 h);simp only[Ad,Ac,Ag]at v)
 all_goals
  go_wp2;go_end0;exact x.out
end QO
namespace D8
open Vm (CP)
section
open D3 (row rows Laid)
variable {l:List CP}{sf:List Bool}{funcs:Int}
structure lR (w:rO) (ca sa:Option Addr) (cc sc:Nat) (l:List CP) (sf:List Bool):Prop where
 code:l.length=0\/ ∃cb co,ca=Z ⟨cb,co,N⟩/\ER w cb co l
 safe:sf.length=0\/ ∃sb so,sa=Z ⟨sb,so,N⟩/\FU.Bs w (Y (Z ⟨sb,so,N⟩) sf.length sc) sf
 n: ∀i∈l,i.n<=9223372036854775807
theorem lR.below{w w':rO}{a b:Option Addr}{c sc:Nat}(h:lR w a b c sc l sf)(d:tS w.heap.size w w'):lR w' a b c sc l sf:=⟨h.code.imp id (λ⟨f,co,e,g⟩=>⟨f,co,e,g.below d⟩),h.safe.imp id (λ⟨i,j,e,k⟩=>⟨i,j,e,k.below d⟩),h.n⟩
theorem gX(h: ¬(0<l.length/\l.length<=64/\sf.length=l.length)):PG l sf funcs=false:=by unfold PG;rw[Bi h];rfl
theorem Pv{k:Nat}(a:k<l.length)(h:Fb l sf funcs k=tY):PG l sf funcs=false:=by unfold PG;have:(List.range l.length).all (Fb l sf funcs)=false:=List.all_eq_false.2 ⟨k,BZ.2 a,by rw[h];decide⟩;rw[this];simp
theorem gY(h:0<l.length/\l.length<=64/\sf.length=l.length)(a: ∀k,k<l.length->Fb l sf funcs k=tZ) (b: ∀i∈l,i.n<=9223372036854775807):PG l sf funcs=(row (l[l.length-1]?.getD ⟨0,0,0,0,0⟩).op).ends:=by unfold PG;have c:(List.range l.length).all (Fb l sf funcs)=true:=Bq.2 λk d=>a k (BZ.1 d);have e:l.all (λi=>decide (i.n<=9223372036854775807))=true:=Bq.2 λi f=>A8 (b i f);rw[A8 h,c,e];simp
theorem On{k:Nat}{i:CP}(a:l[k]?=Z i):Fb l sf funcs k=(Gf i.op i.a i.b i.c i.n l.length funcs&&(!(row i.op).waits||(FU.Ip sf k&&FU.Ip sf (k+1)))):=by unfold Fb;rw[a]
theorem U5{op a b c n p f:Int}(h:Gf op a b c n p f=tZ):0<=op/\op<24:=by unfold Gf at h;rw[QW]at h;simp only[AR,Bo]at h;exact h.1.1
theorem aX(ca sa:Option Addr)(O sc:Nat)(l:List CP)(sf:List Bool)(funcs:Int)(w:rO)(h:lR w ca sa O sc l sf)(hf:funcs<=100000):tT prog 127 #[uk #[.slice ca l.length O,.slice sa sf.length sc],I U funcs] w λe w'=>(∃a f,e=ui (uo #[I U a,I U f])/\(f=0↔PG l sf funcs=tZ))/\tS w.heap.size w w':=by
 have b0:Cy (w.alloc (uj #[.slice ca l.length O,.slice sa sf.length sc] 87)) w.heap.size #[.slice ca l.length O,.slice sa sf.length sc] 87:=Cy.new w _ 87;have r:=Aa (Ab (Cu (tU w.heap.size w) (uj #[.slice ca l.length O,.slice sa sf.length sc] 87)) b0);have HH:=Aa h;clear b0;by_cases P:0<l.length/\l.length<=64/\sf.length=l.length
 ·obtain⟨ok,T⟩: ∃ok,PG l sf funcs=ok:=⟨_,rfl⟩
  rw[T];have s:=Aa T;have HL:=Aa P;obtain⟨d,co,rfl,hC⟩:=h.code.resolve_left (by omega);obtain⟨sb,so,rfl,hS⟩:=h.safe.resolve_left (by omega);have HK:Hid (∀W,tS w.heap.size w W->ER W d co l/\FU.Bs W (Y (Z ⟨sb,so,N⟩) sf.length sc) sf):=λW y=>⟨hC.below y,hS.below y⟩;have aq:=hC.1;rw[P.2.2]at r HK⊢;obtain⟨g,V⟩: ∃g,l.length=g:=⟨_,rfl⟩;have c:=Aa V;rw[V]at r HK P⊢;have e0:((g:Int)==0)=false:=by simp;omega
  have ai: ¬(64:Int)<(g:Int):=by omega
  have X:=Aa P;clear h hC hS T P V;go_enter func127,ntmps127;go_wp2;generalize w.alloc (uj #[Y (Z ⟨d,co,N⟩) g O,Y (Z ⟨sb,so,N⟩) g sc] 87)=W0 at*
  go_loopw [6] (λt wr=> ∃k:Nat,k<=g/\t=I U k/\tS W0.heap.size W0 wr/\ ∀j,j<k->Fb l sf funcs j=tZ) (λt _=>g-(intOf t).toNat)
  case atStart=>exact⟨0,Ap _,rfl,tU _ _,λj hj=>by omega⟩
  case round=>
   obtain⟨k,hk,rfl,hB,R⟩:=hrel;have A:=Cv r.out.1 hB;have h3:=r.out.2.below hB r.out.2.lt;have q0:=h3.cell 0;have q1:=h3.cell 1;simp only[Ad,Ac,Ag]at q0 q1;have B:d<wr.heap.size:=An aq A.size;have u:=Aa R;clear R;by_cases x:k<g
   ·have av:(k:Int)<(g:Int):=by omega
    have z: ∃i,l[k]?=Z i:=⟨_,Ae (by rw[c.out];exact x)⟩;obtain⟨i,z⟩:=z;have hc:=(HK.out wr A).1.2 k (by rw[c.out];exact x);rw[z]at hc;simp only[AW]at hc;obtain⟨c0,c1,c2,c3,c4⟩:=hc;have C:=On (sf:=sf) (funcs:=funcs) z;rw[c.out]at C;have hn:=HH.out.n i (AP z);have ar:=Aa (λW=>Tk i.op i.a i.b i.c i.n g funcs W (by have:=X.out.2.1;omega) (by omega) (λ_=>hn));have D:Hid (∀W,tS wr.heap.size wr W->W.cell? ⟨w.heap.size,0,N⟩=Z (Y (Z ⟨d,co,N⟩) g O)/\W.cell? ⟨w.heap.size,1,N⟩=Z (Y (Z ⟨sb,so,N⟩) g sc)/\W.cell? ⟨d,co+k*5,N⟩=Z (I U i.op)/\W.cell? ⟨d,co+k*5+1,N⟩=Z (I U i.a)/\W.cell? ⟨d,co+k*5+2,N⟩=Z (I U i.b)/\W.cell? ⟨d,co+k*5+3,N⟩=Z (I U i.c)/\W.cell? ⟨d,co+k*5+4,N⟩=Z (I U i.n)):=λW y=>⟨(y.cell (p:=⟨w.heap.size,0,N⟩) h3.lt).trans q0,(y.cell (p:=⟨w.heap.size,1,N⟩) h3.lt).trans q1,(y.cell (p:=⟨d,_,N⟩) B).trans c0,(y.cell (p:=⟨d,_,N⟩) B).trans c1,(y.cell (p:=⟨d,_,N⟩) B).trans c2,(y.cell (p:=⟨d,_,N⟩) B).trans c3,(y.cell (p:=⟨d,_,N⟩) B).trans c4⟩;have n:=Aa hB;have HP:=Aa C;have HI:=Aa z;clear C z hn hB A h3;go_wp2;go_region_held3(λW=>W.cell? ⟨w.heap.size,0,N⟩=Z (Y (Z ⟨d,co,N⟩) g O)/\W.cell? ⟨d,co+k*5,N⟩=Z (I U i.op)/\W.cell? ⟨d,co+k*5+1,N⟩=Z (I U i.a)/\W.cell? ⟨d,co+k*5+2,N⟩=Z (I U i.b)/\W.cell? ⟨d,co+k*5+3,N⟩=Z (I U i.c)/\W.cell? ⟨d,co+k*5+4,N⟩=Z (I U i.n)) (go_keep) (first|(go_at_call 199;refine(ar.out _).mono ?_;rintro e w1⟨⟨f,rfl,aj⟩,ak⟩;have aa:tS wr.heap.size wr w1:=Cv (by(repeat(first|exact tU _ _|refine tX ?_))) ak;obtain⟨q0,q1,c0,c1,c2,c3,c4⟩:=D.out w1 aa;have o:=Aa aa;have HF:=Aa aj;clear ak aa aj));by_cases E:f=0
    ·subst E
     have v:=HF.out.1 rfl;have ab:=U5 v;have F:=Aa (λW=>Tj i.op W ab);have C:=HP.out;rw[v,Zbh]at C;have G:Hid (∀(pc:Int)(W:rO),tS wr.heap.size wr W->tT prog 201 #[uk #[Y (Z ⟨d,co,N⟩) g O,Y (Z ⟨sb,so,N⟩) g sc],I U pc] W λe w'=>e=ui (ue (FU.Ip sf pc))/\tS W.heap.size W w'):=λpc W y=>by have:=WW (Y (Z ⟨d,co,N⟩) g O) _ sf pc W (HK.out W (Cv (Cv r.out.1 n.out) y)).2;exact this
     obtain⟨wt,ad⟩: ∃wt,(row i.op).waits=wt:=⟨_,rfl⟩;rw[ad]at C F;cases wt with
     |false=>
      have H:=Aa C;clear C ad v ab;go_wp2_with(go_at_call 200;refine(F.out _).mono ?_;rintro e w2⟨rfl,rfl⟩);go_roundw
      case rel=>exact⟨k+1,by omega,by go_num,Cv n.out o.out,λj hj=>by
       by_cases e:j=k
       ·subst e;exact H.out
       ·exact u.out j (by omega)⟩
      case measure=>simp[intOf];omega
     |true=>
      obtain⟨s1,S⟩: ∃s1,FU.Ip sf k=s1:=⟨_,rfl⟩;obtain⟨s2,h2⟩: ∃s2,FU.Ip sf ((k:Int)+1)=s2:=⟨_,rfl⟩;rw[S,h2]at C;have ae:=Aa S;have ao:=Aa h2;have H:=Aa C;clear C ad v ab S h2;cases s1<;>cases s2
      case true.true=>
       go_wp2_with(first|(go_at_call 200;refine(F.out _).mono ?_;rintro e w2⟨rfl,rfl⟩)|(go_at_call 201;first|(have hh:=K.out;refine(G.out _ _ hh).mono ?_;rintro e w4⟨rfl,L⟩;rw[ao.out];have af:=Aa (Cv hh L);clear L hh)|(refine(G.out _ _ o.out).mono ?_;rintro e w3⟨rfl,q⟩;rw[ae.out];obtain⟨q0,q1,c0,c1,c2,c3,c4⟩:=D.out w3 (Cv o.out q);have K:=Aa (Cv o.out q);clear q)));go_roundw
       case rel=>exact⟨k+1,by omega,by go_num,Cv n.out af.out,λj hj=>by
        by_cases e:j=k
        ·subst e;exact H.out
        ·exact u.out j (by omega)⟩
       case measure=>simp[intOf];omega
      case true.false=>have b:=Pv (k:=k) (by rw[c.out];exact x) H.out;obtain rfl:ok=false:=s.out.symm.trans b;clear b s;go_wp2_with(first|(go_at_call 200;refine(F.out _).mono ?_;rintro e w2⟨rfl,rfl⟩)|(go_at_call 201;first|(have hh:=K.out;refine(G.out _ _ hh).mono ?_;rintro e w4⟨rfl,L⟩;rw[ao.out];have af:=Aa (Cv hh L);clear L hh)|(refine(G.out _ _ o.out).mono ?_;rintro e w3⟨rfl,q⟩;rw[ae.out];obtain⟨q0,q1,c0,c1,c2,c3,c4⟩:=D.out w3 (Cv o.out q);have K:=Aa (Cv o.out q);clear q)));go_ret2;exact⟨⟨_,_,rfl,by simp⟩,Cv (Cv r.out.1 n.out) af.out⟩
      all_goals
       have b:=Pv (k:=k) (by rw[c.out];exact x) H.out;obtain rfl:ok=false:=s.out.symm.trans b;clear b s;go_wp2_with(first|(go_at_call 200;refine(F.out _).mono ?_;rintro e w2⟨rfl,rfl⟩)|(go_at_call 201;refine(G.out _ _ o.out).mono ?_;rintro e w3⟨rfl,q⟩;rw[ae.out];have K:=Aa (Cv o.out q);clear q));go_ret2;exact⟨⟨_,_,rfl,by simp⟩,Cv (Cv r.out.1 n.out) K.out⟩
    ·have b:Fb l sf funcs k=false:=by
      rw[HP.out];cases hq:Gf i.op i.a i.b i.c i.n g funcs with
      |false=>rfl
      |true=>exact absurd (HF.out.2 hq) E
     have b:=Pv (k:=k) (by rw[c.out];exact x) b;obtain rfl:ok=false:=s.out.symm.trans b;have aw:(f !=0)=true:=by simpa using E
     have au:=Aa E;clear b s E HF;go_wp2;go_ret2;exact⟨⟨_,_,rfl,by simp[au.out]⟩,Cv (Cv r.out.1 n.out) o.out⟩
   ·obtain rfl:k=g:=by omega
    obtain⟨m,hm⟩: ∃m,k-1=m:=⟨_,rfl⟩;have ax:(k:Int)-1=(m:Int):=by have:=X.out.1;omega
    have ag:m<k:=by have:=X.out.1;omega
    have ay:(m:Int)<(k:Int):=by omega
    obtain⟨i,z⟩: ∃i,l[m]?=Z i:=⟨_,Ae (by rw[c.out];exact ag)⟩;have hc:=((HK.out wr A).1.2 m (by rw[c.out];exact ag)).1;rw[z]at hc;simp only[AW]at hc;have Q:=u.out m ag;rw[On z,c.out]at Q;simp only[AR]at Q;have ah:=Aa (λW=>WV i.op W (U5 Q.1));have M:=gY HL.out (λj hj=>u.out j (by rw[<-c.out];exact hj)) HH.out.n;rw[c.out,hm,z]at M;simp only[AW]at M;rw[s.out]at M;rw[<-M]at ah;have n:=Aa hB;clear Q M z hB A h3 x hk hm;cases ok with
    |true=>
     go_wp2_with(go_at_call 202;refine(ah.out _).mono ?_;rintro e w2⟨rfl,rfl⟩);go_ret2
     first
      |exact⟨⟨_,_,rfl,by simp⟩,Cv r.out.1 n.out⟩
      |exact⟨⟨_,rfl⟩,Cv r.out.1 n.out⟩
    |false=>go_wp2_with(go_at_call 202;refine(ah.out _).mono ?_;rintro e w2⟨rfl,rfl⟩);go_ret2;exact⟨⟨_,_,rfl,by simp⟩,Cv r.out.1 n.out⟩
 ·rw[gX P]
  by_cases S:l.length=0
  ·have e0:((l.length:Int)==0)=true:=by simp[S]
   generalize l.length=g at*
   clear h P S;go_enter func127,ntmps127;go_wp2;go_ret2;exact⟨⟨_,_,rfl,by simp⟩,r.out.1⟩
  ·have e0:((l.length:Int)==0)=false:=by rw[Az];omega
   by_cases h2:l.length<=64
   ·have ai: ¬(64:Int)<(l.length:Int):=by omega
    have en:((sf.length:Int) !=(l.length:Int))=true:=by rw[bne_iff_ne];omega
    generalize l.length=g at*
    generalize sf.length=ns at*
    clear h P S;go_enter func127,ntmps127;go_wp2;go_ret2;exact⟨⟨_,_,rfl,by simp⟩,r.out.1⟩
   ·have ai:(64:Int)<(l.length:Int):=by omega
    generalize l.length=g at*
    clear h P S h2;go_enter func127,ntmps127;go_wp2;go_ret2;exact⟨⟨_,_,rfl,by simp⟩,r.out.1⟩
end
section
open D3 (row rows Laid)
variable {w w':rO}
def lS(w:rO)(a o:Nat)(f:List CP×List Bool):Prop:= ∃b c d sc,w.cell? ⟨a,o,N⟩=Z (.slice b f.1.length c)/\w.cell? ⟨a,o+1,N⟩=Z (.slice d f.2.length sc)/\lR w b d c sc f.1 f.2
def U6(w:rO)(a:Option Addr)(p:List (List CP×List Bool)):Prop:=p.length=0\/ ∃b c,a=Z ⟨b,c,N⟩/\b<w.heap.size/\ ∀k,k<p.length->lS w b (c+k*2) (p[k]?.getD ([],[]))
theorem lS.below{a o:Nat}{f:List CP×List Bool}(h:lS w a o f)(c:a<w.heap.size)(b:tS w.heap.size w w'):lS w' a o f:=by obtain⟨d,e,g,sc,i,j,k⟩:=h;exact⟨d,e,g,sc,(b.cell (p:=⟨a,o,N⟩) c).trans i,(b.cell (p:=⟨a,o+1,N⟩) c).trans j,k.below b⟩
theorem U6.below{a:Option Addr}{p:List (List CP×List Bool)}(h:U6 w a p)(c:tS w.heap.size w w'):U6 w' a p:=h.imp id λ⟨f,g,e,d,i⟩=>⟨f,g,e,An d c.size,λk b=>(i k b).below d c⟩
theorem Rq(a:Option Addr)(pc:Nat)(p:List (List CP×List Bool))(w:rO)(h:U6 w a p):tT prog 63 #[uk #[.slice a p.length pc]] w λe w'=>(∃x y f,e=ui (uo #[I U x,I U y,I U f])/\(f=0↔Mo p=tZ))/\tS w.heap.size w w':=by
 obtain⟨ok,c⟩: ∃ok,Mo p=ok:=⟨_,rfl⟩;rw[c];unfold Mo at c;have b0:Cy (w.alloc (uj #[.slice a p.length pc] 26)) w.heap.size #[.slice a p.length pc] 26:=Cy.new w _ 26;have l:=Aa (Ab (Cu (tU w.heap.size w) (uj #[.slice a p.length pc] 26)) b0);clear b0;by_cases u:0<p.length/\p.length<=16
 ·rw[A8 u,Zbh]at c
  have m:=Aa c;obtain⟨d,q,rfl,D,hC⟩:=h.resolve_left (by omega);have HC:=Aa hC;have HK:Hid (∀k W,k<p.length->tS w.heap.size w W->lS W d (q+k*2) (p[k]?.getD ([],[]))):=λk W hk v=>(HC.out k hk).below D v;obtain⟨b,z⟩: ∃b,p.length=b:=⟨_,rfl⟩;have g:=Aa z;rw[z]at l u⊢;have e0:((b:Int)==0)=false:=by rw[Az];omega
  have V: ¬(16:Int)<(b:Int):=by omega
  have X:=Aa u;clear h hC c u z;go_enter func63,ntmps63;go_wp2;generalize w.alloc (uj #[Y (Z ⟨d,q,N⟩) b pc] 26)=W0 at*
  go_loopw [5] (λt wr=> ∃k:Nat,k<=b/\t=I U k/\tS W0.heap.size W0 wr/\ ∀j,j<k->PG (p[j]?.getD ([],[])).1 (p[j]?.getD ([],[])).2 p.length=tZ) (λt _=>b-(intOf t).toNat)
  case atStart=>exact⟨0,Ap _,rfl,tU _ _,λj O=>by omega⟩
  case round=>
   obtain⟨k,hk,rfl,E,r⟩:=hrel;have n:=Cv l.out.1 E;have P:=l.out.2.below E l.out.2.lt;have q0:=P.cell 0;simp only[Ad,Ac]at q0;have F:d<wr.heap.size:=An D n.size;have s:=Aa r;have o:=Aa E;clear r;by_cases A:k<b
   ·have ad:(k:Int)<(b:Int):=by omega
    obtain⟨Q,R,S,sc,c0,c1,hF⟩:=HK.out k wr (by rw[g.out];exact A) n;have G:Hid (∀W,tS wr.heap.size wr W->tT prog 127 #[uk #[.slice Q (p[k]?.getD ([],[])).1.length R,.slice S (p[k]?.getD ([],[])).2.length sc],I U b] W λe w'=>(∃a f,e=ui (uo #[I U a,I U f])/\(f=0↔PG (p[k]?.getD ([],[])).1 (p[k]?.getD ([],[])).2 p.length=tZ))/\tS W.heap.size W w'):=λW v=>by rw[g.out];exact aX Q S R sc _ _ b W (hF.below v) (by have:=X.out.2;omega)
    have H:Hid (∀W,tS wr.heap.size wr W->W.cell? ⟨w.heap.size,0,N⟩=Z (Y (Z ⟨d,q,N⟩) b pc)/\W.cell? ⟨d,q+k*2,N⟩=Z (.slice Q (p[k]?.getD ([],[])).1.length R)/\W.cell? ⟨d,q+k*2+1,N⟩=Z (.slice S (p[k]?.getD ([],[])).2.length sc)):=λW v=>⟨(v.cell (p:=⟨w.heap.size,0,N⟩) P.lt).trans q0,(v.cell (p:=⟨d,_,N⟩) F).trans c0,(v.cell (p:=⟨d,_,N⟩) F).trans c1⟩;clear E n P hF;generalize(p[k]?.getD ([],[])).1.length=n1 at*
    generalize(p[k]?.getD ([],[])).2.length=n2 at*
    go_wp2;go_region_held3(λW=>W.cell? ⟨w.heap.size,0,N⟩=Z (Y (Z ⟨d,q,N⟩) b pc)/\W.cell? ⟨d,q+k*2,N⟩=Z (.slice Q n1 R)/\W.cell? ⟨d,q+k*2+1,N⟩=Z (.slice S n2 sc)) (go_keep) (first|(go_at_call 127;refine(G.out _ (by repeat(first|exact tU _ _|refine tX ?_))).mono ?_;rintro e w1⟨⟨x,f,rfl,T⟩,K⟩;have B:tS wr.heap.size wr w1:=Cv (by repeat(first|exact tU _ _|refine tX ?_)) K;obtain⟨q0,c0,c1⟩:=H.out w1 B;have L:=Aa B;have HF:=Aa T;clear K B T));by_cases i:f=0
    ·subst i
     have aa:=Aa (HF.out.1 rfl);go_wp2;go_roundw
     case rel=>exact⟨k+1,by omega,by go_num,Cv o.out L.out,λj O=>by
      by_cases e:j=k
      ·subst e;exact aa.out
      ·exact s.out j (by omega)⟩
     case measure=>simp[intOf];omega
    ·have M:ok=false:=by rw[<-m.out];refine List.all_eq_false.2 ⟨p[k]'(by rw[g.out];exact A),BQ _,λhq=>i (HF.out.2 ?_)⟩;rw[Ae (by rw[g.out];exact A)];exact hq
     subst M;have ae:(f !=0)=true:=by simpa using i
     have ab:=Aa i;clear m i HF;go_wp2;go_ret3
     exact⟨⟨_,_,_,rfl,by simp[ab.out]⟩,Cv (Cv l.out.1 o.out) L.out⟩
   ·obtain rfl:k=b:=by omega
    have C:ok=true:=by rw[<-m.out];refine Bq.2 λf T=>?_;obtain⟨j,O,e⟩:=List.getElem_of_mem T;have:=s.out j (by rw[<-g.out];exact O);rw[Ae O,e]at this;exact this
    subst C;clear m E n P;go_wp2;go_ret3
    first
     |exact⟨⟨_,_,_,rfl,by simp⟩,Cv l.out.1 o.out⟩
     |exact⟨⟨_,_,rfl⟩,Cv l.out.1 o.out⟩
 ·rw[Bi u,Bool.false_and]at c
  subst c;by_cases h1:p.length=0
  ·have e0:((p.length:Int)==0)=true:=by simp[h1]
   generalize p.length=b at*
   clear h u h1;go_enter func63,ntmps63;go_wp2;go_ret3
   exact⟨⟨_,_,_,rfl,by simp⟩,l.out.1⟩
  ·have e0:((p.length:Int)==0)=false:=by rw[Az];omega
   have V:(16:Int)<(p.length:Int):=by omega
   generalize p.length=b at*
   clear h u h1;go_enter func63,ntmps63;go_wp2;go_ret3
   exact⟨⟨_,_,_,rfl,by simp⟩,l.out.1⟩
end
def jD(w:rO)(e:uh)(w':rO):Prop:=(∃b:Bool,e=ui (ue b))/\tS w.heap.size w w'
theorem TL(a:Option Addr)(pc:Nat)(p:List (List CP×List Bool))(w:rO)(h:U6 w a p):tT prog 62 #[uk #[.slice a p.length pc]] w (jD w):=by
 have j:Cy (w.alloc (uj #[.slice a p.length pc] 26)) w.heap.size #[.slice a p.length pc] 26:=Cy.new w _ 26;have m:=Cu (tU w.heap.size w) (uj #[.slice a p.length pc] 26);have s:Hid (∀k W,k<p.length->tS w.heap.size w W-> ∃f g,a=Z ⟨f,g,N⟩/\lS W f (g+k*2) (p[k]?.getD ([],[]))):=λk W u y=>by obtain⟨f,g,e,n,z⟩:=h.resolve_left (by omega);exact⟨f,g,e,(z k u).below n y⟩
 obtain⟨b,o⟩: ∃b,p.length=b:=⟨_,rfl⟩;rw[o]at j m s⊢;by_cases q:20<b
 ·have i:(20:Int)<(b:Int):=by omega
  have d:=Aa m;go_enter func62,ntmps62;go_wp2;have c0:=j.cell 0;simp only[Ad,Ac]at c0;go_wp2;go_ret;exact⟨⟨_,rfl⟩,d.out⟩
 ·have i: ¬(20:Int)<(b:Int):=by omega
  have d:=Aa (Ab m j);have c0:=j.cell 0;simp only[Ad,Ac]at c0;have A:=Aa q;go_enter func62,ntmps62;go_wp2;generalize w.alloc (uj #[.slice a b pc] 26)=v at*
  go_loopw [3] (λt wr=> ∃k:Nat,k<=b/\t=I U k/\tS v.heap.size v wr) (λt _=>b-(intOf t).toNat)
  case atStart=>exact⟨0,Ap _,rfl,tU _ _⟩
  case round=>
   obtain⟨k,u,rfl,l⟩:=hrel;have B:=(d.out.2.below l d.out.2.lt).cell 0;simp only[Ad,Ac]at B;by_cases r:k<b
   ·obtain⟨f,g,rfl,C,D,E,sc,f1,f2,_⟩:=s.out k wr r (Cv d.out.1 l)
    have c:=Aa l;generalize(p[k]?.getD ([],[])).1.length=F at*
    generalize(p[k]?.getD ([],[])).2.length=G at*
    have x:(k:Int)<(b:Int):=by omega
    have H:=A.out;go_wp2
    case roundEnd=>
     go_roundw
     case rel=>exact⟨k+1,by omega,by go_num,c.out⟩
     case measure=>simp[intOf];omega
    all_goals
     go_ret;exact⟨⟨_,rfl⟩,Cv d.out.1 c.out⟩
   ·obtain rfl:k=b:=by omega
    have c:=Aa l;go_wp2;go_ret;exact⟨⟨_,rfl⟩,Cv d.out.1 c.out⟩
def It(a b c:Int):Bool:=decide ((1<=a/\a<=256)/\(1<=b/\b<=64)/\(1<=c/\c<=64))
theorem Xx(a b c:Int)(w:rO):tT prog 64 #[uk #[I U a,I U b,I U c]] w λe h=>(∃f,e=ui (I U f)/\(f=0↔It a b c=tZ))/\tS w.heap.size w h:=by
 have i:=Aa (Cu (tU w.heap.size w) (uj #[I U a,I U b,I U c] 34));obtain⟨ok,d⟩: ∃ok,It a b c=ok:=⟨_,rfl⟩;rw[d];have g:=Aa d;go_enter func64,ntmps64;go_wp2
 all_goals go_ret
 all_goals refine⟨⟨_,rfl,?_⟩,i.out⟩
 all_goals rw[<-g.out,It,decide_eq_true_iff];omega
theorem Oo(a v:Option Addr)(pc d lc:Nat)(x y z:Int)(p:List (List CP×List Bool))(w:rO)(h:U6 w a p):tT prog 13 #[uk #[.slice a p.length pc],uk #[I U x,I U y,I U z],.slice v d lc] w (jD w):=by
 have A:=Aa h;have q:=Cu (Cu (tU w.heap.size w) (uj #[.slice a p.length pc] 26)) (uj #[I U x,I U y,I U z] 34);have j:Cy ((w.alloc (uj #[.slice a p.length pc] 26)).alloc (uj #[I U x,I U y,I U z] 34)) w.heap.size #[.slice a p.length pc] 26:=(Cy.new w _ 26).below (Cu (tU _ _) _) (by simp);have l:Cy ((w.alloc (uj #[.slice a p.length pc] 26)).alloc (uj #[I U x,I U y,I U z] 34)) (w.heap.size+1) #[I U x,I U y,I U z] 34:=by have k:=Cy.new (w.alloc (uj #[.slice a p.length pc] 26)) #[I U x,I U y,I U z] 34;simpa using k
 obtain⟨c,m⟩: ∃c,(w.alloc (uj #[.slice a p.length pc] 26)).alloc (uj #[I U x,I U y,I U z] 34)=c:=⟨_,rfl⟩;rw[m]at q j l;have n:=Aa q;have r:Hid (∀W,tS c.heap.size c W->W.cell? ⟨w.heap.size,0,N⟩=Z (.slice a p.length pc)/\W.cell? ⟨w.heap.size+1,0,N⟩=Z (I U x)/\W.cell? ⟨w.heap.size+1,1,N⟩=Z (I U y)):=λW s=>by have k2:=j.below s j.lt;have k3:=l.below s l.lt;exact⟨k2.cell 0,k3.cell 0,k3.cell 1⟩
 rcases(show(¬(d:Int)<=3000)\/((d:Int)<=3000/\ ¬x<=20)\/((d:Int)<=3000/\x<=20/\y<=10)\/((d:Int)<=3000/\x<=20/\ ¬y<=10/\64<y)\/((d:Int)<=3000/\x<=20/\ ¬y<=10/\ ¬64<y) by omega)with i|⟨i,o⟩|⟨i,o,t⟩|⟨i,o,t,B⟩|⟨i,o,t,B⟩
 all_goals
  obtain⟨C,D,E⟩:=r.out c (tU _ _);go_enter func13,ntmps13;go_wp2_with(go_at_call 62;refine(TL a pc p _ (A.out.below (by first|exact n.out|exact tX n.out))).mono ?_;rintro e u⟨⟨b,rfl⟩,f⟩;have g:Hid (tS c.heap.size c u):=Aa (by first|exact f|exact Below.trans (tX (tU _ _)) f);obtain⟨C,D,E⟩:=r.out u g.out;cases b)
  all_goals go_ret
  all_goals exact⟨⟨_,rfl⟩,Cv n.out g.out⟩
theorem Ji(a:Option Addr)(pc:Nat)(x y z:Int)(p:List (List CP×List Bool))(w:rO)(h:U6 w a p):tT prog 14 #[uk #[.slice a p.length pc],uk #[I U x,I U y,I U z]] w λe G=>e=ui (ue (Mo p&&It x y z))/\tS w.heap.size w G:=by
 have v:=Aa h;clear h;have r:=Cu (Cu (tU w.heap.size w) (uj #[.slice a p.length pc] 26)) (uj #[I U x,I U y,I U z] 34);have n:Cy ((w.alloc (uj #[.slice a p.length pc] 26)).alloc (uj #[I U x,I U y,I U z] 34)) w.heap.size #[.slice a p.length pc] 26:=(Cy.new w _ 26).below (Cu (tU _ _) _) (by simp);have q:Cy ((w.alloc (uj #[.slice a p.length pc] 26)).alloc (uj #[I U x,I U y,I U z] 34)) (w.heap.size+1) #[I U x,I U y,I U z] 34:=by have k:=Cy.new (w.alloc (uj #[.slice a p.length pc] 26)) #[I U x,I U y,I U z] 34;simpa using k
 obtain⟨g,s⟩: ∃g,(w.alloc (uj #[.slice a p.length pc] 26)).alloc (uj #[I U x,I U y,I U z] 34)=g:=⟨_,rfl⟩;rw[s]at r n q;have l:=Aa r;have t:Hid (∀W,tS g.heap.size g W->W.cell? ⟨w.heap.size,0,N⟩=Z (.slice a p.length pc)/\W.cell? ⟨w.heap.size+1,0,N⟩=Z (I U x)/\W.cell? ⟨w.heap.size+1,1,N⟩=Z (I U y)/\W.cell? ⟨w.heap.size+1,2,N⟩=Z (I U z)):=λW A=>by have k2:=n.below A n.lt;have k3:=q.below A q.lt;exact⟨k2.cell 0,k3.cell 0,k3.cell 1,k3.cell 2⟩
 clear r n q;obtain⟨H,i⟩: ∃o,Mo p=o:=⟨_,rfl⟩;obtain⟨B,j⟩: ∃o,It x y z=o:=⟨_,rfl⟩;rw[i,j];have H1:=Aa i;have K:=Aa j;clear i j;obtain⟨C,D,E,F⟩:=t.out g (tU _ _);cases H
 ·go_enter func14,ntmps14
  go_wp2_with(go_at_call 63;refine(Rq a pc p _ (v.out.below (by first|exact l.out|exact tX l.out))).mono ?_;rintro e m⟨⟨L,M,f,rfl,d⟩,b⟩;have c:Hid (tS g.heap.size g m):=Aa (by first|exact b|exact Below.trans (tX (tU _ _)) b);obtain⟨C,D,E,F⟩:=t.out m c.out;have f0:(f==0)=false:=Az.2 λe=>Bool.noConfusion (H1.out.symm.trans (d.1 e));clear b d);go_ret;exact⟨rfl,Cv l.out c.out⟩
 ·go_enter func14,ntmps14
  go_wp2_with(first|(go_at_call 63;refine(Rq a pc p _ (v.out.below (by first|exact l.out|exact tX l.out))).mono ?_;rintro e m⟨⟨L,M,f,rfl,d⟩,b⟩;have c:Hid (tS g.heap.size g m):=Aa (by first|exact b|exact Below.trans (tX (tU _ _)) b);obtain⟨C,D,E,F⟩:=t.out m c.out;obtain rfl:f=0:=d.2 H1.out;clear b d)|(go_at_call 64;refine(Xx x y z _).mono ?_;rintro e O⟨⟨f,rfl,d⟩,b⟩;rw[K.out]at d;have u:=Aa (Cv c.out b);have P:(f==0)=B:=(by by_cases e:f=0;exact(Zbs.2 e).trans (d.1 e).symm;cases B;exact Az.2 e;exact absurd (d.2 rfl) e);clear d b));go_ret;exact⟨rfl,Cv l.out u.out⟩
end D8
namespace C2
section
variable {α:Type}{i sb:Nat}{w0 W w3:rO}{hv:Int}{v:Nat->tR}{n:Nat->Nat}{X:Nat->List tR}{ys:List tR}
def jE(i:Nat):TypeId:=if i=2 then 50 else if i=9 then 4 else 3
def mX(i:Nat):Nat:=if i=2 then 12 else 1
theorem lT(i:Nat):jE i≠45:=by
 unfold jE;split
 ·decide
 ·split<;>decide
def up(f:Nat->α)(i:Nat)(x:α):Nat->α:=λj=>if j=i then x else f j
theorem Jr(f:Nat->α)(i:Nat)(x:α):up f i x i=x:=Ai rfl
theorem GH(f:Nat->α){j:Nat}(x:α)(h:j≠i):up f i x j=f j:=Ah h
def aY(hv:Int)(v:Nat->tR):Array Value:=#[I U hv,v 1,v 2,v 3,v 4,Y N 0 0,v 6,v 7,v 8,v 9,Y N 0 0]
def TM(i:Nat):Prop:=i=1\/i=2\/i=3\/i=4\/i=6\/i=7\/i=8\/i=9
theorem gZ(hv:Int)(v:Nat->tR)(i:Nat)(x:tR)(a:TM i):(aY hv v).setIfInBounds i x=aY hv (up v i x):=by rcases a with rfl|rfl|rfl|rfl|rfl|rfl|rfl|rfl<;>simp[aY,up]
theorem aZ(hv:Int)(v:Nat->tR)(i:Nat)(a:TM i):(aY hv v)[i]?=Z (v i):=by rcases a with rfl|rfl|rfl|rfl|rfl|rfl|rfl|rfl<;>simp[aY]
structure NB (w0:rO) (sb:Nat) (hv:Int) (v:Nat->tR) (n:Nat->Nat) (X:Nat->List tR) (W:rO):Prop where
 below:tS w0.heap.size w0 W
 FW:w0.heap.size<=sb
 Dj:Cy W sb (aY hv v) 45
 row: ∀i,W.ownsRow w0.heap.size (jE i) (mX i) (v i) (n i) (X i)
 apart: ∀i j b,i≠j->(v i).ownBlock=Z b->(v j).ownBlock≠Z b
theorem NB.out(h:NB w0 sb hv v n X W)(i:Nat):(v i).ownBlock≠Z sb:=λe=>by obtain⟨cs,a⟩:=D6 (h.row i) e;exact lT i (DV a h.Dj)
theorem NB.go{W':rO}(h:NB w0 sb hv v n X W)(a:tS W.heap.size W W'):NB w0 sb hv v n X W':=⟨h.below.trans (a.mono h.below.size),h.FW,h.Dj.below a h.Dj.lt,λi=>CM (h.row i) a,h.apart⟩
theorem NB.slice(h:NB w0 sb hv v n X W)(i:Nat): ∃a c,v i= .slice a (n i) c:=DD (h.row i)
theorem NB.at_(h:NB w0 sb hv v n X W)(a:TM i):W.cell? ⟨sb,i,N⟩=Z (v i):=(h.Dj.cell i).trans (aZ hv v i a)
theorem NB.sj(h:NB w0 sb hv v n X W){v':tR}(a:Du W w0.heap.size (jE i) (mX i) (v i) (n i) (X i) ys v' w3):Cy w3 sb (aY hv v) 45:=h.Dj.only (Cw.grown (S:=λj=>(v i).ownBlock=Z j) (Cw.refl _ W) a.2.1 (λj b=>.inr b)) (h.out i)
theorem NB.app(h:NB w0 sb hv v n X W)(u:TM i){v':tR}(g:Du W w0.heap.size (jE i) (mX i) (v i) (n i) (X i) ys v' w3):NB w0 sb hv (up v i v') (up n i (n i+1)) (up X i (X i++ys)) (w3.setCell ⟨sb,i,N⟩ v'):=by
 have w:Cw (λj=>(v i).ownBlock=Z j) W w3:=Cw.grown (Cw.refl _ W) g.2.1 (λj d=>.inr d);have oS:Cw (λj=>j=sb) w3 (w3.setCell ⟨sb,i,N⟩ v'):=Cw.set (S:=λj=>j=sb) (Cw.refl _ w3) (.inr rfl) i v';have r:=h.sj g;have x:=h.Dj.lt;have s:v'.ownBlock≠Z sb:=λe=>by
  rcases g.2.2 sb e with o|o
  ·exact h.out i o
  ·omega
 refine⟨(CK h.below g.2.1 (λj d=>(AB (h.row i) j d).1)).setCell h.FW _,h.FW,?_,λj=>?_,λa c b f m l=>?_⟩
 ·rw[<-gZ hv v i v' u];exact r.set i v'
 ·by_cases d:j=i
  ·subst d
   rw[Jr,Jr,Jr];exact De g.1 oS (λk p e=>s (by rw[p,show k=sb from e]))
  ·rw[GH _ _ d,GH _ _ d,GH _ _ d]
   exact De (De (h.row j) w (λk p e=>h.apart j i k d p e)) oS (λk p e=>h.out j (by rw[p,show k=sb from e]))
 ·by_cases o:a=i
  ·subst o
   rw[Jr]at m;rw[GH _ _ (Cb f)]at l;rcases g.2.2 b m with q|q
   ·exact h.apart a c b f q l
   ·have:=(AB (h.row c) b l).2;omega
  ·rw[GH _ _ o]at m
   by_cases q:c=i
   ·subst q
    rw[Jr]at l;rcases g.2.2 b l with t|t
    ·exact h.apart a c b f m t
    ·have:=(AB (h.row a) b m).2;omega
   ·rw[GH _ _ q]at l
    exact h.apart a c b f m l
theorem NB.new(w:rO)(hv:Int):NB w w.heap.size hv (λ_=>Y N 0 0) (λ_=>0) (λ_=>[]) (w.alloc (uj (aY hv λ_=>Y N 0 0) 45)):=⟨Cu (tU _ _) _,Al _,Cy.new w _ 45,λi=>AH _ _ _ _,λi j b _ h=>by cases h⟩
theorem NB.step(h:NB w0 sb hv v n X W)(i:Nat)(e:uf)(z:Nat)(l:TM i)(he:jE i=e)(o:mX i=z): ∃a c,(∀b,tS W.heap.size W b->b.cell? ⟨sb,i,N⟩=Z (.slice a (n i) c))/\(∀b,tS W.heap.size W b->b.ownsRow w0.heap.size e z (.slice a (n i) c) (n i) (X i))/\(∀b,tS W.heap.size W b->w0.heap.size<=b.heap.size)/\ ∀(b:rO)(ys:List tR)(f:tR)(w3:rO),tS W.heap.size W b->Du b w0.heap.size e z (.slice a (n i) c) (n i) (X i) ys f w3->(tS w0.heap.size w0 w3/\(∀m,tS w3.heap.size w3 m->m.cell? ⟨sb,i,N⟩=Z (.slice a (n i) c))/\(w3.frozen? ⟨sb,i,N⟩=tY))/\NB w0 sb hv (up v i f) (up n i (n i+1)) (up X i (X i++ys)) (w3.setCell ⟨sb,i,N⟩ f):=by
 subst he o;obtain⟨a,c,g⟩:=h.slice i;refine⟨a,c,λb d=>?_,λb d=>?_,λb d=>(h.go d).below.size,λb ys f w3 d k=>?_⟩
 ·rw[<-g];exact(h.go d).at_ l
 ·rw[<-g];exact(h.go d).row i
 ·rw[<-g]at k
  have hm:=(h.go d).sj k;refine⟨⟨CK (h.go d).below k.2.1 (λj p=>(AB (h.row i) j p).1),λm q=>?_,hm.free i⟩,(h.go d).app l k⟩;rw[<-g];exact((hm.below q hm.lt).cell i).trans (aZ hv v i l)
end
variable {gp l x0 x1 x2 x3 x4 x5 x6 x7 x8 x9 F1:tR}{w0 W:rO}{hv:Int}{m b:Nat}{q:List tR}
theorem Dv:(prog.info? 3).map (λi=>(i.zero,i.size,i.bytes))=Z (Z (I U 0),1,8):=by kernel_rfl
theorem lU:(prog.info? 50).map (λi=>(i.zero,i.size,i.bytes))=Z (Z (uk #[I U 0,I U 0,I U 0,I U 0,I U 0,I U 0,I U 0,I U 0,I U 0,I U 0,Y N 0 0,ue tY]),12,112):=by kernel_rfl
theorem be(w:rO)(l:List tR)(t:uf): ∀(j:Nat)(u:tR),l[j]?=Z u->(w.alloc (uj l.toArray t)).cell? ((⟨w.heap.size,0,N⟩:Addr).add j)=Z u:=by have h:=Cy.new w l.toArray t;intro j u hu;rw[show((⟨w.heap.size,0,N⟩:Addr).add j)=⟨w.heap.size,j,N⟩from by rw[AE,AJ]];rw[h.cell j,<-hu];simp
theorem bA(W:rO){a:Bool}(h:(a=tY/\gp=J N)\/(a=tZ/\ ∃b:Nat,gp=J (Z ⟨b,0,N⟩))):(binOp .neq 119 gp (J N)).run prog W= .ok (ue a) W:=by
 rcases h with⟨rfl,rfl⟩|⟨rfl,b,rfl⟩
 ·kernel_rfl
 ·rfl
theorem bB(W:rO)(x y:Operand){a:Bool}(h:(a=tY/\gp=J N)\/(a=tZ/\ ∃b:Nat,gp=J (Z ⟨b,0,N⟩))):(eqGuard .neq 119 x y gp (J N)).run prog W= .ok () W:=by rcases h with⟨rfl,rfl⟩|⟨rfl,b,rfl⟩<;>simp[eqGuard]
def I2(l:List M1):List Bool:=l.map λy=>y.phase==0
def Oq(l:List M1):List Value:=(I2 l).map ue
def qq(i:Nat)(q ys:List tR):List Value:=if 9=i then q++ys else q
def L9(w0:rO)(hv:Int)(m:Nat)(q:List tR)(W:rO):Prop:= ∃v n X,NB w0 w0.heap.size hv v n X W/\(∀j,n j<=m)/\X 9=q
theorem L9.below(h:L9 w0 hv m q W):tS w0.heap.size w0 W:=by obtain⟨v,n,X,h,_⟩:=h;exact h.below
theorem L9.go{W':rO}(h:L9 w0 hv m q W)(a:tS W.heap.size W W'):L9 w0 hv m q W':=by obtain⟨v,n,X,h,k⟩:=h;exact⟨v,n,X,h.go a,k⟩
theorem L9.step(h:L9 w0 hv m q W)(i:Nat)(e:uf)(z:Nat)(p:TM i)(he:jE i=e)(r:mX i=z): ∃a f c X,f<=m/\(∀b,tS W.heap.size W b->b.cell? ⟨w0.heap.size,i,N⟩=Z (.slice a f c)/\b.ownsRow w0.heap.size e z (.slice a f c) f X/\w0.heap.size<=b.heap.size)/\ ∀(b:rO)(ys:List tR)(l:tR)(d:rO),tS W.heap.size W b->Du b w0.heap.size e z (.slice a f c) f X ys l d->tS w0.heap.size w0 d/\d.cell? ⟨w0.heap.size,i,N⟩=Z (.slice a f c)/\d.frozen? ⟨w0.heap.size,i,N⟩=tY/\L9 w0 hv (m+1) (qq i q ys) (d.setCell ⟨w0.heap.size,i,N⟩ l):=by
 obtain⟨v,n,X,h,k,o⟩:=h;obtain⟨a,c,k1,k2,k3,k4⟩:=h.step i e z p he r;refine⟨a,n i,c,X i,k i,λb g=>⟨k1 b g,k2 b g,k3 b g⟩,λb ys l d g s=>?_⟩;obtain⟨⟨t,u,w⟩,x⟩:=k4 b ys l d g s;exact⟨t,u d (tU _ _),w,_,_,_,x,λj=>by
  have:=k j;have:=k i;by_cases e:j=i
  ·rw[e,Jr];omega
  ·rw[GH _ _ e];omega,by unfold up qq;split;rename_i e;subst e;rw[o];exact o⟩
def ru(w0 W:rO)(hv:Int)(q:List tR)(m i:Nat)(e:uf)(z:Nat)(a:Option Addr)(nn c:Nat)(X:List tR):Prop:=nn<100000000/\(∀b,tS W.heap.size W b->b.cell? ⟨w0.heap.size,i,N⟩=Z (.slice a nn c)/\b.ownsRow w0.heap.size e z (.slice a nn c) nn X/\w0.heap.size<=b.heap.size)/\
 ∀(b:rO)(ys:List tR)(f:tR)(d:rO),tS W.heap.size W b->Du b w0.heap.size e z (.slice a nn c) nn X ys f d->
  tS w0.heap.size w0 d/\d.cell? ⟨w0.heap.size,i,N⟩=Z (.slice a nn c)/\d.frozen? ⟨w0.heap.size,i,N⟩=tY/\L9 w0 hv (m+1) (qq i q ys) (d.setCell ⟨w0.heap.size,i,N⟩ f)
theorem L9.st(h:L9 w0 hv m q W)(i:Nat)(e:uf)(z:Nat)(d:TM i)(he:jE i=e)(f:mX i=z)(hm:m<100000000)(ys:List tR): ∃a b c X,Hid (ru w0 W hv q m i e z a b c X)/\W.cell? ⟨w0.heap.size,i,N⟩=Z (.slice a b c)/\(W.alloc (uj ys.toArray e)).cell? ⟨w0.heap.size,i,N⟩=Z (.slice a b c):=by obtain⟨a,b,c,X,g,k1,k2⟩:=h.step i e z d he f;exact⟨a,b,c,X,⟨by omega,k1,k2⟩,(k1 _ (tU _ _)).1,(k1 _ (Cu (tU _ _) _)).1⟩
theorem ru.lV{i:Nat}{e:uf}{z:Nat}{a:Option Addr}{nn c:Nat}{X:List tR}(h:ru w0 W hv q m i e z a nn c X){t:uf}{C:tR}{d:Nat}(G:prog.underlying t=Z (.slice e))(DH:(prog.info? e).map (λi=>(i.zero,i.size,i.bytes))=Z (Z C,z,d)) (l:C.cells.size=z) (n:0<z) (p:d<=1000) (r:rO) (ys:List tR) {u:rO} (v:tS W.heap.size W u) (H: ∀a,u.cell? a=(r.alloc (uj ys.toArray e)).cell? a) {ops:Array Oper} {o:Oper} {A:Act} {K:Act->rO->Prop} {Q:Exit->Act->rO->Prop} {E:Prop} (w:o.guard=N) (s y:Operand) (L:o.op= .call {callee:=.builtin .append,args:=#[s,y],argTypes:=#[t,t]}) {D:Nat} (M:A.eval s= .slice a nn c) (hy:A.eval y=Y (Z ⟨r.heap.size,0,N⟩) 1 D) (B:ys.length=z) (f: ∀x∈ys,x.oneCell'=tZ)
 (O: ∀g k b,tS w0.heap.size w0 b->b.cell? ⟨w0.heap.size,i,N⟩=Z (.slice a nn c)->b.frozen? ⟨w0.heap.size,i,N⟩=tY->Hid (L9 w0 hv (m+1) (qq i q ys) (b.setCell ⟨w0.heap.size,i,N⟩ (Y (Z ⟨g,0,N⟩) (nn+1) k)))->K (A.put o.dst (Y (Z ⟨g,0,N⟩) (nn+1) k)) b):
 if Region.wanted o (yielded ops A.tmps)=tZ then Oper.wp prog o A u K Q else E:=
 JA G DH l n p w0.heap.size _ w _ _ L _ nn X _ D ys M hy (.inl (h.2.1 _ v).2.1) B (λj x P=>by rw[H];exact be r ys e j x P) f (h.2.1 _ v).2.2 h.1 λT b F=>by obtain⟨z2,z0,R,S⟩:=h.2.2 _ _ _ _ v F;obtain⟨g,k,rfl⟩:=F.some;exact O g k b z2 z0 R S
theorem bC{v:Nat->tR}{q:tR}(h:Cy W b (aY hv v) 45):Cy ((W.setCell ⟨b,5,N⟩ q).setCell ⟨b,10,N⟩ l) b #[I U hv,v 1,v 2,v 3,v 4,q,v 6,v 7,v 8,v 9,l] 45:=(h.set 5 q).set 10 l
theorem Xy{q:tR}:Cw (λj=>j=b) W ((W.setCell ⟨b,5,N⟩ q).setCell ⟨b,10,N⟩ l):=Cw.set (Cw.set (S:=λj=>j=b) (Cw.refl _ W) (.inr rfl) 5 q) (.inr rfl) 10 l
theorem lW{t:uf}(h:Cy W b #[x0,x1,x2,x3,x4,x5,x6,x7,x8,x9,F1] t):Cy (tV (tV (tV (tV (tV (tV (tV (tV (tV (tV (tV W ⟨b,0,N⟩ x0) ⟨b,1,N⟩ x1) ⟨b,2,N⟩ x2) ⟨b,3,N⟩ x3) ⟨b,4,N⟩ x4) ⟨b,5,N⟩ x5) ⟨b,6,N⟩ x6) ⟨b,7,N⟩ x7) ⟨b,8,N⟩ x8) ⟨b,9,N⟩ x9) ⟨b,10,N⟩ F1) b #[x0,x1,x2,x3,x4,x5,x6,x7,x8,x9,F1] t:=by have d:Cy (tV W ⟨b,0,N⟩ x0) b #[x0,x1,x2,x3,x4,x5,x6,x7,x8,x9,F1] t:=h.set 0 x0;have e:Cy (tV (tV W ⟨b,0,N⟩ x0) ⟨b,1,N⟩ x1) b #[x0,x1,x2,x3,x4,x5,x6,x7,x8,x9,F1] t:=d.set 1 x1;have f:Cy (tV (tV (tV W ⟨b,0,N⟩ x0) ⟨b,1,N⟩ x1) ⟨b,2,N⟩ x2) b #[x0,x1,x2,x3,x4,x5,x6,x7,x8,x9,F1] t:=e.set 2 x2;have g:Cy (tV (tV (tV (tV W ⟨b,0,N⟩ x0) ⟨b,1,N⟩ x1) ⟨b,2,N⟩ x2) ⟨b,3,N⟩ x3) b #[x0,x1,x2,x3,x4,x5,x6,x7,x8,x9,F1] t:=f.set 3 x3;have i:Cy (tV (tV (tV (tV (tV W ⟨b,0,N⟩ x0) ⟨b,1,N⟩ x1) ⟨b,2,N⟩ x2) ⟨b,3,N⟩ x3) ⟨b,4,N⟩ x4) b #[x0,x1,x2,x3,x4,x5,x6,x7,x8,x9,F1] t:=g.set 4 x4;have j:Cy (tV (tV (tV (tV (tV (tV W ⟨b,0,N⟩ x0) ⟨b,1,N⟩ x1) ⟨b,2,N⟩ x2) ⟨b,3,N⟩ x3) ⟨b,4,N⟩ x4) ⟨b,5,N⟩ x5) b #[x0,x1,x2,x3,x4,x5,x6,x7,x8,x9,F1] t:=i.set 5 x5;have k:Cy (tV (tV (tV (tV (tV (tV (tV W ⟨b,0,N⟩ x0) ⟨b,1,N⟩ x1) ⟨b,2,N⟩ x2) ⟨b,3,N⟩ x3) ⟨b,4,N⟩ x4) ⟨b,5,N⟩ x5) ⟨b,6,N⟩ x6) b #[x0,x1,x2,x3,x4,x5,x6,x7,x8,x9,F1] t:=j.set 6 x6;have l:Cy (tV (tV (tV (tV (tV (tV (tV (tV W ⟨b,0,N⟩ x0) ⟨b,1,N⟩ x1) ⟨b,2,N⟩ x2) ⟨b,3,N⟩ x3) ⟨b,4,N⟩ x4) ⟨b,5,N⟩ x5) ⟨b,6,N⟩ x6) ⟨b,7,N⟩ x7) b #[x0,x1,x2,x3,x4,x5,x6,x7,x8,x9,F1] t:=k.set 7 x7;have m:Cy (tV (tV (tV (tV (tV (tV (tV (tV (tV W ⟨b,0,N⟩ x0) ⟨b,1,N⟩ x1) ⟨b,2,N⟩ x2) ⟨b,3,N⟩ x3) ⟨b,4,N⟩ x4) ⟨b,5,N⟩ x5) ⟨b,6,N⟩ x6) ⟨b,7,N⟩ x7) ⟨b,8,N⟩ x8) b #[x0,x1,x2,x3,x4,x5,x6,x7,x8,x9,F1] t:=l.set 8 x8;have a:Cy (tV (tV (tV (tV (tV (tV (tV (tV (tV (tV W ⟨b,0,N⟩ x0) ⟨b,1,N⟩ x1) ⟨b,2,N⟩ x2) ⟨b,3,N⟩ x3) ⟨b,4,N⟩ x4) ⟨b,5,N⟩ x5) ⟨b,6,N⟩ x6) ⟨b,7,N⟩ x7) ⟨b,8,N⟩ x8) ⟨b,9,N⟩ x9) b #[x0,x1,x2,x3,x4,x5,x6,x7,x8,x9,F1] t:=m.set 9 x9;have c:Cy (tV (tV (tV (tV (tV (tV (tV (tV (tV (tV (tV W ⟨b,0,N⟩ x0) ⟨b,1,N⟩ x1) ⟨b,2,N⟩ x2) ⟨b,3,N⟩ x3) ⟨b,4,N⟩ x4) ⟨b,5,N⟩ x5) ⟨b,6,N⟩ x6) ⟨b,7,N⟩ x7) ⟨b,8,N⟩ x8) ⟨b,9,N⟩ x9) ⟨b,10,N⟩ F1) b #[x0,x1,x2,x3,x4,x5,x6,x7,x8,x9,F1] t:=a.set 10 F1;exact c
theorem lX:Cw (λj=>j=b) W (tV (tV (tV (tV (tV (tV (tV (tV (tV (tV (tV W ⟨b,0,N⟩ x0) ⟨b,1,N⟩ x1) ⟨b,2,N⟩ x2) ⟨b,3,N⟩ x3) ⟨b,4,N⟩ x4) ⟨b,5,N⟩ x5) ⟨b,6,N⟩ x6) ⟨b,7,N⟩ x7) ⟨b,8,N⟩ x8) ⟨b,9,N⟩ x9) ⟨b,10,N⟩ F1):=(Cw.set (S:=λj=>j=b) (Cw.set (S:=λj=>j=b) (Cw.set (S:=λj=>j=b) (Cw.set (S:=λj=>j=b) (Cw.set (S:=λj=>j=b) (Cw.set (S:=λj=>j=b) (Cw.set (S:=λj=>j=b) (Cw.set (S:=λj=>j=b) (Cw.set (S:=λj=>j=b) (Cw.set (S:=λj=>j=b) (Cw.set (S:=λj=>j=b) (Cw.refl _ W) (.inr rfl) 0 x0) (.inr rfl) 1 x1) (.inr rfl) 2 x2) (.inr rfl) 3 x3) (.inr rfl) 4 x4) (.inr rfl) 5 x5) (.inr rfl) 6 x6) (.inr rfl) 7 x7) (.inr rfl) 8 x8) (.inr rfl) 9 x9) (.inr rfl) 10 F1)
def sk(w0:rO)(hv:Int)(q:List tR)(W:rO):Prop:= ∃d e c1 a2 f g a3 n3 c3 a4 n4 c4 a5 h c5 i n6 c6 j k c7 l m c8 a9 a c9 b c Zs,Cy W w0.heap.size #[I U hv,.slice d e c1,.slice a2 f g,.slice a3 n3 c3,.slice a4 n4 c4,.slice a5 h c5,.slice i n6 c6,.slice j k c7,.slice l m c8,.slice a9 a c9,.slice b c Zs] 45/\tS w0.heap.size w0 W/\W.ownsRow w0.heap.size 4 1 (.slice a9 a c9) a q/\(Value.slice a9 a c9).ownBlock≠Z w0.heap.size
theorem L9.fin(h:L9 w0 hv m q W)(a:Option Addr)(qn b:Nat)(c:Option Addr)(d lc:Nat):sk w0 hv q ((W.setCell ⟨w0.heap.size,5,N⟩ (.slice a qn b)).setCell ⟨w0.heap.size,10,N⟩ (.slice c d lc)):=by obtain⟨v,n,X,h,_,o⟩:=h;have f:((W.setCell ⟨w0.heap.size,5,N⟩ (.slice a qn b)).setCell ⟨w0.heap.size,10,N⟩ (.slice c d lc)).ownsRow w0.heap.size 4 1 (v 9) (n 9) (X 9):=De (h.row 9) Xy (λk p e=>h.out 9 (by rw[p,show k=w0.heap.size from e]));have g:=h.out 9;rw[o]at f;have i:=bC (q:=.slice a qn b) (l:=.slice c d lc) h.Dj;obtain⟨z,c1,r⟩:=h.slice 1;obtain⟨a2,A,s⟩:=h.slice 2;obtain⟨a3,c3,t⟩:=h.slice 3;obtain⟨a4,c4,u⟩:=h.slice 4;obtain⟨B,c6,w⟩:=h.slice 6;obtain⟨C,c7,x⟩:=h.slice 7;obtain⟨D,c8,y⟩:=h.slice 8;obtain⟨a9,c9,j⟩:=h.slice 9;rw[r,s,t,u,w,x,y,j]at i;rw[j]at f g;exact⟨_,_,_,_,_,_,_,_,_,_,_,_,_,_,_,_,_,_,_,_,_,_,_,_,_,_,_,_,_,_,i,(h.below.setCell (Al _) _).setCell (Al _) _,f,g⟩
theorem L9.two(h:L9 w0 hv m q W):W.cell? ⟨w0.heap.size,5,N⟩=Z (Y N 0 0)/\W.frozen? ⟨w0.heap.size,5,N⟩=tY/\W.cell? ⟨w0.heap.size,10,N⟩=Z (Y N 0 0)/\W.frozen? ⟨w0.heap.size,10,N⟩=false:=by obtain⟨v,n,X,h,_⟩:=h;exact⟨h.Dj.cell 5,h.Dj.free 5,h.Dj.cell 10,h.Dj.free 10⟩
section
variable {mb:Nat}{V:Vr}{own:Nat->Nat}{w:rO}{s:St}
def jF(s:St)(w:rO)(e:uh)(w':rO):Prop:= ∃(l:List tR)(v:tR)(n:Nat),l.length=10/\e=ui (uk (I U s.sc.CF::l).toArray)/\tS w.heap.size w w'/\l[8]?=Z v/\w'.ownsRow w.heap.size 4 1 v n (Oq s.ms)
theorem CE.bD(h:CE mb V own w s)(hg:0<s.gs.length)(hm:0<s.ms.length)(ha:s.rings.length<=s.asked.length)(aw:s.all.length<1000000):tT prog 12 #[ptr mb] w (jF s w):=by
 have r:Hid (∀W,tS w.heap.size w W->CE mb V own W s):=λW o=>h.below o;have g:=Aa h.Hb;have ax:=Aa aw;obtain⟨gg,cr,ay,_⟩:=h.grow hg;have bt:Hid (∀(k:Nat)(W:rO),k<s.gs.length->tS w.heap.size w W->W.cell? ⟨gg,k,N⟩=Z (ptr (V.CR k))/\gg<W.heap.size):=λk W R o=>by obtain⟨g',c',e,h1,h2,_⟩:=(h.below o).grow R;rw[ay]at e;simp only[As,Ak,BN,and_true,true_and]at e;rw[e.1];exact⟨h1,h2⟩
 obtain⟨mg,ct,az,_⟩:=h.NJ hm;have bu:Hid (∀(k:Nat)(W:rO),k<s.ms.length->tS w.heap.size w W->W.cell? ⟨mg,k,N⟩=Z (ptr (V.DR k))/\mg<W.heap.size):=λk W R o=>by obtain⟨g',c',e,h1,h2,_⟩:=(h.below o).NJ R;rw[az]at e;simp only[As,Ak,BN,and_true,true_and]at e;rw[e.1];exact⟨h1,h2⟩
 obtain⟨⟨ag,ba,cx,aa,bb,cy,cz,dc,df,bw⟩,_⟩:=h.EO (by decide);have bz:Hid (∀(k:Nat)(W:rO),k<s.asked.length->tS w.heap.size w W->W.cell? ⟨ag,k*3+2,N⟩=Z (I U (s.asked[k]?.getD p0).count)):=λk W R o=>by have S:=bb.below o bb.lt;rw[S.cell,<-Bm,<-AN (show k*3+2<s.asked.length*3 by omega),bw];exact(OY s.asked k R).2.2
 have b0:=Aa ha;have b1:=Aa ay;have b2:=Aa az;have b3:=Aa aa;have HH:=Aa h;have hold:=h.hold;have dh:=Aa hg;have di:=Aa hm;generalize ab:s.gs.length=T at*
 generalize b4:s.rings.length=np at*
 generalize b5:s.ms.length=nm at*
 generalize dk:s.asked.length=na at*
 have ad:=Aa ab;have b7:=Aa b4;have M:=Aa b5;have bc:Hid (∀A:Int,0<=A/\A<=T-> ∃(gp:tR)(S:Bool),Ej V.CR A=gp/\((S=tY/\gp=J N/\A=0)\/(S=tZ/\ ∃b:Nat,gp=J (Z ⟨b,0,N⟩)/\b<w.heap.size/\ ∀W,tS w.heap.size w W->W.cell? ⟨b,0,N⟩=Z (I U A)))):=λA hy=>by
  by_cases h0:A=0
  ·exact⟨J N,tY,by rw[Ej,Ai h0],.inl ⟨rfl,rfl,h0⟩⟩
  ·obtain⟨O,bd⟩: ∃O:Nat,A=(O:Int)+1:=⟨(A-1).toNat,by omega⟩
   have bf:O<s.gs.length:=by rw[ad.out];omega
   refine⟨J (Z ⟨V.CR O,0,N⟩),tZ,by rw[Ej,Ah h0,bd,show((O:Int)+1-1).toNat=O by omega],.inr ⟨rfl,V.CR O,rfl,?_,λW o=>?_⟩⟩
   ·obtain⟨_,_,_,hx,_⟩:=HH.out.gs (by decide) O bf;exact hx.lt
   ·obtain⟨_,_,dm,bg,_⟩:=(r.out W o).gs (by decide) O bf
    rw[bd];exact mR bg
 obtain⟨gp,S,b8,F⟩:=bc.out s.sc.CF hold;have ae:=Aa F;have G:(S=tY/\gp=J N)\/(S=tZ/\ ∃b:Nat,gp=J (Z ⟨b,0,N⟩)):=by rcases F with⟨a,b,_⟩|⟨a,b,c,_⟩;exact .inl ⟨a,b⟩;exact .inr ⟨a,b,c⟩
 have b9: ∀W,(binOp .neq 119 gp (J N)).run prog W= .ok (ue S) W:=λW=>bA W G;have ab: ∀(W:rO)(x y:Operand),(eqGuard .neq 119 x y gp (J N)).run prog W= .ok () W:=λW x y=>bB W x y G;have JX:=(HH.out.alloc (uj (aY 0 λ_=>Y N 0 0) 45)).JX;rw[b8]at JX;unfold aY at JX;dsimp only at JX;go_enter func12,ntmps12;go_upto_if 16 with fail
 go_cut [15,16]from 17 to 24 (λnM kD E=>L9 w s.sc.CF (2*0) [] E)
 case first=>
  rcases ae.out with⟨rfl,rfl,h0⟩|⟨rfl,b,rfl,ca,af⟩
  ·go_wp2_with fail
   go_meet
   case rel=>rw[h0];exact⟨_,_,_,NB.new w 0,λ_=>Al _,rfl⟩
  ·have q0:=af (w.alloc (uj #[I U 0,Y N 0 0,Y N 0 0,Y N 0 0,Y N 0 0,Y N 0 0,Y N 0 0,Y N 0 0,Y N 0 0,Y N 0 0,Y N 0 0] 45)) (Cu (tU _ _) _)
   obtain⟨z,H⟩: ∃z,s.sc.CF=z:=⟨_,rfl⟩;rw[H]at q0;have ah:=Aa H;go_wp2_with fail;go_meet
   case rel=>rw[ah.out];exact⟨_,_,_,NB.new w z,λ_=>Al _,rfl⟩
 case rest=>
  have bh:Hid (L9 w s.sc.CF (2*0) [] wc):=Aa hcut;obtain⟨z,H⟩: ∃z,s.sc.CF=z:=⟨_,rfl⟩;have c5:=(r.out wc hcut.below).c5;rw[b1.out]at c5;rw[H]at bh;have ah:=Aa H;go_wp2;go_loopw [30] (λt wr=> ∃k:Nat,k<=T/\t=I U k/\L9 w z (2*k) [] wr) (λt _=>T-(intOf t).toNat)
  case atStart=>exact⟨0,Ap _,rfl,bh.out⟩
  case round=>
   obtain⟨k,R,rfl,D⟩:=hrel;by_cases u:k<T
   ·have dn:(k:Int)<(T:Int):=by omega
    obtain⟨q0,ql⟩:=bt.out k wr u D.below;obtain⟨x,hx⟩: ∃x,s.gs[k]?.getD g0=x:=⟨_,rfl⟩;obtain⟨_,_,sv,m,cb,bj,_⟩:=HH.out.gs (by decide) k (by rw[ad.out];exact u);rw[hx]at m bj;have cc:=Aa bj;have cd:Hid (x.stack.length<=16):=Aa (by rw[<-hx];exact cb);have bk:Hid (∀f,tS w.heap.size w f->f.cell? ⟨V.CR k,1,N⟩=Z (I U x.word)/\f.cell? ⟨V.CR k,2,N⟩=Z (I U x.fn)/\f.cell? ⟨V.CR k,3,N⟩=Z (I U x.Dr)/\f.cell? ⟨V.CR k,4,N⟩=Z (I U (rg x 0))/\f.cell? ⟨V.CR k,5,N⟩=Z (I U (rg x 1))/\f.cell? ⟨V.CR k,6,N⟩=Z (I U (rg x 2))/\f.cell? ⟨V.CR k,7,N⟩=Z (I U (rg x 3))/\f.cell? ⟨V.CR k,8,N⟩=Z (I U (rg x 4))/\f.cell? ⟨V.CR k,9,N⟩=Z (I U (rg x 5))/\f.cell? ⟨V.CR k,10,N⟩=Z (I U (rg x 6))/\f.cell? ⟨V.CR k,11,N⟩=Z (I U (rg x 7))/\f.cell? ⟨V.CR k,12,N⟩=Z sv/\f.cell? ⟨V.CR k,13,N⟩=Z (ue x.done)):=λf o=>by have m:=m.below o m.lt;exact⟨m.cell 1,m.cell 2,m.cell 3,m.cell 4,m.cell 5,m.cell 6,m.cell 7,m.cell 8,m.cell 9,m.cell 10,m.cell 11,m.cell 12,m.cell 13⟩
    generalize V.CR k=b at*
    have l:=Aa D;go_wp2;go_cut []from 34 to 42 (λE=>L9 w z (2*k+1) [] E)
    case first=>
     obtain⟨a,L,c,X,p,s0,s2⟩:=l.out.st 1 3 1 (by simp[TM]) rfl rfl (by have:=g.out;omega) [I U x.word];have s1:=(bk.out _ l.out.below).1;go_region_law(first|((refine p.out.lV underlying22 Dv rfl (by decide) (by decide) wr [I U x.word] (by repeat(first|exact tU _ _|refine tX ?_|refine Cu ?_ _)) (λ_=>by rfl) (by rfl) _ _ (by rfl) (by simp[Act.eval]) (by rfl) rfl (by simp[Value.oneCell']) ?_;intro g5 v w5 B z0 z1 C)))
     all_goals(go_wp2;go_meet)
     all_goals exact C.out
    case rest=>
     have l:=Aa hcut;go_wp2;obtain⟨a,L,c,X,p,s0,-⟩:=l.out.st 2 50 12 (by simp[TM]) rfl rfl (by have:=g.out;omega) [];obtain⟨m2,m3,m4,m5,m6,m7,m8,m9,m10,m11,m12,m13⟩:=(bk.out _ l.out.below).2;go_region_law(first|((refine p.out.lV underlying41 lU rfl (by decide) (by decide) w6 [I U x.fn,I U x.Dr,I U (rg x 0),I U (rg x 1),I U (rg x 2),I U (rg x 3),I U (rg x 4),I U (rg x 5),I U (rg x 6),I U (rg x 7),.slice sa x.stack.length sc,ue x.done] (Cu ai _) (λ_=>by rfl) (by rfl) _ _ (by rfl) (by simp[Act.eval]) (by rfl) rfl (by simp[Value.oneCell']) ?_;intro g5 v w5 B z0 z1 C))|(go_simp;go_wp2_with(go_at_call 56;refine(Vm.Fo _ _ _ _ _ _ _ _ _ _ _ _ _ _ (cc.out.below (l.out.below.trans ((by repeat(first|exact tU _ _|refine tX ?_):tS wc.heap.size wc _).mono l.out.below.size))) (by have:=cd.out;omega)).mono ?_;rintro e w6⟨v',rfl,cf,bm⟩;obtain⟨sa,sc,rfl⟩:=Vm.Ew cf;have ai:tS wc.heap.size wc w6:=(by first|exact bm|exact((tU _ _).drew).trans bm);have y0:=(p.out.2.1 _ ai).1;have y1:=(p.out.2.1 _ (Cu ai (uj #[I U x.fn,I U x.Dr,I U (rg x 0),I U (rg x 1),I U (rg x 2),I U (rg x 3),I U (rg x 4),I U (rg x 5),I U (rg x 6),I U (rg x 7),.slice sa x.stack.length sc,ue x.done] 50))).1)))
     all_goals go_wp2
     all_goals have hw:wrap64 ((k:Int)+1)=((k+1:Nat):Int):=by have:=g.out;unfold wrap64;omega
     all_goals rw[hw]
     all_goals clear hw
     all_goals exact⟨⟨k+1,by omega,rfl,C.out⟩,by show T-(k+1)<T-k;omega⟩
   ·obtain rfl:k=T:=by omega
    have HL:=Aa D;have c0:=(r.out wr D.below).c0;go_wp2_with(go_at_call 57;refine((r.out _ HL.out.below).N3).mono ?_;rintro e w6⟨rfl,rfl⟩;rw[b7.out]);go_loopw [59] (λt wr=> ∃i:Nat,i<=np/\t=I U i/\L9 w z (2*k+3*i) [] wr) (λt _=>np-(intOf t).toNat)
    case atStart=>exact⟨0,Ap _,rfl,HL.out⟩
    case round=>
     obtain⟨i,hi,rfl,D⟩:=hrel;by_cases u:i<np
     ·have dp:(i:Int)<(np:Int):=by omega
      have cg:i<na:=by have:=b0.out;omega
      have cu:(i:Int)<(na:Int):=by omega
      obtain⟨cn,ch⟩: ∃cn,(s.asked[i]?.getD p0).count=cn:=⟨_,rfl⟩;have aj:Hid (∀f,tS w.heap.size w f->f.cell? ⟨mb,7,N⟩=Z (Y (Z ⟨ag,0,N⟩) na ba)/\f.cell? ⟨ag,i*3+2,N⟩=Z (I U cn)/\f.cell? ⟨mb,8,N⟩=Z (ptr V.stat)):=λf o=>⟨by rw[<-b3.out];exact(r.out f o).c7,by rw[<-ch];exact bz.out i f cg o,(r.out f o).c8⟩;have l:=Aa D;go_wp2;go_cut []from 62 to 72 (λE=>L9 w z (2*k+3*i+1) [] E)
      case first=>
       obtain⟨a,L,c,X,p,s0,s2⟩:=l.out.st 3 3 1 (by simp[TM]) rfl rfl (by have:=g.out;omega) [I U (Cx.FV s.stat i)];have m8:=(aj.out _ l.out.below).2.2;go_region_law(first|((refine p.out.lV underlying22 Dv rfl (by decide) (by decide) wr [I U (Cx.FV s.stat i)] (by repeat(first|exact tU _ _|refine tX ?_|refine Cu ?_ _)) (λ_=>by rfl) (by rfl) _ _ (by rfl) (by simp[Act.eval]) (by rfl) rfl (by simp[Value.oneCell']) ?_;intro g5 v w5 B z0 z1 C))|(go_simp;go_wp2_with(go_at_call 58;refine((r.out _ (by first|exact l.out.below|exact l.out.below.drew)).fw i).mono ?_;rintro e w6⟨rfl,rfl⟩)))
       all_goals(go_wp2;go_meet)
       all_goals exact C.out
      case rest=>
       have l:=Aa hcut;go_wp2;go_cut []from 73 to 83 (λE=>L9 w z (2*k+3*i+1+1) [] E)
       case first=>
        obtain⟨a,L,c,X,p,s0,s2⟩:=l.out.st 4 3 1 (by simp[TM]) rfl rfl (by have:=g.out;omega) [I U (Cx.Iw s.stat i)];have m8:=(aj.out _ l.out.below).2.2;go_region_law(first|((refine p.out.lV underlying22 Dv rfl (by decide) (by decide) wc [I U (Cx.Iw s.stat i)] (by repeat(first|exact tU _ _|refine tX ?_|refine Cu ?_ _)) (λ_=>by rfl) (by rfl) _ _ (by rfl) (by simp[Act.eval]) (by rfl) rfl (by simp[Value.oneCell']) ?_;intro g5 v w5 B z0 z1 C))|(go_simp;go_wp2_with(go_at_call 59;refine((r.out _ (by first|exact l.out.below|exact l.out.below.drew)).kr i).mono ?_;rintro e w6⟨rfl,rfl⟩)))
        all_goals(go_wp2;go_meet)
        all_goals exact C.out
       case rest=>
        have l:=Aa hcut;go_wp2;obtain⟨a,L,c,X,p,s0,s2⟩:=l.out.st 6 3 1 (by simp[TM]) rfl rfl (by have:=g.out;omega) [I U cn];obtain⟨m7,ma,_⟩:=aj.out _ l.out.below;go_region_law(first|((refine p.out.lV underlying22 Dv rfl (by decide) (by decide) wc [I U cn] (by repeat(first|exact tU _ _|refine tX ?_|refine Cu ?_ _)) (λ_=>by rfl) (by rfl) _ _ (by rfl) (by simp[Act.eval]) (by rfl) rfl (by simp[Value.oneCell']) ?_;intro g5 v w5 B z0 z1 C)))
        all_goals go_wp2
        all_goals have hw:wrap64 ((i:Int)+1)=((i+1:Nat):Int):=by have:=g.out;unfold wrap64;omega
        all_goals rw[hw]
        all_goals clear hw
        all_goals exact⟨⟨i+1,by omega,rfl,C.out⟩,by show np-(i+1)<np-i;omega⟩
     ·obtain rfl:i=np:=by omega
      have HL:=Aa D;have c6:=(r.out wr D.below).c6;rw[b2.out]at c6;go_wp2;go_loopw [103] (λt wr=> ∃j:Nat,j<=nm/\t=I U j/\L9 w z (2*k+3*i+3*j) (Oq (s.ms.take j)) wr) (λt _=>nm-(intOf t).toNat)
      case atStart=>exact⟨0,Ap _,rfl,HL.out⟩
      case round=>
       obtain⟨j,hj,rfl,D⟩:=hrel;by_cases u:j<nm
       ·have dt:(j:Int)<(nm:Int):=by omega
        obtain⟨q0,ql⟩:=bu.out j wr u D.below;obtain⟨y,hy⟩: ∃y,s.ms[j]?=Z y:=⟨_,Ae (by rw[M.out];exact u)⟩;have bn:0<=y.g/\y.g<=k:=by have q:=(r.out w (tU _ _)).mg j (by rw[M.out];exact u);rw[hy,ad.out]at q;exact q
        obtain⟨yp,hyp⟩: ∃yp,y.p=yp:=⟨_,rfl⟩;obtain⟨yh,bo⟩: ∃yh,y.phase=yh:=⟨_,rfl⟩;obtain⟨A,bp⟩: ∃A,y.g=A:=⟨_,rfl⟩;have ak:Hid (∀f,tS w.heap.size w f->f.cell? ⟨V.DR j,1,N⟩=Z (I U yp)/\f.cell? ⟨V.DR j,2,N⟩=Z (Ej V.CR A)/\f.cell? ⟨V.DR j,3,N⟩=Z (I U yh)):=λf o=>by have m:=(r.out f o).ms (by decide) j (by rw[M.out];exact u);rw[hy]at m;rw[<-hyp,<-bo,<-bp];exact⟨m.cell 1,m.cell 2,m.cell 3⟩
        have cj:Hid (Oq (s.ms.take (j+1))=Oq (s.ms.take j)++[ue (yh==0)]):=by show _=_;rw[Bu,hy,<-bo];simp[Oq,I2]
        rw[bp]at bn;generalize V.DR j=xb at*
        have x2:=(ak.out wr D.below).2.1;have l:=Aa D;obtain⟨P,ao,bq,F⟩:=bc.out A bn;have ae:=Aa F;have G:(ao=tY/\P=J N)\/(ao=tZ/\ ∃b:Nat,P=J (Z ⟨b,0,N⟩)):=by rcases F with⟨a,b,_⟩|⟨a,b,c,_⟩;exact .inl ⟨a,b⟩;exact .inr ⟨a,b,c⟩
        have b9: ∀W,(binOp .neq 119 P (J N)).run prog W= .ok (ue ao) W:=λW=>bA W G;have ab: ∀(W:rO)(x y:Operand),(eqGuard .neq 119 x y P (J N)).run prog W= .ok () W:=λW x y=>bB W x y G;rw[bq]at x2;go_upto_if 111 with fail
        go_cut [8,110,111]from 112 to 118 (λc8 cv cw E=>(∃Q:Int,c8=I U Q)/\wr=E)
        case first=>
         rcases ae.out with⟨rfl,rfl,h0⟩|⟨rfl,b,rfl,ca,af⟩
         ·go_wp2_with fail
          go_meet
          case rel=>exact⟨⟨0,rfl⟩,rfl⟩
         ·have q1:=af wr l.out.below
          go_wp2_with fail;go_meet
          case rel=>exact⟨⟨A,rfl⟩,rfl⟩
        case rest=>
         obtain⟨⟨Q,rfl⟩,rfl⟩:=hcut;go_wp2;go_cut []from 119 to 127 (λE=>L9 w z (2*k+3*i+3*j+1) (Oq (s.ms.take j)) E)
         case first=>
          obtain⟨a,L,c,X,p,s0,s2⟩:=l.out.st 7 3 1 (by simp[TM]) rfl rfl (by have:=g.out;omega) [I U yp];have m1:=(ak.out _ l.out.below).1;go_region_law(first|((refine p.out.lV underlying22 Dv rfl (by decide) (by decide) wr [I U yp] (by repeat(first|exact tU _ _|refine tX ?_|refine Cu ?_ _)) (λ_=>by rfl) (by rfl) _ _ (by rfl) (by simp[Act.eval]) (by rfl) rfl (by simp[Value.oneCell']) ?_;intro g5 v w5 B z0 z1 C)))
          all_goals(go_wp2;go_meet)
          all_goals exact C.out
         case rest=>
          have l:=Aa hcut;obtain⟨a,L,c,X,p,s0,-⟩:=l.out.st 8 3 1 (by simp[TM]) rfl rfl (by have:=g.out;omega) [];go_wp2_with(at_builtin;refine Iu underlying22 Dv rfl (by decide) (by decide) w.heap.size _ rfl _ _ rfl (.slice a L c) L X ⟨wc.heap.size,0,N⟩ 1 [I U Q] rfl rfl (.inl (p.out.2.1 _ (by repeat(first|exact tU _ _|refine tX ?_|refine Cu ?_ _))).2.1) rfl (be _ [I U Q] 3) (by simp[Value.oneCell']) (p.out.2.1 _ (by repeat(first|exact tU _ _|refine tX ?_|refine Cu ?_ _))).2.2 (by have:=p.out.1;omega) ?_;intro v' w5 hA;obtain⟨B,z0,z1,ck⟩:=p.out.2.2 _ _ _ _ (by repeat(first|exact tU _ _|refine tX ?_|refine Cu ?_ _)) hA;obtain⟨g5,v,rfl⟩:=hA.some;have C:=Aa ck);generalize w5.setCell ⟨w.heap.size,8,N⟩ (Y (Z ⟨g5,0,N⟩) (L+1) v)=W3 at*
          have l:=C;obtain⟨a,L,c,X,p,s0,s2⟩:=l.out.st 9 4 1 (by simp[TM]) rfl rfl (by have:=g.out;omega) [ue (yh==0)];have m3:=(ak.out _ l.out.below).2.2;go_region_law(first|((refine p.out.lV underlying43 QO.U4 rfl (by decide) (by decide) W3 [ue (yh==0)] (by repeat(first|exact tU _ _|refine tX ?_|refine Cu ?_ _)) (λ_=>by rfl) (by rfl) _ _ (by rfl) (by simp[Act.eval]) (by rfl) rfl (by simp[Value.oneCell']) ?_;intro g5 v w5 B z0 z1 C)))
          all_goals go_wp2
          all_goals have hw:wrap64 ((j:Int)+1)=((j+1:Nat):Int):=by have:=g.out;unfold wrap64;omega
          all_goals rw[hw]
          all_goals clear hw
          all_goals exact⟨⟨j+1,by omega,rfl,by rw[cj.out];exact C.out⟩,by show nm-(j+1)<nm-j;omega⟩
       ·obtain rfl:j=nm:=by omega
        rw[show s.ms.take j=s.ms from AL (by rw[M.out];exact Al _)]at D;have l:=Aa D;have n0:=(r.out wr l.out.below).c0;have n9:=(r.out wr l.out.below).c9;go_wp2;go_cut []from 145 to 156 (λE=>sk w z (Oq s.ms) E)
        case first=>
         have HN:Hid (∀f,tS w.heap.size w f->f.cell? ⟨mb,0,N⟩=Z (ptr V.procs)/\f.cell? ⟨mb,9,N⟩=Z (ptr V.all)):=λf o=>⟨(r.out f o).c0,(r.out f o).c9⟩;go_region_law(first|(go_simp;go_wp2_with(first|(go_at_call 60;refine((r.out _ (by first|exact l.out.below|exact l.out.below.drew)).Zl).mono ?_;rintro e w6⟨qv,rfl,⟨vs,cl⟩,m⟩;obtain⟨qa,qc,rfl⟩:=DD cl.1;have aq:=Aa (l.out.go (by first|exact m|exact(tU wr.heap.size wr).drew.trans m));have n9:=(HN.out _ aq.out.below).2)|(go_at_call 61;refine((r.out _ aq.out.below).nG (by have:=ax.out;omega)).mono ?_;rintro e w7⟨av,rfl,aa,m⟩;obtain⟨la,lc,rfl⟩:=C4.Dm aa;have br:=Aa (aq.out.go m);obtain⟨z5,u5,du,u10⟩:=br.out.two;have HE:=Aa (br.out.fin qa (UF s.rings).length qc la s.all.length lc)))))
         all_goals(go_wp2;go_meet)
         all_goals exact HE.out
        case rest=>obtain⟨a1,n1,c1,a2,n2,c2,a3,n3,c3,a4,n4,c4,a5,n5,c5,a6,n6,c6,a7,n7,c7,a8,n8,c8,a9,K,c9,ar,au,Zs,d,cm,cp,cq⟩:=hcut;have k0:=d.cell 0;have k1:=d.cell 1;have k2:=d.cell 2;have k3:=d.cell 3;have k4:=d.cell 4;have k5:=d.cell 5;have k6:=d.cell 6;have k7:=d.cell 7;have k8:=d.cell 8;have k9:=d.cell 9;have Sk:=d.cell 10;have f0:=d.free 0;have f1:=d.free 1;have f2:=d.free 2;have f3:=d.free 3;have f4:=d.free 4;have f5:=d.free 5;have f6:=d.free 6;have f7:=d.free 7;have f8:=d.free 8;have f9:=d.free 9;have f10:=d.free 10;simp only[Ad,Ac,Ag]at k0 k1 k2 k3 k4 k5 k6 k7 k8 k9 Sk;have H9:=Aa (Ab d (Ab cm (Ab cp cq)));go_wp2;have n:=lW H9.out.1;have bs:=lX (W:=wc) (b:=w.heap.size) (x0:=I U z) (x1:=.slice a1 n1 c1) (x2:=.slice a2 n2 c2) (x3:=.slice a3 n3 c3) (x4:=.slice a4 n4 c4) (x5:=.slice a5 n5 c5) (x6:=.slice a6 n6 c6) (x7:=.slice a7 n7 c7) (x8:=.slice a8 n8 c8) (x9:=.slice a9 K c9) (F1:=.slice ar au Zs);have k0:=n.cell 0;have k1:=n.cell 1;have k2:=n.cell 2;have k3:=n.cell 3;have k4:=n.cell 4;have k5:=n.cell 5;have k6:=n.cell 6;have k7:=n.cell 7;have k8:=n.cell 8;have k9:=n.cell 9;have Sk:=n.cell 10;simp only[Ad,Ac,Ag]at k0 k1 k2 k3 k4 k5 k6 k7 k8 k9 Sk;have hq:jF s w (ui (uk #[I U z,.slice a1 n1 c1,.slice a2 n2 c2,.slice a3 n3 c3,.slice a4 n4 c4,.slice a5 n5 c5,.slice a6 n6 c6,.slice a7 n7 c7,.slice a8 n8 c8,.slice a9 K c9,.slice ar au Zs])) _:=⟨[.slice a1 n1 c1,.slice a2 n2 c2,.slice a3 n3 c3,.slice a4 n4 c4,.slice a5 n5 c5,.slice a6 n6 c6,.slice a7 n7 c7,.slice a8 n8 c8,.slice a9 K c9,.slice ar au Zs],.slice a9 K c9,K,rfl,by rw[ah.out],H9.out.2.1.trans (bs.toBelow H9.out.2.1.size (λj hj=>by rw[show j=w.heap.size from hj];exact Al _)),rfl,De H9.out.2.2.1 bs (λk R e=>H9.out.2.2.2 (by rw[R,show k=w.heap.size from e]))⟩;exact AM (by simp[results,results12,go_sem,k0,k1,k2,k3,k4,k5,k6,k7,k8,k9,Sk]) rfl hq
end
end C2
namespace QO
section
variable {P:Program}{t e:uf}{size bytes:Nat}{z:tR}(ht:P.underlying t=Z (.slice e))(DH:(P.info? e).map (λi=>(i.zero,i.size,i.bytes))=Z (Z z,size,bytes))(Ye:z.cells.size=size)(Yf:0<size)(dO:bytes<=1000)
include ht DH Ye Yf dO
theorem bE(W:rO){ops:Array Oper}{rest:List Oper}{o:Oper}{a:Act}{Q:Exit->Act->rO->Prop}(n:o.guard=N)(s y:Operand)(D:o.op= .call {callee:=.builtin .append,args:=#[s,y],argTypes:=#[t,t]})(b:Addr)(p:Addr)(m c:Nat)(ys:List tR)(E:a.eval s=Y (Z b) 0 0)(hy:a.eval y=Y (Z p) m c)
  (hm:0<m) (q:ys.length=m*size) (d: ∀(j:Nat)(x:tR),ys[j]?=Z x->W.cell? (p.add j)=Z x) (hlen:m<100000000)
  (h: ∀k f,f.ownsRow W.heap.size e size k m ys->W.grownBy f N->wpList P ops Q rest (a.put o.dst k) f):
  wpList P ops Q (o::rest) a W:=by
 refine wpList_plain n λK F=>?_;obtain⟨i0,r,v,w,A⟩: ∃i,P.info? e=Z i/\i.zero=Z z/\i.size=size/\i.bytes=bytes:=by obtain⟨i,r,l⟩:=AD.1 DH;simp only[AV]at l;exact⟨i,r,l.1,l.2.1,l.2.2⟩
 have g:(0+m)*bytes<=140737488355328:=by have:=Nat.mul_le_mul (show 0+m<=100000000 by omega) dO;omega
 have B:0+m<=maxLen:=by unfold maxLen;omega
 obtain⟨k,f,G,C,H⟩:=Zac (P:=P) W t o.type e i0 z size bytes ht r v w A Ye Yf b 0 0 [] (by simp) (λj u L=>by simp at L) p m c ys q d (by omega) B g;rw[AJ,A7]at C;unfold Oper.wp;simp[execOp,D,resolve,invoke,builtin,E,hy,G,Result.andThen];exact F _ _ (h k f C H)
end
theorem ES(d f m c:Nat)(ys:List tR)(w:rO)(hm:0<m)(q:m<=1000)(g:d<w.heap.size)(h:ys.length=m*5)(b: ∀(j:Nat)(x:tR),ys[j]?=Z x->w.cell? ⟨d,f+j,N⟩=Z x):tT prog 102 #[Y (Z ⟨d,f,N⟩) m c] w λe i=> ∃v,e=ui v/\i.ownsRow w.heap.size 84 5 v m ys/\tS w.heap.size w i:=by have o:=λ(w:rO)(a:Option Addr)(n c r s:Nat)=>Za3 (P:=prog) w 85 84 a n c r s underlying85;have k:=Aa (Ab b (Ab h g));go_enter func102,ntmps102;go_wp2_with(at_builtin;refine bE underlying85 M4 rfl (by decide) (by decide) _ rfl _ _ rfl ⟨w.heap.size,0,N⟩ ⟨d,f,N⟩ m c ys rfl rfl hm k.out.2.1 (λj x l=>by rw[AE];exact((Cu (tU w.heap.size w) _).cell (p:=⟨d,f+j,N⟩) k.out.2.2).trans (k.out.1 j x l)) (by omega) ?_;intro A i t u;have y:=Aa t;have z:=Aa u);go_ret;exact⟨_,rfl,Fk y.out (by simp),CK (Cu (tU _ _) _) z.out (λj l=>by cases l)⟩
end QO
namespace D8
open D3 (row rows Laid)
open Vm (CP)
section
open QO (M4 U4 Pu Li ES)
variable {w:rO}
theorem bF{a b c:rO}(h:tS a.heap.size a b)(k:tS b.heap.size b c):tS a.heap.size a c:=h.trans (k.mono h.size)
theorem I3{a b:Nat}{x y:Array tR}{s t:uf}(d:Cy w a x s)(f:Cy w b y t)(c:s≠t):a≠b:=λe=>by subst e;exact c (DV d f)
def i0:CP:=⟨0,0,0,0,0⟩
def Nq(i:CP):List Value:=[I U i.op,I U i.a,I U i.b,I U i.c,I U i.n]
def F6(l:List CP):List Value:=l.flatMap Nq
theorem Ot(l:List CP):(F6 l).length=l.length*5:=by
 induction l with
 |nil=>rfl
 |cons x l a=>simp only[F6,BE,Au,Nq,Av,AG]at a⊢;omega
theorem Nr: ∀(l:List CP)(i r:Nat),i<l.length->r<5->(F6 l)[i*5+r]?=(Nq (l[i]?.getD i0))[r]?
 | [],_,_,h,_=>absurd h (BX _)
 |x::l,0,r,_,a=>by show(Nq x++F6 l)[0*5+r]?=_;rw[Nat.zero_mul,AJ,Aw (by simpa[Nq]using a)];rfl
 |x::l,i+1,r,h,a=>by show(Nq x++F6 l)[(i+1)*5+r]?=_;rw[Ar (by simp[Nq];omega),show(i+1)*5+r-(Nq x).length=i*5+r by simp[Nq];omega];exact Nr l i r (by simpa using h) a
theorem Xz{b co:Nat}{l:List CP}(h:ER w b co l): ∀(j:Nat)(x:tR),(F6 l)[j]?=Z x->w.cell? ⟨b,co+j,N⟩=Z x:=by
 intro j x c;have g:j<l.length*5:=by rw[<-Ot];exact(Af.1 c).1
 have d:j/5<l.length:=by omega
 obtain⟨a0,f,a2,a3,a4⟩:=h.2 (j/5) d;have a:=Nr l (j/5) (j%5) d (Zbr _ (by decide));rw[show j/5*5+j%5=j by omega,c]at a;rcases(show j%5=0\/j%5=1\/j%5=2\/j%5=3\/j%5=4 by omega)with e|e|e|e|e
 ·rw[e]at a;rw[show co+j=co+j/5*5 by omega,a0];exact a.symm
 ·rw[e]at a;rw[show co+j=co+j/5*5+1 by omega,f];exact a.symm
 ·rw[e]at a;rw[show co+j=co+j/5*5+2 by omega,a2];exact a.symm
 ·rw[e]at a;rw[show co+j=co+j/5*5+3 by omega,a3];exact a.symm
 ·rw[e]at a;rw[show co+j=co+j/5*5+4 by omega,a4];exact a.symm
def GZ(l:List CP)(sf:List Bool)(k:Nat):Bool:=sf[k]?.getD tY||(row (l[k]?.getD i0).op).waits||(decide (0<k)&&(row (l[k-1]?.getD i0).op).waits)
def Hm(l:List CP)(sf:List Bool):List Bool:=(List.range sf.length).map (GZ l sf)
def JK(f:List CP×List Bool):List CP×List Bool:=(f.1,Hm f.1 f.2)
def Fj(l:List Bool):Array Value:=(l.map ue).toArray
structure p5 (w:rO) (base:Nat) (x y:tR) (l:List CP) (sf:List Bool):Prop where
 code: ∃cb cc cur,x=Y (Z ⟨cb,0,N⟩) l.length cc/\Cy w cb cur 84/\base<=cb/\cur.toList.take (l.length*5)=F6 l
 safe: ∃sb,y=Y (Z ⟨sb,0,N⟩) sf.length sf.length/\Cy w sb (Fj sf) 4/\base<=sb
theorem p5.kt{T:List uf}{w':rO}{base:Nat}{x y:tR}{l:List CP}{sf:List Bool}(h:p5 w base x y l sf)(k:KT T w w')(a:84∉T)(b:4∉T):p5 w' base x y l sf:=by obtain⟨⟨c,d,cur,e,f,g1,t1⟩,⟨g,i,j,g2⟩⟩:=h;exact⟨⟨c,d,cur,e,k.keep f a,g1,t1⟩,⟨g,i,k.keep j b,g2⟩⟩
def tD(a:rO)(m:Nat)(l:List CP)(c:tR)(W:rO):Prop:= ∃X S b d cur,c=J (Z ⟨X,0,N⟩)/\Cy W X #[Y (Z ⟨b,0,N⟩) m d,Y (Z ⟨S,0,N⟩) m m] 87/\Cy W S (madeCells #[ue tY] m) 4/\Cy W b cur 84/\cur.toList.take (m*5)=F6 l/\tS a.heap.size a W/\a.heap.size<=S/\a.heap.size<=b/\a.heap.size<=X
structure lY (w:rO) (p:List (List CP×List Bool)) (k:Nat) (v:tR) (xs:List tR) (wr:rO):Prop where
 below:tS w.heap.size w wr
 out:Cy wr (w.heap.size+1) #[v] 26
 row:wr.ownsRow w.heap.size 87 2 v k xs
 fns: ∀i,i<k->p5 wr w.heap.size (xs[i*2]?.getD undef) (xs[i*2+1]?.getD undef) (JK (p[i]?.getD ([],[]))).1 (JK (p[i]?.getD ([],[]))).2
theorem lY.set{wr:rO}{p:List (List CP×List Bool)}{k:Nat}{v:tR}{xs:List tR}(h:lY w p k v xs wr):lY w p k v xs (wr.setCell ⟨w.heap.size+1,0,N⟩ v):=
 have K:KT [26] wr (wr.setCell ⟨w.heap.size+1,0,N⟩ v):=KT.set h.out (by decide) 0 v
 ⟨h.below.setCell (Bh _) _,h.out.set 0 v,K.row h.row (by decide),λi a=>(h.fns i a).kt K (by decide) (by decide)⟩
theorem oY(W:rO){ops:Array Oper}{rest:List Oper}{o:Oper}{a:Act}{Q:Exit->Act->rO->Prop}(g:o.guard=N)(d s:Operand)(x:o.op= .call {callee:=.builtin .copy,args:=#[d,s],argTypes:=#[43,43]})
  (S m l n sc:Nat) (sf:List Bool) (hd:a.eval d=Y (Z ⟨S,0,N⟩) m m) (y:a.eval s=Y (Z ⟨l,n,N⟩) m sc) (u:Cy W S (madeCells #[ue tY] m) 4) (z:sf.length=m)
  (f: ∀i,i<m->W.cell? ⟨l,n+i,N⟩=Z (ue (sf[i]?.getD tY))) (h: ∀p,Cy p S (Fj sf) 4->Cw (λj=>j=S) W p->wpList prog ops Q rest (a.put o.dst (I U m)) p):wpList prog ops Q (o::rest) a W:=by
 have c:(sf.map ue).length=m:=by rw[A9,z]
 have q:(madeCells #[ue tY] m).toList.length=m:=by rw[Zbe,size_madeCells]
 refine wpList_copy_own g d s 43 43 x 4 underlying43 (by kernel_rfl) S 0 m m ⟨l,n,N⟩ m sc hd y (madeCells #[ue tY] m) 4 u (sf.map ue) ?_ ?_ ?_ ?_ ?_
 ·rw[c];exact(Nat.min_self m).symm
 ·intro j v w
  have r:j<sf.length:=by have:=(Af.1 w).1;simpa using this
  rw[AE,f j (by omega),<-w,AZ,Ae r];rfl
 ·rw[c,size_madeCells];omega
 ·intro v A
  obtain⟨b,_,rfl⟩:=BL.1 A;rfl
 ·rw[c]
  have e:((madeCells #[ue tY] m).toList.take 0++(sf.map ue++(madeCells #[ue tY] m).toList.drop (0+m))).toArray=Fj sf:=by rw[Zbn,A7,AJ,Zbq (by rw[q];exact Al _),BW];rfl
  rw[e];refine h _ (setRow_heap W S _ _ 4 (0,0) u) ⟨rfl,rfl,rfl,by simp[World.setRow],λk B t=>setRow_other W S k _ t⟩
def IC(l:List CP)(sf:List Bool)(j:Nat):List Bool:=(Hm l sf).take j++sf.drop j
theorem Hn(l:List CP)(sf:List Bool):(Hm l sf).length=sf.length:=by simp[Hm]
theorem bG(l:List CP)(sf:List Bool):IC l sf 0=sf:=by simp[IC]
theorem hH(l:List CP)(sf:List Bool):IC l sf sf.length=Hm l sf:=by rw[IC,Cl,BW,<-Hn l sf,Cd]
theorem Rr(l:List CP)(sf:List Bool)(j:Nat)(h:j<sf.length):IC l sf (j+1)=(IC l sf j).set j (GZ l sf j):=by
 have a:(Hm l sf).take (j+1)=(Hm l sf).take j++[GZ l sf j]:=by rw[Bu];congr 1;simp[Hm,h]
 have b:sf.drop j=sf[j]::sf.drop (j+1):=AQ h;have c:((Hm l sf).take j).length=j:=by rw[AY,Hn];omega
 unfold IC;rw[a,b,Zaa _ _ (by omega),c,Bj,Bv,AU];rfl
theorem bH(l:List CP)(sf:List Bool)(j:Nat)(h:j<sf.length)(a:GZ l sf j=sf[j]?.getD tY):IC l sf (j+1)=IC l sf j:=by
 have b:sf.drop j=sf[j]::sf.drop (j+1):=AQ h;have c:((Hm l sf).take j).length=j:=by rw[AY,Hn];omega
 rw[Ae h]at a;rw[Rr l sf j h,a];unfold IC;rw[b,Zaa _ _ (by omega),c,Bj,Bv];rfl
theorem XA(L:List Bool)(j:Nat)(b:Bool):(Fj L).setIfInBounds j (ue b)=Fj (L.set j b):=by unfold Fj;rw[BK,Bz]
theorem bI(L:List Bool)(j:Nat)(h:j<L.length):(Fj L)[j]?=Z (ue (L[j]?.getD tY)):=by unfold Fj;rw[Ad,AZ,Ae h];rfl
theorem bJ(l:List CP)(sf:List Bool)(j:Nat)(h:j<=sf.length):(IC l sf j).length=sf.length:=by rw[IC,Au,AY,Hn,Zba];omega
theorem oZ(w:rO)(x y:tR)(t:uf): ∀(j:Nat)(u:tR),[x,y][j]?=Z u->(w.alloc (uj #[x,y] t)).cell? ((⟨w.heap.size,0,N⟩:Addr).add j)=Z u:=by have h:=Cy.new w #[x,y] t;intro j u hu;rw[show((⟨w.heap.size,0,N⟩:Addr).add j)=⟨w.heap.size,j,N⟩from by rw[AE,AJ]];rw[h.cell j,<-hu];simp
theorem bK(pb po pc:Nat)(p:List (List CP×List Bool))(w:rO)(hL:Laid w)(hP:Ha w pb po p)(hlen: ∀f∈p,f.2.length=f.1.length/\0<f.1.length/\f.1.length<=1000) (hn:p.length<=100):tT prog 39 #[uk #[Y (Z ⟨pb,po,N⟩) p.length pc]] w λe w'=> ∃v xs,e=ui (uk #[v])/\lY w p p.length v xs w':=by
 have H0:=Aa (Ab hL (Ab hP (Ab hlen hn)));clear hL hP hlen hn;go_enter func39,ntmps39;go_wp2;generalize bh:p.length=np at*
 have az:=Aa bh;clear bh;go_loopw [11] (λt wr=> ∃(k:Nat)(v:tR)(xs:List tR),k<=np/\t=I U k/\lY w p k v xs wr) (λt _=>np-(intOf t).toNat)
 case atStart=>refine⟨0,Y N 0 0,[],Ap _,rfl,Cu (Cu (tU _ _) _) _,?_,AH _ _ _ _,λi hi=>absurd hi (BX _)⟩;have:=Cy.new (w.alloc (uj #[Y (Z ⟨pb,po,N⟩) np pc] 26)) #[Y N 0 0] 26;simpa using this
 case round=>
  obtain⟨k,v,xs,hk,rfl,hS⟩:=hrel;obtain⟨E,rfl⟩: ∃E,E=wr:=⟨wr,rfl⟩;by_cases af:k<np
  ·have ck:(k:Int)<(np:Int):=by omega
   obtain⟨cb,co,cc,sb,so,sc,a1,a2,a3,b,off,cap,e4,a5,a6⟩:=H0.out.2.1.2 k (by rw[az.out];exact af);cases e4;obtain⟨f,hf⟩: ∃f,p[k]?.getD ([],[])=f:=⟨_,rfl⟩;have bj:f∈p:=by
    have bk:k<p.length:=by rw[az.out];exact af
    rw[Ae bk]at hf;rw[<-hf];exact BQ bk
   have R:=H0.out.2.2.1 f bj;rw[hf]at a1 a2 a3 a6;obtain⟨l,d⟩:=f;simp only at a1 a2 a3 a6 R;obtain⟨m,hm⟩: ∃m,l.length=m:=⟨_,rfl⟩;rw[R.1,hm]at a2;rw[hm]at a1;have a7:=H0.out.2.1.1;have p0:=(hS.below.cell (p:=⟨pb,po+k*2,N⟩) a7).trans a1;have p1:=(hS.below.cell (p:=⟨pb,po+k*2+1,N⟩) a7).trans a2;obtain⟨q,a8⟩: ∃q,E.alloc (uj #[Y (Z ⟨cb,co,N⟩) m cc,Y (Z ⟨sb,so,N⟩) m sc] 87)=q:=⟨_,rfl⟩;have ag:tS E.heap.size E q:=by rw[<-a8];exact Cu (tU _ _) _
   have ah:Cy q E.heap.size #[Y (Z ⟨cb,co,N⟩) m cc,Y (Z ⟨sb,so,N⟩) m sc] 87:=by rw[<-a8];exact Cy.new E _ 87
   have s:=Aa (Ab ag ah);have b0:=ah.cell 0;have b3:=ah.lt;have b4: ¬q.heap.size=E.heap.size:=by omega
   have b5: ¬q.heap.size+1=E.heap.size:=by omega
   simp only[Ad,Ac]at b0;have aw:Hid (∀W,tS q.heap.size q W->cb<W.heap.size/\ ∀(j:Nat)(x:tR),(F6 l)[j]?=Z x->W.cell? ⟨cb,co+j,N⟩=Z x):=λW hW=>by have L:=hS.below.trans ((ag.trans (hW.mono ag.size)).mono hS.below.size);exact⟨An a3.1 L.size,λj x hx=>(L.cell (p:=⟨cb,co+j,N⟩) a3.1).trans (Xz a3 j x hx)⟩
   have M:Hid (0<m/\m<=1000/\(F6 l).length=m*5/\d.length=m):=by show _/\_;rw[Ot,<-hm];exact⟨R.2.1,R.2.2,rfl,R.1⟩
   have HF:=Aa (Ab hf (Ab hm (Ab a3 (Ab a5 a6))));have HS:=Aa hS;clear hf bj R hm a1 a2 a3 a5 a6 hS ag ah a7 hk;go_upto_region 4 with fail
   go_cut [5]from 13 to 58 (λs5 W=>tD q m l s5 W)
   case first=>
    have cl:=λw=>Li m (by have:=M.out;omega) w;go_region_held3(λw'=>w'.cell? ⟨E.heap.size,0,N⟩=Z (Y (Z ⟨cb,co,N⟩) m cc)) (go_keep) (first|(go_at_call 102;refine(ES cb co m cc (F6 l) _ M.out.1 M.out.2.1 (aw.out _ (by(repeat(first|exact tU _ _|refine tX ?_|refine Cu ?_ _)))).1 M.out.2.2.1 (aw.out _ (by(repeat(first|exact tU _ _|refine tX ?_|refine Cu ?_ _)))).2).mono ?_;rintro e w2⟨vc,rfl,hR,L⟩;obtain⟨g2,O,P,rfl,bm,bn,bo⟩:=Et hR M.out.1;have u:tS q.heap.size q w2:=bF (by(repeat(first|exact tU _ _|refine tX ?_|refine Cu ?_ _))) L;have c0:=(u.cell (p:=⟨E.heap.size,0,N⟩) b3).trans b0;have bp:q.heap.size<=g2:=(AA (by first|(simp;done)|(simp;omega)) bm);(try(have n:Cy w2 q.heap.size #[Y N 0 0,Y N 0 0] 87:=Cy.below (by first|exact(Cy.new q _ 87).drew|exact((Cy.new q _ 87).alloc _).drew) L (by first|(simp;done)|(simp;omega));have xa:=n.cell 0;have xb:=n.cell 1;have xc:=n.free 0;have xd:=n.free 1;have xl:=n.lt;simp only[Ad,Ac,Ag]at xa xb));(try(have B:Cy w2 (q.heap.size+1) #[Y N 0 0,Y N 0 0] 87:=Cy.below (by first|exact(Cy.ID _ _ (by simp)).drew|fail) L (by first|(simp;done)|(simp;omega));have xa:=B.cell 0;have xb:=B.cell 1;have xc:=B.free 0;have xd:=B.free 1;have xl:=B.lt;simp only[Ad,Ac,Ag]at xa xb));(try have bq:Cy w2 q.heap.size (madeCells #[ue tY] m) 4:=Cy.below (by first|exact(Cy.new q _ 4).drew|exact((Cy.new q _ 4).alloc _).drew) L (by first|(simp;done)|(simp;omega)));(try have c:Cy w2 (q.heap.size+1) (madeCells #[ue tY] m) 4:=Cy.below (by first|exact(Cy.ID _ _ (by simp)).drew|fail) L (by first|(simp;done)|(simp;omega)));have b7:=Aa (Ab u (Ab bp (Ab bn bo)));clear hR L bm bn bo u bp))
    all_goals
     go_wp2_with fail;go_meet
     have r:=b7.out;refine⟨_,?_,g2,O,P,rfl,?_,?_,?_,r.2.2.2,?_,?_,r.2.1,?_⟩;rotate_left
     ·first
       |(have h9:=Cy.ID (w:=w2.alloc (uj (madeCells #[ue tY] m) 4)) (b:=w2.heap.size+1) #[Y (Z ⟨g2,0,N⟩) m O,Y (Z ⟨w2.heap.size,0,N⟩) m m] 87 (by simp);exact h9)
       |exact Cy.new w2 #[Y (Z ⟨g2,0,N⟩) m O,Y (Z ⟨q.heap.size,0,N⟩) m m] 87
       |exact(Cy.new w2 #[Y (Z ⟨g2,0,N⟩) m O,Y (Z ⟨w2.heap.size+1,0,N⟩) m m] 87).alloc _
       |exact((n.set 0 _).set 1 _).alloc _
       |exact(n.set 0 _).set 1 _
       |exact(B.set 0 _).set 1 _
     ·first
       |exact(Cy.new _ _ _).alloc _
       |exact bq.alloc _
       |exact(c.setOther (by omega) _).setOther (by omega) _
       |exact(bq.setOther (by omega) _).setOther (by omega) _
       |exact Cy.ID _ _ (by simp[tV])
     ·first
       |exact(r.2.2.1.alloc _).alloc _
       |exact r.2.2.1.alloc _
       |exact((r.2.2.1.setOther (I3 r.2.2.1 n (by decide)) _).setOther (I3 r.2.2.1 n (by decide)) _).alloc _
       |exact(r.2.2.1.setOther (I3 r.2.2.1 n (by decide)) _).setOther (I3 r.2.2.1 n (by decide)) _
       |exact(r.2.2.1.setOther (I3 r.2.2.1 B (by decide)) _).setOther (I3 r.2.2.1 B (by decide)) _
     ·first
       |exact Cu (Cu r.1 _) _
       |exact Cu r.1 _
       |exact Cu ((r.1.setCell (Al _) _).setCell (Al _) _) _
       |exact(r.1.setCell (Al _) _).setCell (Al _) _
       |exact(r.1.setCell (Bh _) _).setCell (Bh _) _
     ·have:=r.1.size;omega
     ·have:=r.1.size;omega
   case rest=>
    obtain⟨X,S,y,z,P,rfl,hX,ai,ba,br,L,g1,g2,g3⟩:=hcut;have xa:=hX.cell 0;have xb:=hX.cell 1;have f1:=(s.out.2.below L s.out.2.lt).cell 1;simp only[Ad,Ac,Ag]at xa xb f1;have bb:Hid (tS w.heap.size w wc):=HS.out.below.trans ((s.out.1.trans (L.mono s.out.1.size)).mono HS.out.below.size);have b8:Hid (∀i,i<m->wc.cell? ⟨sb,so+i,N⟩=Z (ue (d[i]?.getD tY))):=λi hi=>(bb.out.cell (p:=⟨sb,so+i,N⟩) HF.out.2.2.2.1).trans (HF.out.2.2.2.2 i (by have:=M.out.2.2.2;omega));have V:=Aa (Ab hX (Ab ai (Ab ba (Ab br (Ab L (Ab g1 (Ab g2 g3)))))));have aj:Hid (X≠S):=I3 hX ai (by decide);have b9:Hid (y≠S):=I3 ba ai (by decide);clear hX ai ba br L g1 g2 g3 a8 b4 b5 b0 p0 p1;go_wp2_with((refine oY wc rfl _ _ rfl S m sb so sc d rfl rfl V.out.2.1 M.out.2.2.2 b8.out ?_;intro W5 bs bc;have bt:=(V.out.1.only bc aj.out).cell 1;have ak:=Aa (Ab bs bc);simp only[Ad,Ac,Ag]at bt;clear bs bc));have HA:Hid (∀W,Cw (λb=>b=S) W5 W-> ∀i,i<m->tT prog 103 #[I U (i:Nat),J (Z ⟨E.heap.size,0,N⟩)] W λe w'=>e=ui (ue (row (l[i]?.getD i0).op).waits)/\tS W.heap.size W w'):=λW hO i hi=>by have F:Cw (λb=>b=S) wc W:=ak.out.2.andThen hO (λ_ _ h=>h);have bu:=V.out.2.2.2.2.2.1;have u:tS w.heap.size w W:=bb.out.trans (F.toBelow bb.out.size (λj hj=>by have e:j=S:=hj;have h1:=HS.out.below.size;omega));have ca:Cy W E.heap.size #[Y (Z ⟨cb,co,N⟩) m cc,Y (Z ⟨sb,so,N⟩) m sc] 87:=(s.out.2.below V.out.2.2.2.2.1 s.out.2.lt).only F (λe=>by omega);have cd:=((HF.out.2.2.1.below (u.mono (Al _))).2 i (by rw[HF.out.2.1];exact hi)).1;exact Tl E.heap.size cb co m cc i _ _ W ca cd hi (H0.out.1.below u)
    have cf:Hid (∀W,Cw (λb=>b=S) W5 W->W.cell? ⟨X,1,N⟩=Z (Y (Z ⟨S,0,N⟩) m m)):=λW hO=>((V.out.1.only ak.out.2 aj.out).only hO aj.out).cell 1;clear xa xb bt f1;go_loopw [32] (λt wr=> ∃j:Nat,j<=m/\t=I U j/\Cy wr S (Fj (IC l d j)) 4/\Cw (λb=>b=S) W5 wr) (λt _=>m-(intOf t).toNat)
    case atStart=>exact⟨0,Ap _,rfl,by rw[bG];exact ak.out.1,Cw.refl _ _⟩
    case round=>
     obtain⟨j,hj,rfl,C,D⟩:=hrel;by_cases ao:j<m
     ·have ax:(j:Int)<(m:Int):=by omega
      have aq:Hid (j<d.length):=by show j<d.length;rw[M.out.2.2.2];exact ao
      have HJ:=Aa (Ab C D);have c1:=HA.out wr D j ao;have hw:wrap64 ((j:Int)+1)=((j+1:Nat):Int):=by have:=M.out.2.1;unfold wrap64;omega
      have bw:Hid (∀W,Cw (λb=>b=S) wr W->Cy W S (Fj (IC l d j)) 4->W.cell? ⟨X,1,N⟩=Z (Y (Z ⟨S,0,N⟩) m m)/\W.frozen? ⟨S,j,N⟩=tY/\W.cell? ⟨S,j,N⟩=Z (ue ((IC l d j)[j]?.getD tY))):=λW hO hb=>⟨cf.out W (HJ.out.2.andThen hO (λ_ _ h=>h)),hb.free j,(hb.cell j).trans (bI _ _ (by rw[bJ _ _ _ (Nat.le_of_lt aq.out)];exact aq.out))⟩;have Q:Hid (∀W,Cw (λb=>b=S) wr W->Cy W S (Fj (IC l d j)) 4->(GZ l d j=tZ->Cy (W.setCell ⟨S,j,N⟩ (ue tZ)) S (Fj (IC l d (j+1))) 4/\Cw (λb=>b=S) W5 (W.setCell ⟨S,j,N⟩ (ue tZ)))/\(GZ l d j=d[j]?.getD tY->Cy W S (Fj (IC l d (j+1))) 4/\Cw (λb=>b=S) W5 W)):=λW hO hb=>⟨λh=>⟨by have:=hb.set j (ue tZ);have e:=Rr l d j aq.out;rw[h]at e;rw[XA,<-e]at this;exact this,(HJ.out.2.andThen hO (λ_ _ h=>h)).set (.inr rfl) _ _⟩,λh=>⟨by rw[bH l d j aq.out h];exact hb,HJ.out.2.andThen hO (λ_ _ h=>h)⟩⟩;cases A:(row (l[j]?.getD i0).op).waits
      ·rw[A]at c1
       have C1:=Aa c1;by_cases ar:j=0
       ·have G:Hid (GZ l d j=d[j]?.getD tY):=by show _=_;unfold GZ;rw[A,ar];simp
        clear c1 C D hj A ao ax;subst ar;have ax:(0:Int)<(m:Int):=by have:=M.out.1;omega
        go_wp2_with(go_at_call 103;go_loud (refine C1.out.mono ?_;rintro e w3⟨rfl,a⟩;have g:Cw (λb=>b=S) wr w3:=(Cw.refl _ _).below a;have c:=HJ.out.1.below a HJ.out.1.lt;have HE:=Aa ((Q.out w3 g c).2 G.out);clear a g c));have cg:=M.out.1;exact⟨⟨1,cg,rfl,HE.out.1,HE.out.2⟩,by simp[intOf];omega⟩
       ·have cm:(0:Int)<(j:Int):=by omega
        have e2:IntKind.i64.wrap ((j:Int)-1)=((j-1:Nat):Int):=by have:=M.out.2.1;rw[IntKind.wrap_i64];omega
        have bz:Hid (j-1<m):=by show j-1<m;omega
        cases aa:(row (l[j-1]?.getD i0).op).waits
        ·have G:Hid (GZ l d j=d[j]?.getD tY):=by show _=_;unfold GZ;rw[A,aa];simp
         have bd:=Aa aa;clear c1 C D hj A aa ar;go_wp2_with(go_at_call 103;first|(have hh:=o;refine(HA.out _ (HJ.out.2.andThen o.out.1 (λ_ _ h=>h)) (j-1) bz.out).mono ?_;rintro e w4⟨rfl,H⟩;rw[bd.out];have ab:Cw (λb=>b=S) wr w4:=o.out.1.below H;have HE:=Aa ((Q.out w4 ab (o.out.2.below H o.out.2.lt)).2 G.out);clear H ab hh)|(refine C1.out.mono ?_;rintro e w3⟨rfl,a⟩;have g:Cw (λb=>b=S) wr w3:=(Cw.refl _ _).below a;have c:=HJ.out.1.below a HJ.out.1.lt;have o:=Aa (Ab g c);clear a g c));rw[hw];exact⟨⟨j+1,by omega,rfl,HE.out.1,HE.out.2⟩,by simp[intOf];omega⟩
        ·have G:Hid (GZ l d j=tZ):=by show _=_;unfold GZ;rw[aa];have ch:0<j:=(by omega);simp[ch]
         have bd:=Aa aa;clear c1 C D hj A aa ar;go_wp2_with(go_at_call 103;first|(have hh:=o;refine(HA.out _ (HJ.out.2.andThen o.out.1 (λ_ _ h=>h)) (j-1) bz.out).mono ?_;rintro e w4⟨rfl,H⟩;rw[bd.out];have ab:Cw (λb=>b=S) wr w4:=o.out.1.below H;have bf:=o.out.2.below H o.out.2.lt;obtain⟨y1,y2,y3⟩:=bw.out w4 ab bf;have HE:=Aa ((Q.out w4 ab bf).1 G.out);clear H ab bf hh)|(refine C1.out.mono ?_;rintro e w3⟨rfl,a⟩;have g:Cw (λb=>b=S) wr w3:=(Cw.refl _ _).below a;have c:=HJ.out.1.below a HJ.out.1.lt;have o:=Aa (Ab g c);clear a g c));rw[hw];exact⟨⟨j+1,by omega,rfl,HE.out.1,HE.out.2⟩,by simp[intOf];omega⟩
      ·rw[A]at c1
       have C1:=Aa c1;have G:Hid (GZ l d j=tZ):=by show _=_;unfold GZ;rw[A];simp
       clear c1 C D hj A;go_wp2_with(go_at_call 103;go_loud (refine C1.out.mono ?_;rintro e w3⟨rfl,a⟩;have g:Cw (λb=>b=S) wr w3:=(Cw.refl _ _).below a;have c:=HJ.out.1.below a HJ.out.1.lt;obtain⟨y1,y2,y3⟩:=bw.out w3 g c;have HE:=Aa ((Q.out w3 g c).1 G.out);clear a g c));rw[hw];exact⟨⟨j+1,by omega,rfl,HE.out.1,HE.out.2⟩,by simp[intOf];omega⟩
     ·obtain rfl:j=m:=by omega
      have ay:j=d.length:=M.out.2.2.2.symm;rw[ay,hH]at C;clear ay;have F:Cw (λb=>b=S) wc wr:=ak.out.2.andThen D (λ_ _ h=>h);have bu:=V.out.2.2.2.2.2.1;have ad:tS E.heap.size E wr:=(s.out.1.trans (V.out.2.2.2.2.1.mono s.out.1.size)).trans (F.toBelow (AA s.out.1.size V.out.2.2.2.2.1.size) (λb hb=>by have e:b=S:=hb;omega));have u:tS w.heap.size w wr:=HS.out.below.trans (ad.mono HS.out.below.size);have bg:=V.out.1.only F aj.out;have b1:=V.out.2.2.1.only F b9.out;have hOut:Cy wr (w.heap.size+1) #[v] 26:=HS.out.out.below ad HS.out.out.lt;have ae:=CM HS.out.row ad;obtain⟨ra,rc,rfl⟩:=DD ae;have x0:=bg.cell 0;have x1:=bg.cell 1;have z0:=hOut.cell 0;have zl:=hOut.lt;simp only[Ad,Ac,Ag]at x0 x1 z0;have HG:=Aa (Ab ad (Ab u (Ab b1 (Ab C (Ab hOut ae)))));clear C D F bu ad u bg b1 hOut ae ao hj;go_wp2_with(at_builtin;go_loud (refine Iu underlying24 Pu rfl (by decide) (by decide) w.heap.size _ rfl _ _ rfl (.slice ra k rc) k xs ⟨wr.heap.size,0,N⟩ 1 [Y (Z ⟨y,0,N⟩) j z,Y (Z ⟨S,0,N⟩) j j] rfl rfl (.inl (CM HG.out.2.2.2.2.2 (Cu (tU _ _) _))) rfl (oZ wr _ _ 87) (by simp[Value.oneCell']) (by have:=HG.out.2.1.size;simp;omega) (by have:=H0.out.2.2.2;omega) ?_;intro v' w5 hA;obtain⟨g5,c5,rfl⟩:=hA.some;have au:Cy w5 (w.heap.size+1) #[.slice ra k rc] 26:=(KT.grown (T:=[87]) (CM HG.out.2.2.2.2.2 (Cu (tU _ _) _)) hA.2.1 (by decide)).keep (HG.out.2.2.2.2.1.alloc _) (by decide);have z5:=au.cell 0;have zf:=au.free 0;have av:=Aa (Ab hA au);simp only[Ad,Ac]at z5;clear hA au));have hw:wrap64 ((k:Int)+1)=((k+1:Nat):Int):=by have:=H0.out.2.2.2;unfold wrap64;omega
      rw[hw];have hg:=HG.out;have hA:=av.out.1;have K:KT [87,26] wr (w5.setCell ⟨w.heap.size+1,0,N⟩ (Y (Z ⟨g5,0,N⟩) (k+1) c5)):=((KT.below (Cu (tU _ _) _)).trans (KT.grown (CM hg.2.2.2.2.2 (Cu (tU _ _) _)) hA.2.1 (by decide))).trans (KT.set av.out.2 (by decide) 0 _);have b2:xs.length=k*2:=hg.2.2.2.2.2.1;have s1:=HS.out.below.size;refine⟨⟨k+1,Y (Z ⟨g5,0,N⟩) (k+1) c5,xs++[Y (Z ⟨y,0,N⟩) j z,Y (Z ⟨S,0,N⟩) j j],af,rfl,⟨(CK (Cu hg.2.1 _) hA.2.1 (λb hb=>(AB hg.2.2.2.2.2 b hb).1)).setCell (Bh _) _,av.out.2.set 0 _,(KT.set (T:=[26]) av.out.2 (by decide) 0 _).row hA.1 (by decide),λi hi=>?_⟩⟩,by simp[intOf];omega⟩;by_cases cj:i<k
      ·have e1:(xs++[Y (Z ⟨y,0,N⟩) j z,Y (Z ⟨S,0,N⟩) j j]:List tR)[i*2]?=xs[i*2]?:=Aw (by omega)
       have e2:(xs++[Y (Z ⟨y,0,N⟩) j z,Y (Z ⟨S,0,N⟩) j j]:List tR)[i*2+1]?=xs[i*2+1]?:=Aw (by omega);rw[e1,e2];exact((HS.out.fns i cj).kt (KT.below (T:=[]) hg.1) (by decide) (by decide)).kt K (by decide) (by decide)
      ·obtain rfl:i=k:=by omega
       have e1:(xs++[Y (Z ⟨y,0,N⟩) j z,Y (Z ⟨S,0,N⟩) j j]:List tR)[i*2]?=Z (Y (Z ⟨y,0,N⟩) j z):=by rw[Ar (by omega),b2,Bj];rfl
       have e2:(xs++[Y (Z ⟨y,0,N⟩) j z,Y (Z ⟨S,0,N⟩) j j]:List tR)[i*2+1]?=Z (Y (Z ⟨S,0,N⟩) j j):=by rw[Ar (by omega),b2,Nat.add_sub_cancel_left];rfl
       have e3:(Hm l d).length=j:=by rw[Hn];exact M.out.2.2.2
       rw[e1,e2,HF.out.1];refine⟨⟨y,z,P,?_,K.keep hg.2.2.1 (by decide),by have:=V.out.2.2.2.2.2.2.1;omega,?_⟩,⟨S,?_,K.keep hg.2.2.2.1 (by decide),by have:=V.out.2.2.2.2.2.1;omega⟩⟩
       ·show _=Value.slice _ l.length z
        rw[HF.out.2.1];rfl
       ·show P.toList.take (l.length*5)=F6 l
        rw[HF.out.2.1];exact V.out.2.2.2.1
       ·show _=Value.slice _ (Hm l d).length (Hm l d).length
        rw[e3];rfl
  ·obtain rfl:k=np:=by omega
   obtain⟨ra,rc,rfl⟩:=DD hS.row;have z0:=hS.out.cell 0;have zf:=hS.out.free 0;simp only[Ad,Ac]at z0;have HF:=Aa hS;clear hS af hk;go_wp2;have c0:=(HF.out.out.set 0 (.slice ra k rc)).cell 0;simp only[BK,Bv,Ad,Ac]at c0;exact AM (v:=uk #[.slice ra k rc]) (by simp[results,results39,go_sem,c0]) rfl ⟨_,xs,rfl,by rw[az.out];exact HF.out.set⟩
end
open QO (La NF EK)
variable {w wr w':rO}{cur:Array tR}{sb sc base:Nat}{p:List (List CP×List Bool)}{v:tR}{xs:List tR}
theorem bM{b:Nat}{l:List CP}(c:Cy w b cur 84)(d:cur.toList.take (l.length*5)=F6 l):ER w b 0 l:=by
 refine⟨c.lt,λi e=>?_⟩;have a: ∀r,r<5->w.cell? ⟨b,i*5+r,N⟩=(Nq (l[i]?.getD i0))[r]?:=λr f=>by rw[c.cell,<-Bm,<-AN (show i*5+r<l.length*5 by omega),d];exact Nr l i r e f
 simp only[AJ];exact⟨a 0 (by decide),a 1 (by decide),a 2 (by decide),a 3 (by decide),a 4 (by decide)⟩
theorem lZ{sf:List Bool}(a:Cy w sb cur 4)(c:cur.toList.take sf.length=sf.map ue):FU.Bs w (Y (Z ⟨sb,0,N⟩) sf.length sc) sf:=by refine⟨sb,0,sc,rfl,a.lt,λi b=>?_⟩;rw[AJ,a.cell,<-Bm,<-AN b,c];simp[b]
theorem bN{sf:List Bool}(a:Cy w sb (Fj sf) 4):FU.Bs w (Y (Z ⟨sb,0,N⟩) sf.length sc) sf:=lZ a (by rw[Fj];exact AL (by simp))
structure sr (w:rO) (x y:tR) (l:List CP) (sf:List Bool):Prop where
 code: ∃cb cc,x=Y (Z ⟨cb,0,N⟩) l.length cc/\ ∃cur,Cy w cb cur 84/\cur.toList.take (l.length*5)=F6 l
 safe: ∃sb,y=Y (Z ⟨sb,0,N⟩) sf.length sf.length/\Cy w sb (Fj sf) 4
theorem Ou(e:wr.ownsRow base 87 2 v p.length xs)(h:0<p.length)(l: ∀i,i<p.length->sr wr (xs[i*2]?.getD undef) (xs[i*2+1]?.getD undef) (p[i]?.getD ([],[])).1 (p[i]?.getD ([],[])).2): ∃a c,v=Y (Z ⟨a,0,N⟩) p.length c/\base<=a/\Ha wr a 0 p:=by
 obtain⟨a,c,cur,m,d,f,n⟩:=Et e h;have b: ∀j,j<p.length*2->wr.cell? ⟨a,j,N⟩=xs[j]?:=λj o=>by rw[f.cell,<-Bm,<-AN o,n]
 have q:xs.length=p.length*2:=e.1;refine⟨a,c,m,d,f.lt,λk r=>?_⟩;obtain⟨⟨s,t,u,g,w,t1⟩,⟨sb,x,y⟩⟩:=l k r;have s1:xs[k*2]?=Z (xs[k*2]?.getD undef):=by rw[Ae (by omega)];rfl
 have s2:xs[k*2+1]?=Z (xs[k*2+1]?.getD undef):=by rw[Ae (by omega)];rfl
 refine⟨s,0,t,sb,0,(p[k]?.getD ([],[])).2.length,?_,?_,bM w t1,bN y⟩
 ·rw[AJ,b _ (by omega),s1,u]
 ·rw[AJ,b _ (by omega),s2,x]
theorem lY.pa{W:rO}(h:lY w p p.length v xs wr)(q:0<p.length)(K:KT [26] wr W): ∃c f,v=Y (Z ⟨c,0,N⟩) p.length f/\w.heap.size<=c/\Ha W c 0 (p.map JK):=by
 have e:(p.map JK).length=p.length:=A9 _;have k:=Ou (wr:=W) (base:=w.heap.size) (v:=v) (xs:=xs) (p:=p.map JK) (by rw[e];exact K.row h.row (by decide)) (by omega) (λi r=>by
  have a:i<p.length:=by omega
  have d:(p.map JK)[i]?.getD ([],[])=JK (p[i]?.getD ([],[])):=by simp[a]
  rw[d];obtain⟨⟨g,j,b,l,m,g1,t1⟩,⟨sb,n,o,g2⟩⟩:=(h.fns i a).kt K (by decide) (by decide);exact⟨⟨g,j,l,b,m,t1⟩,⟨sb,n,o⟩⟩)
 rw[e]at k;exact k
def Ns(x:Int×Int):CP:=⟨x.1,0,0,0,x.2⟩
theorem Rt: ∀l:List (Int×Int),F6 (l.map Ns)=l.flatMap La
 | []=>rfl
 |x::l=>by rw[Zcd,BE];show Nq (Ns x)++F6 (l.map Ns)=_;rw[Rt l];rfl
theorem KT.only{S:Nat->Prop}{T:List uf}(o:Cw S w w')(h: ∀j,S j-> ∃cs t,Cy w j cs t/\t∈T):KT T w w':=⟨o.size,λa b=>a.only o (λc=>by obtain⟨cs,t,d,e⟩:=h _ c;exact b (DV a d▸e))⟩
theorem TN(m:Nat):madeCells #[ue tY] m=Fj (tW m tY):=by
 apply Array.ext';rw[Fj,madeCells,Array.toList_map,Array.toList_range];refine BI λj=>?_;rw[AZ,List.map_replicate,BM];rcases Bc j m with a|a
 ·rw[Ai a,List.getElem?_range a]
  show Z ((#[ue tY]:Array tR)[j%1]!)=_;rw[Nat.mod_one];rfl
 ·rw[Ah (by omega),A0 (by simpa using a)]
  rfl
theorem l8{mk n lb lc:Nat}{l:List (Int×Int)}{e:uh}(f:Cy w mk #[J N,v] 96)(g:w.ownsRow base 87 2 v n xs)(i:Cy w lb cur 84)(k:cur.toList.take (l.length*5)=l.flatMap La)(h:NF mk n l.length base v (Y (Z ⟨lb,0,N⟩) l.length lc) xs w e w'): ∃a y,e=ui (uo #[])/\Cy w' mk #[J N,a] 96/\w'.ownsRow base 87 2 a (n+1) (xs++[Y (Z ⟨lb,0,N⟩) l.length lc,y])/\sr w' (Y (Z ⟨lb,0,N⟩) l.length lc) y (l.map Ns) (tW l.length tY)/\KT [96,87] w w'/\Cw (λj=>j=mk\/v.ownBlock=Z j) w w'/\a.ownBlock≠Z mk/\ ∃sb,y=Y (Z ⟨sb,0,N⟩) l.length l.length/\w.heap.size<=sb:=by
 obtain⟨rfl,a,sb,m,o,p,q,d,r⟩:=h;have K:KT [96,87] w w':=KT.only d (λj b=>by
  rcases b with rfl|b
  ·exact⟨_,96,f,by decide⟩
  ·obtain⟨cs,c⟩:=D6 g b
   exact⟨cs,87,c,by decide⟩)
 refine⟨a,_,rfl,m,o,⟨⟨lb,lc,by rw[A9],cur,K.keep i (by decide),by rw[A9,Rt];exact k⟩,⟨sb,by rw[Ci],by rw[<-TN];exact q⟩⟩,K,d,r,sb,rfl,p⟩
end D8
end Go.Proofs.YtgadhchejmlfjaaGreatDoor
