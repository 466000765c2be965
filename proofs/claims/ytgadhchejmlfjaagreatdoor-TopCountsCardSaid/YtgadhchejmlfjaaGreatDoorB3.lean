/- A part of the proof. -/
import Derived.Test.YtgadhchejmlfjaaGreatDoorB1
import Derived.Test.YtgadhchejmlfjaaGreatDoorB2
set_option linter.unusedVariables false
set_option maxRecDepth 20000
set_option maxHeartbeats 16000000
open Go.Value renaming int->I,pointer->J,slice->Y
open Go.IntKind renaming i64->U
open Option renaming none->N,some->Z
open Bool renaming false->tY,true->tZ
open Go renaming Calls->tT,Value->tR,World->rO
open Go.Ending renaming returned->ui
open Go.Obj renaming cells->uj
open Go.RowKit renaming Below->tS
open Go.RowKit.Below renaming refl->tU
open Go.Value renaming agg->uk,bool->ue,ownBlock->ud,string->um,tuple->uo
open Go.World renaming setCell->tV
open List renaming replicate->tW
open Go.Proofs.Tryz Go.RowKit Go.CN
namespace Go.Proofs.YtgadhchejmlfjaaGreatDoor
namespace Fq
open Go.Proofs.Tryz
open Go.Shelf Go.Proofs Go.RowKit Go.CN
variable {w w':rO}
theorem jC(B b:Nat)(a:List tR)(s:ByteArray)(w:rO)(h:Lib.IsBuilderF 152 5 B b a w)(hlen:a.length+s.size<=140737488355328)(c:B<=w.heap.size):tT prog 70 #[J (Z ⟨b,0,N⟩),um s] w λe w'=>e=ui (uo #[I U s.size,.nilIface])/\(Lib.BuilderAtF 152 5 B b (J (Z ⟨b,0,N⟩)) (a++Lib.strCells s) w'/\tS B w w'/\Lib.OthersKept 5 (Z b) w w'):=Any.Builder_WriteString_k {KA with} DX B b a s w h hlen c
theorem oR(B b:Nat)(l:List UInt8)(w:rO)(h:Lib.IsBuilderF 152 5 B b (Lib.byteCells l) w)(a:B<=w.heap.size):tT prog 72 #[J (Z ⟨b,0,N⟩)] w λe w'=>e=ui (um ⟨l.toArray⟩)/\tS B w w':=(Any.Builder_String_any_k {KA with} DX B b l w h a).mono λe w' h=>⟨h.1,h.2.2.1⟩
theorem J8{T e:TypeId}{B b:Nat}{a:List tR}(h:Lib.IsBuilderF T e B b a w)(d:tS w.heap.size w w'):Lib.IsBuilderF T e B b a w':=by
 have go: ∀p,Lib.BuilderAtF T e B b p a w->Lib.BuilderAtF T e B b p a w':=λp h=>by obtain⟨g,v,f,i,j⟩:=h;have c:b<w.heap.size:=lt_of_block f;exact⟨g,v,(d.block b c).trans f,i.kept (EV d N) (Classical.em _),j⟩
 rcases h with h|h
 ·exact .inl (go _ h)
 ·exact .inr (go _ h)
theorem Nn{b j:Nat}{cs:Array tR}{t:TypeId}(h:Lib.OthersKept 5 (Z b) w w')(a:Cy w j cs t)(d:j≠b)(f:t≠5):Cy w' j cs t:=h j _ a (λe=>d (Ba e)) (λc g e=>by cases e;exact f rfl)
end Fq
namespace D1
open D3 (row rows Laid Di)
open Vm (CP)
open dW (F5)
variable {W w3 w0:rO}{v v':tR}{ws:List (List UInt8)}{a:List UInt8}{cs:Array tR}
theorem join_eq(c:UInt8): ∀l:List (List UInt8),Lib.join l [c]=Dl c l
 | []=>by simp[Lib.join,Dl,List.intercalate]
 | [a]=>by rw[Lib.join_one];rfl
 |a::b::l=>by have d:=join_eq c (b::l);rw[Dl,<-d,Lib.join_cons,Lib.join_cons];simp[Lib.joinTail]
theorem LS:(prog.info? 9).map (λi=>(i.zero,i.size,i.bytes))=Z (Z (um ⟨#[]⟩),1,16):=by kernel_rfl
def sc(l:List (List UInt8)):List Value:=l.map λa=>um ⟨a.toArray⟩
theorem Pt(l:List (List UInt8))(a:List UInt8):sc (l++[a])=sc l++[um ⟨a.toArray⟩]:=by simp[sc]
theorem EW(w:rO)(x:tR)(t:TypeId): ∀(j:Nat)(u:tR),[x][j]?=Z u->(w.alloc (uj #[x] t)).cell? ((⟨w.heap.size,0,N⟩:Addr).add j)=Z u:=by have h:=Cy.new w #[x] t;intro j u hu;rw[show((⟨w.heap.size,0,N⟩:Addr).add j)=⟨w.heap.size,j,N⟩from by rw[AE,AJ]];rw[h.cell j,<-hu];simp
theorem Hl(l:List (List UInt8))(v:tR)(base:Nat)(w:rO)(h:w.ownsRow base 9 1 v l.length (sc l))(k:l≠[])(r:l.length<=100)(m:(Dl 32 l).length<=140737488355328):tT prog 80 #[v,um ⟨#[32]⟩] w λe n=>e=ui (um ⟨(Dl 32 l).toArray⟩)/\tS w.heap.size w n:=by
 rcases C6 h with⟨rfl,o⟩|⟨g,cap,rfl,s,t,p,q⟩
 ·exact absurd (Bl.1 o) k
 ·have c:=(AB h g rfl).2
  have f:(l.map λa=>(⟨a.toArray⟩:ByteArray)).map (·.data.toList)=l:=by rw[List.map_map,show((λx:ByteArray=>x.data.toList)∘λa:List UInt8=>(⟨a.toArray⟩:ByteArray))=id from by funext a;simp,List.map_id]
  have i:=Fq.join g 0 cap (l.map λa=>⟨a.toArray⟩) ⟨#[32]⟩ w (λj x d=>by
   have b:j<l.length:=by have:=(Af.1 d).1;simpa using this
   rw[AJ,q j (by omega)];simp only[AZ,Ae b,BJ,Ak]at d;simp[sc,b,d]) c (by simp;omega) (by simpa using p) (by rw[f,show(⟨#[32]⟩:ByteArray).data.toList=[32]from rfl,join_eq];exact m)
  rw[f,show(⟨#[32]⟩:ByteArray).data.toList=[32]from rfl,join_eq,A9]at i;exact i
theorem Jq{base:Nat}(b:Du W base 9 1 v ws.length (sc ws) [um ⟨a.toArray⟩] v' w3):w3.ownsRow base 9 1 v' (ws++[a]).length (sc (ws++[a])):=by rw[Pt,Au];exact b.1
structure TH (w0:rO) (cs:Array tR) (v:tR) (ws:List (List UInt8)) (W:rO):Prop where
 below:tS w0.heap.size w0 W
 ins:Cy W w0.heap.size cs 84
 row:W.ownsRow w0.heap.size 9 1 v ws.length (sc ws)
theorem TH.go{W':rO}(h:TH w0 cs v ws W)(a:tS W.heap.size W W'):TH w0 cs v ws W':=⟨h.below.trans (a.mono h.below.size),h.ins.below a h.ins.lt,CM h.row a⟩
theorem TH.app(h:TH w0 cs v ws W)(c:v.ownBlock≠Z w0.heap.size)(b:Du W w0.heap.size 9 1 v ws.length (sc ws) [um ⟨a.toArray⟩] v' w3):TH w0 cs v' (ws++[a]) w3:=⟨CK h.below b.2.1 (λj d=>(AB h.row j d).1),h.ins.kept b.2.1 (λe=>c e.symm),Jq b⟩
theorem TH.lN(h:TH w0 cs v ws W)(c:v.ownBlock≠Z w0.heap.size)(d:Du W w0.heap.size 9 1 v ws.length (sc ws) [um ⟨a.toArray⟩] v' w3):v'.ownBlock≠Z w0.heap.size:=λe=>by
 rcases d.2.2 _ e with b|b
 ·exact c b
 ·have:=h.ins.lt;omega
theorem TH.arr{ys:List tR}{b:Nat}{ds:Array tR}(h:TH w0 cs v ws W)(a:Cy W b ds 237)(c:Du W w0.heap.size 9 1 v ws.length (sc ws) ys v' w3):Cy w3 b ds 237:=a.kept c.2.1 (λe=>by obtain⟨d,q⟩:=D6 h.row e.symm;exact absurd (DV q a) (by decide))
structure rm (i:CP):Prop where
 ok:JJ i
 bare:D8.Gf i.op i.a i.b i.c (if(row i.op).target=0 then i.n else 0) 1 1=tZ
theorem Xt(i:CP)(sf:Bool)(w:rO)(hL:Laid w)(hp:Fq.Pow w)(h:rm i):tT prog 71 #[uk #[I U i.op,I U i.a,I U i.b,I U i.c,I U i.n],ue sf] w λe w'=>e=ui (uo #[um ⟨(FO i sf).toArray⟩,I U 0])/\tS w.heap.size w w':=by
 have E:=M6 h.ok.op;obtain⟨r,hr⟩: ∃r:Nat,(row i.op).CO=r:=⟨(row i.op).CO.toNat,by have:=E.CO;omega⟩;have ar:r<=3:=by have:=E.CO;omega
 have j:=Lb i sf;have p:(Dl 32 (EP i sf)).length<=138:=(Jk (sf:=sf) h.ok).2.1;have s: ∀k,k<3->0<= [i.a,i.b,i.c][k]?.getD 0/\[i.a,i.b,i.c][k]?.getD 0<8:=λk hk=>h.ok.CO _ (by rw[Ae (show k< [i.a,i.b,i.c].length from hk)];exact BQ _);have hn:=h.ok.n;have g:=h.bare;unfold FO;unfold EP at j p⊢;rw[show(row i.op).CO.toNat=r by rw[hr];simp]at j p⊢;obtain⟨op,a,b,c,n⟩:=i;simp only at E hr s hn g j p⊢;have au: ∀k,k<r->(([a,b,c].take (k+1)).map EH=([a,b,c].take k).map EH++[EH ([a,b,c][k]?.getD 0)])/\(#[I U a,I U b,I U c]:Array tR)[k]?=Z (I U ([a,b,c][k]?.getD 0)):=λk hk=>by rcases(show k=0\/k=1\/k=2 by omega)with rfl|rfl|rfl<;>exact⟨rfl,rfl⟩
 obtain⟨F,aa⟩: ∃F,(row op).name=F:=⟨_,rfl⟩;obtain⟨lb,ab⟩: ∃lb,F5 op=lb:=⟨_,rfl⟩;obtain⟨tg,ad⟩: ∃tg,(row op).target=tg:=⟨_,rfl⟩;rw[aa,ab]at j p⊢;rw[ad]at g;obtain⟨ps,ae⟩: ∃ps:List (List UInt8),(if sf then [[42]]else [])=ps:=⟨_,rfl⟩
 rw[ae]at j p⊢;have av:=Aa ae;obtain⟨d,hJ⟩: ∃d,Dl 32 (ps++F::(([a,b,c].take r).map EH++if lb then [Lib.itoa n]else []))=d:=⟨_,rfl⟩
 rw[hJ];have HJ:=Aa hJ;have G:=Aa (Ab hL hp);have C:=Aa (Ab hr (Ab aa (Ab ab ad)));have HN:=Aa hn;have af:=Aa (Ab au s);have a7:=Aa ar;have ag:=Aa (Ab j p);have a8:((tg !=0)=tY/\D8.Gf op a b c n 1 1=tZ)\/((tg !=0)=tZ/\D8.Gf op a b c 0 1 1=tZ):=by
  by_cases q:tg=0
  ·rw[Ai q]at g;exact .inl ⟨by simp[q],g⟩
  ·rw[Ah q]at g;exact .inr ⟨by simp[q],g⟩
 obtain⟨H,K,T⟩: ∃H:Int,H=r/\(r=0/\H=0\/r=1/\H=1\/r=2/\H=2\/r=3/\H=3):=⟨r,rfl,by omega⟩;have HI:=Aa K;have s0: ∀(b:Nat)(W:rO),(Instr.sliceAt 237 (J (Z ⟨b,0,N⟩)) N (Z (I U H)) N).run prog W= .ok (Y (Z ⟨b,0,N⟩) r 3) W:=λb W=>by rcases T with⟨rfl,rfl⟩|⟨rfl,rfl⟩|⟨rfl,rfl⟩|⟨rfl,rfl⟩<;>kernel_rfl
 have aw:tS w.heap.size w ((w.alloc (uj #[I U op,I U a,I U b,I U c,I U n] 84)).alloc (uj #[I U op,I U a,I U b,I U c,I U n] 84)):=Cu (Cu (tU _ _) _) _;have b1:Cy ((w.alloc (uj #[I U op,I U a,I U b,I U c,I U n] 84)).alloc (uj #[I U op,I U a,I U b,I U c,I U n] 84)) w.heap.size #[I U op,I U a,I U b,I U c,I U n] 84:=(Cy.new w _ 84).below (Cu (tU _ _) _) (by simp);have b2:Cy ((w.alloc (uj #[I U op,I U a,I U b,I U c,I U n] 84)).alloc (uj #[I U op,I U a,I U b,I U c,I U n] 84)) (w.heap.size+1) #[I U op,I U a,I U b,I U c,I U n] 84:=by have:=Cy.new (w.alloc (uj #[I U op,I U a,I U b,I U c,I U n] 84)) #[I U op,I U a,I U b,I U c,I U n] 84;simpa using this
 have m:=Aa (Ab aw (Ab b1 b2));clear hL hp h E hr ar j p s hn g au aa ab ad K T ae hJ aw b1 b2;go_enter func71,ntmps71;rcases a8 with⟨ht,hc⟩|⟨ht,hc⟩<;>cases sf
 all_goals
  have HC:=Aa hc;clear hc;go_wp2_with(first|(go_at_call 130;refine(D3.Mw op _ (G.out.1.below m.out.1)).mono ?_;rintro e w1⟨rfl,f⟩;rw[C.out.2.2.2];have k1:=m.out.2.1.below f m.out.2.1.lt;have k2:=m.out.2.2.below f m.out.2.2.lt;have ah:=m.out.1.trans (f.mono m.out.1.size);have A:=Aa (Ab ah k1);have B:=Aa (Ab (ah.setCell (Bh _) (I U 0):tS w.heap.size w (w1.setCell ⟨w.heap.size+1,4,N⟩ (I U 0))) (k1.setOther (i:=4) (by omega) (I U 0):Cy (w1.setCell ⟨w.heap.size+1,4,N⟩ (I U 0)) w.heap.size _ 84));have q0:=k2.cell 0;have q1:=k2.cell 1;have q2:=k2.cell 2;have q3:=k2.cell 3;have q4:=k2.cell 4;have z4:=k2.free 4;have k3:=k2.set 4 (I U 0);have r0:=k3.cell 0;have r1:=k3.cell 1;have r2:=k3.cell 2;have r3:=k3.cell 3;have r4:=k3.cell 4;simp only[BK,Bv,Ck,Ad,Ac,Ag]at q0 q1 q2 q3 q4 r0 r1 r2 r3 r4;clear f k1 k2 k3 ah)|(go_at_call 131;first|(refine(D8.Jj op a b c n 1 1 _ (G.out.1.below A.out.1) HC.out (by decide) (by decide) (by have:=HN.out.2;omega)).mono ?_;rintro e L⟨rfl,f⟩;have k1:=A.out.2.below f A.out.2.lt;have u:Hid (TH w _ (Y N 0 0) [] L):=⟨A.out.1.trans (f.mono A.out.1.size),k1,AH _ _ _ _⟩;have q5:=k1.cell 0;simp only[Ad,Ac]at q5;clear f k1 q0 q1 q2 q3 q4 r0 r1 r2 r3 r4 z4)|(refine(D8.Jj op a b c 0 1 1 _ (G.out.1.below B.out.1) HC.out (by decide) (by decide) (by decide)).mono ?_;rintro e L⟨rfl,f⟩;have k1:=B.out.2.below f B.out.2.lt;have u:Hid (TH w _ (Y N 0 0) [] L):=⟨B.out.1.trans (f.mono B.out.1.size),k1,AH _ _ _ _⟩;have q5:=k1.cell 0;simp only[Ad,Ac]at q5;clear f k1 q0 q1 q2 q3 q4 r0 r1 r2 r3 r4 z4))|(go_at_call 132;first|(have hh:=M;refine(D3.PR op _ (G.out.1.below M.out.below)).mono ?_;rintro e w4⟨rfl,f⟩;rw[C.out.2.1];have v:=Aa (M.out.go f);clear f hh)|(refine(D3.PR op _ (G.out.1.below u.out.below)).mono ?_;rintro e w4⟨rfl,f⟩;rw[C.out.2.1];have v:=Aa (u.out.go f);have ai:Hid ((Y N 0 0).ownBlock≠Z w.heap.size):=(λe=>(by simp[ud]at e));clear f))|(at_builtin;first|(have hh:=v;refine Iu underlying170 LS rfl (by decide) (by decide) w.heap.size _ rfl _ _ rfl _ _ _ ⟨w4.heap.size,0,N⟩ 1 [um ⟨F.toArray⟩] rfl rfl (.inl (CM v.out.row (Cu (tU _ _) _))) rfl (EW w4 _ 9) (by simp[Value.oneCell']) (by have:=v.out.below.size;simp;omega) (by simp) ?_;intro v5 w5 y;have ba:=Aa ((v.out.go (Cu (tU w4.heap.size w4) (uj #[um ⟨F.toArray⟩] 9))).lN ai.out y);have D:=Aa ((v.out.go (Cu (tU w4.heap.size w4) (uj #[um ⟨F.toArray⟩] 9))).app ai.out y);have p1:=D.out.ins.cell 1;have p2:=D.out.ins.cell 2;have p3:=D.out.ins.cell 3;simp only[Ad,Ac,Ag]at p1 p2 p3;have O:Hid (TH w _ v5 _ (w5.alloc (uj #[I U a,I U b,I U c] 237))):=D.out.go (Cu (tU _ _) _);have x0:=O.out.ins.cell 0;simp only[Ad,Ac]at x0;clear y hh)|(refine Iu underlying170 LS rfl (by decide) (by decide) w.heap.size _ rfl _ _ rfl (Y N 0 0) 0 [] ⟨L.heap.size,0,N⟩ 1 [um ⟨#[42]⟩] rfl rfl (.inl (AH _ _ _ _)) rfl (EW L _ 9) (by simp[Value.oneCell']) (by have:=u.out.below.size;simp;omega) (by simp) ?_;intro v3 w3 y;have ai:=Aa ((u.out.go (Cu (tU L.heap.size L) (uj #[um ⟨#[42]⟩] 9))).lN (a:=[42]) (by simp[ud]) y);have M:=Aa ((u.out.go (Cu (tU L.heap.size L) (uj #[um ⟨#[42]⟩] 9))).app (a:=[42]) (by simp[ud]) y);have p9:=M.out.ins.cell 0;simp only[Ad,Ac]at p9;clear y))|(go_at_call 133;refine(D3.PS op _ (G.out.1.below O.out.below)).mono ?_;rintro e w6⟨rfl,f⟩;rw[C.out.1,<-HI.out];have ax:=Aa (O.out.go f);have hz:=(Cy.new w5 #[I U a,I U b,I U c] 237).below f (by simp);have bb:=Aa hz;clear f hz));clear s0 q5 p1 p2 p3 x0;try clear p9
  obtain⟨pre,V,HW⟩: ∃pre,Hid (ps++[F]=pre)/\Hid (TH w _ v5 pre w6):=⟨_,(by show ps++[F]=_;rw[<-av.out];rfl),ax⟩;have hE: ∀X,ps++F::X=pre++X:=λX=>by rw[<-V.out];simp
  have P:=ag.out;have hJ:=HJ.out;rw[hE]at P hJ;have HJ:=Aa hJ;have bc:Hid (pre.length<=6):=by have:=P.1.2;rw[Au]at this;show pre.length<=6;omega
  have ag:=Aa P;clear ax O D v u A B m hE P hJ V av;generalize w5.heap.size=zb at*
  rw[<-HI.out];go_loopw [7,42] (λt7 t42 wr=> ∃k:Nat,k<=r/\t42=I U k/\TH w #[I U op,I U a,I U b,I U c,I U n] t7 (pre++([a,b,c].take k).map EH) wr/\Cy wr zb #[I U a,I U b,I U c] 237/\t7.ownBlock≠Z w.heap.size) (λ_ t _=>r-(intOf t).toNat)
  case atStart=>exact⟨0,Ap _,rfl,by simpa using HW.out,bb.out,ba.out⟩
  case round=>
   obtain⟨k,hk,rfl,hl,hz,hv⟩:=hrel;by_cases aj:k<r
   ·have ak:(k:Int)<H:=by rw[HI.out];omega
    have ao:k<3:=by have:=a7.out;omega
    have z0:=hz.cell k;rw[(af.out.1 k aj).2]at z0;have HX:=Aa (Ab (af.out.1 k aj).1 (Ab (af.out.2 k ao) ao));obtain⟨x,hx⟩: ∃x,[a,b,c][k]?.getD 0=x:=⟨_,rfl⟩;rw[hx]at z0 HX;obtain⟨wk,o⟩: ∃wk,pre++([a,b,c].take k).map EH=wk:=⟨_,rfl⟩;have j:wk.length<100000000:=by rw[<-o,Au,A9,AY];have:=bc.out;omega
    rw[o]at hl;have ay:=Aa (Ab o j);have Q:=Aa hl;have HZ:=Aa hz;have HV:=Aa hv;have K:=CY x ⟨by have:=HX.out.2.1;omega,by have:=HX.out.2.1;omega⟩;have hlen: ¬9223372036854775807<1+(Lib.itoa x).length:=by omega
    have bd:(⟨#[114]⟩:ByteArray)++⟨(Lib.itoa x).toArray⟩=⟨(EH x).toArray⟩:=Dh [114] (Lib.itoa x);clear hl hz hv hk ao hx o j K;go_wp2_with(first|(go_at_call 134;refine(Fq.itoa x (by have:=HX.out.2.1;omega) (by have:=HX.out.2.1;omega) wr (Pow.below G.out.2 Q.out.below)).mono ?_;rintro e w7⟨rfl,f⟩;have l:=Aa (Q.out.go f);have az:=Aa (HZ.out.below f HZ.out.lt);clear f)|(at_builtin;(refine Iu underlying170 LS rfl (by decide) (by decide) w.heap.size _ rfl _ _ rfl _ _ _ ⟨w7.heap.size,0,N⟩ 1 [um ⟨(EH x).toArray⟩] rfl rfl (.inl (CM l.out.row (Cu (tU _ _) _))) rfl (by first|exact EW w7 _ 9|(rw[bd];exact EW w7 _ 9)) (by simp[Value.oneCell']) (by have:=l.out.below.size;simp;omega) ay.out.2 ?_;intro v9 w9 y;have R:=l.out.go (Cu (tU w7.heap.size w7) (uj #[um ⟨(EH x).toArray⟩] 9));have bf:=Aa (R.app HV.out y);have bg:=Aa (R.lN HV.out y);have bh:=Aa (R.arr (az.out.below (Cu (tU w7.heap.size w7) (uj #[um ⟨(EH x).toArray⟩] 9)) az.out.lt) y);clear y R)));have hw:wrap64 ((k:Int)+1)=((k+1:Nat):Int):=by have:=HX.out.2.2;unfold wrap64;omega
    rw[hw];refine⟨⟨k+1,by rw[HI.out]at ak;omega,rfl,?_,bh.out,bg.out⟩,by rw[HI.out]at ak;simp[intOf];omega⟩;rw[HX.out.1,<-AU,ay.out.1];exact bf.out
   ·obtain rfl:k=r:=by omega
    have ak: ¬(k:Int)<H:=by rw[HI.out];omega
    obtain⟨wk,o⟩: ∃wk,pre++([a,b,c].take k).map EH=wk:=⟨_,rfl⟩;have HS:=Ab ag.out HJ.out;rw[<-AU,o]at HS;rw[o]at hl;have Q:=Aa hl;have y0:=hl.ins.cell 0;simp only[Ad,Ac]at y0;have a1:=Aa (dW.QK op wr (G.out.1.below hl.below));rw[C.out.2.2.1]at a1;have HV:=Aa hv;clear hl hz hv hk aj o;cases lb<;>simp only[A6,BD,Bn,BW]at HS
    all_goals
     have z:=Aa HS;clear HS;go_wp2_with(first|(go_at_call 135;refine a1.out.mono ?_;rintro e w7⟨rfl,f⟩;have l:=Aa (Q.out.go f);have y4:=l.out.ins.cell 4;simp only[Ad,Ac,Ag]at y4;clear f)|(go_at_call 136;refine(Fq.qP n HN.out.1 (by have:=HN.out.2;omega) _ (Pow.below G.out.2 l.out.below)).mono ?_;rintro e w8⟨rfl,f⟩;have aq:=Aa (l.out.go f);clear f)|(at_builtin;refine Iu underlying170 LS rfl (by decide) (by decide) w.heap.size _ rfl _ _ rfl _ _ _ ⟨_,0,N⟩ 1 [um ⟨(Lib.itoa n).toArray⟩] rfl rfl (.inl (CM aq.out.row (Cu (tU _ _) _))) rfl (EW _ _ 9) (by simp[Value.oneCell']) (by have:=aq.out.below.size;simp;omega) (by have:=z.out.1.1.2;simp at this;omega) ?_;intro v9 w9 y;have S:=Aa ((aq.out.go (Cu (tU _ _) (uj #[um ⟨(Lib.itoa n).toArray⟩] 9))).app HV.out y);clear y)|(go_at_call 80;first|(have hh:=S;refine(Hl _ _ _ _ S.out.row (by simp) (by have:=z.out.1.1;omega) (by have:=z.out.1.2;omega)).mono ?_;rintro e wz⟨rfl,f⟩;have a6:=Aa (S.out.below.trans (f.mono S.out.below.size));clear f hh)|(refine(Hl _ _ _ _ l.out.row (by intro e;have:=z.out.1.1;rw[e]at this;simp at this) (by have:=z.out.1.1;omega) (by have:=z.out.1.2;omega)).mono ?_;rintro e wz⟨rfl,f⟩;have a6:=Aa (l.out.below.trans (f.mono l.out.below.size));clear f)));go_ret2;exact⟨by first|rfl|(rw[<-z.out.2];rfl),a6.out⟩
end D1
namespace C2
open Vm (CP)
section
variable {mb:Nat}{V:Vr}{own:Nat->Nat}{w:rO}{s:St}
variable {xb j b i:Nat}{y:M1}{s' S:St}
theorem Xu(m:Int):Cx.G1 m=λs a=>s==2&&a==m:=by funext s a;unfold Cx.G1;by_cases b:s=2<;>by_cases c:a=m<;>simp[b,c]
theorem CE.lO(h:CE mb V own w s)(p m:Int):tT prog 190 #[ptr V.stat,I U p,I U m] w (Dd mb V own w (I U (Cx.jd s.stat p m (Cx.G1 m))) {s with stat:=Cx.Mh s.stat p m (λ_ _=>(1,m)) (λs a=>s==2&&a==m)}):=by obtain⟨tv,b,c⟩:=h.stat (by decide);exact(Cx.Wn _ _ _ p m w b).mono (λe f d=>h.MS (l:=Cx.Mh s.stat p m (λ_ _=>(1,m)) (λs a=>s==2&&a==m)) c (by rw[<-Xu m];exact d))
theorem CE.oT(h:CE mb V own w s)(d:own xb=22+5*j)(b:s.ms[j]?=Z y)(k:Nat)(v:tR)(y':M1)(f:(Da V.CR j y).setIfInBounds k v=Da V.CR j y')(g:y'.g=y.g):CE mb V own (w.setCell ⟨xb,k,N⟩ v) (s.CQ j y')/\Ext own w own (w.setCell ⟨xb,k,N⟩ v):=by have a:=h.dV d b;have e:=oset (DA xb w) k v;have c:=h.xg b;exact⟨h.NI (CC b) (by rw[<-a];exact e) y' (by rw[g];exact c) (by rw[<-a,<-f];exact(h.C3 d b).set k v),DB e (by omega)⟩
theorem CE.U2(h:CE mb V own w s)(a:own xb=22+5*j)(b:s.ms[j]?=Z y)(u:Int):CE mb V own (w.setCell ⟨xb,6,N⟩ (I U u)) (s.CQ j {y with left:=u})/\Ext own w own (w.setCell ⟨xb,6,N⟩ (I U u)):=h.oT a b 6 _ _ rfl rfl
theorem CE.oU(h:CE mb V own w s){k:Nat}{x:G}(a:own b=20+5*i)(c:s.gs[i]?=Z x)(f:k<8):w.cell? ⟨b,4+k,N⟩=Z (I U (rg x k)):=by
 obtain⟨g,hw,j,d,e⟩:=h.Hr a c;rw[d.cell];have:k=0\/k=1\/k=2\/k=3\/k=4\/k=5\/k=6\/k=7:=by omega
 rcases this with rfl|rfl|rfl|rfl|rfl|rfl|rfl|rfl<;>rfl
theorem CE.Rl(h:CE mb V own w s)(d:own xb=22+5*j)(a:s.ms[j]?=Z y)(e:1<=y.g): ∃b x,w.cell? ⟨xb,2,N⟩=Z (ptr b)/\own b=20+5*(y.g-1).toNat/\s.gs[(y.g-1).toNat]?=Z x:=by obtain⟨f,c⟩:=h.gp e (h.xg a).2;exact⟨_,_,by rw[<-f];exact R8 (h.C3 d a),c,Ae (h.lg _ _ c)⟩
theorem CE.sys(h:CE mb V own w s){alone:Bool}(op H c n:Int)(k:Nat)(hk:k<8)(K:own xb=22+5*j)(d:SV s j ⟨op,k,H,c,n⟩ alone=Z s'):tT prog 251 #[ptr mb,ptr xb,uk #[I U op,I U k,I U H,I U c,I U n],ue alone] w (Ge mb V own w unit s'):=by
 unfold SV at d;cases L:s.ms[j]? with
 |none=>rw[L]at d;cases d
 |some y=>
 rw[L]at d;dsimp only at d;have B:=h.alloc (EI op k H c n);have E0:=(Ext.refl own w).alloc (EI op k H c n);cases alone with
 |true=>rw[Ai rfl]at d;have HC:=Aa (B.GG K d);have C:=Aa E0;unfold EI at HC C;go_enter func251,ntmps251;go_wp2_with(go_at_call 187;refine HC.out.mono ?_;rintro e w1⟨rfl,q,t,u,D,M⟩;have f:=Aa (Ab u M);have ah:=Aa (C.out.trans D));go_end0;exact⟨rfl,q,t,f.out.1,ah.out,f.out.2⟩
 |false=>
  rw[Ah (by decide)]at d;obtain⟨⟨ay,O⟩,d⟩:=CT d;obtain⟨yp,yg,az,a6,a7,ai,a8⟩:=y;dsimp only at*
  obtain⟨kp,rfl⟩: ∃kp:Nat,yp=kp:=⟨yp.toNat,by omega⟩;obtain⟨i,rfl⟩: ∃i:Nat,yg=(i:Int)+1:=⟨(yg-1).toNat,by omega⟩;rw[Am,show((i:Int)+1-1).toNat=i by omega]at d;cases R:s.asked[kp]? with
  |none=>rw[R]at d;cases d
  |some a=>
  cases hi:s.gs[i]? with
  |none=>rw[R,hi]at d;cases d
  |some x=>
  rw[R,hi]at d;dsimp only at d;rw[Am]at d;obtain⟨b,z,x2,hb,-⟩:=B.Rl K L O;dsimp only at hb;rw[show((i:Int)+1-1).toNat=i by omega]at hb;have x1:=B.Z0 K L rfl;dsimp only at x1;have f6:=(B.C3 K L).free 6;have x6:(w.alloc (EI op k H c n)).cell? ⟨xb,6,N⟩=Z (I U ai):=(B.C3 K L).cell 6;obtain⟨g,cap,aj,ba,n1,n2,bb,a0,a1,a2,af⟩:=B.ask R;have c7:=B.c7;rw[aj]at c7;have Kx:=B.Kx;have bc:(kp:Int)<(s.asked.length:Int):=by have:=CC R;omega
  generalize s.asked.length=la at*
  have ck:=B.oU hb hi hk;have q8:(k:Int)<8:=by omega
  have hL:=h.fresh w.heap.size (Al _);have nx: ¬xb=w.heap.size:=by rintro rfl;omega
  have nb: ¬b=w.heap.size:=by rintro rfl;omega
  have bd: ¬xb=b:=by rintro rfl;omega
  have C:=Aa (Ab B (Ab E0 (Ab K L)));have S:=Aa (Ab K (h.CX K (by omega)));have ax:(w.alloc (EI op k H c n)).cell? ⟨w.heap.size,1,N⟩=Z (I U k):=(Cy.new w #[I U op,I U k,I U H,I U c,I U n] 84).cell 1;unfold EI at*
  generalize hr:rg x k=r at*
  by_cases o:a.Eo=tZ
  ·rw[Ai o]at d
   rw[o]at a1;have T:=Aa (λm=>(C.out.1.drewN m).serve d);go_enter func251,ntmps251;go_wp2;go_quiet(fail)
   go_wp2_with(go_at_call 171;refine(T.out _).mono ?_;rintro e w1⟨rfl,t,u,D⟩;have f:=Aa (Ab u ((C.out.2.1.drewN _).trans D)));go_end0;exact⟨rfl,V,t,f.out.1,f.out.2,Fx.refl V⟩
  ·have ak:a.Eo=false:=by simpa using o
   rw[Ah o]at d;rw[ak]at a1;by_cases E:s.sc.Cz=tZ
   ·rw[Ai E]at d
    rw[E]at Kx;have T:=Aa (λm=>(C.out.1.drewN m).back S.out.1 d);go_enter func251,ntmps251;go_wp2;go_quiet(fail)
    go_wp2_with(go_at_call 185;refine(T.out _).mono ?_;rintro e w1⟨rfl,q,t,u,D,M⟩;have f:=Aa (Ab u (Ab ((C.out.2.1.drewN _).trans D) M)));go_end0;exact⟨rfl,q,t,f.out.1,f.out.2.1,f.out.2.2⟩
   ·have ao:s.sc.Cz=false:=by simpa using E
    rw[Ah E]at d;rw[ao]at Kx;obtain⟨s1,aq,d⟩:=bind_some d;cases P:s1.ms[j]? with
    |none=>rw[P]at d;cases d
    |some X=>
    rw[P]at d;dsimp only at d;obtain⟨O,d⟩:=CT d;simp only[Ak]at d;have HC:Hid (∀m,tT prog 187 #[ptr mb,ptr xb,I U 0] (((w.alloc (uj #[I U op,I U k,I U H,I U c,I U n] 84)).drewN m).setCell ⟨xb,6,N⟩ (I U (Dk r 8))) (λe w'=>e=ui unit/\ ∃q t,CE mb q t w' s1/\Ext own w t w'/\Fx V q)):=λm=>by obtain⟨R1,E1⟩:=(C.out.1.drewN m).U2 S.out.1 C.out.2.2.2 (Dk r 8);refine(R1.GG S.out.1 aq).mono ?_;rintro e w'⟨rfl,q,t,u,D,M⟩;exact⟨rfl,q,t,u,((C.out.2.1.drewN m).trans E1).trans D,M⟩
    have HY:=Aa (Ab P O);have T:=Aa d;have F: ∀W v,(tV W ⟨xb,6,N⟩ v).cell? ⟨xb,2,N⟩=W.cell? ⟨xb,2,N⟩:=λW v=>Cq W _ _ v (by simp);have HMod:=Aa (λW=>P3.Ja r 8 W (by decide));go_enter func251,ntmps251;go_wp2;go_quiet(fail)
    go_wp2;go_region_held3(λW=>W.cell? ⟨xb,2,N⟩=Z (ptr b)/\W.cell? ⟨w.heap.size,1,N⟩=Z (I U k)/\W.cell? ⟨b,4+k,N⟩=Z (I U r)) (go_keep) (first|(go_at_call 53;refine(HMod.out _).mono ?_;rintro e w6⟨rfl,rfl⟩))
    all_goals
     go_wp2_with(first|(go_at_call 187;go_loud (refine(HC.out _).mono ?_;rintro e w1⟨rfl,q,t,u,D,M⟩;have Q:=D.keep S.out.1 S.out.2;obtain⟨b1,z1,x2,ar,aa⟩:=u.Rl Q HY.out.1 HY.out.2;have au:=Aa (u.is ar aa 3 (by decide) (by decide));have f:=Aa (Ab aa (Ab D (Ab M (Ab Q (u.CX Q (by omega))))))))|(go_at_call 116;refine au.out.mono ?_;rintro e w2⟨rfl,o2,p,ab⟩;rw[<-GV f.out.1]at p;have F:=ab.keep f.out.2.2.2.1 f.out.2.2.2.2;have c8:=p.c8;have ad:(s1.mv (X.g-1).toNat 3).ms[j]?=Z X:=(by rw[show(s1.mv (X.g-1).toNat 3).ms=s1.ms by unfold St.mv;rw[f.out.1];rfl];exact HY.out.1);have x1:=LH (p.C3 F ad);have av:=Aa (λm=>(p.drewN m).enter X.p);have l:=Aa (Ab p (Ab (f.out.2.1.trans ab) (Ab F (Ab (p.CX F (by omega)) ad))))));go_region_held3(λW=>W.cell? ⟨mb,8,N⟩=Z (ptr q.stat)/\W.cell? ⟨xb,1,N⟩=Z (I U X.p)) (go_keep) (first|(go_at_call 301;refine(av.out _).mono ?_;rintro e w3⟨rfl,o3,A,ae⟩;have G:=ae.keep l.out.2.2.1 l.out.2.2.2.1;have c8:=A.c8;have x1:=LH (A.C3 G l.out.2.2.2.2);have x3:=Wr (A.C3 G l.out.2.2.2.2);have f3:=(A.C3 G l.out.2.2.2.2).free 3;have ag:=Aa (A.Hk G l.out.2.2.2.2 5);have aw:=Aa ((l.out.2.1.drewN _).trans ae)));go_wp2;go_end0;exact⟨rfl,q,o3,by rw[<-T.out];exact ag.out.1,aw.out.trans ag.out.2,f.out.2.2.1⟩
theorem Rm(c:s.ms[j]?=Z y)(d:y.g=(i:Int)+1){x:G}(b:s.gs[i]?=Z x)(h:call2 s j y.g=Z s'):(8<=x.word/\Gx s j=Z s')\/(¬8<=x.word/\s'=(s.mv i 2).CQ j {y with phase:=2}):=by
 unfold call2 at h;rw[d,show((i:Int)+1-1).toNat=i by omega,b]at h;dsimp only at h;by_cases a:8<=x.word
 ·rw[Ai a]at h;exact .inl ⟨a,h⟩
 ·rw[Ah a]at h
  have e:(s.mv i 2).ms=s.ms:=by unfold St.mv;rw[b];rfl
  rw[e,c]at h;exact .inr ⟨a,(Ba h).symm⟩
structure Ol (mb:Nat) (V:Vr) (own:Nat->Nat) (w:rO) (s:St) (xb b j i:Nat) (y:M1) (x:G) (s':St) (o:Nat->Nat) (W:rO) (S:St):Prop where
 GK:CE mb V o W S
 ext:Ext own w o W
 tx:o xb=22+5*j
 Ii:o b=20+5*i
 lP:S.ms[j]?=Z y
 FW:S.gs[i]?=Z x
 oV:(8<=x.word/\Gx S j=Z s')\/(¬8<=x.word/\s'=(S.mv i 2).CQ j {y with phase:=2})
theorem Ol.back{x:G}{o:Nat->Nat}{W:rO}(h:Ol mb V own w s xb b j i y x s' o W S)(c:8<=x.word):tT prog 185 #[ptr mb,ptr xb] W (Ge mb V own w unit s'):=by
 rcases h.oV with⟨-,a⟩|⟨a,-⟩
 ·refine(h.GK.back h.tx a).mono ?_
  rintro e m⟨rfl,d,f,g,k,l⟩;exact⟨rfl,d,f,g,h.ext.trans k,l⟩
 ·exact absurd c a
theorem Ol.is{x:G}{o:Nat->Nat}{W:rO}(h:Ol mb V own w s xb b j i y x s' o W S)(l: ¬8<=x.word):tT prog 116 #[ptr b,I U 2] W λe c=>e=ui unit/\c.cell? ⟨xb,3,N⟩=Z (I U y.phase)/\c.frozen? ⟨xb,3,N⟩=tY/\Ge mb V own w unit s' (ui unit) (c.setCell ⟨xb,3,N⟩ (I U 2)):=by
 rcases h.oV with⟨f,-⟩|⟨-,f⟩
 ·exact absurd f l
 ·refine(h.GK.is h.Ii h.FW 2 (by decide) (by decide)).mono ?_
  rintro e c⟨rfl,m,d,k⟩;have a:=k.keep h.tx (h.GK.CX h.tx (by omega));rw[<-GV h.FW]at d;have g:(S.mv i 2).ms[j]?=Z y:=by rw[show(S.mv i 2).ms=S.ms by unfold St.mv;rw[h.FW];rfl];exact h.lP
  obtain⟨n,p⟩:=d.Hk a g 2;exact⟨rfl,Wr (d.C3 a g),(d.C3 a g).free 3,rfl,V,m,by rw[f];exact n,(h.ext.trans k).trans p,Fx.refl V⟩
theorem CE.call(h:CE mb V own w s)(B:own xb=22+5*j)(a:Kw s j=Z s'):tT prog 121 #[ptr mb,ptr xb] w (Ge mb V own w unit s'):=by
 unfold Kw at a;cases r:s.ms[j]? with
 |none=>rw[r]at a;cases a
 |some y=>
 rw[r]at a;dsimp only at a;have f6:=(h.C3 B r).free 6;have x6:w.cell? ⟨xb,6,N⟩=Z (I U y.left):=(h.C3 B r).cell 6;by_cases hl:0<y.left
 ·rw[Ai hl]at a
  simp only[Ak]at a;have HR:=Aa (h.U2 B r (wrap64 (y.left-1)));have HS:=Aa a;generalize y.left=u at*
  go_enter func121,ntmps121;go_wp2;go_end0;exact⟨rfl,V,own,by rw[<-HS.out];exact HR.out.1,HR.out.2,Fx.refl V⟩
 ·rw[Ah hl]at a
  obtain⟨ad,a⟩:=CT a;have ay:y.left<=0:=by omega
  obtain⟨i,ae⟩: ∃i:Nat,y.g=(i:Int)+1:=⟨(y.g-1).toNat,by omega⟩;obtain⟨b,x,x2,hb,hi⟩:=h.Rl B r ad;rw[ae,show((i:Int)+1-1).toNat=i by omega]at hb hi;have x0:w.cell? ⟨xb,0,N⟩=Z (I U j):=(h.C3 B r).cell 0;have x1:=LH (h.C3 B r);have f1:=(h.C3 B r).free 1;have Wp:=h.Wp;have c8:=h.c8;have Kx:=h.Kx;have n:=Aa h.jg;have G:=Aa (Ab B (h.CX B (by omega)));have H:=Aa (Ab hb (h.CX hb (by omega)));have l:=Aa (Ab h (Ab r (Ab hi ae)));have K:Hid (∀(o:Nat->Nat)(W:rO)(S:St),CE mb V o W S->o b=20+5*i->S.gs[i]?=Z x->tT prog 193 #[ptr b] W λe g=>e=ui (ue (decide (8<=x.word)))/\W=g):=λo W S d hb hi=>d.Ky hb hi;obtain⟨sc,hsc⟩: ∃sc,decide (8<=x.word)=sc:=⟨_,rfl⟩;rw[hsc]at K;by_cases hp:y.p= -1
  ·rw[Ah (by simp[hp])]at a
   have L:(y.p != -1)=false:=by simp[hp]
   by_cases hc:s.CD≠[]/\s.sc.Cz=tY
   ·rw[Ai hc]at a
    obtain⟨ah,D⟩:=hc;have E:(!s.CD.isEmpty)=true:=by simpa using ah
    rw[E]at n;rw[D]at Kx;obtain⟨k,ai⟩: ∃k,s.CD.headD 0=k:=⟨_,rfl⟩;rw[ai]at n a;have F:Hid (tT prog 191 #[ptr V.FM,I U k] w λe g=>(∃v,e=ui v)/\ ∃o,CE mb V o g {s with CD:=s.CD.erase k}/\Ext own w o g):=by refine(l.out.1.UE k).mono ?_;rintro e g⟨rfl,o,d,c⟩;exact⟨⟨_,rfl⟩,o,d,c⟩
    have HK:Hid (∀(o:Nat->Nat)(t:rO)(m:Nat),CE mb V o t {s with CD:=s.CD.erase k}->Ext own w o t->tT prog 49 #[ptr V.stat,I U k,I U j] (t.drewN m) λe g=>(∃v,e=ui v)/\g.cell? ⟨mb,8,N⟩=Z (ptr V.stat)/\g.cell? ⟨xb,0,N⟩=Z (I U j)/\g.cell? ⟨xb,1,N⟩=Z (I U y.p)/\g.frozen? ⟨xb,1,N⟩=tY/\ ∃o2 S,Ol mb V own w s xb b j i {y with p:=k} x s' o2 (g.setCell ⟨xb,1,N⟩ (I U k)) S):=λo t m d c=>by refine((d.drewN m).Qz k j).mono ?_;rintro e g⟨rfl,o2,M,aj⟩;have O:=(c.drewN m).trans aj;have P:=O.keep G.out.1 G.out.2;have Q:=M.C3 P l.out.2.1;obtain⟨R4,E4⟩:=M.lu P l.out.2.1 k;have af:=Jl (s:={s with CD:=s.CD.erase k,stat:=Cx.Mh s.stat k j (λ_ _=>(1,(j:Int))) (λs _=>s==0)}) (j:=j) (y:={y with p:=k}) (CC l.out.2.1);exact⟨⟨_,rfl⟩,M.c8,Q.cell 0,LH Q,Q.free 1,o2,_,R4,O.trans E4,P,O.keep H.out.1 H.out.2,af,l.out.2.2.1,Rm af l.out.2.2.2 l.out.2.2.1 a⟩
    have az:=hp;obtain⟨R,hyp⟩: ∃R,y.p=R:=⟨_,rfl⟩;rw[hyp]at x1 L HK;generalize y.left=u at*
    go_enter func121,ntmps121;go_wp2_with(first|(go_at_call 189;refine n.out.mono ?_;rintro e t⟨rfl,rfl⟩)|(go_at_call 191;refine F.out.mono ?_;rintro e t⟨⟨v1,rfl⟩,o1,d,c⟩;have c8:=d.c8;have x0:t.cell? ⟨xb,0,N⟩=Z (I U j):=((d.C3 (c.keep G.out.1 G.out.2) l.out.2.1).cell 0);have ak:=Aa (λm=>HK.out o1 t m d c)));go_region_held3(λW=>W.cell? ⟨mb,8,N⟩=Z (ptr V.stat)/\W.cell? ⟨xb,0,N⟩=Z (I U j)) (go_keep) (first|(go_at_call 49;refine(ak.out _).mono ?_;rintro e w2⟨⟨v2,rfl⟩,c8,x0,x1,f1,o2,S,C⟩;have z:=Aa C))
    all_goals
     have A:=Aa (K.out _ _ _ z.out.GK z.out.Ii z.out.FW);cases sc with
     |true=>have T:=Aa (z.out.back (by simpa using hsc));go_wp2_with(first|(go_at_call 193;refine A.out.mono ?_;rintro e w3⟨rfl,rfl⟩)|(go_at_call 185;refine T.out.mono ?_;rintro e w4⟨rfl,X⟩;have F:=Aa X));go_end0;exact⟨rfl,F.out⟩
     |false=>have aa:=Aa (z.out.is (by simpa using hsc));go_wp2_with(first|(go_at_call 193;refine A.out.mono ?_;rintro e w3⟨rfl,rfl⟩)|(go_at_call 116;refine aa.out.mono ?_;rintro e w4⟨rfl,y3,ao,X⟩;have F:=Aa X));go_end0;exact F.out
   ·rw[Ah hc]at a
    obtain⟨q,hq,a⟩:=bind_some a;obtain⟨s1,aq,a⟩:=bind_some a;obtain⟨b2,ag,hO⟩:=h.QX B hq;have HO:=Aa hO;have ar:q.1=i:=by unfold Gw at hq;rw[r]at hq;dsimp only at hq;rw[Ai ad]at hq;cases hq;show(y.g-1).toNat=i;omega
    obtain⟨ie,E⟩: ∃ie,(!s.CD.isEmpty)=ie:=⟨_,rfl⟩;obtain⟨st,D⟩: ∃st,s.sc.Cz=st:=⟨_,rfl⟩;have au:ie=tY\/ie=tZ/\st=true:=by
     cases ie with
     |false=>exact .inl rfl
     |true=>
      cases st with
      |true=>exact .inr ⟨rfl,rfl⟩
      |false=>exact absurd ⟨by simpa using E,D⟩ hc
    rw[E]at n;rw[D]at Kx;have ab:=Aa (Ab aq (Ab a ar));generalize s.CD.headD 0=k at*
    generalize y.left=u at*
    generalize y.p=R at*
    rcases au with rfl|⟨rfl,rfl⟩
    all_goals
     go_enter func121,ntmps121;go_wp2_with(first|(go_at_call 189;refine n.out.mono ?_;rintro e t⟨rfl,rfl⟩)|(go_at_call 183;refine HO.out.mono ?_;rintro e t⟨rfl,o1,d,c⟩;have av:=c.keep G.out.1 G.out.2;have HP:=Aa (d.Wx av ab.out.1);have HE:=Aa (Ab c (Ab (c.keep H.out.1 H.out.2) (d.CX (c.keep H.out.1 H.out.2) (by omega)))))|(go_at_call 174;refine HP.out.mono ?_;rintro e w2⟨rfl,o2,d,c⟩;have ag:=c.keep HE.out.2.1 HE.out.2.2;have HQ:=Aa (d.Jm (f:=tY) (s':=s') (by rw[ab.out.2.2];exact ag) ab.out.2.1);have aw:=Aa (HE.out.1.trans c))|(go_at_call 192;refine HQ.out.mono ?_;rintro e w3⟨rfl,V3,o3,d,c,hF⟩;have HR:=Aa (Ab d (Ab (aw.out.trans c) hF))));go_end0;exact⟨rfl,V3,o3,HR.out.1,HR.out.2.1,HR.out.2.2⟩
  ·rw[Ai hp]at a
   have L:(y.p != -1)=true:=by simpa using hp
   have HL:Hid (∀m,tT prog 190 #[ptr V.stat,I U y.p,I U j] (w.drewN m) λe g=>(∃v,e=ui v)/\ ∃o S,Ol mb V own w s xb b j i y x s' o g S):=λm=>by refine((l.out.1.drewN m).lO y.p j).mono ?_;rintro e g⟨rfl,o,d,c⟩;exact⟨⟨_,rfl⟩,o,_,d,((Ext.refl own w).drewN m).trans c,c.keep G.out.1 G.out.2,c.keep H.out.1 H.out.2,l.out.2.1,l.out.2.2.1,Rm (s:={s with stat:=Cx.Mh s.stat y.p j (λ_ _=>(1,j)) (λs wh=>s==2&&wh==(j:Int))}) l.out.2.1 l.out.2.2.2 l.out.2.2.1 a⟩
   obtain⟨R,hyp⟩: ∃R,y.p=R:=⟨_,rfl⟩;have ax:=Aa hyp;rw[hyp]at x1 HL L;generalize y.left=u at*
   generalize s.CD=ip at*
   generalize s.sc.Cz=st at*
   go_enter func121,ntmps121;go_wp2_with(go_at_call 189;refine n.out.mono ?_;rintro e t⟨rfl,rfl⟩);go_region_held3(λW=>W.cell? ⟨mb,8,N⟩=Z (ptr V.stat)/\W.cell? ⟨xb,1,N⟩=Z (I U R)/\W.cell? ⟨xb,0,N⟩=Z (I U j)) (go_keep) (first|(go_at_call 190;refine(HL.out _).mono ?_;rintro e w2⟨⟨v,rfl⟩,o,S,C⟩;have c8:=C.GK.c8;have x1:=C.GK.Z0 C.tx C.lP ax.out;have x0:w2.cell? ⟨xb,0,N⟩=Z (I U j):=(C.GK.C3 C.tx C.lP).cell 0;have z:=Aa C))
   all_goals
    have A:=Aa (K.out _ _ _ z.out.GK z.out.Ii z.out.FW);cases sc with
    |true=>have T:=Aa (z.out.back (by simpa using hsc));go_wp2_with(first|(go_at_call 193;refine A.out.mono ?_;rintro e w3⟨rfl,rfl⟩)|(go_at_call 185;refine T.out.mono ?_;rintro e w4⟨rfl,X⟩;have F:=Aa X));go_end0;exact⟨rfl,F.out⟩
    |false=>have aa:=Aa (z.out.is (by simpa using hsc));go_wp2_with(first|(go_at_call 193;refine A.out.mono ?_;rintro e w3⟨rfl,rfl⟩)|(go_at_call 116;refine aa.out.mono ?_;rintro e w4⟨rfl,y3,ao,X⟩;have F:=Aa X));go_end0;exact F.out
end
open Cx (Pr pz)
def KJ:Nat->List Int->List Int
 |0,l=>l
 |k+1,l=>KJ k (Idle.Iv 256 l ((k+1:Nat):Int))
def ek(c:List Fn)(a:Nat)(cg cm:Int)(b:List Int)(stat:List Pr)(ms:List M1):St:={funcs:=c,sc:=oI a cg cm,gs:=[],ms:=ms,asked:=tW a p0,rings:=tW a r0,stat:=stat,all:=[],CL:=[],CD:=b,owner:=0,waits:=[],box:=tW 64 N}
def oW:M1:=⟨0,0,1,tY,0,0,0⟩
def Ro(a:Nat):List Pr:=Cx.Mh (tW a (0,-1)) 0 0 (λ_ _=>(1,0)) (λs _=>s==0)
def oX(s:St):List Rs:=s.rings.set 0 ⟨Ring.NG (Eb s 0).CI 1 tY,Ring.OT 256 (Eb s 0).CI (Eb s 0).row 1 tY⟩
def Rp(b:List Fn)(a:Nat)(cg cm:Int):St:={GU (ek b a cg cm (KJ (a-1) []) (Ro a) [oW]) 0 0 with rings:=oX (GU (ek b a cg cm (KJ (a-1) []) (Ro a) [oW]) 0 0)}
def rq(o0:Nat->Nat)(w:rO)(b:List Fn)(c:Nat)(cg cm:Int)(pv:tR)(e:Ending)(w':rO):Prop:= ∃a V own,e=ui (uo #[ptr a,I U 0])/\CE a V own w' (Rp b c cg cm)/\w.heap.size<=a/\(∀j,j<w.heap.size->own j=o0 j)/\tS w.heap.size w w'/\V.Gt=pv
theorem Lh{o0 own C8:Nat->Nat}{w W w':rO}(b:tS w.heap.size w W)(f: ∀j,j<w.heap.size->o0 j=0\/o0 j=14) (c: ∀j,j<w.heap.size->own j=o0 j) (g:Ext own W C8 w'):tS w.heap.size w w':=
 b.trans (g.only.toBelow b.size (λj d=>Nat.le_of_not_lt λa=>by
  rcases f j a with e|e
  ·exact d.1 ((c j a).trans e)
  ·exact d.2 ((c j a).trans e)))
theorem gT(W:rO)(B:Nat):Du W 0 123 1 (Y N 0 0) 0 [] [ptr B] (Y (Z ⟨W.heap.size,0,N⟩) 1 1) (W.alloc (uj #[ptr B] 123)):=⟨Md (n:=1) (size:=1) (Cy.new W #[ptr B] 123) (Ap _) rfl (by decide),World.grownBy_alloc W _ N,λj a=>by cases a;exact .inr (Al _)⟩
theorem lQ{e:Nat}{V:Vr}{c:Nat->Nat}{a:rO}{f:List Fn}{g:Nat}{cg cm:Int}{l:List Int}{st:List Pr}(d:CE e V c a (ek f g cg cm l st []))(hm:V.MP=Y N 0 0): ∃h b,CE e h b (((a.setCell ⟨e,6,N⟩ (Y (Z ⟨a.heap.size+1,0,N⟩) 1 1)).alloc (uj #[I U 0,I U 0,J N,I U 1,ue tY,I U 0,I U 0,I U 0] 125)).alloc (uj #[J (Z ⟨a.heap.size,0,N⟩)] 123)) (ek f g cg cm l st [oW])/\Ext c a b (((a.setCell ⟨e,6,N⟩ (Y (Z ⟨a.heap.size+1,0,N⟩) 1 1)).alloc (uj #[I U 0,I U 0,J N,I U 1,ue tY,I U 0,I U 0,I U 0] 125)).alloc (uj #[J (Z ⟨a.heap.size,0,N⟩)] 123))/\h.Gt=V.Gt/\h.procs=V.procs:=by have lm:=d.dT;have k:Cy (a.alloc (uj #[I U 0,I U 0,J N,I U 1,ue tY,I U 0,I U 0,I U 0] 125)) a.heap.size (Da V.CR (ek f g cg cm l st []).ms.length oW) 125:=Cy.new a _ 125;have m:=gT (a.alloc (uj #[I U 0,I U 0,J N,I U 1,ue tY,I U 0,I U 0,I U 0] 125)) a.heap.size;have i:=CE.jk (y:=oW) rfl d (show(0:Nat)<64 by decide) k (Al _) (Cu (tU _ _) _) (by rw[hm];exact m);rw[show(a.alloc (uj #[I U 0,I U 0,J N,I U 1,ue tY,I U 0,I U 0,I U 0] 125)).heap.size=a.heap.size+1 by simp,World.setCell_alloc_past _ _ _ _ (by simp;omega),World.setCell_alloc_past _ _ _ _ lm]at i;obtain⟨b,n,o,j,_⟩:=i;exact⟨_,b,n,o,j.Gt,j.procs⟩
theorem F8(o0:Nat->Nat)(fs:List Fn)(n o pc q:Nat)(b cg cm:Nat)(w:rO)(hO:pZ o0 w (Y (Z ⟨n,o,N⟩) q pc) fs)(ag: ∀W,tS w.heap.size w W->tT prog 40 #[uk #[Y (Z ⟨n,o,N⟩) q pc]] W λe w'=>e=ui (uo #[I U (-1),I U (-1),I U 0])/\tS W.heap.size W w') (hp:1<=b/\b<=256) (hg:1<=cg/\cg<=64) (hm:1<=cm/\cm<=64):tT prog 10 #[uk #[Y (Z ⟨n,o,N⟩) q pc],uk #[I U b,I U cg,I U cm]] w (rq o0 w fs b cg cm (Y (Z ⟨n,o,N⟩) q pc)):=by
 have r:=Aa hO;clear hO;have ah:=Aa ag;have g:=Aa (Ab hp (Ab hg hm));obtain⟨c,s⟩: ∃c,(w.alloc (uj #[Y (Z ⟨n,o,N⟩) q pc] 26)).alloc (uj #[I U b,I U cg,I U cm] 34)=c:=⟨_,rfl⟩;have hb:tS w.heap.size w c:=by rw[<-s];exact Cu (Cu (tU _ _) _) _
 have b2:Cy c w.heap.size #[Y (Z ⟨n,o,N⟩) q pc] 26:=by rw[<-s];exact(Cy.new w _ 26).below (Cu (tU _ _) _) (by simp)
 have b3:Cy c (w.heap.size+1) #[I U b,I U cg,I U cm] 34:=by have k:=Cy.new (w.alloc (uj #[Y (Z ⟨n,o,N⟩) q pc] 26)) #[I U b,I U cg,I U cm] 34;rw[s]at k;simpa using k
 have x:Hid (∀W,tS c.heap.size c W->W.cell? ⟨w.heap.size,0,N⟩=Z (Y (Z ⟨n,o,N⟩) q pc)/\W.cell? ⟨w.heap.size+1,0,N⟩=Z (I U b)/\W.cell? ⟨w.heap.size+1,1,N⟩=Z (I U cg)/\W.cell? ⟨w.heap.size+1,2,N⟩=Z (I U cm)):=λW hW=>by have k2:=b2.below hW b2.lt;have k3:=b3.below hW b3.lt;exact⟨k2.cell 0,k3.cell 0,k3.cell 1,k3.cell 2⟩
 have HB:=Aa hb;obtain⟨a0,a1,a2,a3⟩:=x.out c (tU _ _);clear ag hp hg hm hb b2 b3;go_enter func10,ntmps10;go_wp2_with(first|(go_at_call 40;refine(ah.out _ HB.out).mono ?_;rintro e w1⟨rfl,a⟩;obtain⟨b0,b1,b2,b3⟩:=x.out w1 a;have P:=Aa a;clear a)|(go_at_call 41;refine(D8.IU b cg cm _ (by have:=g.out.1;omega) (by have:=g.out.2.1;omega) (by have:=g.out.2.2;omega)).mono ?_;rintro e w2⟨rfl,a⟩;have Q:=P.out.trans (a.mono P.out.size);obtain⟨d0,d1,d2,d3⟩:=x.out w2 Q;have D:=Aa Q;clear a Q));clear a0 a1 a2 a3 b0 b1 b2 b3;go_region_held3(λw'=>w'.cell? ⟨w.heap.size,0,N⟩=Z (Y (Z ⟨n,o,N⟩) q pc)/\w'.cell? ⟨w.heap.size+1,0,N⟩=Z (I U b)/\w'.cell? ⟨w.heap.size+1,1,N⟩=Z (I U cg)/\w'.cell? ⟨w.heap.size+1,2,N⟩=Z (I U cm)) (go_keep) (first|(go_at_call 42;refine(CZ.FD b _ g.out.1.1 g.out.1.2).mono ?_;rintro e w3⟨rfl,rv,R,hP,hz,a,ai⟩;have E:Hid (tS c.heap.size c w3):=Aa (D.out.trans ((Gi (by first|exact tU _ _|exact DZ|exact DF _) a).mono D.out.size));obtain⟨bq,br,bs,bt⟩:=x.out w3 E.out;have HP:=Aa (Ab hP (Ab hz ai));have aj:=Aa a;clear a hP hz ai)|(go_at_call 43;refine(Cx.FD b _ g.out.1.1 g.out.1.2).mono ?_;rintro e w4⟨rfl,tv,hT,a⟩;have F:Hid (tS c.heap.size c w4):=Aa (E.out.trans (a.mono E.out.size));obtain⟨bu,bw,bz,b4⟩:=x.out w4 F.out;have HT:=Aa hT;have ak:=Aa a;clear a hT)|(go_at_call 44;refine(C4.F8 _).mono ?_;rintro e w5⟨rfl,hw⟩;have a:=Cu (tU w4.heap.size w4) (uj #[Y N 0 0,Y N 0 0] 203);rw[hw]at a;have G:Hid (tS c.heap.size c w5):=Aa (F.out.trans (a.mono F.out.size));obtain⟨b5,b7,b8,b9⟩:=x.out w5 G.out;have HG:=Aa hw;clear a hw)|(go_at_call 45;first|(have hh:=y;refine(Idle.FD 256 _ (by decide)).mono ?_;rintro e w7⟨rfl,hI,a⟩;have H:Hid (tS c.heap.size c w7):=Aa (y.out.trans (a.mono y.out.size));obtain⟨ca,cb,cc,cd⟩:=x.out w7 H.out;have ao:=Aa hI;have aq:=Aa a;clear a hI hh)|(refine(Idle.FD 64 _ (by decide)).mono ?_;rintro e w6⟨rfl,hI,a⟩;have y:Hid (tS c.heap.size c w6):=Aa (G.out.trans (a.mono G.out.size));obtain⟨cf,ch,cj,ck⟩:=x.out w6 y.out;have ar:=Aa hI;have au:=Aa a;clear a hI))|(go_at_call 46;refine(Dg.F8 _).mono ?_;rintro e w8⟨rfl,hw⟩;have a:=Cu (tU w7.heap.size w7) (uj #[I U 0,Y N 0 0] 207);rw[hw]at a;have K:Hid (tS c.heap.size c w8):=Aa (H.out.trans (a.mono H.out.size));obtain⟨cl,cq,cr,ct⟩:=x.out w8 K.out;have HM:=Aa hw;clear a hw)|(go_at_call 47;refine(LZ.ZG _).mono ?_;rintro e d⟨xb,rfl,hx,hX,a⟩;have L:Hid (tS c.heap.size c d):=Aa (K.out.trans (a.mono K.out.size));obtain⟨cu,cv,cw,cx⟩:=x.out d L.out;have S:=Aa (Ab hx hX);have av:=Aa a;clear a hx hX));rename_i hh;clear hh;have aw:=Aa (aJ (cg:=cg) (cm:=cm) (w2:=w2.drew) r.out g.out.1.2 ((HB.out.trans (D.out.mono HB.out.size)).drew) HP.out.1 HP.out.2.1 HP.out.2.2 aj.out HT.out ak.out HG.out ar.out au.out ao.out aq.out HM.out S.out.1 S.out.2 av.out);have cy:=λW=>gM b (by have:=g.out.1;omega) W;have l9:w.heap.size+1<d.heap.size:=by have:=L.out.size;rw[<-s]at this;simp at this;omega
 have l10:w.heap.size+1<d.heap.size+1:=by omega
 have e1:IntKind.i64.wrap ((b:Int)-1)=((b-1:Nat):Int):=by have:=g.out.1;rw[IntKind.wrap_i64];omega
 have cz:Hid (tS w.heap.size w ((d.alloc (uj #[ptr w2.drew.heap.size,Y (Z ⟨n,o,N⟩) q pc,I U b,I U cg,I U cm,Y N 0 0,Y N 0 0,Y (Z ⟨d.heap.size+1,0,N⟩) b b,ptr w3.heap.size,ptr w4.heap.size,ptr (w5.heap.size+1),ptr (w6.heap.size+1),ptr w7.heap.size,ptr xb,I U 0,I U 0,I U 0,I U 0,ue tY,I U 0,J N,I U 0,I U 0,I U 0,I U 0,I U 0,ue tY] 121)).alloc (uj (I0 b) 139))):=Cu (Cu (HB.out.trans (L.out.mono HB.out.size)) _) _;go_wp2;clear cy l10 e1 d0 d1 d2 d3 bq br bs bt bu bw bz b4 b5 b7 b8 b9 cf ch cj ck ca cb cc cd cl cq cr ct cu cv cw cx s;obtain⟨ax,T,ay⟩:=aw.out;obtain⟨V,hV⟩: ∃V,V=aI (Y (Z ⟨n,o,N⟩) q pc) w2.drew.heap.size w3.heap.size w4.heap.size (w5.heap.size+1) (w6.heap.size+1) w7.heap.size xb (d.heap.size+1) b:=⟨_,rfl⟩;rw[<-hV]at T;have HV:Hid (V.MP=Y N 0 0/\V.Gt=Y (Z ⟨n,o,N⟩) q pc):=by show _/\_;rw[hV];exact⟨rfl,rfl⟩
 have az:=Aa (Ab T ay);have c2:Hid (w.heap.size<=d.heap.size):=Nat.le_of_lt (Nat.lt_of_succ_lt l9);clear T ay hV l9;clear aw HP aj HT ak HG ar au ao aq HM S av P D E F G y H K L x ah;go_loopw [11] (λt wr=> ∃(k:Nat)(z:Nat->Nat)(l:List Int),k<=b-1/\t=I U k/\CE d.heap.size V z wr (ek fs b cg cm l (tW b (0,-1)) [])/\(∀j,j<w.heap.size->z j=o0 j)/\tS w.heap.size w wr/\KJ k l=KJ (b-1) []) (λt _=>(intOf t).toNat)
 case atStart=>exact⟨b-1,ax,[],Al _,rfl,az.out.1,az.out.2,cz.out,rfl⟩
 case round=>
  obtain⟨k,z,l,hk,rfl,hR,ho,a,hl⟩:=hrel;by_cases h0:k=0
  ·subst h0
   have c8:=hR.c8;have dm: ∀W v,(tV W ⟨d.heap.size,6,N⟩ v).cell? ⟨d.heap.size,0,N⟩=W.cell? ⟨d.heap.size,0,N⟩:=λW v=>Cq W _ _ v (by simp);have f:=Aa (Ab hR (Ab ho (Ab a hl)));clear hR ho a hl hk;go_wp2_with(first|(go_at_call 49;go_loud (refine(f.out.1.Qz 0 0).mono ?_;rintro e X⟨rfl,a6,O,a7⟩;have h:CE d.heap.size V a6 X (ek fs b cg cm l (Ro b) []):=O;have c6:=h.c6;have c0:=h.c0;have f6:=h.Fa 6;have lm:=h.dT;have dn:d.heap.size<X.heap.size+1:=(by omega);have HA:=Aa (lQ h HV.out.1);have dc:=Aa a7;clear h O a7))|(go_at_call 50;go_loud (obtain⟨V5,dh,aa,a8,ba,bb⟩:=HA.out;have hQ:=aa.ring 0 (by show 0<(tW b r0).length;rw[Ci];exact g.out.1.1);rw[bb]at hQ;refine hQ.mono ?_;clear hQ;rintro e dp⟨⟨rb,rfl,bc⟩,rfl⟩;have m:=Aa (Ab aa (Ab a8 (Ab ba bc)));clear aa a8 ba bb bc))|(go_at_call 52;go_loud (refine(m.out.1.born 0 0 (show(0:Nat)<64 by decide)).mono ?_;rintro e dt⟨B,rfl,df,V6,di,ab,ad,bd,bf,bg⟩;have k0:=Jw (i:=0) (u:=1) ab bg rfl rfl;have A:=ad.keep m.out.2.2.2 (m.out.1.CX m.out.2.2.2 (by omega));rw[<-bf]at A;have M:=Aa (Ab ab (Ab ad (Ab (bd.Gt.trans m.out.2.2.1) A)));clear bf df ab ad bd bg A))|(go_at_call 51;go_loud (refine(M.out.1.nH (p:=0) (by show 0<(tW b r0).length;rw[Ci];exact g.out.1.1) M.out.2.2.2 1 tY).mono ?_;rintro e du⟨v,rfl,hv,bh,bj,bk,_⟩;have ae:=Aa (Ab bj bk);clear hv bj bk)));go_ret2;have hl:l=KJ (b-1) []:=f.out.2.2.2;have hE:=dc.out.trans (m.out.2.1.trans (M.out.2.1.trans ae.out.2));have af:=f.out.2.2.1.size;rw[hl]at ae;exact⟨d.heap.size,V6,bh,rfl,ae.out.1,c2.out,λj hj=>(hE.same j (An hj af)).trans (f.out.2.1 j hj),Lh f.out.2.2.1 (λj hj=>r.out.two j) f.out.2.1 hE,M.out.2.2.1.trans HV.out.2⟩
  ·obtain⟨C,rfl⟩: ∃C,k=C+1:=⟨k-1,by omega⟩
   have Wp:=hR.Wp;have dk:(0:Int)<((C+1:Nat):Int):=by omega
   have e2:IntKind.i64.wrap (((C+1:Nat):Int)-1)=(C:Int):=by have:=g.out.1.2;rw[IntKind.wrap_i64];omega
   have f:=Aa (Ab hR (Ab ho (Ab a (Ab hl hk))));clear hR ho a hl hk h0;go_wp2_with(go_at_call 48;go_loud (refine(f.out.1.ku ((C+1:Nat):Int)).mono ?_;rintro e X⟨rfl,bm,bn,bo⟩;have bp:=Aa (Ab bn bo);clear bn bo));have hw:wrap64 (C:Int)=(C:Int):=by have:=f.out.2.2.2.2;have:=g.out.1.2;unfold wrap64;omega
   rw[hw];have af:=f.out.2.2.1.size;have hE:=bp.out.2;exact⟨⟨C,bm,Idle.Iv 256 l ((C+1:Nat):Int),by have:=f.out.2.2.2.2;omega,rfl,bp.out.1,λj hj=>(hE.same j (An hj af)).trans (f.out.2.1 j hj),Lh f.out.2.2.1 (λj hj=>r.out.two j) f.out.2.1 hE,f.out.2.2.2.1⟩,by simp[intOf]⟩
end C2
namespace D1
open D3 (row rows Laid)
open Vm (CP)
open D8 (Ha ld ER)
structure U3 (p:List Fn):Prop where
 cnt:p.length<=16
 len: ∀f∈p,f.2.length=f.1.length/\f.1.length<=64/\0<f.1.length
 ok: ∀f∈p,∀i∈f.1,rm i
def GY(f:Fn)(k:Nat):List Ln:=((f.1.zip f.2).take k).map Z
theorem TI(f:Fn)(k:Nat)(h:f.2.length=f.1.length)(a:k<f.1.length):GY f (k+1)=GY f k++[Z (f.1[k]?.getD ⟨0,0,0,0,0⟩,f.2[k]?.getD tY)]:=by unfold GY;rw[Bu,BP];congr 1;rw[Ae (by simp;omega),Ae a,Ae (by omega)];simp
theorem Xv(f:Fn)(h:f.2.length=f.1.length):GY f f.1.length=(f.1.zip f.2).map some:=by unfold GY;rw[AL (by simp;omega)]
theorem gU(f:Fn)(x:CP×Bool)(h:x∈f.1.zip f.2):x.1∈f.1:=by obtain⟨a,b⟩:=x;exact(List.of_mem_zip h).1
theorem U3.lines{p:List Fn}(h:U3 p): ∀x∈C9 p,kR x:=λx a y hy=>by
 obtain⟨f,b,a⟩:=Zai.1 a;rcases Be.1 a with rfl|a
 ·cases hy
 ·obtain⟨z,c,rfl⟩:=BL.1 a
  obtain rfl:z=y:=by simpa using hy
  exact(h.ok f b _ (gU f z c)).ok
theorem Om(p:List Fn)(h: ∀f∈p,f.2.length=f.1.length/\f.1.length<=64/\0<f.1.length):(C9 p).length<=p.length*65:=by
 induction p with
 |nil=>simp[C9]
 |cons f p a=>
  have c:=h f (by simp);have d:=a (λg b=>h g (AO _ b));have e:C9 (f::p)=kS f++C9 p:=by simp[C9]
  rw[e,Au];have:(kS f).length<=65:=by simp[kS];omega
  simp only[Av];omega
theorem TJ(p:List Fn)(k:Nat)(f:Fn)(h:p[k]?=Z f):C9 (p.take (k+1))=C9 (p.take k)++kS f:=by rw[Bu,h];simp[C9]
theorem TK{p:List Fn}(h:U3 p)(k:Nat)(f:Fn)(c:p[k]?=Z f)(j:Nat):(CW (C9 (p.take k)++N::GY f j)).length<=1000000:=by
 have d:=JZ (C9 (p.take k)++N::GY f j) (λx a=>by
  rcases Br.1 a with a|a
  ·refine h.lines x ?_
   obtain⟨g,b,a⟩:=Zai.1 a;exact Zai.2 ⟨g,Ca b,a⟩
  ·rcases Be.1 a with rfl|a
   ·intro y hy;cases hy
   ·refine h.lines x (Zai.2 ⟨f,AP c,AO _ ?_⟩)
    obtain⟨z,e,rfl⟩:=BL.1 a;exact BL.2 ⟨z,Ca e,rfl⟩)
 have i:=Om (p.take k) (λg b=>h.len g (Ca b));have l:=h.cnt;have m:=(h.len f (AP c)).2.1;have n:(GY f j).length<=64:=by simp[GY];omega
 have o:(p.take k).length<=16:=by simp;omega
 rw[Au,Av]at d;omega
theorem Xw(a:List Ln):CW a++(M5++[10])=CW (a++[N]):=by rw[G9,M7];rfl
theorem Np(p:List Fn)(pb po pc:Nat)(w:rO)(hL:Laid w)(hp:Fq.Pow w)(hP:Ha w pb po p)(O:U3 p):tT prog 18 #[uk #[Y (Z ⟨pb,po,N⟩) p.length pc]] w λe z=>e=ui (uo #[um ⟨(CW (C9 p)).toArray⟩,I U 0])/\tS w.heap.size w z:=by
 have H0:=Aa (Ab hL (Ab hp (Ab hP O)));have hb:=Cy.new w #[Y (Z ⟨pb,po,N⟩) p.length pc] 26;have q0:=hb.cell 0;simp only[Ad,Ac]at q0;have ab:=hP.1;have P:=O.cnt;clear hL hp hP O hb;obtain⟨n,hn⟩: ∃n,p.length=n:=⟨_,rfl⟩;rw[hn]at q0 P⊢;have HN:=Aa (Ab hn P);have ad:=Aa ab;clear hn P ab;go_enter func18,ntmps18;go_wp2;go_loopw [14] (λt wr=> ∃k:Nat,k<=n/\t=I U k/\Lib.IsBuilderF 152 5 (w.heap.size+1) (w.heap.size+1) (Lib.byteCells (CW (C9 (p.take k)))) wr/\tS w.heap.size w wr/\w.heap.size+2<=wr.heap.size) (λt _=>n-(intOf t).toNat)
 case atStart=>refine⟨0,Ap _,rfl,?_,Cu (Cu (tU _ _) _) _,by simp⟩;have:=Lib.IsBuilderF.of (Mm (w.alloc (uj #[Y (Z ⟨pb,po,N⟩) n pc] 26)) 152 5);simpa[Lib.byteCells,C9,CW]using this
 case round=>
  obtain⟨K,hK,rfl,y,a,A⟩:=hrel;by_cases o:K<n
  ·have ay:(K:Int)<(n:Int):=by omega
   obtain⟨f,hf⟩: ∃f,p[K]?=Z f:=⟨_,Ae (by rw[HN.out.1];exact o)⟩;have Q:=H0.out.2.2.1.2 K (by rw[HN.out.1];exact o);rw[hf,AW]at Q;obtain⟨hlen,B,av⟩:=H0.out.2.2.2.len f (AP hf);have r:=H0.out.2.2.2.ok f (AP hf);have C:=Aa (Ab hf (Ab hlen B));have ae:=Aa (TK H0.out.2.2.2 K f hf);obtain⟨l,D⟩:=f;simp only at Q hlen B r C;obtain⟨E,co,cc,R,S,F,a1,a2,a3,b,off,cap,e4,a5,a6⟩:=Q;cases e4;rw[hlen]at a2 a6;have T:=Aa (Ab a3 (Ab a6 (Ab r (Ab a5 B))));have p0:=(a.cell (p:=⟨pb,po+K*2,N⟩) ad.out).trans a1;have p1:=(a.cell (p:=⟨pb,po+K*2+1,N⟩) ad.out).trans a2;have HK:=Aa o;have aw:Hid ((Lib.byteCells (CW (C9 (p.take K)))).length+(⟨#[102,117,110,99,10]⟩:ByteArray).size<=140737488355328):=by have q:=ae.out 0;rw[G9,Au]at q;show(Lib.byteCells (CW (C9 (p.take K)))).length+5<=_;rw[Lib.byteCells,A9];omega
   clear a1 a2 a3 a5 a6 r hf hlen B av hK;have d:=Cu (tU wr.heap.size wr) (uj #[Y (Z ⟨E,co,N⟩) l.length cc,Y (Z ⟨R,S,N⟩) l.length F] 87);have L:=Aa (Ab (a.trans (d.mono a.size)) (Ab (Fq.J8 y d) (Ab (Cy.new wr #[Y (Z ⟨E,co,N⟩) l.length cc,Y (Z ⟨R,S,N⟩) l.length F] 87) A)));clear a y d o;go_wp2_with(go_at_call 70;refine(Fq.jC _ _ _ _ _ L.out.2.1 aw.out (by have:=L.out.2.2.2;simp;omega)).mono ?_;rintro e w2⟨rfl,af,s,ag⟩;have G:=Fq.Nn ag L.out.2.2.1 (by have:=L.out.2.2.2;omega) (by decide);have u:=Aa (Ab (L.out.1.trans (s.mono (Bh _))) (Ab af G));have f0:=G.cell 0;have f1:=G.cell 1;simp only[Ad,Ac,Ag]at f0 f1;clear af s ag G);clear p0 p1 f0 f1;have v:Hid (w.heap.size+2<=wr.heap.size):=A;clear L A;generalize wr.heap.size=fb at*
   go_loopw [29] (λt ws=> ∃k:Nat,k<=l.length/\t=I U k/\Lib.IsBuilderF 152 5 (w.heap.size+1) (w.heap.size+1) (Lib.byteCells (CW (C9 (p.take K)++N::GY (l,D) k))) ws/\tS w.heap.size w ws/\Cy ws fb #[Y (Z ⟨E,co,N⟩) l.length cc,Y (Z ⟨R,S,N⟩) l.length F] 87) (λt _=>l.length-(intOf t).toNat)
   case atStart=>exact⟨0,Ap _,rfl,.inr (by have q:=u.out.2.1;rw[Zb2]at q;rw[show(N::GY (l,D) 0:List Ln)=[N] by simp[GY],<-Xw,DY];exact q),u.out.1,u.out.2.2⟩
   case round=>
    obtain⟨k,hk,rfl,y,a,hF⟩:=hrel;by_cases m:k<l.length
    ·have az:(k:Int)<(l.length:Int):=by omega
     have x:rm (l[k]?.getD ⟨0,0,0,0,0⟩):=by rw[Ae m];exact T.out.2.2.1 _ (BQ m)
     obtain⟨i,hi⟩: ∃i,l[k]?.getD ⟨0,0,0,0,0⟩=i:=⟨_,rfl⟩;obtain⟨M,V⟩: ∃M,D[k]?.getD tY=M:=⟨_,rfl⟩;obtain⟨c0,c1,c2,c3,c4⟩:=T.out.1.2 k m;have c5:=T.out.2.1 k m;rw[hi]at c0 c1 c2 c3 c4;rw[V]at c5;rw[hi]at x;have ah:=Aa x;clear x;have h:=T.out.1.1;have d:=Cu (tU wr.heap.size wr) (uj #[I U i.op,I U i.a,I U i.b,I U i.c,I U i.n] 84);have ai:=Cy.new wr #[I U i.op,I U i.a,I U i.b,I U i.c,I U i.n] 84;have j:=Aa (Ab (Fq.J8 y d) (Ab (a.trans (d.mono a.size)) (Ab (hF.below d hF.lt) ai)));rw[<-a.cell (p:=⟨E,co+k*5,N⟩) h]at c0;rw[<-a.cell (p:=⟨E,co+k*5+1,N⟩) h]at c1;rw[<-a.cell (p:=⟨E,co+k*5+2,N⟩) h]at c2;rw[<-a.cell (p:=⟨E,co+k*5+3,N⟩) h]at c3;rw[<-a.cell (p:=⟨E,co+k*5+4,N⟩) h]at c4;have X:E<wr.heap.size:=An h a.size;have HX:=Aa (Ab hi (Ab V (Ab hk a)));clear y hF d ai hi V hk a h;go_wp2;clear c0 c1 c2 c3 c4 X;have c:=j.out;have aj:=Aa c5;clear c5 j;generalize(wr.alloc (uj #[I U i.op,I U i.a,I U i.b,I U i.c,I U i.n] 84))=W at*
     generalize wr.heap.size=ib at*
     have j:=Aa c;have k0:=c.2.2.2.cell 0;have k1:=c.2.2.2.cell 1;have k2:=c.2.2.2.cell 2;have k3:=c.2.2.2.cell 3;have k4:=c.2.2.2.cell 4;have k5:=c.2.2.1.cell 1;have k6:=(c.2.1.cell (p:=⟨R,S+k,N⟩) T.out.2.2.2.1).trans aj.out;simp only[Ad,Ac,Ag]at k0 k1 k2 k3 k4 k5;clear c;go_region_held3(λz=>z.cell? ⟨ib,0,N⟩=Z (I U i.op)/\z.cell? ⟨ib,1,N⟩=Z (I U i.a)/\z.cell? ⟨ib,2,N⟩=Z (I U i.b)/\z.cell? ⟨ib,3,N⟩=Z (I U i.c)/\z.cell? ⟨ib,4,N⟩=Z (I U i.n)/\z.cell? ⟨fb,1,N⟩=Z (Y (Z ⟨R,S,N⟩) l.length F)/\z.cell? ⟨R,S+k,N⟩=Z (ue M)) (go_keep) (first|(go_at_call 71;refine(Xt i M _ (H0.out.1.below j.out.2.1.drew) (Pow.below H0.out.2.1 j.out.2.1.drew) ah.out).mono ?_;rintro e w3⟨rfl,ak⟩;have g:tS W.heap.size W w3:=((tU W.heap.size W).drew).trans ak;have h1:=Fq.J8 j.out.1 g;have h2:=j.out.2.1.trans (g.mono j.out.2.1.size);have h3:=j.out.2.2.1.below g j.out.2.2.1.lt;have h4:=j.out.2.2.2.below g j.out.2.2.2.lt;have H:=Aa (Ab h1 (Ab h2 h3));have k0:=h4.cell 0;have k1:=h4.cell 1;have k2:=h4.cell 2;have k3:=h4.cell 3;have k4:=h4.cell 4;have k5:=h3.cell 1;have k6:=(h2.cell (p:=⟨R,S+k,N⟩) T.out.2.2.2.1).trans aj.out;simp only[Ad,Ac,Ag]at k0 k1 k2 k3 k4 k5;clear h1 h2 h3 h4 ak g));clear k0 k1 k2 k3 k4 k5 k6;have ax:=(Jk (sf:=M) ah.out.ok).2.1;have nl: ¬9223372036854775807<(FO i M).length+1:=by omega
     have X:=ae.out k;have ao:Hid ((Lib.byteCells (CW (C9 (p.take K)++N::GY (l,D) k))).length+((⟨(FO i M).toArray⟩:ByteArray)++⟨#[10]⟩).size<=140737488355328):=by rw[show(⟨#[10]⟩:ByteArray)=⟨([10]:List UInt8).toArray⟩from rfl,Dh];show(Lib.byteCells (CW (C9 (p.take K)++N::GY (l,D) k))).length+((FO i M++[10]).toArray).size<=_;rw[Lib.byteCells,A9,Bk,Au,Av,AG];omega
     clear ax X;go_wp2_with(go_at_call 70;refine(Fq.jC _ _ _ _ _ H.out.1 ao.out (by have:=v.out;have:=H.out.2.2.lt;omega)).mono ?_;rintro e w4⟨rfl,aq,g,ar⟩;have au:=Fq.Nn ar H.out.2.2 (by have:=v.out;omega) (by decide);have aa:=Aa (Ab aq (Ab (H.out.2.1.trans (g.mono (Bh _))) au));clear aq g ar au);have hw:wrap64 ((k:Int)+1)=((k+1:Nat):Int):=by have:=T.out.2.2.2.2;unfold wrap64;omega
     rw[hw];refine⟨⟨k+1,by omega,rfl,.inr ?_,aa.out.2.1,aa.out.2.2⟩,by simp[intOf];omega⟩;have q:=aa.out.1;rw[show(⟨#[10]⟩:ByteArray)=⟨([10]:List UInt8).toArray⟩from rfl,Dh,Zb2,<-DY]at q;rw[TI (l,D) k C.out.2.1 m,<-Bp,<-AU,G9,M7];simp only[HX.out.1,HX.out.2.1];exact q
    ·obtain rfl:k=l.length:=by omega
     have j:=Aa (Ab y a);have hz:w.heap.size+2<=wr.heap.size:=by have:=v.out;have:=hF.lt;omega
     have HZ:=Aa hz;clear y a hF m hk hz;go_wp2;have hw:wrap64 ((K:Int)+1)=((K+1:Nat):Int):=by have:=HN.out.2;have:=HK.out;unfold wrap64;omega
     rw[hw];refine⟨⟨K+1,HK.out,rfl,?_,j.out.2,HZ.out⟩,by have:=HK.out;simp[intOf];omega⟩;have q:=j.out.1;rw[Xv (l,D) C.out.2.1]at q;rw[TJ p K (l,D) C.out.1];exact q
  ·obtain rfl:K=n:=by omega
   rw[AL (by rw[HN.out.1];exact Al _)]at y;have HS:=Aa (Fq.oR _ _ _ _ y (by omega));have L:=Aa a;clear y a A hK o;go_wp2_with(go_at_call 72;refine HS.out.mono ?_;rintro e w2⟨rfl,s⟩;have u:=Aa (L.out.trans (s.mono (Bh _)));clear s);go_ret2;exact⟨rfl,u.out⟩
end D1
end Go.Proofs.YtgadhchejmlfjaaGreatDoor
