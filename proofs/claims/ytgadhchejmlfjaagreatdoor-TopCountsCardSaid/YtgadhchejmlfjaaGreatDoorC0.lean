/- A part of the proof. -/
import Derived.Test.YtgadhchejmlfjaaGreatDoorB8
import Derived.Test.YtgadhchejmlfjaaGreatDoorB9
set_option linter.unusedVariables false
set_option maxRecDepth 20000
set_option maxHeartbeats 16000000
open Go.Value renaming int->I,pointer->J,slice->Y
open Go.IntKind renaming i64->U
open Option renaming none->N,some->Z
open Go renaming Value->tR,World->rO
open Go.Obj renaming cells->uj
open Go.RowKit.Below renaming drew->tX,refl->tU
open Go.RowKit Go.CN
namespace Go.Proofs.YtgadhchejmlfjaaGreatDoor
namespace C2
open Vm (CP)
open jl (es Dx)
open dX (Ev e0 XX Ka EE)
theorem Vk: ∀(l:List (Int×Int×Int))(s:St)(o:List (Int×Int×Int×Int×Int)),Lj l s=Z o-> ∃out a,D0 l s=Z (out,a)/\out.map pd=o
 | [],s,o,h=>by unfold Lj at h;simp only[Ak]at h;subst h;exact⟨[],s,rfl,rfl⟩
 |x::l,s,o,h=>by
  unfold Lj at h;obtain⟨s1,c,h⟩:=bind_some h;cases b:Lj l s1 with
  |none=>rw[b]at h;cases h
  |some d=>
   rw[b]at h;simp only[BJ,Ak]at h;obtain⟨out,a,e,f⟩:=Vk l s1 d b;refine⟨if s1.sc.seen then s1::out else out,a,?_,?_⟩
   ·unfold D0
    rw[c];simp only[Zbw,e,BJ]
   ·rw[<-h]
    cases s1.sc.seen<;>simp[f]
theorem RW: ∀l:List St,l.flatMap jK=(l.map pd).flatMap λx=>[I U x.1,I U x.2.1,I U x.2.2.1,I U x.2.2.2.1,I U x.2.2.2.2]
 | []=>rfl
 |x::l=>by rw[BE,Zcd,BE,RW l];rfl
theorem mH{w:rO}{base:Nat}{v:tR}{l:List Ev}(h:w.ownsRow base 38 5 v l.length (l.flatMap λx=>[I U x.1,I U x.2.1,I U x.2.2.1,I U x.2.2.2.1,I U x.2.2.2.2])) (d:0<l.length): ∃g cap,v=Y (Z ⟨g,0,N⟩) l.length cap/\base<=g/\g<w.heap.size/\XX w g 0 l:=by
 obtain⟨g,cap,cur,e,f,c,j⟩:=Et h d;have a: ∀i r,i<l.length->r<5->w.cell? ⟨g,i*5+r,N⟩=((λx:Ev=>[I U x.1,I U x.2.1,I U x.2.2.1,I U x.2.2.2.1,I U x.2.2.2.2]) (l[i]?.getD e0))[r]?:=λi r m n=>by rw[c.cell,<-Bm,<-AN (show i*5+r<l.length*5 by omega),j];exact Js _ 5 e0 (λ_=>rfl) l i r m n
 exact⟨g,cap,e,f,c.lt,λk b=>by rw[AJ];exact⟨a k 0 b (by decide),a k 1 b (by decide),a k 2 b (by decide),a k 3 b (by decide),a k 4 b (by decide)⟩⟩
def F0:List Ev:=[(2,1,0,0,0),(1,1,0,1,0),(2,1,0,1,0),(2,1,0,2,1),(2,1,0,3,0),(2,1,0,4,0)]
theorem RX: ∀x∈F0,Ka x:=by intro x a;simp only[F0,Be,Zbb,or_false]at a;rcases a with rfl|rfl|rfl|rfl|rfl|rfl<;>exact⟨⟨by simp,by decide,by decide,by decide⟩,by decide,by decide⟩
theorem OD: ∀x∈Dx 1500 0,D1.Lx x:=by intro x a;obtain⟨i,b,rfl⟩:=BL.1 a;have:=BZ.1 b;exact⟨⟨by simp only;omega,by simp only;omega⟩,⟨by simp only;omega,by simp only;omega⟩,⟨by simp only;omega,by simp only;omega⟩⟩
theorem Fu:(Dx 1500 0).length=1500:=by simp[Dx]
theorem X2:FR [(D1.Ef,D1.Ek)]=Nt:=by kernel_rfl
theorem OE:Rp Nt 1 1 1=G8 Nt 1 1 1:=by kernel_rfl
theorem T9: ∃out a,D0 (Dx 1500 0) (Rp Nt 1 1 1)=Z (out,a)/\out.map pd=F0:=by rw[OE];exact Vk _ _ _ XB
end C2
namespace Qv
open Go.Proofs.Tryz Go.RowKit Go.CN
open C2
open dC
open Vm (CP)
theorem jO(W:rO)(x0 x1 x2 x3 x4 x5 x6 x7 x8 x9 F1:tR):(Instr.field 45 (.agg #[x0,x1,x2,x3,x4,x5,x6,x7,x8,x9,F1]) 9).run prog W= .ok x9 W:=by kernel_rfl
def tK(W:rO)(l:List En)(L:List Sp)(wb mb:Nat)(t:tR)(wr:rO):Prop:= ∃(k:Nat)(s:St)(lv:tR)(F:Nat->Prop),t=I U k/\k<=l.length/\Sr W F s mb wr/\Inv 1000 s/\L.drop k=Ls (l.drop k) s/\Wt wb (cnt L k) (FL L k) lv wr/\F wb/\ ∀j,lv.ownBlock=Z j->F j
section
variable {W wr w3 w4 w5:rO}{F:Nat->Prop}{s s2:St}{mb wb k:Nat}{L:List Sp}{l:List En}{x:En}{lv rM:tR}
theorem dD(g:Sr W F s mb w3)(b:F wb)(d: ∀j,lv.ownBlock=Z j->F j) (f:Ko wb lv w3 w4 rM) {c:List Nat} {h:Int} (i:Wt wb c h rM w4): ∃G:Nat->Prop,Sr W G s mb w4/\G wb/\ ∀j,rM.ownBlock=Z j->G j:=by
 refine⟨_,g.mG (f.only.mono λj _ a=>?_),.inl b,λj a=>?_⟩
 ·rcases a with rfl|a
  ·exact b
  ·exact d j a
 ·rcases f.now j a with e|e
  ·exact .inl (d j e)
  ·exact .inr ⟨e,(AB i.row j a).2⟩
theorem Ua{c:List Nat}{a:Int}(b:Cw (λj=> ¬F j) w4 w5) (d:F wb) (e: ∀j,lv.ownBlock=Z j->F j) (f:Wt wb c a lv w4):Wt wb c a lv w5:=f.off b (λh=>h d) (λj g h=>h (e j g))
end
theorem X3(pb po pc lc:Nat)(p:List (List CP×List Bool))(S cg cm:Nat)(a:Option Addr)(l:List En)(w:rO)(h:Sh w pb po p S cg cm)(hE:R9 w a l)(hl:l.length<=1000):Calls prog 21 #[.agg #[Y (Z ⟨pb,po,N⟩) p.length pc],.agg #[I U S,I U cg,I U cm],.slice a l.length lc] w λe w'=>e= .returned (.tuple #[I U (FL (Ls l (G8 (FR p) S cg cm)) l.length),I U 0])/\Below w.heap.size w w':=by
 obtain⟨L,hL⟩: ∃L,Ls l (G8 (FR p) S cg cm)=L:=⟨_,rfl⟩;rw[hL];obtain⟨T,a6⟩: ∃T,(w.alloc (uj #[Y (Z ⟨pb,po,N⟩) p.length pc] 26)).alloc (uj #[I U S,I U cg,I U cm] 34)=T:=⟨_,rfl⟩;obtain⟨hB,hC⟩:=boxes w _ _ _ _ a6;have HN:=Aa ((h.below hB).new pc);have HE:=Aa (hE.below hB);have HI:=Aa (Ab h.inv hL);have HB:=Aa hB;obtain⟨q0,q1,q2,q3⟩:=hC T (tU _ _);obtain⟨D,E⟩: ∃D,l.length=D:=⟨_,rfl⟩;rw[E]at hl⊢;have n:=Aa (Ab E hl);clear h hE hB hC E hL hl;have hf:=jO;go_enter func21,ntmps21;go_wp2_with(first|(go_at_call 10;refine HN.out.mono ?_;rintro e w1⟨mb,rfl,B⟩;have HS:=Aa B;clear B)|(go_at_call 74;refine(F8 _).mono ?_;rintro e w2⟨wb,rfl,d,V,X⟩;have HW:=Aa (Ab d (Ab V X));clear d V X));clear q0 q1 q2 q3;go_loopw [28] (λt wr=>tK T l L wb mb t wr) (λt _=>D-(intOf t).toNat)
 case atStart=>refine⟨0,_,Y N 0 0,_,rfl,Ap _,(Sr.of HS.out).mG ((Cw.refl _ _).below HW.out.2.1),HI.out.1,HI.out.2.symm,HW.out.1,.inr ⟨HW.out.2.2,HW.out.1.Dj.lt⟩,λj hj=>by cases hj⟩
 case round=>
  obtain⟨k,s,lv,F,rfl,hk,B,hI,H,d,K,M⟩:=hrel;rw[n.out.1]at hk;by_cases r:k<D
  ·have ba:(k:Int)<(D:Int):=by omega
   obtain⟨lb,lo,rfl,aa,ab⟩:=HE.out.resolve_left (by rw[n.out.1];omega);have ad:=B.dZ;have O:k<l.length:=by rw[n.out.1];exact r
   obtain⟨p0,p1,p2⟩:=IA.PC aa ab ad k O;have hx:l[k]?=Z (l[k]?.getD (0,0,0)):=by rw[Ae O];rfl
   generalize l[k]?.getD (0,0,0)=x at*
   obtain⟨o,m,u⟩:=x;simp only at p0 p1 p2;obtain⟨s2,P,ae⟩:=Nu hI o m u;obtain⟨C,af⟩:=de (x:=(o,m,u)) H hx P;have ag:RR s (o,m,u)=⟨I2 s.ms,Dk o (I2 s.ms).length,Dk m 65⟩:=by simp[RR,rJ,I2]
   rw[ag]at C;have ah:(List.range (I2 s.ms).length).map (one ⟨I2 s.ms,Dk o (I2 s.ms).length,Dk m 65⟩ (cnt L k))=cnt L (k+1):=dd L k _ C;have ai:FL L (k+1)=up (max (FL L k) (Dk m 65)) (cnt L (k+1)):=T8 L k _ C;have q:=Cy.new wr #[I U o,I U m,I U u] 36;have a7:Hid (∀W W',Below (wr.alloc (uj #[I U o,I U m,I U u] 36)).heap.size (wr.alloc (uj #[I U o,I U m,I U u] 36)) W->Below W.heap.size W W'->Wt wb (cnt L k) (FL L k) lv W'/\Cy W' wr.heap.size #[I U o,I U m,I U u] 36):=λW W' h1 h2=>by have aj:=q.below h1 q.lt;have a8:=d.go (Cu (tU wr.heap.size wr) (uj #[I U o,I U m,I U u] 36));exact⟨(a8.go h1).go h2,aj.below h2 aj.lt⟩
   have b0:=q.cell 0;have b1:=q.cell 1;have b2:=q.cell 2;simp only[Ad,Ac,Ag]at b0 b1 b2;clear q ag;have ak:(Oq s.ms).length=(I2 s.ms).length:=by simp[Oq]
   have ao:0<(I2 s.ms).length/\(I2 s.ms).length<=1000:=by have:=B.dY;have:=hI.RV.2.1;simp[I2];omega
   have f:=Aa (Ab B (Ab d (Ab K (Ab M (Ab hI (Ab P (Ab ae (Ab af (Ab ah ai)))))))));have HP:=Aa (Ab ak ao);have HH:=Aa (Ab hk r);clear aa ab ad O hx hI P ae C af ah ai ak ao B d K M H hk r;go_wp2;go_cut []from 32 to 37 (λwx=> ∃(y:tR)(G:Nat->Prop),Sr T G s mb wx/\Wt wb (cnt L (k+1)) (FL L (k+1)) y wx/\G wb/\(∀j,y.ownBlock=Z j->G j)/\Cy wx wr.heap.size #[I U o,I U m,I U u] 36)
   case first=>
    go_region_held3(λW=>W.cell? ⟨wr.heap.size,0,N⟩=Z (I U o)/\W.cell? ⟨wr.heap.size,1,N⟩=Z (I U m)/\W.cell? ⟨wr.heap.size,2,N⟩=Z (I U u)) (go_keep) (first|(go_at_call 12;refine((f.out.1.go (by repeat(first|exact tU _ _|refine tX ?_|refine Cu ?_ _))).bD f.out.2.2.2.2.1).mono ?_;rintro e w3⟨⟨y1,y2,y3,y4,y5,y6,y7,y8,bc,g,gc,rfl,hg,z⟩,aq,ar⟩;obtain⟨au,A⟩:=a7.out _ _ (by repeat(first|exact tU _ _|refine tX ?_)) ar;rw[HP.out.1]at z;rw[HP.out.1];have d0:=A.cell 0;have d1:=A.cell 1;have d2:=A.cell 2;simp only[Ad,Ac,Ag]at d0 d1 d2;have H3:=Aa (Ab aq (Ab au (Ab A z)));clear aq au A z ar hg)|(go_at_call 75;refine(cB (I2 s.ms) o m u H3.out.2.1 H3.out.2.2.2 HP.out.2.1 HP.out.2.2 (λi=>AA (MK L k i) (by have:=n.out.2;omega))).mono ?_;rintro e w4⟨⟨bb,rfl⟩,y,Q,c⟩;have b:=H3.out.2.2.1.only Q.only (λhh=>by rcases hh with e|e;(have:=f.out.1.lt f.out.2.2.1;omega);(have:=f.out.1.lt (f.out.2.2.2.1 _ e);omega));have f0:=b.cell 0;have f1:=b.cell 1;have f2:=b.cell 2;simp only[Ad,Ac,Ag]at f0 f1 f2;have H4:=Aa (Ab Q (Ab c b));clear Q c b))
    all_goals go_wp2
    all_goals
     go_meet
     have c:=H4.out.2.1;rw[f.out.2.2.2.2.2.2.2.2.1,<-f.out.2.2.2.2.2.2.2.2.2]at c;obtain⟨G,g1,g2,g3⟩:=dD H3.out.1 f.out.2.2.1 f.out.2.2.2.1 H4.out.1 c;exact⟨_,G,g1,c,g2,g3,H4.out.2.2⟩
   case rest=>
    obtain⟨y,G,av,c,aw,ax,b⟩:=hcut;have e0:=b.cell 0;have e1:=b.cell 1;have e2:=b.cell 2;simp only[Ad,Ac,Ag]at e0 e1 e2;have R:=Aa (Ab av (Ab c (Ab aw ax)));have hw:wrap64 ((k:Int)+1)=((k+1:Nat):Int):=by have:=HH.out.1;have:=n.out.2;unfold wrap64;omega
    have ay:=Aa hw;clear av c aw ax b b0 b1 b2 hw;go_wp2_with(go_at_call 11;refine(R.out.1.step f.out.2.2.2.2.2.1).mono ?_;rintro e w5⟨⟨v,rfl⟩,az,a1⟩;have H6:=Aa (Ab az a1);clear az a1);rw[ay.out];clear ay;have r:=HH.out.2;refine⟨⟨k+1,s2,y,G,rfl,by have:=n.out.1;omega,H6.out.1,f.out.2.2.2.2.2.2.1,f.out.2.2.2.2.2.2.2.1,Ua H6.out.2 R.out.2.2.1 R.out.2.2.2 R.out.2.1,R.out.2.2.1,R.out.2.2.2⟩,by show D-(k+1)<D-k;omega⟩
  ·obtain rfl:k=D:=by omega
   have f:=Aa (Ab B d);clear B d r hk hI H K M;go_wp2_with(go_at_call 76;refine(XF _ f.out.2).mono ?_;rintro e w3⟨rfl,rfl⟩);go_ret2;exact⟨rfl,Cv HB.out f.out.1.dZ⟩
end Qv
end Go.Proofs.YtgadhchejmlfjaaGreatDoor
