/- A part of the proof. -/
import Derived.Test.YtgadhchejmlfjaaGreatDoorA7
import Derived.Test.YtgadhchejmlfjaaGreatDoorA9
set_option linter.unusedVariables false
set_option maxRecDepth 20000
set_option maxHeartbeats 16000000
open Go.Value renaming int->I,pointer->J,slice->Y
open Go.IntKind renaming i64->U
open Option renaming none->N,some->Z
open Bool renaming false->tY,true->tZ
open Go renaming Calls->tT,Value->tR,World->rO
open Go.Ending renaming returned->ui
open Go.RowKit renaming Below->tS
open Go.RowKit.Below renaming drew->tX,refl->tU
open Go.Value renaming agg->uk,bool->ue
open Go.Proofs.Tryz Go.RowKit Go.CN
namespace Go.Proofs.YtgadhchejmlfjaaGreatDoor
namespace Vm
theorem tp(w:rO):tT prog 312 #[I U 2] w λe a=>e=ui (.func (.func 347) #[] #[])/\w=a:=GN 2 (by decide) w
theorem tq(b c:Int)(w:rO):tT prog 347 #[uk #[I U b,I U c]] w λe a=>e=ui (I U (JP 2 b c))/\tS w.heap.size w a:=Kd 2 (by decide) b c w
theorem tr(w:rO):tT prog 312 #[I U 3] w λe a=>e=ui (.func (.func 348) #[] #[])/\w=a:=GN 3 (by decide) w
theorem ts(b c:Int)(w:rO):tT prog 348 #[uk #[I U b,I U c]] w λe a=>e=ui (I U (JP 3 b c))/\tS w.heap.size w a:=Kd 3 (by decide) b c w
theorem tu(w:rO):tT prog 312 #[I U 4] w λe a=>e=ui (.func (.func 349) #[] #[])/\w=a:=GN 4 (by decide) w
theorem tz(b c:Int)(w:rO):tT prog 349 #[uk #[I U b,I U c]] w λe a=>e=ui (I U (JP 4 b c))/\tS w.heap.size w a:=Kd 4 (by decide) b c w
theorem tA(w:rO):tT prog 312 #[I U 5] w λe a=>e=ui (.func (.func 350) #[] #[])/\w=a:=GN 5 (by decide) w
theorem tB(b c:Int)(w:rO):tT prog 350 #[uk #[I U b,I U c]] w λe a=>e=ui (I U (JP 5 b c))/\tS w.heap.size w a:=Kd 5 (by decide) b c w
section
variable (fv:tR)(kf kp:Nat)(r:List Int)(sv:tR)(l:List (Int×Int))(op b c n PU:Int)(ka:Nat)(w:rO)(hA:At w fv kf kp ⟨op,ka,b,c,n⟩)(hI:D3.Laid w)(hr:r.length=8)(hS:Hu w 0 sv l)(hl:l.length<=16)(hk:ka<8)
include hA hI hr hS hl hk
theorem gz(o p q:Nat)(ho:(o=2/\op=2)\/(o=3/\op=3)\/(o=4/\op=4)\/(o=5/\op=5))(Q:p<8)(R:q<8)(E:b=p)(hc:c=q):tT prog 259 #[uk #[fv],uk #[I U kf,I U kp,I U (r_ r 0),I U (r_ r 1),I U (r_ r 2),I U (r_ r 3),I U (r_ r 4),I U (r_ r 5),I U (r_ r 6),I U (r_ r 7),sv,ue tY],I U PU] w (jS (mv op n (r_ (r.set ka (JP op (r_ r p) (r_ r q))) ka) kf (wrap64 (kp+1)) l) (r.set ka (JP op (r_ r p) (r_ r q))) (0) w):=by
 subst E;subst hc;obtain⟨T,po,np,aj,V,co,nc,cc,rfl,hf,hp,ak,ao,cF,i0,i1,i2,i3,i4⟩:=hA.at_;simp only at i0 i1 i2 i3 i4;have HI:=Aa (λD(E:tS w.heap.size w D)=>D3.Mz op D (hI.below E));have HC:=Aa (λW(E:tS w.heap.size w W)=>Fo kf kp (r_ r 0) (r_ r 1) (r_ r 2) (r_ r 3) (r_ r 4) (r_ r 5) (r_ r 6) (r_ r 7) sv l tY W (hS.below E) (by omega));have HM:=Aa (λW tb lo v1 h1 h2 h3 h4=>Hd op ka p q n kf (wrap64 (kp+1)) (r.set ka (JP op (r_ r p) (r_ r q))) v1 l tb lo W _ h1 h2 h3 ka hk rfl rfl hl h4);have X:=Aa (Ab hr hk);have aq:T<w.heap.size+1:=by omega
 have ar:T<w.heap.size+2:=by omega
 have au:T<w.heap.size+3:=by omega
 have av:V<w.heap.size+1:=by omega
 have aw:V<w.heap.size+2:=by omega
 have ax:V<w.heap.size+3:=by omega
 have q1:(kf:Int)<(np:Int):=by omega
 have q2:(kp:Int)<(nc:Int):=by omega
 have q3:(ka:Int)<8:=by omega
 generalize mv op n (r_ (r.set ka (JP op (r_ r p) (r_ r q))) ka) kf (wrap64 (kp+1)) l=M at*
 have q4:(p:Int)<8:=by omega
 have q5:(q:Int)<8:=by omega
 have ay: ∀(F:Nat) w,(binOp .neq 376 (.func (.func F) #[] #[]) .nilFunc).run prog w= .ok (ue tZ) w:=λ_ _=>rfl;clear hA hI hk hr hS hl;have z:Hid ((∀W,tT prog 312 #[I U op] W λe D=>e=ui (.func (.func (345+o)) #[] #[])/\W=D)/\ ∀b c W,tT prog (345+o) #[uk #[I U b,I U c]] W λe D=>e=ui (I U (JP op b c))/\tS W.heap.size W D):=Aa (by rcases ho with⟨rfl,rfl⟩|⟨rfl,rfl⟩|⟨rfl,rfl⟩|⟨rfl,rfl⟩;exact⟨tp,tq⟩;exact⟨tr,ts⟩;exact⟨tu,tz⟩;exact⟨tA,tB⟩);rcases ho with⟨rfl,rfl⟩|⟨rfl,rfl⟩|⟨rfl,rfl⟩|⟨rfl,rfl⟩
 all_goals
  simp only[Nat.reduceAdd]at z;go_enter func259,ntmps259;go_wp2;go_region
  go_wp2_with(first|(go_at_call 56;refine(HC.out _ (by(repeat(first|exact tU _ _|refine tX ?_|refine Cu ?_ _)))).mono ?_;rintro e i⟨v1,rfl,A,m⟩;obtain⟨sa,sc,rfl⟩:=Ew A;obtain⟨c1,f1⟩:=FC m;have az:w.heap.size+3<i.heap.size:=(by have:=m.size;simp at this;omega);have aa:Hid (tS w.heap.size w i):=Aa (Cv (by(repeat(first|exact tU _ _|refine tX ?_|refine Cu ?_ _))) m);have ab:=Aa (((((Cy.ID #[I U 0,I U 0,I U 0,I U 0,I U 0,I U 0,I U 0,I U 0,I U 0,I U 0,JO,ue tY] 50 (show((w.alloc _).alloc _).heap.size=w.heap.size+1+1 by simp)).alloc _).drew).below m (by simp<;>omega)));have s:Hid (GM i (w.heap.size+4) 227 2 (.slice sa l.length sc) l.length (LW l)):=Aa (A.mono (by simp));have HT:=Aa (Ab ((((Ul w _ _ 50:Cy _ (w.heap.size+1) (tv kf kp r sv tY) 50).alloc _).alloc _).drew.below m (by simp<;>omega)) ((Cy.ID _ 84 (show(((w.alloc _).alloc _).alloc _).heap.size=w.heap.size+1+1+1 by simp)).drew.below m (by simp<;>omega)));clear m A;have e1: ¬w.heap.size+1+1+1=i.heap.size:=(by omega);have e2: ¬w.heap.size+1+1=i.heap.size:=(by omega);have e6:w.heap.size+1+1<i.heap.size:=(by omega);have e8:w.heap.size+1<i.heap.size:=(by omega);have e9: ¬w.heap.size+1=i.heap.size:=(by omega))|(go_at_call 312;refine(z.out.1 _).mono ?_;rintro e t⟨rfl,G⟩;have f:=MB G;clear G;obtain⟨c2,f2⟩:=FC f;have a1:i.heap.size<t.heap.size:=(by have:=f.size;simp at this;omega);have HK:=Aa ((Cy.new i _ 50:Cy _ i.heap.size (tv kf kp r (.slice sa l.length sc) tY) 50).below f (by simp));have ad:Hid (tS w.heap.size w t):=Aa (Cv (by(repeat(first|exact aa.out|refine tX ?_|refine Cu ?_ _))) f);have H:=Aa ((ab.out.alloc _).below f (by simp<;>omega));have ae:=Aa ((s.out.below (Cu (tU _ _) _)).below f);have a:=Aa (Ab ((HT.out.1.alloc _).below f (by simp<;>omega)) ((HT.out.2.alloc _).below f (by simp<;>omega)));clear f));have HQ:Hid (∀W,tS t.heap.size t W->W.cell? ⟨w.heap.size+1+1+1,1,N⟩=Z (I U ka)/\W.cell? ⟨w.heap.size+1+1+1,2,N⟩=Z (I U p)/\W.cell? ⟨w.heap.size+1+1+1,3,N⟩=Z (I U q)/\W.cell? ⟨w.heap.size+1,2+p,N⟩=Z (I U (r_ r p))/\W.cell? ⟨w.heap.size+1,2+q,N⟩=Z (I U (r_ r q))):=λW K=>⟨(a.out.2.below K a.out.2.lt).cell 1,(a.out.2.below K a.out.2.lt).cell 2,(a.out.2.below K a.out.2.lt).cell 3,qt (a.out.1.below K a.out.1.lt) Q,qt (a.out.1.below K a.out.1.lt) R⟩;obtain⟨s1,s2,s3,s4,s5⟩:=HQ.out _ (tU _ _);clear c1 f1 c2 f2;have a6: ¬i.heap.size=w.heap.size+1+1+1:=λe=>e1 e.symm;have a7: ¬i.heap.size=w.heap.size+1:=λe=>e9 e.symm;go_region_held3(λW=>W.cell? ⟨w.heap.size+1+1+1,1,N⟩=Z (I U ka)/\W.cell? ⟨w.heap.size+1+1+1,2,N⟩=Z (I U p)/\W.cell? ⟨w.heap.size+1+1+1,3,N⟩=Z (I U q)/\W.cell? ⟨w.heap.size+1,2+p,N⟩=Z (I U (r_ r p))/\W.cell? ⟨w.heap.size+1,2+q,N⟩=Z (I U (r_ r q))) (go_keep) (((first|go_at_call 347|go_at_call 348|go_at_call 349|go_at_call 350);refine(z.out.2 _ _ _).mono ?_;rintro e wr⟨rfl,d⟩;replace d:tS t.heap.size t wr:=Cv (tU t.heap.size t).drew d;have u:=Aa (HK.out.below d HK.out.lt);have af:Hid (tS w.heap.size w wr):=Aa (Cv ad.out d);have ag:=Aa (H.out.below d H.out.lt);have ah:=Aa (ae.out.below d);have a8:t.heap.size<=wr.heap.size:=d.size;have er:i.heap.size<wr.heap.size:=(by omega);obtain⟨k1,k2,k3,k4,k5⟩:=HQ.out _ d;have kx:wr.cell? ⟨i.heap.size,2+ka,N⟩=Z (I U (r_ r ka)):=qt u.out X.out.2;have ba:=u.out.free;have g0:=(a.out.2.below d a.out.2.lt).cell 0;have g4:=(a.out.2.below d a.out.2.lt).cell 4;simp only[Ad,Ac,Ag]at g0 g4;have ky:wr.cell? ⟨i.heap.size,1,N⟩=Z (I U kp):=u.out.cell 1;clear d));go_wp2_with fail;refine(HM.out _ _ (w.heap.size+4) _ ((qo u.out X.out.2 X.out.1 _).set 1 _) (ah.out.off (((Cw.refl (λj=>j=i.heap.size) _).set (.inr rfl) _ _).set (.inr rfl) _ _) (λk hk e=>by have:=(s.out.lt k hk).2;omega)) (λk hk e=>by have:=(s.out.lt k hk).2;omega) (by first|(simp only[JB];omega)|(simp[World.setCell];omega))).mono ?_;rintro e w3⟨rfl,v,B⟩;obtain⟨c3,f3⟩:=PT v;try simp only[JB]at c3 f3
  have L:Hid (tS w.heap.size w w3):=Aa (Ea (C5 (C5 af.out (by omega) _ _) (by omega) 1 _) v (λk hk=>by rcases hk with rfl|hk;omega;have:=(s.out.lt _ hk).1;omega));have ai: ¬(w.heap.size+1+1=i.heap.size\/(Value.slice sa l.length sc).ownBlock=Z (w.heap.size+1+1)):=λh=>by
   rcases h with h|h
   ·omega
   ·have:=(s.out.lt _ h).1;omega
  have C:=Aa (((ag.out.setOther e2 _).setOther e2 _).only v ai);obtain⟨zf,zc⟩:=Io C.out;clear v;clear c3 f3;clear HM;cases M with
  |none=>clear B;go_wp2_with fail;exact Fy (n:=0) (LX C.out) rfl rfl rfl ⟨EX L.out (B7 (Bh _)),rfl⟩
  |some x=>obtain⟨x1,x2,x3⟩:=x;obtain⟨v3,O,y⟩:=B _ rfl;obtain⟨bb,bc,rfl⟩:=Fm y;obtain⟨yf,yc⟩:=Io O;dsimp only at yc y;have P:=Aa y;clear B O y;go_wp2_with fail;exact Fy (n:=0) (LX C.out) rfl rfl rfl ⟨EX L.out (B7 (Bh _)),_,rfl,(P.out.only (S:=λj=>j=w.heap.size+1+1) (KS (Cw.refl _ _) rfl) (λk hk e=>by rcases P.out with⟨h,-⟩|⟨g,cap,h,h2,-⟩;rw[h]at hk;cases hk;rw[h]at hk;cases hk;have e2:g=w.heap.size+1+1:=e;omega)).mono (by omega)⟩
end
end Vm
namespace C2
variable {e:Nat}{s:St}
variable {i j:Nat}
section
open Vm (CP)
def Q5(x:G)(sv:tR):Value:=uk (Vm.tv x.fn x.Dr x.CO sv x.done)
def mV(x:G)(n:Int)(w:rO)(e:Ending)(w':rO):Prop:= ∃a,e=ui (.tuple #[Q5 x a,I U n,ue tZ])/\tS w.heap.size w w'/\Vm.Hu w' w.heap.size a x.stack
theorem ly{x:G}{i:CP}{a:Int}{k:Nat}{w:rO}{e:Ending}{w':rO}(hd:x.done=tY)(u:x.CO.length=8)(v:i.a=k){r':List Int}{n:Int}(o:r'=F4 x i a)(p:n=FY x i a)(q:i.op=7->r'=x.CO)(h:Vm.jS (Vm.mv i.op i.n (Vm.r_ r' k) x.fn (wrap64 (x.Dr+1)) x.stack) r' n w e w'):mV (if GA x i then(LD x,(0:Int))else(GB x i (F4 x i a),FY x i a)).1 (if GA x i then(LD x,(0:Int))else(GB x i (F4 x i a),FY x i a)).2 w e w':=by
 obtain⟨j,h⟩:=h;have r:i.a.toNat=k:=by omega
 by_cases he:i.op=14\/(i.op=8/\x.stack.length=16)\/(i.op=9/\x.stack=[])
 ·have b:GA x i=true:=by simpa[GA]using he
  rw[Ai b];have c:Vm.mv i.op i.n (Vm.r_ r' k) x.fn (wrap64 (x.Dr+1)) x.stack=none:=by unfold Vm.mv;rw[Ai he]
  rw[c]at h;exact⟨Vm.JO,h,j,.inl ⟨rfl,rfl⟩⟩
 ·have b:GA x i=false:=by simpa[GA]using he
  rw[Ah (by simp[b]),<-o,<-p];have c:Vm.mv i.op i.n (Vm.r_ r' k) x.fn (wrap64 (x.Dr+1)) x.stack=Z ((GB x i r').fn,(GB x i r').Dr,(GB x i r').stack):=by
   unfold Vm.mv GB;rw[Ah he];by_cases d:i.op=8
   ·simp[d]
   ·by_cases f:i.op=9
    ·simp[f]
    ·rw[Ah d,Ah f,Ah d,Ah f]
     by_cases l:i.op=7
     ·simp only[q l,rg,r]
     ·simp[Vm.Vx,l]
  rw[c]at h;obtain⟨g,s,t⟩:=h;have m:(GB x i r').CO=r'/\(GB x i r').done=false:=by unfold GB;(repeat' split)<;>exact⟨rfl,hd⟩
  refine⟨g,?_,j,t⟩;rw[s];unfold Q5;rw[m.1,m.2]
theorem lz(u:tR)(q s:Nat)(x:G)(sv:tR)(i:CP)(d:Int)(w:rO)(r:G×Int)(hd:dS x i d=Z r)(y:x.CO.length=8)(W:x.fn=q)(X:x.Dr=s)(B:Vm.At w u q s i)(C:D3.Laid w)(D:Vm.Hu w 0 sv x.stack)(E:x.stack.length<=16):tT prog 259 #[uk #[u],Q5 x sv,I U d] w (mV r.1 r.2 w):=by
 unfold dS at hd;split at hd
 ·rename_i hc
  obtain⟨F,S,T,v⟩:=hc;cases hd;obtain⟨op,a,b,c,n⟩:=i;dsimp only at S T v;obtain⟨g,rfl⟩: ∃k:Nat,a=k:=⟨a.toNat,by unfold Fi at S;omega⟩;obtain⟨kb,H⟩: ∃k:Nat,b=k:=⟨b.toNat,by unfold Fi at T;omega⟩;obtain⟨kc,K⟩: ∃k:Nat,c=k:=⟨c.toNat,by unfold Fi at v;omega⟩;have j:g<8:=by unfold Fi at S;omega
  have L:kb<8:=by unfold Fi at T;omega
  have M:kc<8:=by unfold Fi at v;omega
  have ht:Q5 x sv=uk #[I U (q:Int),I U (s:Int),I U (Vm.r_ x.CO 0),I U (Vm.r_ x.CO 1),I U (Vm.r_ x.CO 2),I U (Vm.r_ x.CO 3),I U (Vm.r_ x.CO 4),I U (Vm.r_ x.CO 5),I U (Vm.r_ x.CO 6),I U (Vm.r_ x.CO 7),sv,ue tY]:=by unfold Q5;rw[W,X,F];rfl
  have key: ∀(r':List Int)(V:Int),r'=F4 x ⟨op,g,b,c,n⟩ d->V=FY x ⟨op,g,b,c,n⟩ d->(op=7->r'=x.CO)-> ∀e l,Vm.jS (Vm.mv op n (Vm.r_ r' g) q (wrap64 (s+1)) x.stack) r' V w e l->
    mV (if GA x ⟨op,g,b,c,n⟩then(LD x,(0:Int))else(GB x ⟨op,g,b,c,n⟩ (F4 x ⟨op,g,b,c,n⟩ d),FY x ⟨op,g,b,c,n⟩ d)).1 (if GA x ⟨op,g,b,c,n⟩then(LD x,(0:Int))else(GB x ⟨op,g,b,c,n⟩ (F4 x ⟨op,g,b,c,n⟩ d),FY x ⟨op,g,b,c,n⟩ d)).2 w e l:=λr' V p z A e l h=>by
   refine ly (k:=g) F y rfl p z A ?_;rw[W,X];exact h
  rw[ht];have P: ∀o:Int,o=1\/o=2\/o=3\/o=4\/o=5\/o=7\/o=15->(D3.row o).asks=false:=λo O=>by rcases O with rfl|rfl|rfl|rfl|rfl|rfl|rfl<;>decide+kernel
  by_cases p:op=1
  ·refine(Vm.Yr u q s x.CO sv x.stack op b c n d g w B C y D E j p).mono (λe l h=>key _ _ ?_ ?_ (λe=>by omega) e l (by rw[p];exact h))
   ·simp[F4,p]
   ·simp[FY,p,P 1 (.inl rfl)]
  by_cases f:op=15
  ·refine(Vm.eu u q s x.CO sv x.stack op b c n d g w B C y D E j f).mono (λe l h=>key _ _ ?_ ?_ (λe=>rfl) e l (by rw[f];exact h))
   ·simp[F4,f,P 15 (by simp)]
   ·simp[FY,f,rg]
  by_cases m:op=2\/op=3\/op=4\/op=5
  ·have O: ∃o:Nat,(o=2/\op=2)\/(o=3/\op=3)\/(o=4/\op=4)\/(o=5/\op=5):=by
    rcases m with h|h|h|h
    ·exact⟨2,.inl ⟨rfl,h⟩⟩
    ·exact⟨3,.inr (.inl ⟨rfl,h⟩)⟩
    ·exact⟨4,.inr (.inr (.inl ⟨rfl,h⟩))⟩
    ·exact⟨5,.inr (.inr (.inr ⟨rfl,h⟩))⟩
   obtain⟨o,O⟩:=O;refine(Vm.gz u q s x.CO sv x.stack op b c n d g w B C y D E j o kb kc O L M H K).mono (λe l h=>key _ _ ?_ ?_ (λe=>by omega) e l h)
   ·subst H;subst K
    rcases m with rfl|rfl|rfl|rfl<;>simp[F4,Vm.JP,rg,Vm.r_];congr 1
   ·have:(D3.row op).asks=false:=P op (by omega)
    simp[FY,f,this]
  ·have z:op≠2:=λe=>m (.inl e)
   have A:op≠3:=λe=>m (.inr (.inl e));have Q:op≠4:=λe=>m (.inr (.inr (.inl e)));have R:op≠5:=λe=>m (.inr (.inr (.inr e)));cases t:(D3.row op).asks with
   |false=>
    refine(Vm.nd u q s x.CO sv x.stack op b c n d g w B C y D E j (by simpa using p) (by simpa using f) (by simpa using z) (by simpa using A) (by simpa using Q) (by simpa using R) t).mono (λe l h=>key _ _ ?_ ?_ (λe=>rfl) e l h)
    ·simp[F4,p,z,A,Q,R,t]
    ·simp[FY,f,t]
   |true=>
    refine(Vm.et u q s x.CO sv x.stack op b c n d g w B C y D E j (by simpa using p) (by simpa using f) (by simpa using z) (by simpa using A) (by simpa using Q) (by simpa using R) t).mono (λe l h=>key _ _ ?_ ?_ (λe=>?_) e l h)
    ·simp[F4,p,z,A,Q,R,t]
    ·simp[FY,f,t]
    ·rw[e,P 7 (by simp)]at t;cases t
 ·cases hd
end
section
open Cx (Pr pz)
open Vm (CP)
section
variable {mb:Nat}{V:Vr}{own:Nat->Nat}{w:rO}{s:St}
variable {k g n cap j:Nat}
theorem CE.Z9(h:CE mb V own w s){a:Pc}(d:s.asked[k]?=Z a)(c:V.EG=Y (Z ⟨g,0,N⟩) n cap)(u:Int):CE mb V own (w.setCell ⟨g,k*3+2,N⟩ (I U u)) {s with asked:=s.asked.set k ⟨a.pre,a.Eo,u⟩}/\Ext own w own (w.setCell ⟨g,k*3+2,N⟩ (I U u)):=by obtain⟨b,e⟩:=h.EO (by decide);rw[c]at b;exact h.JU c (oset (DA g w) _ _) _ (by rw[c];exact b.put d 2 (by decide) (I U u) ⟨a.pre,a.Eo,u⟩ rfl)
theorem CE.lA(h:CE mb V own w s){a:Pc}(d:s.asked[k]?=Z a)(c:V.EG=Y (Z ⟨g,0,N⟩) n cap)(u:Bool):CE mb V own (w.setCell ⟨g,k*3+1,N⟩ (ue u)) {s with asked:=s.asked.set k ⟨a.pre,u,a.count⟩}/\Ext own w own (w.setCell ⟨g,k*3+1,N⟩ (ue u)):=by obtain⟨b,e⟩:=h.EO (by decide);rw[c]at b;exact h.JU c (oset (DA g w) _ _) _ (by rw[c];exact b.put d 1 (by decide) (ue u) ⟨a.pre,u,a.count⟩ rfl)
def Og(mb:Nat)(V:Vr)(own:Nat->Nat)(w:rO)(n j:Nat)(s':St)(t:tR)(wr:rO):Prop:= ∃(k:Nat)(a:Nat->Nat)(s1:St),k<=n/\t=I U k/\CE mb V a wr s1/\Ext own w a wr/\IM j (n-k) k s1=Z s'
theorem Og.next{s':St}{t:tR}{wr:rO}{m:Nat}{a:Nat->Nat}{s1:St}(f:k<n)(hm:n-(k+1)=m)(b:t=I U (k+1:Nat))(c:CE mb V a wr s1)(d:Ext own w a wr)(e:IM j m (k+1) s1=Z s'):Og mb V own w n j s' t wr:=⟨k+1,a,s1,by omega,b,c,d,by rw[hm];exact e⟩
theorem CE.bars(h:CE mb V own w s){xb:Nat}{s':St}(o:own xb=22+5*j)(b:N5 s j=Z s'):tT prog 295 #[ptr mb,ptr xb] w (Dd mb V own w unit s'):=by
 unfold N5 at b;cases r:s.ms[j]? with
 |none=>rw[r]at b;cases b
 |some y=>
 rw[r]at b;dsimp only at b;obtain⟨E,B3⟩:=h.Hk (y:=y) o r 4;have F:=h.Hb.2.2;have c3:=Wr (h.C3 o r);have f3:=(h.C3 o r).free 3;obtain⟨n1,n2⟩:=h.ji o;have c0:=E.c0;have HL:=Aa E.N3;have G:=h.Z4 o r;have H:=Aa (Ab E (Ab B3 b));have HX:=Aa (Ab o G);have K:(s.CQ j {y with phase:=4}).rings.length=s.rings.length:=rfl;rw[K]at HL;generalize hn:s.rings.length=n at*
 generalize s.CQ j {y with phase:=4}=s0 at*
 go_enter func295,ntmps295;go_wp2_with(go_at_call 57;refine HL.out.mono ?_;rintro e v⟨rfl,rfl⟩);generalize w.setCell ⟨xb,3,N⟩ (I U 4)=w0 at*
 go_loopw [13] (λt wr=>Og mb V own w n j s' t wr) (λt _=>n-(intOf t).toNat)
 case atStart=>exact⟨0,own,s0,Ap _,rfl,H.out.1,H.out.2.1,H.out.2.2⟩
 case round=>
  obtain⟨k,x,s1,hk,rfl,c,z,b⟩:=hrel;by_cases d:k<n
  ·obtain⟨m,hm⟩: ∃m,n-k=m+1:=⟨n-k-1,by omega⟩
   have L:n-(k+1)=m:=by omega
   rw[hm]at b;unfold IM at b;have M:=z.keep HX.out.1 HX.out.2;cases hy:s1.ms[j]? with
   |none=>rw[hy]at b;cases b
   |some f=>
   cases u:s1.asked[k]? with
   |none=>rw[hy,u]at b;cases b
   |some a=>
   rw[hy,u]at b;dsimp only at b;have x1:=LH (c.C3 M hy);obtain⟨g,cap,O,hg,n3,n4,ag,a0,a1,a2,f0,f1,f2⟩:=c.ask u;have c7:=c.c7;rw[O]at c7;have q:(k:Int)<(s1.asked.length:Int):=by have:=CC u;omega
   have c8:=c.c8;have Wq:=c.Wq;have f19:=c.Fa 19;have ah:(k:Int)<(n:Int):=by omega
   have P:=Aa (c.fw k);have Q:=Aa L;by_cases l:(k:Int)=f.p\/Cx.FV s1.stat k≠1
   ·rw[Ai l]at b
    obtain⟨R,S⟩:=c.Z9 u O (wrap64 (a.count+1));have A:=Aa R;have B:=Aa (z.trans S);have C:=Aa b;have D:((k:Int)==f.p)=tZ\/((k:Int)==f.p)=tY/\(Cx.FV s1.stat k !=1)=true:=by
     by_cases T:(k:Int)=f.p
     ·exact .inl (by simpa using T)
     ·exact .inr ⟨by simpa using T,by simpa using l.resolve_left T⟩
    generalize Cx.FV s1.stat k=gl at*
    generalize f.p=yp at*
    rcases D with D|⟨D,W⟩
    ·go_wp2_with(first|(go_at_call 58;refine P.out.mono ?_;rintro e v⟨rfl,rfl⟩))
     go_roundw
     case rel=>exact Og.next d Q.out (by go_num) A.out B.out C.out
     case measure=>simp[intOf];omega
    ·go_wp2_with(first|(go_at_call 58;refine P.out.mono ?_;rintro e v⟨rfl,rfl⟩))
     go_roundw
     case rel=>exact Og.next d Q.out (by go_num) A.out B.out C.out
     case measure=>simp[intOf];omega
   ·rw[Ah l]at b
    have D:((k:Int)==f.p)=false:=by simp only[not_or]at l;simpa using l.1
    have W:(Cx.FV s1.stat k !=1)=false:=by simp only[not_or,ne_eq,Classical.not_not]at l;simp[l.2]
    cases hw:Iz s1 k with
    |none=>rw[hw]at b;cases b
    |some i=>
    rw[hw]at b;dsimp only at b;obtain⟨s2,hq,b⟩:=bind_some b;obtain⟨R,S⟩:=c.lA u O tZ;obtain⟨X,E2⟩:=R.Mp (wrap64 (s1.sc.wait+1));have HW:=Aa (X.Kz (p:=k) (k:=i) hw);have HA:=Aa (X.asks (X.ox i (To (s:=s1) hw)) hq);have B:=Aa (z.trans (S.trans E2));have C:=Aa b;generalize Cx.FV s1.stat k=gl at*
    generalize f.p=yp at*
    generalize s1.sc.wait=wt at*
    go_wp2_with(first|(go_at_call 58;refine P.out.mono ?_;rintro e v⟨rfl,rfl⟩)|(go_at_call 257;refine HW.out.mono ?_;rintro e v⟨rfl,rfl⟩)|(go_at_call 258;refine HA.out.mono ?_;rintro e v⟨rfl,af,aa,ab⟩;have ad:=Aa aa;have ae:=Aa (B.out.trans ab)));go_roundw
    case rel=>exact Og.next d Q.out (by go_num) ad.out ae.out C.out
    case measure=>simp[intOf];omega
  ·obtain rfl:k=n:=by omega
   rw[Bj]at b;unfold IM at b;simp only[Ak]at b;subst b;have A:=Aa (show Dd mb V own w unit s1 (ui unit) wr from⟨rfl,x,c,z⟩);go_wp2;go_end0;exact A.out
end
end
section
open Cx (Pr pz)
open Vm (CP)
section
variable {mb:Nat}{V:Vr}{own:Nat->Nat}{w:rO}{s:St}
theorem CE.lB(h:CE mb V own w s){xb j:Nat}{s':St}(op a G c n:Int)(hx:own xb=22+5*j)(k:Ic s j op=Z s'):tT prog 248 #[ptr mb,ptr xb,uk #[I U op,I U a,I U G,I U c,I U n]] w (Dd mb V own w unit s'):=by
 unfold Ic at k;cases H:s.ms[j]? with
 |none=>rw[H]at k;cases k
 |some y=>
 rw[H]at k;dsimp only at k;replace k:=CT k;obtain⟨⟨S,a1⟩,k⟩:=k;have T:=(h.xg H).2;obtain⟨i,A⟩: ∃i:Nat,y.g=(i:Int)+1:=⟨(y.g-1).toNat,by omega⟩;rw[A]at S T k;have e2:((i:Int)+1-1).toNat=i:=by omega
 rw[e2]at k;cases W:s.gs[i]? with
 |none=>rw[W]at k;cases k
 |some x=>
 rw[W]at k;dsimp only at k;obtain⟨X,hb⟩:=h.gp S T;rw[e2]at X hb;obtain⟨b,ah⟩: ∃b,V.CR i=b:=⟨_,rfl⟩;rw[ah]at X hb;have R:=h.alloc (EI op a G c n);have E0:=(Ext.refl own w).alloc (EI op a G c n);have B0:Cy (w.alloc (EI op a G c n)) w.heap.size #[I U op,I U a,I U G,I U c,I U n] 84:=Cy.new w _ 84;have hL:=h.fresh w.heap.size (Al _);have ai:=R.Z4 hx H;have aj:=R.jx hb W;obtain⟨u,hu⟩: ∃u,(i:Int)+1=u:=⟨_,rfl⟩;have b0:=Jw R hb W hu;rw[hu]at X k A;have R7:=R.R7;have x2:w.cell? ⟨xb,2,N⟩=Z (ptr b):=by rw[<-X,<-A];exact R8 (h.C3 hx H)
 obtain⟨s1,B⟩: ∃s1,s1=({s with owner:=Dg.OM s.owner u,waits:=Dg.ON s.owner s.waits u}:St):=⟨_,rfl⟩;have ak:s1.ms[j]?=Z y:=by rw[B];exact H
 have ao:s1.gs[i]?=Z x:=by rw[B];exact W
 rw[<-B]at k;have HA:Hid (∀m,tT prog 294 #[ptr V.CA,I U u] ((w.alloc (EI op a G c n)).drewN m) (Dd mb V own ((w.alloc (EI op a G c n)).drewN m) (.tuple #[ue (Dg.NC s.owner u),I U (Dg.YG u)]) s1)):=λm=>by rw[B];exact(R.drewN m).acquire u (by omega)
 have v:=Aa (Ab R (Ab E0 (Ab B0 hL)));have d:=Aa (Ab hx (Ab ai (Ab hb (Ab aj (Ab ak (Ab ao (Ab hu (Ab X A))))))));have HS:=Aa k;have a6:=h.Z4 hx H;unfold EI at b0 R7 HA v;generalize Dg.YG u=fu at*
 cases F:Dg.NC s.owner u with
 |false=>
  rw[F]at HA HS;go_enter func248,ntmps248;go_wp2;go_region_held3(λw'=>w'.cell? ⟨mb,12,N⟩=Z (ptr V.CA)/\w'.cell? ⟨b,0,N⟩=Z (I U u)) (go_keep) (first|(go_at_call 294;refine(HA.out 1).mono ?_;rintro e w1⟨rfl,o1,l,z⟩;have eH:=l.R7;have k0:w1.cell? ⟨b,0,N⟩=Z (I U u):=Jw l (z.keep d.out.2.2.1 d.out.2.2.2.1) d.out.2.2.2.2.2.1 d.out.2.2.2.2.2.2.1;have C:=Aa l;have o:=Aa (((Ext.refl own _).drewN 1).trans z)))
  all_goals
   have aa:=o.out.keep d.out.1 d.out.2.1;have D:=o.out.keep d.out.2.2.1 d.out.2.2.2.1;obtain⟨a7,f16⟩:=C.out.Z2 D d.out.2.2.2.2.2.1;obtain⟨p,K⟩:=C.out.Mq D d.out.2.2.2.2.2.1 tZ;have HO:=Aa (p.off aa (y:=y) d.out.2.2.2.2.1);rw[d.out.2.2.2.2.2.2.2.2,d.out.2.2.2.2.2.2.2.1]at HO;have q:=Aa (o.out.trans K);have L:((s1.CJ i {x with CA:=tZ}).CQ j {y with g:=0,phase:=1}).gs[i]?=Z {x with CA:=tZ}:=Fc (CC d.out.2.2.2.2.2.1);have ab:=Aa L;have f:=HS.out;rw[Ah (by decide)]at f;unfold Gw at f;rw[show(s1.CJ i {x with CA:=tZ}).ms[j]?=Z y from d.out.2.2.2.2.1]at f;dsimp only at f;rw[d.out.2.2.2.2.2.2.2.2,Ai (by have:=d.out.2.2.2.2.2.2.1;omega),show(u-1).toNat=i by have:=d.out.2.2.2.2.2.2.1;omega]at f;simp only[BJ,Ak]at f;have aq:=Aa f;go_wp2_with(first|(go_at_call 183;refine HO.out.mono ?_;rintro e w2⟨rfl,o2,M,O⟩;have ad:=Aa (q.out.trans O);have ar:=Aa M)|(go_at_call 116;refine(ar.out.is (ad.out.keep d.out.2.2.1 d.out.2.2.2.1) ab.out 4 (by decide) (by decide)).mono ?_;rintro e w3⟨rfl,o3,r,P⟩;rw[<-GV ab.out,aq.out]at r;have ae:=Aa r;have t:=Aa (ad.out.trans P)));go_end0;exact⟨rfl,o3,ae.out,v.out.2.1.trans t.out⟩
 |true=>
  rw[F]at HA HS;have f:=HS.out;rw[Ai rfl]at f;unfold Kv at f;rw[d.out.2.2.2.2.2.1]at f;dsimp only[Option.bind_some]at f;obtain⟨s2,Q⟩: ∃s2,s2=s1.CS {s1.sc with kind:=1,eg:=(i:Int)+1,Kl:=x.fn,Km:=x.Dr,en:=0,seen:=tZ}:=⟨_,rfl⟩;have L:s2.gs[i]?=Z x:=by rw[Q];exact d.out.2.2.2.2.2.1
  rw[<-Q]at f;have hc:((op==19)=tZ/\N5 ((s2.CJ i {x with begun:=tZ}).CS {s2.sc with wait:=0}) j=Z s')\/((op==19)=tY/\K1 ((s2.CJ i {x with begun:=tZ}).CS {s2.sc with wait:=0}) j=Z s'):=by
   by_cases E:op=19
   ·rw[Ai E]at f;exact .inl ⟨by simpa using E,f⟩
   ·rw[Ah E]at f;exact .inr ⟨by simpa using E,f⟩
  rcases hc with⟨hd,f⟩|⟨hd,f⟩
  all_goals
   have H2:=Aa (Ab L (Ab f Q));go_enter func248,ntmps248;go_wp2;go_region_held3(λw'=>w'.cell? ⟨mb,12,N⟩=Z (ptr V.CA)/\w'.cell? ⟨b,0,N⟩=Z (I U u)) (go_keep) (first|(go_at_call 294;refine(HA.out 1).mono ?_;rintro e w1⟨rfl,o1,l,z⟩;have eH:=l.R7;have k0:w1.cell? ⟨b,0,N⟩=Z (I U u):=Jw l (z.keep d.out.2.2.1 d.out.2.2.2.1) d.out.2.2.2.2.2.1 d.out.2.2.2.2.2.2.1;have C:=Aa l;have o:=Aa (((Ext.refl own _).drewN 1).trans z)))
   all_goals
    have aa:=o.out.keep d.out.1 d.out.2.1;have D:=o.out.keep d.out.2.2.1 d.out.2.2.2.1;have af:=Aa (C.out.see 1 D d.out.2.2.2.2.2.1 0);rw[<-H2.out.2.2]at af;go_wp2_with(first|(go_at_call 260;refine af.out.mono ?_;rintro e w2⟨rfl,o2,p,K⟩;have q:=Aa (o.out.trans K);have a8:=p.Wq;have ay:=p.Fa 19;obtain⟨ba,az⟩:=p.UR (q.out.keep d.out.2.2.1 d.out.2.2.2.1) H2.out.1;obtain⟨M,O⟩:=p.Q3 (q.out.keep d.out.2.2.1 d.out.2.2.2.1) H2.out.1 tZ;obtain⟨r,P⟩:=M.Mp 0;obtain⟨bb,bc⟩:=p.gy (q.out.keep d.out.2.2.1 d.out.2.2.2.1);have t:=Aa (q.out.trans (O.trans P));have p0:=(Ey v.out.2.2.1 v.out.2.2.2 t.out).cell 0;simp only[Ad,Ac]at p0;have ae:=Aa r;(first|have ag:=Aa (r.bars (t.out.keep d.out.1 d.out.2.1) H2.out.2.1)|have ag:=Aa (r.stops (t.out.keep d.out.1 d.out.2.1) H2.out.2.1)))|((first|go_at_call 296|go_at_call 295);refine ag.out.mono ?_;rintro e w3⟨rfl,o3,au,av⟩;have aw:=Aa au;have ax:=Aa (t.out.trans av)));go_end0;exact⟨rfl,o3,aw.out,v.out.2.1.trans ax.out⟩
end
end
theorem lC:(prog.underlying 133).map (λd=>match d with| .func .. =>tZ|_=>tY)=Z true:=by kernel_rfl
theorem US: ∃a b c,prog.underlying 133=Z (.func a b c):=by
 have h:=lC;cases hu:prog.underlying 133 with
 |none=>rw[hu]at h;cases h
 |some d=>
  rw[hu]at h;cases d
  case func a b c=>exact⟨a,b,c,rfl⟩
  all_goals simp at h
theorem lD(w:rO):(binOp .neq 133 .nilFunc .nilFunc).run prog w= .ok (ue tY) w:=by
 obtain⟨a,b,c,hu⟩:=US;have h: ∀d:Nat,(Op.equalIn (d+1) 133 .nilFunc .nilFunc).run prog w= .ok tZ w:=λd=>by simp[Op.equalIn,Co hu]
 simp only[binOp];simp[Op.equal,Op.maxDepth,h 9999]
theorem gA(w:rO)(k:Go.Fn):(binOp .neq 133 (.func k #[] #[]) .nilFunc).run prog w= .ok (ue tZ) w:=by
 obtain⟨a,b,c,hu⟩:=US;have h: ∀d:Nat,(Op.equalIn (d+1) 133 (.func k #[] #[]) .nilFunc).run prog w= .ok tY w:=λd=>by simp[Op.equalIn,Co hu]
 simp only[binOp];simp[Op.equal,Op.maxDepth,h 9999]
section
open Cx (Pr pz)
open Vm (CP)
variable {j i:Nat}{l r:List Int}
def JJ(f:Fn)(nf:Nat)(i:CP):Prop:=0<=i.op/\i.op<=23/\Fi i.a/\Fi i.b/\Fi i.c/\(i.op=6\/i.op=7->0<=i.n/\i.n<f.code.length)/\(i.op=8\/i.op=10->0<=i.n/\i.n<nf)
structure oz (nf:Nat) (f:Fn):Prop where
 len:1<=f.code.length/\f.code.length<=64
 safe:f.safe.length=f.code.length
 ins: ∀(i:Nat)(x:CP),f.code[i]?=Z x->JJ f nf x/\(x.op=6\/x.op=9\/x.op=14\/i+1<f.code.length)
structure W8 (fs:List Fn):Prop where
 len:1<=fs.length
 fn: ∀(k:Nat)(f:Fn),fs[k]?=Z f->oz fs.length f
def mW(a:List Fn)(fn pc:Int):Prop:=0<=fn/\0<=pc/\ ∃f,a[fn.toNat]?=Z f/\pc<f.code.length
structure Pm (fs:List Fn) (x:G):Prop where
 CO:x.CO.length=8
 wd:D9.Dt x.word
 at_:mW fs x.fn x.Dr
 deep:x.stack.length<=16
 Ld: ∀r,r∈x.stack->mW fs r.1 r.2
theorem W8.first{a:List Fn}(h:W8 a):mW a 0 0:=by refine⟨by omega,by omega,?_⟩;have b:=h.len;refine⟨a[0],by simp,?_⟩;have:=(h.fn 0 a[0] (by simp)).len.1;omega
theorem wrap_small{x:Int}(h:0<=x)(a:x<=1000000):wrap64 x=x:=by unfold wrap64;omega
theorem Tt{c:List Fn}(k:W8 c){s:St}(z:s.funcs=c){x:G}(a:Pm c x)(hd:x.done=tY)(g:Int): ∃ins,Fh s x=Z ins/\0<=ins.op/\ins.op<=23/\Fi ins.a/\(ins.op=10->mW c ins.n 0)/\ ∃r,dS x ins g=Z r/\Pm c r.1/\r.1.word=x.word/\r.1.CA=x.CA/\r.1.blocked=x.blocked/\r.1.begun=x.begun/\(r.1.done=tZ->ins.op=14\/ins.op=8\/ins.op=9):=by
 obtain⟨m,A,f,b,B⟩:=a.at_;have w:=k.fn _ _ b;have n:=Ae (l:=f.code) (i:=x.Dr.toNat) (by omega);generalize f.code[x.Dr.toNat]=ins at n;obtain⟨⟨i1,i2,i3,i4,i5,i6,i7⟩,i8⟩:=w.ins _ _ n;refine⟨ins,by simp[Fh,m,A,z,b,n],i1,i2,i3,λo=>?_,_,by unfold dS;rw[Ai ⟨hd,i3,i4,i5⟩],?_⟩
 ·have p:=i7 (.inr o)
  refine⟨p.1,by omega,c[ins.n.toNat]'(by omega),Ae _,?_⟩;have:=(k.fn ins.n.toNat _ (Ae (by omega))).len.1;omega
 ·have d:(F4 x ins g).length=8:=by unfold F4;(repeat' split)<;>simp[a.CO]
  have hw:wrap64 (x.Dr+1)=x.Dr+1:=wrap_small (by omega) (by have:=w.len.2;omega);by_cases he:GA x ins=tZ
  ·rw[Ai he]
   refine⟨⟨rfl,a.wd,k.first,by simp[LD],by simp[LD]⟩,rfl,rfl,rfl,rfl,λ_=>?_⟩;simp[GA]at he;omega
  ·rw[Ah he]
   simp only[GA,Bo]at he;have y:mW c x.fn (x.Dr+1)\/ins.op=6\/ins.op=9\/ins.op=14:=by
    rcases i8 with h|h|h|h
    ·exact .inr (.inl h)
    ·exact .inr (.inr (.inl h))
    ·exact .inr (.inr (.inr h))
    ·exact .inl ⟨m,by omega,f,b,by omega⟩
   dsimp only[GB];by_cases q:ins.op=8
   ·rw[Ai q]
    have p:=i7 (.inl q);refine⟨⟨d,a.wd,⟨p.1,by dsimp only;omega,c[ins.n.toNat]'(by omega),List.getElem?_eq_getElem _,?_⟩,?_,?_⟩,rfl,rfl,rfl,rfl,λh=>by rw[hd]at h;cases h⟩
    ·have:=(k.fn ins.n.toNat _ (Ae (by omega))).len.1
     dsimp only;omega
    ·have:=a.deep
     simp;omega
    ·intro r e
     simp only[Br,Cj]at e;rcases e with e|rfl
     ·exact a.Ld r e
     ·rw[hw];rcases y with h|h|h|h
      ·exact h
      all_goals omega
   ·rw[Ah q]
    by_cases t:ins.op=9
    ·rw[Ai t]
     have j:x.stack≠[]:=λh=>he (.inr (.inr ⟨t,h⟩));refine⟨⟨d,a.wd,?_,?_,?_⟩,rfl,rfl,rfl,rfl,λh=>by rw[hd]at h;cases h⟩
     ·rw[List.getLast?_eq_some_getLast j]
      exact a.Ld _ (List.getLast_mem j)
     ·have:=a.deep
      simp;omega
     ·intro r e
      exact a.Ld r (List.dropLast_subset _ e)
    ·rw[Ah t]
     refine⟨⟨d,a.wd,?_,a.deep,a.Ld⟩,rfl,rfl,rfl,rfl,λh=>by rw[hd]at h;cases h⟩;dsimp only[Vm.Vx];rw[hw];by_cases u:ins.op=6
     ·rw[Ai u]
      have:=i6 (.inl u);exact⟨m,this.1,f,b,this.2⟩
     ·rw[Ah u]
      by_cases v:ins.op=7/\rg x ins.a.toNat≠0
      ·rw[Ai v]
       have:=i6 (.inr v.1);exact⟨m,this.1,f,b,this.2⟩
      ·rw[Ah v]
       rcases y with h|h|h|h
       ·exact h
       ·omega
       ·omega
       ·exact absurd (.inl h) he
structure GC where
 word:Int
 CA:Bool
 blocked:Bool
 begun:Bool
variable {x:GC}
structure MC where
 p:Int
 g:Int
 phase:Int
structure Cr where
 n:Nat
 qs:List Int
 CI:List Int
 stat:List Pr
 gs:List GC
 ms:List MC
 bars:List Bool
 ip:List Int
 IB:List Int
 Gg:Int
 ws:List Int
 st:Bool
 Hc:Int
 wt:Int
 G2:Int
 Gq:Int
def Df(s:St):List Int:=s.all++s.rings.flatMap λr=>Ring.C7 r.CI r.row
def gc(x:G):GC:=⟨x.word,x.CA,x.blocked,x.begun⟩
def mc(y:M1):MC:=⟨y.p,y.g,y.phase⟩
def core(s:St):Cr:=⟨s.rings.length,Df s,s.rings.map (·.CI),s.stat,s.gs.map gc,s.ms.map mc,s.asked.map (·.Eo),s.CD,s.CL,s.owner,s.waits,s.sc.Cz,s.sc.CF,s.sc.wait,s.sc.G2,s.sc.Gq⟩
def Oh(n:Nat)(stat:List Pr)(gs:List GC)(ow:Int)(j:Nat)(y:MC):Prop:=
 0<=y.phase/\y.phase<=5/\(y.phase=0->y.g=0)/\(y.phase=1->y.g=0)/\
 (1<=y.phase->y.phase<=4-> ∃p:Nat,y.p=p/\p<n/\(stat[p]?=Z (1,(j:Int))\/stat[p]?=Z (3,(j:Int))))/\
 (2<=y.phase-> ∃(i:Nat)(x:GC),y.g=(i:Int)+1/\gs[i]?=Z x/\(y.phase<=4->x.word=2)/\(y.phase=5->x.word=3\/x.word=11)/\(y.phase=3\/y.phase=4->x.begun=tZ/\ow=y.g))/\
 (y.phase=5->y.p= -1\/ ∃p:Nat,y.p=p/\p<n/\(stat[p]?=Z (2,(j:Int))\/stat[p]?=Z (1,(j:Int))))
structure Dp (c:Cr):Prop where
 oA:1<=c.n
 W9:c.n<=256
 nb:c.bars.length=c.n
 an:c.CI.length=c.n
 ns:c.n<=c.stat.length
 sl:c.stat.length<=256
 g1:1<=c.gs.length
 g2:c.gs.length<=64
 m1:1<=c.ms.length
 m2:c.ms.length<=64
 G2:c.G2<=64
 Gq:c.Gq<=64
 qn:c.qs.Nodup
 qw: ∀id,id∈c.qs-> ∃(i:Nat)(x:GC),id=(i:Int)+1/\c.gs[i]?=Z x/\(x.word=1\/x.word=9)
 rn: ∀a,a∈c.CI->0<=a
 mp: ∀(j:Nat)(y:MC),c.ms[j]?=Z y->Oh c.n c.stat c.gs c.Gg j y
 mu: ∀(j k:Nat)(y z:MC),c.ms[j]?=Z y->c.ms[k]?=Z z->y.g=z.g->1<=y.g->j=k
 sp: ∀(p:Nat)(a w:Int),p<c.n->c.stat[p]?=Z (a,w)->(w= -1/\(a=0\/a=3))\/(1<=a/\a<=3/\ ∃(j:Nat)(y:MC),w=j/\c.ms[j]?=Z y/\y.p=p/\1<=y.phase)
 sd: ∀p:Nat,c.n<=p->p<c.stat.length->c.stat[p]?=Z (4,-1)
 Oi:c.ip.Nodup
 Kb: ∀p,p∈c.ip-> ∃q:Nat,p=q/\q<c.n/\c.stat[q]?=Z (0,-1)
 lE:c.IB.Nodup
 J2: ∀j,j∈c.IB-> ∃(k:Nat)(y:MC),j=k/\c.ms[k]?=Z y/\y.phase=0
 J1:0<=c.Gg
 GL:c.Gg<=c.gs.length
 wn:c.ws.Nodup
 ww: ∀id,id∈c.ws-> ∃(i:Nat)(x:GC),id=(i:Int)+1/\c.gs[i]?=Z x/\x.CA=tZ
 gw: ∀(i:Nat)(x:GC),c.gs[i]?=Z x->D9.Dt x.word/\(x.blocked=tZ->(x.word=4\/x.word=12)/\x.CA=tY)/\(x.CA=tZ->x.word=4\/x.word=12)
def GW(l:List Bool):Nat:=l.countP id
def runN(l:List Pr):Nat:=l.countP λx=>x.1==1
structure NL (c:Cr):Prop where
 go:c.st=tY->c.Hc=0/\(∀(p:Nat)(a w:Int),p<c.n->c.stat[p]?=Z (a,w)->a≠3)/\(∀(j:Nat)(y:MC),c.ms[j]?=Z y->y.phase≠3)
 Eo:(∀(j:Nat)(y:MC),c.ms[j]?=Z y->y.phase≠4)-> ∀b,b∈c.bars->b=tY
 bars: ∀(j:Nat)(y:MC),c.ms[j]?=Z y->y.phase=4->c.wt=GW c.bars
 stop:c.st=tZ->c.ip=[]/\(∀(p:Nat)(a w:Int),p<c.n->c.stat[p]?=Z (a,w)->a=1\/a=3)/\(c.wt=runN c.stat/\(c.Hc≠0->c.wt=0))/\(∀(j:Nat)(y:MC),c.ms[j]?=Z y->y.phase≠4)/\
  ∃(j:Nat)(y:MC)(q:Nat),c.ms[j]?=Z y/\c.Gg=y.g/\(y.phase=3/\c.Hc=0\/y.phase=2/\c.Hc=y.g)/\y.p=q/\c.stat[q]?=Z (3,(j:Int))/\ ∀(p:Nat)(w:Int),c.stat[p]?=Z (3,w)->w= -1\/w=j
section
variable {c:Cr}
theorem Dp.NM(h:Dp c){y y':MC}(f:c.ms[j]?=Z y)(g:Oh c.n c.stat c.gs c.Gg j y')(i:y'.g=y.g\/y'.g<1\/ ∀(k:Nat)(z:MC),c.ms[k]?=Z z->z.g≠y'.g) (m:y'.p=y.p) (n:1<=y'.phase) (o:(j:Int)∈c.IB->y'.phase=0):Dp {c with ms:=c.ms.set j y'}:={h with m1:=by simp;exact h.m1,m2:=by simp;exact h.m2,mp:=λk z b=>by have:=h.mp;grind,mu:=λk l z z' b q=>by have:=h.mu;grind,sp:=λp a w d e=>by have:=h.sp p a w d e;grind,J2:=λk b=>by have:=h.J2 k b;grind}
theorem Dp.CJ(h:Dp c){x':GC}(g:c.gs[i]?=Z x)(hw:D9.Dt x'.word/\(x'.blocked=tZ->(x'.word=4\/x'.word=12)/\x'.CA=tY)/\(x'.CA=tZ->x'.word=4\/x'.word=12))(m:(i:Int)+1∈c.qs->x'.word=1\/x'.word=9)(n:(i:Int)+1∈c.ws->x'.CA=tZ)(hm: ∀(j:Nat)(y:MC),c.ms[j]?=Z y->y.g=(i:Int)+1->(y.phase<=4->x'.word=2)/\(y.phase=5->x'.word=3\/x'.word=11)/\(y.phase=3\/y.phase=4->x'.begun=tZ)):Dp {c with gs:=c.gs.set i x'}:={h with g1:=by simp;exact h.g1,g2:=by simp;exact h.g2,GL:=by simp;exact h.GL,qw:=λid hid=>by have:=h.qw id hid;grind,mp:=λk z a=>by obtain⟨b,a2,a3,a4,a5,d,e⟩:=h.mp k z a;exact⟨b,a2,a3,a4,a5,λf=>by obtain⟨l,v,o,p,q⟩:=d f;have:=hm k z a;grind,e⟩,ww:=λid hid=>by have:=h.ww id hid;grind,gw:=λk z a=>by have:=h.gw k z;grind}
theorem Dp.J3(h:Dp c)(a:c.gs[i]?=Z x)(hw:x.word≠1/\x.word≠9):(i:Int)+1∉c.qs:=λhm=>by have:=h.qw _ hm;grind
theorem Dp.Nd(h:Dp c)(b:c.gs[i]?=Z x)(hw:x.word≠2/\x.word≠3/\x.word≠11){y:MC}(a:c.ms[j]?=Z y):y.g≠(i:Int)+1:=λhm=>by have:=h.mp _ _ a;unfold Oh at this;grind
theorem Dp.perm(h:Dp c)(b:l.Perm c.qs)(nx:List Int)(d:nx.length=c.n)(e: ∀a,a∈nx->0<=a):Dp {c with qs:=l,CI:=nx}:={h with qn:=b.nodup_iff.2 h.qn,qw:=λid hid=>h.qw id (b.mem_iff.1 hid),an:=d,rn:=e}
theorem Dp.less(h:Dp c)(b:(r++l).Perm c.qs)(nx:List Int)(d:nx.length=c.n)(e: ∀a,a∈nx->0<=a):Dp {c with qs:=l,CI:=nx}:={h with qn:=(Cg.1 (b.nodup_iff.2 h.qn)).2.1,qw:=λid hid=>h.qw id (b.mem_iff.1 (Bb _ hid)),an:=d,rn:=e}
theorem Dp.more(h:Dp c)(g:c.gs[i]?=Z x)(hw:x.word=1\/x.word=9)(d:(i:Int)+1∉c.qs)(b:l.Perm (((i:Int)+1)::c.qs))(nx:List Int)(e:nx.length=c.n)(f: ∀a,a∈nx->0<=a):Dp {c with qs:=l,CI:=nx}:={h with qn:=b.nodup_iff.2 (BH.2 ⟨d,h.qn⟩),qw:=λid hid=>by have:=b.mem_iff.1 hid;have:=h.qw id;grind,an:=e,rn:=f}
theorem Dp.G8(h:Dp c)(e:c.ms.length<64)(p:Int):Dp {c with ms:=c.ms++[⟨p,0,0⟩]}:=
 {h with
  m1:=by simp,
  m2:=by simp;omega,
  mp:=λk z b=>by
   by_cases f:k<c.ms.length
   ·exact h.mp k z (by grind)
   ·have:z=⟨p,0,0⟩:=by grind
    subst this;unfold Oh;grind,
  mu:=λk l z z' b e=>by have:=h.mu;grind,
  sp:=λq a w d g=>by have:=h.sp q a w d;grind,
  J2:=λk b=>by have:=h.J2 k b;grind}
theorem Dp.oB(h:Dp c){j:Int}(a:c.IB=j::r):Dp {c with IB:=r}/\j∉r/\ ∃(k:Nat)(y:MC),j=k/\c.ms[k]?=Z y/\y.phase=0:=by have b:=h.lE;rw[a]at b;have d:=BH.1 b;have e:=h.J2 j (by rw[a];simp);exact⟨{h with lE:=d.2,J2:=λk f=>h.J2 k (by rw[a];exact AO _ f)},d.1,e⟩
theorem Dp.gB(h:Dp c)(p:Int):Dp {c with ip:=c.ip.erase p}:={h with Oi:=h.Oi.erase p,Kb:=λq a=>h.Kb q (Cs a)}
theorem Dp.QF(h:Dp c){p:Nat}{y:MC}(A:c.ms[j]?=Z y)(B:y.phase=0)(C:p<c.n)(m:c.stat[p]?=Z (0,-1))(n:(j:Int)∉c.IB)(D:(p:Int)∉c.ip):Dp {c with ms:=c.ms.set j ⟨p,0,1⟩,stat:=c.stat.set p (1,(j:Int))}:=
 {h with
  ns:=by simp;exact h.ns,
  sl:=by simp;exact h.sl,
  m1:=by simp;exact h.m1,
  m2:=by simp;exact h.m2,
  mp:=λk z d=>by
   by_cases o:k=j
   ·have:z=⟨p,0,1⟩:=by grind
    subst this;unfold Oh;grind
   ·obtain⟨r,a2,a3,a4,a5,s,t⟩:=h.mp k z (by grind)
    exact⟨r,a2,a3,a4,λu v=>by
     obtain⟨q,e,f,g⟩:=a5 u v;have:p≠q:=by rintro rfl;grind
     exact⟨q,e,f,by simpa[Ay,this]using g⟩,s,λu=>by
     rcases t u with b|⟨q,e,f,g⟩
     ·exact .inl b
     ·have:p≠q:=by rintro rfl;grind
      exact .inr ⟨q,e,f,by simpa[Ay,this]using g⟩⟩,
  mu:=λk l z z' d E=>by have:=h.mu k l z z';grind,
  sp:=λq a w i m=>by have:=h.sp q a w i;grind,
  sd:=λq x F=>by have:=h.sd q x;grind,
  Kb:=λq d=>by have:=h.Kb q d;grind,
  J2:=λk d=>by
   obtain⟨l,z,rfl,e,f⟩:=h.J2 k d;have:j≠l:=by rintro rfl;exact n d
   exact⟨l,z,rfl,by simpa[Ay,this]using e,f⟩}
end
end
section
open Cx (Pr pz)
open Vm (CP)
variable {j i p:Nat}
theorem Jn(n:Nat): ∀l:List Int,l.Nodup->(∀x,x∈l->1<=x/\x<=n)->l.length<=n:=by
 induction n with
 |zero=>intro l _ h;cases l with
  |nil=>simp
  |cons x l=>have:=h x (by simp);omega
 |succ n c=>
  intro l b h;by_cases hm:((n:Int)+1)∈l
  ·have d:=c (l.erase ((n:Int)+1)) (b.erase _) (λx a=>by
    have f:=h x (Cs a);have g:x≠(n:Int)+1:=λe=>by subst e;exact(List.Nodup.not_mem_erase b) a
    omega)
   rw[List.length_erase_of_mem hm]at d;omega
  ·have d:=c l b (λx a=>by
    have f:=h x a;have g:x≠(n:Int)+1:=λe=>by subst e;exact hm a
    omega)
   omega
theorem right_id{l:List Int}(h: ∀x,x∈l->1<=x):C4.right l=l:=List.filter_eq_self.2 λx a=>A8 (h x a)
theorem IW(f:Rs->List Int): ∀(l:List Rs)(p:Nat)(r:Rs),l[p]?=Z r-> ∃rest,(l.flatMap f).Perm (f r++rest)/\ ∀r',((l.set p r').flatMap f).Perm (f r'++rest):=by
 intro l;induction l with
 |nil=>intro p r h;simp at h
 |cons x l a=>
  intro p r h;cases p with
  |zero=>simp at h;subst h;exact⟨l.flatMap f,by simp,λr'=>by simp⟩
  |succ p=>
   obtain⟨rest,b,c⟩:=a p r (by simpa using h);refine⟨f x++rest,?_,λr'=>?_⟩
   ·simp only[BE]
    exact(Za4 _ b).trans (by rw[<-AU,<-AU];exact Zbp _ Ct)
   ·simp only[Ck,BE]
    exact(Za4 _ (c r')).trans (by rw[<-AU,<-AU];exact Zbp _ Ct)
theorem LR(n:Nat)(row:List Int)(x:Int):(Ring.Je n row x++Ring.Gd n row x).Perm (x::row):=by
 unfold Ring.Je Ring.Gd;split
 ·simp
 ·refine List.perm_append_comm.trans ?_
  rw[AU];refine(Za4 _ (Ct (l₁:=[x]))).trans ?_;rw[<-AU,BV];exact Ct (l₁:=row) (l₂:=[x])
theorem aA(nx:Int)(row:List Int)(g:Int)(first:Bool)(e:0<=nx)(f:1<=g):(Ring.C7 (Ring.NG nx g first) (Ring.OT 256 nx row g first)++Ring.MN 256 nx row g first).Perm (g::Ring.C7 nx row):=by
 have a: ¬g<1:=by omega
 have b:0<g:=by omega
 unfold Ring.C7 Ring.NG Ring.OT Ring.MN;simp only[Ah a];by_cases d:first=tZ
 ·simp only[d,BD]
  rw[Ai b];by_cases c:nx=0
  ·subst c;simp
  ·rw[Ah c,Ah c,Ai (by omega)]
   simp only[Bp,A7];exact List.Perm.cons _ (LR 256 row nx)
 ·simp only[d]
  simp only[A6,Bn];rw[AU];refine(Za4 _ (LR 256 row g)).trans ?_;exact List.perm_middle
theorem aB(nx:Int)(row:List Int)(b:0<=nx)(h:Ring.KZ nx row=tZ):(Ring.C7 nx row).Perm (Ring.SO nx row::Ring.C7 0 (Ring.FJ nx row)):=by
 unfold Ring.KZ at h;unfold Ring.C7 Ring.SO Ring.FJ;by_cases a:0<nx
 ·simp[a]
 ·simp only[a,Bn]at*
  cases row with
  |nil=>simp at h
  |cons x r=>simp
theorem get_none(nx:Int)(row:List Int)(h:Ring.KZ nx row=tY):Ring.C7 nx row=[]/\Ring.C7 0 (Ring.FJ nx row)=[]:=by
 unfold Ring.KZ at h;unfold Ring.C7 Ring.FJ;by_cases a:0<nx
 ·simp[a]at h
 ·simp only[a,Bn]at*
  cases row with
  |nil=>simp
  |cons x r=>simp at h
theorem Xa(nx:Int)(row:List Int):(Ring.II nx row++Ring.C7 (Ring.EB nx row) (Ring.ET row)).Perm (Ring.C7 nx row):=by
 unfold Ring.II Ring.EB Ring.ET Ring.C7;by_cases h:row=[]
 ·subst h;simp
 ·simp only[h,Bn]
  rw[<-AU];refine(Zbp _ Ct).trans ?_;rw[AU,BV]
theorem Xb(row l:List Int)(h: ∀x,x∈l->1<=x):(Ring.JF 256 row l++Ring.Ir 256 row l).Perm (l++row):=by
 have a:l.any (λx=>decide (x<1))=false:=by rw[List.any_eq_false];intro x b;have:=h x b;simp;omega
 unfold Ring.JF Ring.Ir;rw[a];simp only[A6,Bn];rw[AU,BV];exact Ct
structure Bs (e:Nat) (s:St):Prop where
 base:Dp (core s)
 DL:W8 s.funcs
 th: ∀(i:Nat)(x:G),s.gs[i]?=Z x->Pm s.funcs x/\(x.done=tZ->x.word=6\/i=e)
 box:s.box.length=64
structure Inv (e:Nat) (s:St):Prop extends Bs e s where
 link:NL (core s)
structure Kp (s s':St):Prop where
 sc:s'.sc=s.sc
 DL:s'.funcs=s.funcs
 nr:s'.rings.length=s.rings.length
 gl:s'.gs.length=s.gs.length
 gs: ∀(k:Nat)(x:G),s.gs[k]?=Z x-> ∃x':G,s'.gs[k]?=Z x'/\x'.fn=x.fn/\x'.Dr=x.Dr/\x'.CO=x.CO/\x'.stack=x.stack/\x'.done=x.done/\x'.begun=x.begun/\(8<=x.word->8<=x'.word)
 ms: ∀(j:Nat)(y:M1),s.ms[j]?=Z y->y.phase≠0-> ∃y':M1,s'.ms[j]?=Z y'/\mc y'=mc y
theorem Kp.refl(s:St):Kp s s:=⟨rfl,rfl,rfl,rfl,λk x h=>⟨x,h,rfl,rfl,rfl,rfl,rfl,rfl,id⟩,λ_ y h _=>⟨y,h,rfl⟩⟩
theorem Kp.trans{a b c:St}(h:Kp a b)(k:Kp b c):Kp a c:=
 ⟨k.sc.trans h.sc,k.DL.trans h.DL,k.nr.trans h.nr,k.gl.trans h.gl,λi x l=>by
  obtain⟨m,d,e⟩:=h.gs i x l;obtain⟨n,f,g⟩:=k.gs i m d;exact⟨n,f,by grind⟩,λj y hy o=>by
  obtain⟨p,d,e⟩:=h.ms j y hy o;obtain⟨q,f,g⟩:=k.ms j p d (by have:=Aq MC.phase e;simp only[mc]at this;omega);exact⟨q,f,g.trans e⟩⟩
theorem CG{y:M1}(h:s.ms[j]?=Z y):(core s).ms[j]?=Z (mc y):=by simp[core,h]
theorem CV{x:G}(h:s.gs[i]?=Z x):(core s).gs[i]?=Z (gc x):=by simp[core,h]
theorem DJ{z:MC}(h:(core s).ms[j]?=Z z): ∃y:M1,s.ms[j]?=Z y/\mc y=z:=by simpa[core]using h
theorem Ik{z:GC}(h:(core s).gs[i]?=Z z): ∃x:G,s.gs[i]?=Z x/\gc x=z:=by simpa[core]using h
theorem DT(j:Nat)(y:M1):core (s.CQ j y)={core s with ms:=(core s).ms.set j (mc y)}:=by simp[core,St.CQ,Df]
theorem Ez(i:Nat)(x:G):core (s.CJ i x)={core s with gs:=(core s).gs.set i (gc x)}:=by simp[core,St.CJ,Df]
theorem take_set{l:List Pr}(a:l[p]?=Z (0,-1))(b:j<64):Cx.Mh l p j (λ_ _=>(1,(j:Int))) (λs _=>s==0)=l.set p (1,(j:Int)):=by have c:p<l.length:=(Af.1 a).1;unfold Cx.Mh Cx.Dn;rw[Ah (by unfold Cx.JR;omega),Ai (by omega)];simp[a]
theorem Bs.Il(h:Bs e s):s.all.length<=64:=by have a:=h.base.qn;have b:s.all.Nodup:=(Cg.1 a).1;have c:=Jn (core s).gs.length s.all b (λx d=>by obtain⟨i,y,rfl,f,-⟩:=h.base.qw x (Bt _ d);have:=(Af.1 f).1;omega);exact AA c h.base.g2
theorem Q6(h:Bs e s)(n:p<s.rings.length)(f:s.stat[p]?=Z (0,-1)):FX s p=Z (tY,s)\/ ∃(b:St)(j:Nat),FX s p=Z (tZ,b)/\Bs e {b with CD:=s.CD.erase p}/\b={s with stat:=s.stat.set p (1,(j:Int)),ms:=b.ms,CL:=b.CL}/\
   (∀(k:Nat)(y:M1),s.ms[k]?=Z y->y.phase≠0->b.ms[k]?=Z y)/\(∀(k:Nat)(y:M1),b.ms[k]?=Z y->s.ms[k]?=Z y\/y.phase<=1):=by
 have o:=h.base.gB p;have q:(p:Int)∉s.CD.erase p:=h.base.Oi.not_mem_erase;unfold FX;cases c:s.CL with
 |nil=>
  dsimp only;by_cases t:s.sc.Gq<=s.ms.length
  ·rw[Ai t];exact .inl rfl
  ·rw[Ah t]
   have hm:=h.base.Gq;have d:s.ms.length<64:=by simp[core]at hm;omega
   rw[Ai d];have i:=o.G8 (by simpa[core]using d) 0;have l:=i.QF (j:=s.ms.length) (p:=p) (y:=⟨0,0,0⟩) (by simp[core]) rfl n f (by simp[core,c]) q;refine .inr ⟨{s with stat:=s.stat.set p (1,(s.ms.length:Int)),ms:=s.ms++[⟨p,0,1,tY,0,0,0⟩]},s.ms.length,?_,⟨?_,h.DL,h.th,h.box⟩,by simp[c],λk y a _=>?_,λk y a=>?_⟩
   ·simp[JG,m0,take_set f d,c]
   ·refine cast ?_ l
    simp[core,Df,c,mc]
   ·have:=(Af.1 a).1
    rw[Aw this];exact a
   ·grind
 |cons id r=>
  obtain⟨i,l,j,z,w,u,v⟩:=o.oB (j:=id) (r:=r) (by simp[core,c]);subst w;obtain⟨y,m,rfl⟩:=DJ u;have d:j<64:=by have:=(Af.1 m).1;have:=h.base.m2;simp[core]at this;omega
  have x:=i.QF (j:=j) (p:=p) u v n f l q;refine .inr ⟨{s with stat:=s.stat.set p (1,(j:Int)),ms:=s.ms.set j {y with p:=p,g:=0,phase:=1},CL:=r},j,?_,⟨?_,h.DL,h.th,h.box⟩,rfl,λk z a A=>?_,λk z a=>?_⟩
  ·dsimp only
   rw[Ai (by omega),Am];simp[JG,m,take_set f d]
  ·refine cast ?_ x
   simp[core,Df,mc]
  ·have:j≠k:=by rintro rfl;rw[m]at a;cases a;exact A v
   simpa[Ay,this]using a
  ·grind
end
section
open Cx (Pr pz)
open Vm (CP)
theorem NL.look{c:Cr}(l:NL c)(b:c.st=tY){oC:List MC}{GX:List Pr}{lF pX:List Int}(f: ∀(p:Nat)(a w:Int),p<c.n->GX[p]?=Z (a,w)->a≠3) (hm: ∀(j:Nat)(y:MC),oC[j]?=Z y->(y.phase≠3/\y.phase≠4)\/c.ms[j]?=Z y) (g: ∀(j:Nat)(y:MC),c.ms[j]?=Z y->y.phase=4->oC[j]?=Z y):NL {c with ms:=oC,stat:=GX,ip:=lF,IB:=pX}:=⟨λh=>⟨(l.go h).1,f,λj y d=>by have:=(l.go h).2.2 j y;have:=hm j y d;grind⟩,λh=>l.Eo λj y d e=>h j y (g j y d e) e,λj y d e=>l.bars j y (by have:=hm j y d;grind) e,λh=>by rw[show c.st=tZ from h]at b;cases b⟩
theorem Nf(h:Inv e s): ∃d,Hg s=Z d/\Inv e d/\Kp s d:=by
 have H:=h.Il;unfold Hg;by_cases b:s.sc.Cz=tZ
 ·rw[Ai b];exact⟨s,rfl,h,Kp.refl s⟩
 ·rw[Ah b,Ah (by omega)]
  cases u:s.CD with
  |nil=>exact⟨s,rfl,h,Kp.refl s⟩
  |cons p r=>
   dsimp only;split
   ·obtain⟨q,rfl,v,m⟩:=h.base.Kb p (by simp[core,u])
    rcases Q6 h.toBs (p:=q) v m with f|⟨d,j,f,A,he,n,hm⟩
    ·rw[f];exact⟨s,rfl,h,Kp.refl s⟩
    ·rw[f]
     have o:d.CD=s.CD:=by rw[he]
     refine⟨_,rfl,⟨by rw[o];exact A,?_⟩,by rw[he],by rw[he],by rw[he],by rw[he],λk x B=>⟨x,by rw[he];exact B,rfl,rfl,rfl,rfl,rfl,rfl,id⟩,λk y hy g=>⟨y,n k y hy g,rfl⟩⟩
     have C:=h.link.look (c:=core s) (by simpa[core]using b) (oC:=d.ms.map mc) (GX:=s.stat.set q (1,(j:Int))) (lF:=s.CD.erase q) (pX:=d.CL)
      (λp a w g m=>by have:=((h.link.go (by simpa[core]using b)).2.1 p a w g);simp[core]at*;grind)
      (λk z l=>by
       obtain⟨y,hy,rfl⟩: ∃y,d.ms[k]?=Z y/\mc y=z:=by simpa using l
       rcases hm k y hy with t|t
       ·exact .inr (CG t)
       ·left;simp[mc];omega)
      (λk z l G=>by obtain⟨y,hy,rfl⟩:=DJ l;have:=n k y hy (by simp[mc]at G;omega);simp[this])
     rw[o];refine cast ?_ C;rw[he];simp[core,Df]
   ·exact⟨s,rfl,h,Kp.refl s⟩
theorem gC{x:Int}(h:x=1\/x=2\/x=3\/x=4\/x=5\/x=9\/x=11\/x=12\/x=13):Ia x 1=1\/Ia x 1=9:=by rcases h with rfl|rfl|rfl|rfl|rfl|rfl|rfl|rfl|rfl<;>decide+kernel
theorem oD{x:Int}(h:8<=x):8<=Ia x 1:=by
 unfold Ia D9.LA D9.N0;repeat' split
 all_goals omega
theorem Jo(s:St)(a:List Int)(r:List Rs)(b:r.length=s.rings.length):core {s with all:=a,rings:=r}={core s with qs:=Df {s with all:=a,rings:=r},CI:=r.map (·.CI)}:=by simp[core,b]
theorem aC{p:Nat}{r:Rs}(d:s.rings[p]?=Z r)(g:Int)(first:Bool)(e:0<=r.CI)(b:1<=g)(f: ∀x,x∈Df s->1<=x):(Df {s with all:=s.all++C4.right (Ring.MN 256 r.CI r.row g first),rings:=s.rings.set p ⟨Ring.NG r.CI g first,Ring.OT 256 r.CI r.row g first⟩}).Perm (g::Df s):=by
 have c:=aA r.CI r.row g first e b;obtain⟨rest,f1,f2⟩:=IW (λr=>Ring.C7 r.CI r.row) s.rings p r d;have h:C4.right (Ring.MN 256 r.CI r.row g first)=Ring.MN 256 r.CI r.row g first:=right_id λx i=>by
  have:=c.mem_iff.1 (Bb _ i);rcases Be.1 this with rfl|j
  ·exact b
  ·exact f x (Bb _ (f1.mem_iff.2 (Bt _ j)))
 rw[h];rw[BG];intro a;have c1:=c.count_eq a;have k:=f1.count_eq a;have c3:=(f2 ⟨Ring.NG r.CI g first,Ring.OT 256 r.CI r.row g first⟩).count_eq a;simp only[Df,BT,Za2]at*
 omega
theorem Bs.Pn(h:Bs e s): ∀x,x∈Df s->1<=x:=λx a=>by obtain⟨i,y,rfl,-⟩:=h.base.qw x a;omega
theorem Bs.KG(h:Bs e s){r:Rs}(a:r∈s.rings):0<=r.CI:=h.base.rn _ (BL.2 ⟨r,a,rfl⟩)
structure Q7 (s:St) (i:Nat) (x:G):Prop where
 at_:s.gs[i]?=Z x
 qs:(i:Int)+1∉Df s
 ms: ∀(j:Nat)(y:M1),s.ms[j]?=Z y->y.g≠(i:Int)+1
 ws:(i:Int)+1∉s.waits
 wd:x.word=1\/x.word=2\/x.word=3\/x.word=4\/x.word=5\/x.word=9\/x.word=11\/x.word=12\/x.word=13
 fl:x.blocked=tY/\x.CA=tY
theorem Fs(h:Inv e s){i:Nat}{x:G}(b:Q7 s i x)(p:Int)(F:p= -1\/(0<=p/\p<s.rings.length))(first:Bool): ∃d,Ec s p i first=Z d/\Inv e d/\Kp s d:=by
 have u:i<s.gs.length:=(Af.1 b.at_).1;have V:=h.Il;have hw:=gC b.wd;have c:(s.mv i 1)=s.CJ i {x with word:=Ia x.word 1}:=by simp[St.mv,b.at_]
 have n:Bs e (s.mv i 1):=by
  rw[c];refine⟨?_,h.DL,λk z f=>?_,h.box⟩
  ·rw[Ez]
   refine h.base.CJ (CV b.at_) ⟨?_,?_,?_⟩ (λg=>absurd g b.qs) (λg=>absurd g b.ws) (λj z o L=>?_)
   ·simp only[gc];rcases hw with e|e<;>rw[e]<;>unfold D9.Dt<;>omega
   ·simp[gc,b.fl]
   ·simp[gc,b.fl]
   ·obtain⟨y,hy,rfl⟩:=DJ o
    exact absurd L (b.ms j y hy)
  ·have A:=h.th k
   have m:=h.th i x b.at_;simp only[St.CJ]at f;by_cases e:i=k
   ·subst e
    rw[Aj u]at f;cases f;refine⟨⟨m.1.CO,by rcases hw with e|e<;>dsimp only<;>rw[e]<;>unfold D9.Dt<;>omega,m.1.at_,m.1.deep,m.1.Ld⟩,λM=>?_⟩;have:=m.2 M;have:=b.wd;omega
   ·rw[Ao e]at f
    exact A z f
 have v:NL (core (s.mv i 1)):=by rw[c,Ez];exact⟨h.link.go,h.link.Eo,h.link.bars,h.link.stop⟩
 have O:Kp s (s.mv i 1):=by
  rw[c];refine⟨rfl,rfl,rfl,by simp[St.CJ],λk z f=>?_,λ_ y hy _=>⟨y,hy,rfl⟩⟩;by_cases e:i=k
  ·subst e
   rw[b.at_]at f;cases f;exact⟨_,Aj u,rfl,rfl,rfl,rfl,rfl,rfl,oD⟩
  ·exact⟨z,by simp only[St.CJ];rw[Ao e];exact f,rfl,rfl,rfl,rfl,rfl,rfl,id⟩
 have B:(core (s.mv i 1)).gs[i]?=Z (gc {x with word:=Ia x.word 1}):=CV (by rw[c];exact Aj u);have C:(i:Int)+1∉(core (s.mv i 1)).qs:=by rw[c,Ez];exact b.qs
 unfold Ec;rw[Ai ⟨u,by omega⟩];have fin: ∀(a:List Int)(r:List Rs),r.length=(s.mv i 1).rings.length->(∀z,z∈r->0<=z.CI)->(Df {s.mv i 1 with all:=a,rings:=r}).Perm (((i:Int)+1)::Df (s.mv i 1))-> ∃d,Hg {s.mv i 1 with all:=a,rings:=r}=Z d/\Inv e d/\Kp s d:=by
  intro a r w P F;have Q:Inv e {s.mv i 1 with all:=a,rings:=r}:=by
   refine⟨⟨?_,n.DL,n.th,n.box⟩,?_⟩
   ·rw[Jo _ _ _ w]
    exact n.base.more B hw C F _ (by simpa[core]using w) (by simpa using P)
   ·rw[Jo _ _ _ w]
    exact⟨v.go,v.Eo,v.bars,v.stop⟩
  obtain⟨d,A,m,R⟩:=Nf Q;have D:Kp (s.mv i 1) {s.mv i 1 with all:=a,rings:=r}:=⟨rfl,rfl,w,rfl,λk x b=>⟨x,b,rfl,rfl,rfl,rfl,rfl,rfl,id⟩,λ_ y hy _=>⟨y,hy,rfl⟩⟩;exact⟨d,A,m,(O.trans D).trans R⟩
 have E:(s.mv i 1).rings=s.rings/\(s.mv i 1).all=s.all:=by rw[c];exact⟨rfl,rfl⟩
 by_cases t:p= -1
 ·rw[Ai t]
  refine fin _ _ rfl (λz o=>n.KG o) ?_;rw[BG];intro a;rw[right_id (l:=[(i:Int)+1]) (by simp;omega)];simp only[Df,BT,Za2,Zam];omega
 ·rw[Ah t,Ai (by omega)]
  obtain⟨q,rfl⟩: ∃q:Nat,p=q:=⟨p.toNat,by omega⟩;have g:q<s.rings.length:=by omega
  have H:s.rings[q]?=Z s.rings[q]:=Ae g;have S:Eb s (q:Int).toNat=s.rings[q]:=by simp[Eb,H]
  rw[S,Am];have K:=aC (s:=s.mv i 1) (p:=q) (r:=s.rings[q]) (by rw[E.1];exact H) ((i:Int)+1) first (h.KG (BQ g)) (by omega) n.Pn;rw[E.1]at K;refine fin _ _ (by simp[E.1]) (λz o=>?_) K;rcases Zaq o with T|rfl
  ·exact h.KG T
  ·have:=h.KG (BQ g)
   dsimp only[Ring.NG];split
   ·exact this
   ·split
    ·omega
    ·exact this
end
section
open Cx (Pr pz)
open Vm (CP)
theorem Pm.congr{a:List Fn}{x x':G}(h:Pm a x)(hw:D9.Dt x'.word)(c:x'.fn=x.fn)(d:x'.Dr=x.Dr)(e:x'.CO=x.CO)(b:x'.stack=x.stack):Pm a x':=⟨by rw[e];exact h.CO,hw,by rw[c,d];exact h.at_,by rw[b];exact h.deep,by rw[b];exact h.Ld⟩
theorem Inv.UT(h:Inv e s){x:G}(b:s.gs[i]?=Z x)(x':G)(c:gc x'=gc x)(p:x'.fn=x.fn/\x'.Dr=x.Dr/\x'.CO=x.CO/\x'.stack=x.stack/\x'.done=x.done):Inv e (s.CJ i x')/\Kp s (s.CJ i x'):=by
 have f:i<s.gs.length:=(Af.1 b).1;have g:core (s.CJ i x')=core s:=by
  have e:(s.gs.map gc).set i (gc x)=s.gs.map gc:=by apply List.ext_getElem?;grind
  rw[Ez,c];simp[core,e]
 have hw:x'.word=x.word:=Aq GC.word c;have q:x'.begun=x.begun:=Aq GC.begun c;obtain⟨j,l,m,n,o⟩:=p;refine⟨⟨⟨by rw[g];exact h.base,h.DL,λk z a=>?_,h.box⟩,by rw[g];exact h.link⟩,rfl,rfl,rfl,by simp[St.CJ],λk z a=>?_,λ_ y hy _=>⟨y,hy,rfl⟩⟩
 ·have d:=h.th i x b
  by_cases e:i=k
  ·subst e
   simp only[St.CJ,Aj f]at a;cases a;exact⟨d.1.congr (by rw[hw];exact d.1.wd) j l m n,by rw[o,hw];exact d.2⟩
  ·simp only[St.CJ,Ao e]at a
   exact h.th k z a
 ·by_cases e:i=k
  ·subst e
   rw[b]at a;cases a;exact⟨x',by simp[St.CJ,f],j,l,m,n,o,q,by rw[hw];exact id⟩
  ·exact⟨z,by simp only[St.CJ];rw[Ao e];exact a,rfl,rfl,rfl,rfl,rfl,rfl,id⟩
theorem Inv.Ng(h:Inv e s){y:M1}(hy:s.ms[j]?=Z y)(y':M1)(hm:mc y'=mc y):Inv e (s.CQ j y')/\Kp s (s.CQ j y'):=by
 have c:j<s.ms.length:=(Af.1 hy).1;have b:core (s.CQ j y')=core s:=by
  have e:(s.ms.map mc).set j (mc y)=s.ms.map mc:=by apply List.ext_getElem?;grind
  rw[DT,hm];simp[core,e]
 refine⟨⟨⟨by rw[b];exact h.base,h.DL,h.th,h.box⟩,by rw[b];exact h.link⟩,rfl,rfl,rfl,rfl,λk z a=>⟨z,a,rfl,rfl,rfl,rfl,rfl,rfl,id⟩,λk z a _=>?_⟩;by_cases e:j=k
 ·subst e
  rw[hy]at a;cases a;exact⟨y',by simp[St.CQ,c],hm⟩
 ·exact⟨z,by simp only[St.CQ];rw[Ao e];exact a,rfl⟩
theorem Inv.loose(h:Inv e s){x:G}(a:s.gs[i]?=Z x)(hw:x.word=4\/x.word=5\/x.word=12\/x.word=13)(b:x.blocked=tY/\x.CA=tY):Q7 s i x:=
 ⟨a,h.base.J3 (CV a) (by simp only[gc];omega),λj y hy=>h.base.Nd (CV a) (by simp only[gc];omega) (CG hy),(λhm=>by
  obtain⟨k,z,e,c,d⟩:=h.base.ww _ hm;have:k=i:=by omega
  subst this;rw[CV a]at c;cases c;rw[show(gc x).CA=x.CA from rfl,b.2]at d;cases d),by omega,b⟩
theorem Tu(id:Int): ∀(n k:Nat)(s:St),Inv e s->k+n=s.gs.length-> ∃a,Gv id n k s=Z a/\Inv e a/\Kp s a:=by
 intro n;induction n with
 |zero=>intro k s h _;exact⟨s,rfl,h,Kp.refl s⟩
 |succ n d=>
  intro k s h t;have f:s.gs[k]?=Z s.gs[k]:=Ae (by omega);unfold Gv;rw[f];dsimp only;split
  ·obtain⟨g,b⟩:=h.UT f {s.gs[k]with Db:=0} rfl ⟨rfl,rfl,rfl,rfl,rfl⟩
   split
   ·rename_i c
    have o:=h.base.gw k _ (CV f);obtain⟨a,q,r,p⟩:=Fs g (i:=k) (x:={s.gs[k]with Db:=0}) (g.loose (by simp only[St.CJ];exact List.getElem?_set_self (by omega)) (by dsimp only;omega) ⟨by
     cases j:s.gs[k].blocked with
     |false=>rfl
     |true=>have:=o.2.1 j;simp only[gc]at this;omega,by
     cases j:s.gs[k].CA with
     |false=>rfl
     |true=>have:=o.2.2 j;simp only[gc]at this;omega⟩) (-1) (.inl rfl) tY
    rw[q];obtain⟨s2,l,c,m⟩:=d (k+1) a r (by rw[p.gl,b.gl];omega);exact⟨s2,l,c,(b.trans p).trans m⟩
   ·obtain⟨s2,l,c,m⟩:=d (k+1) _ g (by rw[b.gl];omega)
    exact⟨s2,l,c,b.trans m⟩
  ·exact d (k+1) s h (by omega)
theorem Le(h:Inv e s)(i:Nat): ∃a,K0 s i=Z a/\Inv e a/\Kp s a:=Tu _ _ 0 s h (by omega)
theorem NL.NM{c:Cr}(l:NL c){y y':MC}(e:c.ms[j]?=Z y)(p:y.phase≠3/\y.phase≠4)(r:y'.phase≠3/\y'.phase≠4)(hd:c.st=tZ->c.Hc≠y.g\/y.phase≠2):NL {c with ms:=c.ms.set j y'}:=
 ⟨λh=>by have:=l.go h;grind,λh=>l.Eo λk z f d=>by have:=h k z;grind,λk z f d=>l.bars k z (by grind) d,λh=>by
  obtain⟨g,a2,a3,a4,k,z,q,a,i,m,n,o,b6⟩:=l.stop h;have b:j≠k:=by rintro rfl;rw[e]at a;cases a;have:=hd h;grind
  exact⟨g,a2,a3,λl z s=>by grind,k,z,q,by simpa[List.getElem?_set,b]using a,i,m,n,o,b6⟩⟩
theorem KH(h:Inv e s){y:M1}(hy:s.ms[j]?=Z y)(c:y.phase=2/\(s.sc.Cz=tZ->s.sc.CF≠y.g)\/y.phase=5/\ ∃p:Nat,y.p=p/\p<s.rings.length/\s.stat[p]?=Z (1,(j:Int))): ∃(i:Nat)(x:G)(s1:St),Gw s j=Z (i,s1)/\Inv e s1/\Q7 s1 i x/\y.g=(i:Int)+1/\s.gs[i]?=Z x/\s1=s.CQ j {y with g:=0,phase:=1}/\(y.phase=2->x.word=2)/\(y.phase=5->x.word=3\/x.word=11):=by
 have C:j<s.ms.length:=(Af.1 hy).1;have t:=h.base.mp j _ (CG hy);simp only[Oh,mc]at t;have u:y.phase=2\/y.phase=5:=by rcases c with a|a<;>simp[a.1]
 obtain⟨-,-,-,-,a5,b,-⟩:=t;obtain⟨i,z,v,D,w,A,-⟩:=b (by clear a5 b c;omega);obtain⟨x,l,rfl⟩:=Ik D;simp only[gc]at w A;have hw:x.word=2\/x.word=3\/x.word=11:=by clear a5 b c;omega
 have n:=h.base.gw i _ (CV l);simp only[gc]at n;have B:x.CA=false:=by
  cases o:x.CA with
  |false=>rfl
  |true=>have:=n.2.2 o;omega
 have q:x.blocked=false:=by
  cases o:x.blocked with
  |false=>rfl
  |true=>have:=n.2.1 o;omega
 have E:Dp (core (s.CQ j {y with g:=0,phase:=1})):=by
  rw[DT];refine h.base.NM (CG hy) ?_ (.inr (.inl (by simp[mc]))) rfl (by simp[mc]) (λhm=>?_)
  ·refine⟨by simp[mc],by simp[mc],by simp[mc],by simp[mc],λ_ _=>?_,by simp[mc],by simp[mc]⟩
   rcases c with a|⟨a,p,f,F,H⟩
   ·exact a5 (by clear a5 b;omega) (by clear a5 b;omega)
   ·exact⟨p,f,F,.inl H⟩
  ·obtain⟨k,z,e,a,f⟩:=h.base.J2 _ hm
   have:j=k:=by omega
   subst this;rw[CG hy]at a;cases a;simp only[mc]at f;clear a5 b c;omega
 have K:NL (core (s.CQ j {y with g:=0,phase:=1})):=by rw[DT];exact h.link.NM (CG hy) (by simp only[mc];clear a5 b c;omega) (by simp[mc]) (λr=>by rcases c with a|a;exact .inl (a.2 r);exact .inr (by simp only[mc];clear a5 b;omega))
 refine⟨i,x,s.CQ j {y with g:=0,phase:=1},?_,⟨⟨E,h.DL,h.th,h.box⟩,K⟩,⟨l,?_,λk z m=>?_,λhm=>?_,by omega,q,B⟩,v,l,rfl,λe=>w (by rw[e];decide),A⟩
 ·unfold Gw;rw[hy];dsimp only;rw[if_pos (by clear a5 b c;omega),v];simp
 ·exact h.base.J3 (CV l) (by simp only[gc];omega)
 ·intro e
  by_cases d:j=k
  ·subst d
   simp only[St.CQ,Aj C]at m;cases m;simp at e;omega
  ·simp only[St.CQ,Ao d]at m
   exact d (h.base.mu j k _ _ (CG hy) (CG m) (by simp only[mc];omega) (by simp only[mc];omega))
 ·obtain⟨k,z,e,a,f⟩:=h.base.ww _ hm
  have:k=i:=by omega
  subst this;rw[CV l]at a;cases a;rw[show(gc x).CA=x.CA from rfl,B]at f;cases f
theorem IX(h:Inv e s){y:M1}(hy:s.ms[j]?=Z y)(b:y.phase=2/\(s.sc.Cz=tZ->s.sc.CF≠y.g)\/y.phase=5/\ ∃p:Nat,y.p=p/\p<s.rings.length/\s.stat[p]?=Z (1,(j:Int))): ∃a,Gx s j=Z a/\Inv e a:=by obtain⟨i,x,s1,c,d,f,-⟩:=KH h hy b;obtain⟨a,g,k,-⟩:=Fs d f (-1) (.inl rfl) tY;exact⟨a,by unfold Gx;rw[c];exact g,k⟩
end
section
open Cx (Pr pz)
open Vm (CP)
variable {l:List Pr}{p j:Nat}{a w:Int}
theorem Mr{x:Int}(h: -1000000<=x)(a:x<=1000000):wrap64 x=x:=by unfold wrap64;omega
theorem aD{l:List Bool}(h:l[p]?=Z tZ):GW (l.set p tY)+1=GW l:=by
 have a:p<l.length:=(Af.1 h).1;have b:l[p]=true:=by rw[Ae a]at h;simpa using h
 have c:0<GW l:=Zb5.2 ⟨tZ,by rw[<-b];exact BQ a,rfl⟩;unfold GW at*
 rw[List.countP_set a];simp[b];omega
theorem Xc{l:List Bool}(h:l[p]?=Z tY):GW (l.set p tZ)=GW l+1:=by
 have a:p<l.length:=(Af.1 h).1;have b:l[p]=false:=by rw[Ae a]at h;simpa using h
 unfold GW at*
 rw[List.countP_set a];simp[b]
theorem UU(l:List Bool):GW l<=l.length:=Zap
theorem run_set{b v:Int}(h:l[p]?=Z (a,w)):(runN (l.set p (b,v)):Int)=runN l-(if a=1 then 1 else 0)+(if b=1 then 1 else 0):=by
 have c:p<l.length:=(Af.1 h).1;have f:l[p]=(a,w):=by rw[Ae c]at h;simpa using h
 have g:a=1->0<runN l:=λe=>Zb5.2 ⟨l[p],BQ c,by rw[f];simp[e]⟩;have i:runN (l.set p (b,v))=runN l-(if a==1 then 1 else 0)+(if b==1 then 1 else 0):=by unfold runN;rw[List.countP_set c,f]
 rw[i];by_cases d:a=1
 ·have:=g d
  simp only[d,beq_self_eq_true,BD,Zbs];split<;>omega
 ·simp only[Zbs,Ah d]
  split<;>omega
theorem tf{b:Bool}{P:Prop}(h:b=tZ)(e:b=tY):P:=by rw[h]at e;cases e
theorem Po(h:l[p]?=Z (1,w)):0<runN l:=Zb5.2 ⟨(1,w),AP h,rfl⟩
theorem Lf(h:Inv e s){a:Pc}(g:s.asked[p]?=Z a)(m:a.Eo=tZ): ∃i,Ib s p=Z i/\Inv e i:=by
 refine⟨_,by unfold Ib;rw[Ai (by omega),Am,g],?_⟩;have l:(core s).bars[p]?=Z true:=by simp[core,g,m]
 have hm:tZ∈(core s).bars:=AP l;have c: ∃(j:Nat)(y:MC),(core s).ms[j]?=Z y/\y.phase=4:=by refine Zbd λd=>?_;have:=h.link.Eo (λj y hy c=>d ⟨j,y,hy,c⟩) tZ hm;cases this
 obtain⟨j,y,hy,c⟩:=c;have hw:=h.link.bars j y hy c;have r:=UU (core s).bars;have d:=h.base.nb;have n:=h.base.W9;have t:=aD l;have f:(core s).st=false:=by
  cases e:(core s).st with
  |false=>rfl
  |true=>exact absurd c ((h.link.stop e).2.2.2.1 j y hy)
 have o:wrap64 (s.sc.wait-1)=s.sc.wait-1:=by have:s.sc.wait=GW (core s).bars:=hw;exact Mr (by omega) (by omega)
 have b:core {s with asked:=s.asked.set p ⟨a.pre,tY,wrap64 (a.count+1)⟩,sc:={s.sc with wait:=wrap64 (s.sc.wait-1)}}={core s with bars:=(core s).bars.set p tY,wt:=(core s).wt-1}:=by rw[o];simp[core,Df]
 refine⟨⟨?_,h.DL,h.th,h.box⟩,?_⟩
 ·rw[b];exact{h.base with nb:=by simp;exact d}
 ·rw[b]
  refine⟨h.link.go,λq=>absurd c (q j y hy),λk z u v=>?_,λe=>?_⟩
  ·dsimp only;omega
  ·exact tf e f
theorem Dp.Wx{c:Cr}(h:Dp c){y:MC}(x:c.ms[j]?=Z y)(V:y.p=p)(G:p<c.n)(H:c.stat[p]?=Z (1,(j:Int)))(A:y.phase≠0)(a:Int)(K:a=0\/a=3)(lF:List Int)(o:lF=c.ip\/lF=(p:Int)::c.ip/\a=0):Dp {c with ms:=c.ms.set j ⟨-1,0,0⟩,stat:=c.stat.set p (a,-1),IB:=(j:Int)::c.IB,ip:=lF}:=by
 have r:(j:Int)∉c.IB:=λhm=>by obtain⟨k,z,e,f,g⟩:=h.J2 _ hm;have:j=k:=(by omega);subst this;rw[x]at f;cases f;exact A g
 have s:(p:Int)∉c.ip:=λhm=>by obtain⟨k,e,f,g⟩:=h.Kb _ hm;have:p=k:=(by omega);subst this;rw[H]at g;simp at g
 exact{h with
  ns:=by simp;exact h.ns,
  sl:=by simp;exact h.sl,
  m1:=by simp;exact h.m1,
  m2:=by simp;exact h.m2,
  mp:=λk z d=>by
   by_cases L:k=j
   ·have:z=⟨-1,0,0⟩:=by grind
    subst this;unfold Oh;simp
   ·obtain⟨M,a2,a3,a4,a5,O,P⟩:=h.mp k z (by grind)
    exact⟨M,a2,a3,a4,λu v=>by
     obtain⟨q,i,m,B⟩:=a5 u v;have:p≠q:=by rintro rfl;grind
     exact⟨q,i,m,by simpa[Ay,this]using B⟩,O,λu=>by
     rcases P u with b|⟨q,i,m,B⟩
     ·exact .inl b
     ·have:p≠q:=by rintro rfl;grind
      exact .inr ⟨q,i,m,by simpa[Ay,this]using B⟩⟩,
  mu:=λk l z z' d W=>by have:=h.mu k l z z';grind,
  sp:=λq b w C n=>by
   by_cases t:p=q
   ·subst t
    rw[Aj (by have:=h.ns;omega)]at n;cases n;exact .inl ⟨rfl,K⟩
   ·rcases h.sp q b w C (by simpa[Ay,t]using n)with f|⟨f,g,k,z,Q,D,R,S⟩
    ·exact .inl f
    ·have:j≠k:=by rintro rfl;rw[x]at D;cases D;omega
     exact .inr ⟨f,g,k,z,Q,by simpa[Ay,this]using D,R,S⟩,
  sd:=λq f g=>by have:=h.sd q f;grind,
  Oi:=by rcases o with e|⟨e,-⟩<;>rw[e];exact h.Oi;exact BH.2 ⟨s,h.Oi⟩,
  Kb:=λq d=>by
   have E:q∈c.ip\/q=p/\a=0:=by rcases o with e|⟨e,T⟩<;>simp only[e]at d;exact .inl d;rcases Be.1 d with F|F;exact .inr ⟨F,T⟩;exact .inl F
   rcases E with d|⟨rfl,rfl⟩
   ·obtain⟨l,rfl,i,m⟩:=h.Kb q d
    have:p≠l:=by rintro rfl;exact s d
    exact⟨l,rfl,i,by simpa[Ay,this]using m⟩
   ·exact⟨p,rfl,G,Aj (by have:=h.ns;omega)⟩,
  lE:=BH.2 ⟨r,h.lE⟩,
  J2:=λk d=>by
   rcases Be.1 d with rfl|d
   ·exact⟨j,⟨-1,0,0⟩,rfl,by have:=(Af.1 x).1;simp[this],rfl⟩
   ·obtain⟨l,z,rfl,i,m⟩:=h.J2 k d
    have:j≠l:=by rintro rfl;exact r d
    exact⟨l,z,rfl,by simpa[Ay,this]using i,m⟩}
theorem UW(a:l[p]?=Z (1,w)):Cx.Dn l p (λ_ _=>(0,-1)) (λs _=>s==1)=l.set p (0,-1):=by have b:p<l.length:=(Af.1 a).1;unfold Cx.Dn;rw[Ai (by omega)];simp[a]
theorem IY(b:l[p]?=Z (a,w))(c:a=0\/a=1\/a=2):Cx.Dn l p Cx.Iq (λs _=>Cx.F2 s)=l.set p (3,if a=2 then-1 else w):=by have d:p<l.length:=(Af.1 b).1;unfold Cx.Dn;rw[Ai (by omega)];simp only[Am,b,AW];rcases c with rfl|rfl|rfl<;>simp[Cx.Iq,Cx.F2]
theorem Tv(a:l[p]?=Z (3,w)):Cx.Dn l p (λ_ b=>Cx.eL b) (λs _=>s==3)=l.set p (if w= -1 then(0,-1)else(1,w)):=by have c:p<l.length:=(Af.1 a).1;unfold Cx.Dn;rw[Ai (by omega)];simp[a,Cx.eL]
theorem KI{m:Nat}{l:List Int}(h:(j:Int)∉l)(a:j<m):Idle.Iv m l j=(j:Int)::l:=by unfold Idle.Iv;rw[Ah (by simp[h];omega)]
theorem Q8(h:Inv e s){y:M1}(hy:s.ms[j]?=Z y)(O:y.p=p)(P:p<s.rings.length)(d:s.stat[p]?=Z (1,(j:Int)))(V:y.phase=1):(s.sc.Cz=tY-> ∃f,Gu {DQ s p with CD:=Idle.Iv 256 (DQ s p).CD p} j=Z f/\Inv e f)/\
  (s.sc.Cz=tZ-> ∃f,Gu ((Fg (DQ s p) p).CS {(Fg (DQ s p) p).sc with wait:=wrap64 (s.sc.wait-1)}) j=Z f/\Inv e f):=by
 have Q:j<64:=by have:=(Af.1 hy).1;have:=h.base.m2;simp[core]at this;omega
 have x:p<256:=by have:=h.base.W9;simp[core]at this;omega
 have i:(j:Int)∉s.CL:=λhm=>by
  obtain⟨k,z,e,A,r⟩:=h.base.J2 _ hm;have:j=k:=by omega
  subst this;rw[CG hy]at A;cases A;simp only[mc]at r;omega
 have B:(p:Int)∉s.CD:=λhm=>by
  obtain⟨k,e,A,r⟩:=h.base.Kb _ hm;have:p=k:=by omega
  subst this;rw[show(core s).stat[p]?=s.stat[p]? from rfl,d]at r;simp at r
 have C:p<s.stat.length:=(Af.1 d).1;constructor
 ·intro c
  refine⟨_,by simp[Gu,DQ,hy];rfl,?_⟩;have n:core {s with stat:=s.stat.set p (0,-1),CD:=(p:Int)::s.CD,ms:=s.ms.set j {y with p:= -1,g:=0,phase:=0,CU:=tY},CL:=(j:Int)::s.CL}={core s with ms:=(core s).ms.set j ⟨-1,0,0⟩,stat:=(core s).stat.set p (0,-1),IB:=(j:Int)::(core s).IB,ip:=(p:Int)::(core s).ip}:=by simp[core,Df,mc]
  have D:({DQ s p with CD:=Idle.Iv 256 (DQ s p).CD p,ms:=s.ms.set j {y with p:= -1,g:=0,phase:=0,CU:=tY},CL:=Idle.Iv 64 s.CL j}:St)={s with stat:=s.stat.set p (0,-1),CD:=(p:Int)::s.CD,ms:=s.ms.set j {y with p:= -1,g:=0,phase:=0,CU:=tY},CL:=(j:Int)::s.CL}:=by simp only[DQ];rw[UW d,KI i Q,KI (m:=256) B x]
  refine cast (Aq (Inv e) D.symm) ?_;refine⟨⟨?_,h.DL,h.th,h.box⟩,?_⟩
  ·rw[n];exact h.base.Wx (CG hy) O P d (by simp only[mc];omega) 0 (.inl rfl) _ (.inr ⟨rfl,rfl⟩)
  ·rw[n]
   refine h.link.look c (λq a w W d=>?_) (λk z t=>?_) (λk z t u=>?_)
   ·have:=(h.link.go c).2.1 q a w W;grind
   ·grind
   ·have:j≠k:=by rintro rfl;rw[CG hy]at t;cases t;simp only[mc]at u;omega
    simpa[Ay,this]using t
 ·intro c
  obtain⟨X,l2,o,R,k,z,q,E,b2,S,b4,F,b6⟩:=h.link.stop c;have aa:runN s.stat<=s.stat.length:=Zap;have D:Cx.Dn (Cx.Dn s.stat p (λ_ _=>(0,-1)) (λs _=>s==1)) p Cx.Iq (λs _=>Cx.F2 s)=s.stat.set p (3,-1):=by rw[UW d,IY (a:=0) (w:= -1) (by simp[C]) (.inl rfl)];simp
  have hw:wrap64 (s.sc.wait-1)=s.sc.wait-1:=Mr (by have:s.sc.wait=runN s.stat:=o.1;omega) (by have:s.sc.wait=runN s.stat:=o.1;have:=h.base.sl;simp only[core]at this;omega);have G:(Gu ((Fg (DQ s p) p).CS {(Fg (DQ s p) p).sc with wait:=wrap64 (s.sc.wait-1)}) j)=Z {s with stat:=s.stat.set p (3,-1),sc:={s.sc with wait:=s.sc.wait-1},ms:=s.ms.set j {y with p:= -1,g:=0,phase:=0,CU:=tY},CL:=(j:Int)::s.CL}:=by simp only[Gu,DQ,Fg,St.CS,hy];rw[D,hw,KI i Q]
  refine⟨_,G,?_⟩;have n:core {s with stat:=s.stat.set p (3,-1),sc:={s.sc with wait:=s.sc.wait-1},ms:=s.ms.set j {y with p:= -1,g:=0,phase:=0,CU:=tY},CL:=(j:Int)::s.CL}={core s with ms:=(core s).ms.set j ⟨-1,0,0⟩,stat:=(core s).stat.set p (3,-1),IB:=(j:Int)::(core s).IB,wt:=(core s).wt-1}:=by simp[core,Df,mc]
  have hB:=h.base.Wx (CG hy) O P d (by simp only[mc];omega) 3 (.inr rfl) _ (.inl rfl);have H:j≠k:=by rintro rfl;rw[CG hy]at E;cases E;simp only[mc]at S;omega
  have K:p≠q:=by rintro rfl;rw[show(core s).stat[p]?=s.stat[p]? from rfl,d]at F;simp at F
  have u: ∀(l:Nat)(v:MC),((core s).ms.set j ⟨-1,0,0⟩)[l]?=Z v->v.phase≠4:=λl v T=>by have:=R l v;grind
  refine⟨⟨?_,h.DL,h.th,h.box⟩,?_⟩
  ·rw[n];exact{hB with}
  ·rw[n]
   refine⟨λe=>tf c e,λ_=>h.link.Eo R,λl v T h5=>absurd h5 (u l v T),λ_=>⟨X,λl a w hl L=>?_,⟨?_,λh0=>?_⟩,u,k,z,q,by simpa[Ay,H]using E,b2,S,b4,by simpa[Ay,K]using F,λl w L=>?_⟩⟩
   ·have:=l2 l a w hl;grind
   ·have:=run_set (b:=3) (v:= -1) d
    have M:(core s).wt=runN s.stat:=o.1;simp only[core]at*
    rw[this,M];simp
   ·have h6:=o.2 h0
    have h7:=Po d;have h8:(core s).wt=runN s.stat:=o.1;omega
   ·have:=b6 l w;grind
end
section
open Cx (Pr pz)
open Vm (CP)
variable {p:Nat}
theorem Xd(n:Nat)(self draw:Int): ∀q,q∈EL n self draw->0<=q/\q<n:=by
 intro q a;unfold EL at a;have a:=(List.mem_filter.1 a).1;unfold FT at a;split at a
 ·simp at a
 ·rename_i b
  unfold Im at a;split at a
  ·simp at a
  ·obtain⟨k,-,rfl⟩:=BL.1 a
   have:(0:Int)<n:=by unfold DM at b;omega
   exact⟨Zbi _ (by omega),Zax _ this⟩
structure Out (e:Nat) (s:St) (id:Int) (s1:St):Prop where
 inv:Inv e s1
 gD:Kp s s1
 stat:s1.stat=s.stat
 se:id=0\/ ∃(i:Nat)(x:G),id=(i:Int)+1/\s1.gs[i]?=Z x/\(x.word=1\/x.word=9)/\id∉Df s1
theorem Out.trans{s1 s2:St}{id:Int}(h:Kp s s1)(a:s1.stat=s.stat)(k:Out e s1 id s2):Out e s id s2:=⟨k.inv,h.trans k.gD,k.stat.trans a,k.se⟩
theorem Nh(h:Inv e s){a:List Int}{r:List Rs}(b:r.length=s.rings.length)(f: ∀z,z∈r->0<=z.CI) {L:List Int} (c:(L++Df {s with all:=a,rings:=r}).Perm (Df s)):
  Inv e {s with all:=a,rings:=r}/\Kp s {s with all:=a,rings:=r}/\ ∀id,id∈L-> ∃(i:Nat)(x:G),id=(i:Int)+1/\s.gs[i]?=Z x/\(x.word=1\/x.word=9)/\id∉Df {s with all:=a,rings:=r}:=by
 refine⟨⟨⟨?_,h.DL,h.th,h.box⟩,?_⟩,⟨rfl,rfl,b,rfl,λk x d=>⟨x,d,rfl,rfl,rfl,rfl,rfl,rfl,id⟩,λ_ y hy _=>⟨y,hy,rfl⟩⟩,λid hid=>?_⟩
 ·rw[Jo _ _ _ b];exact h.base.less c _ (by simpa[core]using b) (by simpa using f)
 ·rw[Jo _ _ _ b];exact⟨h.link.go,h.link.Eo,h.link.bars,h.link.stop⟩
 ·obtain⟨i,z,rfl,g,j⟩:=h.base.qw id (c.mem_iff.1 (Bt _ hid))
  obtain⟨x,d,rfl⟩:=Ik g;refine⟨i,x,rfl,d,j,λhm=>?_⟩;exact(Cg.1 (c.nodup_iff.2 h.base.qn)).2.2 _ hid _ hm rfl
theorem Ms(h:Inv e s){a:List Int}{r:List Rs}(b:r.length=s.rings.length)(c: ∀z,z∈r->0<=z.CI) {id:Int} (d:([id]++Df {s with all:=a,rings:=r}).Perm (Df s)):Out e s id {s with all:=a,rings:=r}:=by obtain⟨f,g,i⟩:=Nh h b c d;exact⟨f,g,rfl,.inr (i id (by simp))⟩
theorem Bs.J4(h:Bs e s){r:Rs}(a:0<=r.CI): ∀z,z∈s.rings.set p r->0<=z.CI:=λz b=>by
 rcases Zaq b with c|rfl
 ·exact h.KG c
 ·exact a
theorem Ni{r:Rs}(f:s.rings[p]?=Z r)(D l:List Int)(b: ∀x,x∈l->1<=x) (c: ∀x,x∈Df s->1<=x):(Df {s with all:=D++C4.right (Ring.Ir 256 r.row l),rings:=s.rings.set p ⟨r.CI,Ring.JF 256 r.row l⟩}).Perm (l++(D++s.rings.flatMap λr=>Ring.C7 r.CI r.row)):=by
 obtain⟨rest,f1,f2⟩:=IW (λr=>Ring.C7 r.CI r.row) s.rings p r f;have e:=Xb r.row l b;rw[right_id (l:=Ring.Ir 256 r.row l) (λx g=>by
  rcases Br.1 (e.mem_iff.1 (Bb _ g))with d|d
  ·exact b x d
  ·exact c x (Bb _ (f1.mem_iff.2 (Bt _ (Bb _ d)))))]
 rw[BG];intro a;have c1:=e.count_eq a;have h:=f1.count_eq a;have c3:=(f2 ⟨r.CI,Ring.JF 256 r.row l⟩).count_eq a;simp only[Df,Ring.C7,BT]at*
 omega
theorem Nj(h:p<s.rings.length):Eb s p=s.rings[p]:=by simp[Eb,h]
theorem Tw(p:Nat): ∀(l:List Int)(s:St),Inv e s->p<s.rings.length->(∀q,q∈l->0<=q/\q<s.rings.length)-> ∃id s1,E8 p l s=Z (id,s1)/\Out e s id s1:=by
 intro l;induction l with
 |nil=>intro s h t u;exact⟨0,s,rfl,h,Kp.refl s,rfl,.inl rfl⟩
 |cons q l D=>
  intro s h t u;have v:=u q (by simp);obtain⟨q,rfl⟩: ∃k:Nat,q=k:=⟨q.toNat,by omega⟩;have g:q<s.rings.length:=by omega
  unfold E8;rw[Ai v,Am,Nj g];have w:s.rings[q]?=Z s.rings[q]:=Ae g;generalize s.rings[q]=r at w;have E:0<=r.CI:=h.KG (AP w);have b:0<=Ring.EB r.CI r.row:=by unfold Ring.EB;split<;>omega
  have n:=Xa r.CI r.row;obtain⟨rest,f1,f2⟩:=IW (λr=>Ring.C7 r.CI r.row) s.rings q r w;dsimp only;cases y:Ring.II r.CI r.row with
  |nil=>
   dsimp only;have F:([]++Df {s with all:=s.all,rings:=s.rings.set q ⟨Ring.EB r.CI r.row,Ring.ET r.row⟩}).Perm (Df s):=by
    rw[BG];intro a;have c1:=n.count_eq a;have G:=f1.count_eq a;have c3:=(f2 ⟨Ring.EB r.CI r.row,Ring.ET r.row⟩).count_eq a;rw[y]at c1;simp only[Df,BT,Zam]at*
    omega
   obtain⟨c,i,-⟩:=Nh h (by simp) (h.J4 b) F;obtain⟨id,s1,H,K⟩:=D _ c (by simpa using t) (λq v=>by have:=u q (AO _ v);simpa using this);exact⟨id,s1,H,K.trans i rfl⟩
  |cons x o=>
   dsimp only;refine⟨_,_,rfl,?_⟩;have j:p<(s.rings.set q ⟨Ring.EB r.CI r.row,Ring.ET r.row⟩).length:=by simpa using t
   unfold N4;rw[Nj (s:={s with rings:=s.rings.set q ⟨Ring.EB r.CI r.row,Ring.ET r.row⟩}) j];have d:(s.rings.set q ⟨Ring.EB r.CI r.row,Ring.ET r.row⟩)[p]?=Z (s.rings.set q ⟨Ring.EB r.CI r.row,Ring.ET r.row⟩)[p]:=Ae j;dsimp only;generalize(s.rings.set q ⟨Ring.EB r.CI r.row,Ring.ET r.row⟩)[p]=m at d;have A: ∀z,z∈(x::o)->1<=z:=λz f=>h.Pn z (Bb _ (f1.mem_iff.2 (Bt _ (n.mem_iff.1 (Bt _ (by rw[y];exact f))))));have B: ∀z,z∈Df {s with rings:=s.rings.set q ⟨Ring.EB r.CI r.row,Ring.ET r.row⟩}->1<=z:=λz f=>by
    rcases Br.1 f with c|c
    ·exact h.Pn z (Bt _ c)
    ·refine h.Pn z (Bb _ (f1.mem_iff.2 ?_))
     rcases Br.1 ((f2 _).mem_iff.1 c)with i|i
     ·exact Bt _ (n.mem_iff.1 (Bb _ i))
     ·exact Bb _ i
   have L:=Ni (s:={s with rings:=s.rings.set q ⟨Ring.EB r.CI r.row,Ring.ET r.row⟩}) d s.all o (λz f=>A z (AO _ f)) B;have C:0<=m.CI:=h.J4 (p:=q) (r:=⟨Ring.EB r.CI r.row,Ring.ET r.row⟩) b m (AP d);refine Ms h (a:=s.all++C4.right (Ring.Ir 256 m.row o)) (r:=(s.rings.set q ⟨Ring.EB r.CI r.row,Ring.ET r.row⟩).set p ⟨m.CI,Ring.JF 256 m.row o⟩) (by simp) (λz f=>?_) ?_
   ·rcases Zaq f with c|rfl
    ·exact h.J4 (p:=q) (r:=⟨Ring.EB r.CI r.row,Ring.ET r.row⟩) b z c
    ·exact C
   ·rw[BG];intro a
    have c0:=L.count_eq a;have c1:=n.count_eq a;have G:=f1.count_eq a;have c3:=(f2 ⟨Ring.EB r.CI r.row,Ring.ET r.row⟩).count_eq a;rw[y]at c1;simp only[Df,BT,Zam,Za2]at*
    omega
theorem Tx(h:Inv e s)(g:p<s.rings.length)(t:Int): ∃id s1,G4 s p t=Z (id,s1)/\Out e s id s1:=by
 unfold G4;rw[Nj g];have i:s.rings[p]?=Z s.rings[p]:=Ae g;generalize s.rings[p]=r at i;have j:0<=r.CI:=h.KG (AP i);obtain⟨rest,f1,f2⟩:=IW (λr=>Ring.C7 r.CI r.row) s.rings p r i;have f3:=f2 ⟨0,Ring.FJ r.CI r.row⟩;cases u:Ring.KZ r.CI r.row with
 |true=>
  rw[Ai rfl];refine⟨_,_,rfl,Ms h (a:=s.all) (by simp) (h.J4 (by simp)) ?_⟩;have y:=aB r.CI r.row j u;rw[BG];intro a;have c1:=y.count_eq a;have v:=f1.count_eq a;have c3:=f3.count_eq a;simp only[Df,BT,Zam,Za2]at*
  omega
 |false=>
  rw[Ah (by simp)];obtain⟨A,B⟩:=get_none r.CI r.row u;dsimp only at f1 f3;rw[A]at f1;rw[B]at f3;dsimp only;have c:=f3.trans f1.symm;generalize JV _=n;have b:s.all.take n++s.all.drop n=s.all:=BV n s.all;generalize s.all.drop n=D at b;cases w:s.all.take n with
  |nil=>
   rw[w]at b;dsimp only;have C:([]++Df {s with all:=D,rings:=s.rings.set p ⟨0,Ring.FJ r.CI r.row⟩}).Perm (Df s):=by
    rw[BG];intro a;have c1:=c.count_eq a;have v:=Aq (List.count a) b;simp only[Df,BT,Zam]at*
    omega
   obtain⟨d,E,-⟩:=Nh h (by simp) (h.J4 (by simp)) C;obtain⟨id,s1,F,G⟩:=Tw p (EL (s.rings.set p ⟨0,Ring.FJ r.CI r.row⟩).length t s.sc.draw) _ d (by simpa using g) (Xd _ _ _);exact⟨id,s1,F,G.trans E rfl⟩
  |cons x o=>
   rw[w]at b;dsimp only;refine⟨_,_,rfl,?_⟩;have k:p<(s.rings.set p ⟨0,Ring.FJ r.CI r.row⟩).length:=by simpa using g
   unfold N4;rw[Nj (s:={s with rings:=s.rings.set p ⟨0,Ring.FJ r.CI r.row⟩,all:=D}) k];have l:(s.rings.set p ⟨0,Ring.FJ r.CI r.row⟩)[p]?=Z ⟨0,Ring.FJ r.CI r.row⟩:=by simp[g]
   rw[show(s.rings.set p ⟨0,Ring.FJ r.CI r.row⟩)[p]=⟨0,Ring.FJ r.CI r.row⟩ by simp];have m: ∀z,z∈(x::o)->1<=z:=λz f=>h.Pn z (Bt _ (by rw[<-b];exact Bt _ f));have q: ∀z,z∈Df {s with rings:=s.rings.set p ⟨0,Ring.FJ r.CI r.row⟩,all:=D}->1<=z:=λz f=>by
    rcases Br.1 f with d|d
    ·exact h.Pn z (Bt _ (by rw[<-b];exact Bb _ d))
    ·exact h.Pn z (Bb _ (c.mem_iff.1 d))
   have H:=Ni (s:={s with rings:=s.rings.set p ⟨0,Ring.FJ r.CI r.row⟩,all:=D}) l D o (λz f=>m z (AO _ f)) q;refine Ms h (a:=D++C4.right (Ring.Ir 256 (Ring.FJ r.CI r.row) o)) (r:=(s.rings.set p ⟨0,Ring.FJ r.CI r.row⟩).set p ⟨0,Ring.JF 256 (Ring.FJ r.CI r.row) o⟩) (by simp) (λz f=>?_) ?_
   ·rcases Zaq f with d|rfl
    ·exact h.J4 (p:=p) (r:=⟨0,Ring.FJ r.CI r.row⟩) (by simp) z d
    ·simp
   ·rw[BG];intro a
    have c0:=H.count_eq a;have c1:=c.count_eq a;have v:=Aq (List.count a) b;simp only[Df,BT,Zam,Za2]at*
    omega
theorem Xe(h:Inv e s){j:Nat}{y:M1}(hy:s.ms[j]?=Z y)(b:y.p=p)(k:p<s.rings.length): ∃id s1,G5 s j=Z (id,s1)/\Out e s id s1:=by
 have n:=h.Il;obtain⟨c,d⟩:=h.Ng hy {y with looks:=wrap64 (y.looks+1)} rfl;unfold G5;rw[hy];dsimp only;rw[Ai (by omega)];split
 ·rename_i f
  cases g:s.all with
  |nil=>rw[g]at f;simp at f
  |cons x r=>refine⟨_,_,rfl,Out.trans d rfl (Ms c (a:=r) (r:=s.rings) rfl (λz l=>h.KG l) ?_)⟩;have:(s.CQ j {y with looks:=wrap64 (y.looks+1)}).all=x::r:=g;simp only[Df,this];exact List.Perm.refl _
 ·obtain⟨id,s1,i,m⟩:=Tx c (p:=p) k y.p
  rw[b,Am];rw[b]at i;exact⟨id,s1,i,m.trans d rfl⟩
end
section
open Cx (Pr pz)
open Vm (CP)
theorem Fe(h:Inv e s){x:G}(b:s.gs[i]?=Z x)(x':G)(hw:D9.Dt x'.word)(c:(x'.blocked=tZ->(x'.word=4\/x'.word=12)/\x'.CA=tY)/\(x'.CA=tZ->x'.word=4\/x'.word=12))(d:(i:Int)+1∈Df s->x'.word=1\/x'.word=9)(f:(i:Int)+1∈s.waits->x'.CA=tZ)(hm: ∀(j:Nat)(y:M1),s.ms[j]?=Z y->y.g=(i:Int)+1->(y.phase<=4->x'.word=2)/\(y.phase=5->x'.word=3\/x'.word=11)/\(y.phase=3\/y.phase=4->x'.begun=tZ)) (g:Pm s.funcs x'/\(x'.done=tZ->x'.word=6\/i=e)):Inv e (s.CJ i x'):=by
 have l:i<s.gs.length:=(Af.1 b).1;refine⟨⟨?_,h.DL,λk z a=>?_,h.box⟩,by rw[Ez];exact⟨h.link.go,h.link.Eo,h.link.bars,h.link.stop⟩⟩
 ·rw[Ez]
  exact h.base.CJ (CV b) ⟨hw,c⟩ d f (λj z m n=>by obtain⟨y,hy,rfl⟩:=DJ m;exact hm j y hy n)
 ·by_cases e:i=k
  ·subst e
   simp only[St.CJ,Aj l]at a;cases a;exact g
  ·simp only[St.CJ,Ao e]at a
   exact h.th k z a
theorem Bs.flags(h:Bs e s){x:G}(c:s.gs[i]?=Z x)(hw:x.word≠4/\x.word≠12):x.blocked=tY/\x.CA=tY/\(i:Int)+1∉s.waits:=by
 have a:=h.base.gw i _ (CV c);simp only[gc]at a;have d:x.CA=false:=by
  cases b:x.CA with
  |false=>rfl
  |true=>have:=a.2.2 b;omega
 refine⟨?_,d,λhm=>?_⟩
 ·cases b:x.blocked with
  |false=>rfl
  |true=>have:=a.2.1 b;omega
 ·obtain⟨k,z,e,f,g⟩:=h.base.ww _ hm
  have:k=i:=by omega
  subst this;rw[CV c]at f;cases f;exact tf g d
theorem Q9(h:Inv e s){p:Nat}{y:M1}(hy:s.ms[j]?=Z y)(H:y.p=p)(K:p<s.rings.length)(L:s.stat[p]?=Z (1,(j:Int)))(M:y.phase=1)(r:s.sc.Cz=tY){x:G}(b:s.gs[i]?=Z x)(hw:x.word=1\/x.word=9)(A:(i:Int)+1∉Df s): ∃m,Gy s j i=Z m/\Inv e m:=by
 have O:i<s.gs.length:=(Af.1 b).1;obtain⟨f1,f2,f3⟩:=h.flags b (by omega);have B:=h.th i x b;have hm: ∀(k:Nat)(z:M1),s.ms[k]?=Z z->z.g≠(i:Int)+1:=λk z n=>h.base.Nd (CV b) (by simp only[gc];omega) (CG n);have C:=h.Il;unfold Gy;rw[b,hy];dsimp only;by_cases D:8<=x.word
 ·rw[Ai D,Ai (by omega)]
  refine⟨_,rfl,⟨?_,h.DL,h.th,h.box⟩,?_⟩
  ·unfold St.put
   rw[Jo s (s.all++C4.right [(i:Int)+1]) s.rings rfl];refine h.base.more (CV b) hw A ?_ _ (by simp[core]) (λa C=>h.base.rn a C);rw[right_id (l:=[(i:Int)+1]) (by simp;omega)];rw[BG];intro a;simp only[Df,core,BT,Za2,Zam];omega
  ·unfold St.put
   rw[Jo s (s.all++C4.right [(i:Int)+1]) s.rings rfl];exact⟨h.link.go,h.link.Eo,h.link.bars,h.link.stop⟩
 ·have o:x.word=1:=by omega
  have d: ∀t,s.mv i t=s.CJ i {x with word:=Ia x.word t}:=λt=>by simp[St.mv,b]
  have E: ∀t,Ia x.word t=5\/Ia x.word t=2->Inv e (s.mv i t):=λt e=>by
   rw[d];refine Fe h b _ ?_ (by simp[f1,f2]) (λf=>absurd f A) (λf=>absurd f f3) (λk z n P=>absurd P (hm k z n)) ⟨B.1.congr ?_ rfl rfl rfl rfl,λQ=>?_⟩
   ·dsimp only;unfold D9.Dt;omega
   ·dsimp only;unfold D9.Dt;omega
   ·have:=B.2 Q;omega
  rw[Ah D];split
  ·obtain⟨m,f,c,-⟩:=Le (E 5 (by rw[o];decide+kernel)) i
   exact⟨m,f,c⟩
  ·have F:Ia x.word 2=2:=by rw[o];decide+kernel
   have c:=E 2 (.inr F);rw[d]at c;have u:Inv e ((s.mv i 2).CQ j {y with g:=(i:Int)+1,phase:=2,used:=0}):=by
    rw[d];refine⟨⟨?_,c.DL,c.th,c.box⟩,?_⟩
    ·rw[DT]
     refine c.base.NM (CG hy) ?_ (.inr (.inr λk z n=>?_)) rfl (by simp[mc]) (λf=>?_)
     ·refine⟨by simp[mc],by simp[mc],by simp[mc],by simp[mc],λ_ _=>⟨p,H,K,.inl L⟩,λ_=>⟨i,gc {x with word:=Ia x.word 2},rfl,CV (by simp only[St.CJ];exact Aj O),λ_=>F,by simp[mc],by simp[mc]⟩,by simp[mc]⟩
     ·obtain⟨v,R,rfl⟩:=DJ n
      exact hm k v R
     ·obtain⟨k,z,e,q,w⟩:=h.base.J2 _ f
      have:j=k:=by omega
      subst this;rw[CG hy]at q;cases q;simp only[mc]at w;omega
    ·rw[DT]
     exact c.link.NM (CG hy) (by simp only[mc];omega) (by simp[mc]) (λe=>tf e r)
   obtain⟨m,q,w,-⟩:=Nf u;exact⟨m,q,w⟩
theorem Inv.one(h:Inv e s){y:M1}(hy:s.ms[j]?=Z y)(n:y.phase=1\/y.phase=4\/y.phase=2/\s.sc.CF≠y.g): ∃p:Nat,y.p=p/\p<s.rings.length/\s.stat[p]?=Z (1,(j:Int)):=by
 have a:=h.base.mp j _ (CG hy);simp only[Oh,mc]at a;obtain⟨p,g,a2,a3⟩:=a.2.2.2.2.1 (by clear a;omega) (by clear a;omega);clear a;refine⟨p,g,a2,?_⟩;rcases a3 with a3|a3
 ·exact a3
 ·exfalso
  cases b:s.sc.Cz with
  |false=>exact(h.link.go b).2.1 p _ _ a2 a3 rfl
  |true=>
   obtain⟨o,i,l,m,k,z,q,c,r,d,t,u,b6⟩:=h.link.stop b;have:j=k:=by have:=b6 p _ a3;omega
   subst this;rw[CG hy]at c;cases c;simp only[mc]at d;have f:(core s).Hc=s.sc.CF:=rfl;rw[f]at d;clear f a3 i l m b6 h;omega
theorem aE(h:Inv e s){y:M1}(hy:s.ms[j]?=Z y)(f:y.phase=1): ∃d,Ku s j=Z d/\Inv e d:=by
 obtain⟨p,g,t,v⟩:=h.one hy (.inl f);have k:p<s.asked.length:=by have:=h.base.nb;simp[core]at this;omega
 unfold Ku;rw[hy];dsimp only;rw[Ai (by omega),g,Am,Ae k];dsimp only;split
 ·rename_i B
  exact Lf h (Ae k) B
 ·split
  ·rename_i c
   obtain⟨d,u,a⟩:=(Q8 h hy g t v f).2 c;exact⟨d,u,a⟩
  ·rename_i c
   have l:s.sc.Cz=false:=by simpa using c
   obtain⟨id,s1,u,a⟩:=Xe h hy g t;rw[u];dsimp only;obtain⟨w,m,z⟩:=a.gD.ms j y hy (by omega);have A:w.p=y.p:=Aq MC.p z;have C:w.phase=y.phase:=Aq MC.phase z;have n:p<s1.rings.length:=by rw[a.gD.nr];exact t
   have o:s1.stat[p]?=Z (1,(j:Int)):=by rw[a.stat];exact v
   have b:s1.sc.Cz=false:=by rw[a.gD.sc];exact l
   split
   ·obtain⟨d,q,r⟩:=(Q8 a.inv m (A.trans g) n o (by omega)).1 b
    exact⟨d,q,r⟩
   ·rename_i D
    rcases a.se with q|⟨i,x,q,r,E,F⟩
    ·exact absurd q D
    ·subst q
     have G:i<s1.gs.length:=(Af.1 r).1;rw[Ai (by omega),show((i:Int)+1-1).toNat=i by omega];exact Q9 a.inv m (A.trans g) n o (by omega) b r E F
end
section
open Cx (Pr pz)
open Vm (CP)
theorem EA(h:Inv e s){a:List Pc}{b:List (Option Int)}(d:a.map (·.Eo)=s.asked.map (·.Eo))(f:b.length=s.box.length):Inv e {s with asked:=a,box:=b}/\Kp s {s with asked:=a,box:=b}:=by
 have c:core {s with asked:=a,box:=b}=core s:=by simp[core,Df,d]
 exact⟨⟨⟨by rw[c];exact h.base,h.DL,h.th,by rw[<-h.box];exact f⟩,by rw[c];exact h.link⟩,rfl,rfl,rfl,rfl,λk x g=>⟨x,g,rfl,rfl,rfl,rfl,rfl,rfl,id⟩,λ_ y hy _=>⟨y,hy,rfl⟩⟩
theorem Ra(l:List (Option Int))(m:Nat)(d:Int):(Ks l m d).length=l.length:=by unfold Ks;(repeat' split)<;>first|rfl|simp
theorem IZ(h:Bs e s){j:Nat}{y:M1}(hy:s.ms[j]?=Z y)(c:y.p= -1\/ ∃p:Nat,y.p=p/\p<s.rings.length): ∃a b,GR s j=Z {s with asked:=a,box:=b}/\a.map (·.Eo)=s.asked.map (·.Eo)/\b.length=s.box.length:=by
 have g:j<64:=by have:=(Af.1 hy).1;have:=h.base.m2;simp[core]at this;omega
 unfold GR;rw[hy];dsimp only;rw[Ai g];by_cases d:y.p= -1
 ·rw[Ai d]
  exact⟨s.asked,_,rfl,rfl,Ra _ _ _⟩
 ·rw[Ah d]
  rcases c with c|⟨p,c,i⟩
  ·exact absurd c d
  ·have f:p<s.asked.length:=by have:=h.base.nb;simp[core]at this;omega
   rw[Ai (by omega),c,Am,Ae f];refine⟨_,_,rfl,?_,Ra _ _ _⟩;apply BI;intro k;simp only[Bz];grind
theorem Jp(h:Bs e s){p:Nat}(c:p<s.rings.length): ∃a w,s.stat[p]?=Z (a,w)/\Cx.FV s.stat p=a/\Cx.Iw s.stat p=w:=by
 have b:p<s.stat.length:=An c h.base.ns;refine⟨s.stat[p].1,s.stat[p].2,Ae b,?_,?_⟩
 ·unfold Cx.FV;rw[Ai (by omega)];simp[b]
 ·unfold Cx.Iw;rw[Ai (by omega)];simp[b]
theorem Pp(h:Bs e s){p:Nat}(f:p<s.rings.length){a w:Int}(g:s.stat[p]?=Z (a,w)):(w= -1/\Iz s p=N/\(a=0\/a=3))\/ ∃(k:Nat)(y:M1),w=k/\Iz s p=Z k/\s.ms[k]?=Z y/\y.p=p/\1<=y.phase/\1<=a/\a<=3:=by
 obtain⟨a',o,i,q,b⟩:=Jp h f;rw[g]at i;cases i;rcases h.base.sp p a w f g with⟨c,d⟩|⟨c,d,k,z,j,l,m,n⟩
 ·refine .inl ⟨c,?_,d⟩
  unfold Iz;rw[Ah (by rw[b];omega)]
 ·obtain⟨y,hy,rfl⟩:=DJ l
  have:=(Af.1 hy).1;refine .inr ⟨k,y,j,?_,hy,m,n,c,d⟩;unfold Iz;rw[Ai (by rw[b];omega),b,j,Am]
theorem Ty(j:Nat): ∀(n p:Nat)(s:St),Inv e s->p+n=s.rings.length-> ∃a b,Gz j n p s=Z {s with asked:=a,box:=b}/\a.map (·.Eo)=s.asked.map (·.Eo)/\b.length=s.box.length:=by
 intro n;induction n with
 |zero=>intro p s h _;exact⟨s.asked,s.box,rfl,rfl,rfl⟩
 |succ n f=>
  intro p s h B;have g:p<s.rings.length:=by omega
  obtain⟨a,w,r,C,D⟩:=Jp h.toBs g;unfold Gz;rcases Pp h.toBs g r with⟨t,i,-⟩|⟨k,y,t,i,u,v,-⟩
  ·rw[i];exact f (p+1) s h (by omega)
  ·rw[i]
   dsimp only;split
   ·obtain⟨c,b,x,q,d⟩:=IZ h.toBs u (.inr ⟨p,v,g⟩)
    rw[x];obtain⟨z,A,l,m,o⟩:=f (p+1) _ (EA h q d).1 (by dsimp only;omega);exact⟨z,A,l,m.trans q,o.trans d⟩
   ·exact f (p+1) s h (by omega)
theorem Oj(h:Inv e s)(j:Nat): ∃c,MU s j=Z c/\Inv e c:=by obtain⟨a,b,d,f,g⟩:=Ty j s.rings.length 0 s h (by omega);exact⟨_,d,(EA h f g).1⟩
theorem J5(h:Inv e s){i:Nat}(H:s.owner=(i:Int)+1->s.sc.Cz=tY/\ ∀(k:Nat)(z:M1),s.ms[k]?=Z z->z.phase≠3/\z.phase≠4): ∃j,EM s i=Z j/\Inv e j/\Kp s j:=by
 have K:s.waits.length<=64:=by have:=Jn (core s).gs.length s.waits h.base.wn (λx b=>by obtain⟨k,z,rfl,t,-⟩:=h.base.ww x b;have:=(Af.1 t).1;omega);exact AA this h.base.g2
 unfold EM;rw[Ai (by omega)];by_cases f:s.owner=(i:Int)+1
 ·obtain⟨u,v⟩:=H f
  have g: ¬(i:Int)+1<1:=by omega
  unfold Dg.P9 Dg.Qa Dg.Qb;rw[Ah g,Ai f,Ah g,Ai f,Ah g,Ai f];have p: ∀(k:Nat)(z:MC)(o:Int)(gs:List GC),(core s).ms[k]?=Z z->Oh (core s).n (core s).stat gs (core s).Gg k z->Oh (core s).n (core s).stat gs o k z:=λk z o gs d p=>by obtain⟨y,hy,rfl⟩:=DJ d;have:=v k y hy;obtain⟨L,a2,a3,a4,a5,M,O⟩:=p;exact⟨L,a2,a3,a4,a5,λm=>by obtain⟨i,x,P,Q,R,S,b5⟩:=M m;exact⟨i,x,P,Q,R,S,λT=>(T.elim this.1 this.2).elim⟩,O⟩
  have E: ∀(o:Int)(ws:List Int)(gs:List GC),NL {core s with Gg:=o,ws:=ws,gs:=gs}:=λo ws gs=>⟨h.link.go,h.link.Eo,h.link.bars,λc=>tf c u⟩;cases hw:s.waits with
  |nil=>
   dsimp only[List.headD_nil,List.tail_nil];rw[Ai rfl];refine⟨_,rfl,⟨⟨?_,h.DL,h.th,h.box⟩,?_⟩,rfl,rfl,rfl,rfl,λk x b=>⟨x,b,rfl,rfl,rfl,rfl,rfl,rfl,id⟩,λ_ y hy _=>⟨y,hy,rfl⟩⟩
   ·exact(({h.base with mp:=λk z d=>p k z 0 _ d (h.base.mp k z d),J1:=by simp,GL:=by simp,wn:=by simp,ww:=by simp}:Dp {core s with Gg:=0,ws:=[]}))
   ·exact E 0 [] _
  |cons id r=>
   dsimp only[List.headD_cons,List.tail_cons];have F:(id::r).Nodup:=by rw[<-hw];exact h.base.wn
   obtain⟨k,z,rfl,t,m⟩:=h.base.ww id (by simp[core,hw]);obtain⟨x,b,rfl⟩:=Ik t;have d:k<s.gs.length:=(Af.1 b).1;have w:=h.base.gw k _ (CV b);simp only[gc]at w m;have V:=w.2.2 m;have n:x.blocked=false:=by
    cases W:x.blocked with
    |false=>rfl
    |true=>have:=(w.2.1 W).2;rw[m]at this;cases this
   rw[Ah (by omega),Ai (by omega),show((k:Int)+1-1).toNat=k by omega];rw[b];dsimp only;have q:=h.th k x b;have A:(k:Int)+1∉r:=(BH.1 F).1;have B:Inv e (({s with owner:=(k:Int)+1,waits:=r}:St).CJ k {x with CA:=tY}):=by
    refine⟨⟨?_,h.DL,λl z a=>?_,h.box⟩,?_⟩
    ·rw[Ez]
     have C:Dp {core s with Gg:=(k:Int)+1,ws:=r}:={h.base with mp:=λl z a=>p l z _ _ a (h.base.mp l z a),J1:=by dsimp only;omega,GL:=by simp[core];omega,wn:=(BH.1 F).2,ww:=λid hid=>h.base.ww id (by simp only[core];rw[hw];exact AO _ hid)};refine C.CJ (i:=k) (CV b) ⟨q.1.wd,by simp[gc,n],by simp[gc]⟩ (λhm=>absurd hm (h.base.J3 (CV b) (by simp only[gc];omega))) (λhm=>absurd hm A) (λl z a D=>?_);exact absurd D (h.base.Nd (CV b) (by simp only[gc];omega) a)
    ·by_cases c:k=l
     ·subst c
      simp only[St.CJ,Aj d]at a;cases a;exact⟨q.1.congr q.1.wd rfl rfl rfl rfl,q.2⟩
     ·simp only[St.CJ,Ao c]at a
      exact h.th l z a
    ·rw[Ez];exact E _ _ _
   have G:Kp s (({s with owner:=(k:Int)+1,waits:=r}:St).CJ k {x with CA:=tY}):=by
    refine⟨rfl,rfl,rfl,by simp[St.CJ],λl z a=>?_,λ_ y hy _=>⟨y,hy,rfl⟩⟩;by_cases c:k=l
    ·subst c
     rw[b]at a;cases a;exact⟨_,Aj d,rfl,rfl,rfl,rfl,rfl,rfl,id⟩
    ·exact⟨z,by simp only[St.CJ];rw[Ao c];exact a,rfl,rfl,rfl,rfl,rfl,rfl,id⟩
   split
   ·exact⟨_,rfl,B,G⟩
   ·obtain⟨j,X,h6,h7⟩:=Fs B (B.loose (i:=k) (x:={x with CA:=tY}) (by simp only[St.CJ];exact List.getElem?_set_self d) (by dsimp only;omega) ⟨n,rfl⟩) (-1) (.inl rfl) tY
    exact⟨j,X,h6,G.trans h7⟩
 ·have g: ¬(i:Int)+1<1:=by omega
  have c:Dg.P9 s.owner s.waits ((i:Int)+1)=0:=by unfold Dg.P9;rw[Ah g,Ah f]
  have e2:Dg.Qa s.owner s.waits ((i:Int)+1)=s.owner:=by unfold Dg.Qa;rw[Ah g,Ah f]
  have e3:Dg.Qb s.owner s.waits ((i:Int)+1)=s.waits:=by unfold Dg.Qb;rw[Ah g,Ah f]
  rw[c,e2,e3];dsimp only;rw[Ai rfl];exact⟨s,rfl,h,Kp.refl s⟩
end
section
open Cx (Pr pz)
open Vm (CP)
variable {j pj k:Nat}{y:MC}
theorem Dp.Rb{c:Cr}(h:Dp c){p:Nat}{w b:Int}(o:c.stat[p]?=Z (3,w))(t:w= -1/\b=0\/w≠ -1/\b=1):Dp {c with stat:=c.stat.set p (b,w)}:=
 {h with
  ns:=by simp;exact h.ns,
  sl:=by simp;exact h.sl,
  mp:=λk z x=>by
   obtain⟨y,a2,a3,a4,a5,A,B⟩:=h.mp k z x;refine⟨y,a2,a3,a4,λu v=>?_,A,λu=>?_⟩
   ·obtain⟨q,i,j,r⟩:=a5 u v
    refine⟨q,i,j,?_⟩;by_cases d:p=q
    ·subst d
     have C:p<c.stat.length:=(Af.1 o).1;rw[o]at r;have e:w=k:=by grind
     left;rw[Aj C];rcases t with⟨g,-⟩|⟨-,m⟩
     ·omega
     ·rw[m,e]
    ·simpa[Ay,d]using r
   ·rcases B u with b|⟨q,i,j,r⟩
    ·exact .inl b
    ·have d:p≠q:=by rintro rfl;grind
     exact .inr ⟨q,i,j,by simpa[Ay,d]using r⟩,
  sp:=λq a v d f=>by
   by_cases n:p=q
   ·subst n
    have:=h.sp p 3 w d o;rw[Aj (Af.1 o).1]at f;cases f;rcases t with⟨g,m⟩|⟨g,m⟩
    ·exact .inl ⟨g,.inl m⟩
    ·rcases this with⟨s,-⟩|⟨-,-,s⟩
     ·exact absurd s g
     ·exact .inr ⟨by omega,by omega,s⟩
   ·exact h.sp q a v d (by simpa[Ay,n]using f),
  sd:=λq g m=>by have:=h.sd q g;grind,
  Kb:=λq d=>by
   obtain⟨l,rfl,i,j⟩:=h.Kb q d;have:p≠l:=by rintro rfl;grind
   exact⟨l,rfl,i,by simpa[Ay,this]using j⟩}
theorem Xf(self:Int): ∀(l:List Int)(i:Nat)(m:Int),(∀q,q∈(Dw self l i m).1++(Dw self l i m).2-> ∃k:Nat,q=k/\i<=k/\k<i+l.length/\q≠self)/\((Dw self l i m).1++(Dw self l i m).2).Nodup/\ ∀k:Nat,i<=k->k<i+l.length->(k:Int)≠self->(k:Int)∈(Dw self l i m).1++(Dw self l i m).2:=by
 intro l;induction l with
 |nil=>intro i m;simp[Dw];omega
 |cons n r j=>
  intro i m;unfold Dw;split
  ·rename_i p
   obtain⟨d,f,g⟩:=j (i+1) m;refine⟨λq c=>?_,f,λk e b a=>g k (by omega) (by simp at b;omega) a⟩;obtain⟨k,rfl,e,b,a⟩:=d q c;exact⟨k,rfl,by omega,by simp;omega,a⟩
  ·rename_i p
   have key: ∀(m':Int)(o:List Int),o.Perm ((i:Int)::((Dw self r (i+1) m').1++(Dw self r (i+1) m').2))->(∀q,q∈o-> ∃k:Nat,q=k/\i<=k/\k<i+(n::r).length/\q≠self)/\o.Nodup/\ ∀k:Nat,i<=k->k<i+(n::r).length->(k:Int)≠self->(k:Int)∈o:=by
    intro m' o h;obtain⟨d,f,g⟩:=j (i+1) m';refine⟨λq c=>?_,h.nodup_iff.2 (BH.2 ⟨λhm=>?_,f⟩),λk e b a=>h.mem_iff.2 ?_⟩
    ·rcases Be.1 (h.mem_iff.1 c)with rfl|c
     ·exact⟨i,rfl,by omega,by simp,p⟩
     ·obtain⟨k,rfl,e,b,a⟩:=d q c
      exact⟨k,rfl,by omega,by simp;omega,a⟩
    ·obtain⟨k,e,b,-⟩:=d _ hm
     omega
    ·by_cases s:k=i
     ·subst s;exact List.mem_cons_self
     ·exact AO _ (g k (by omega) (by simp at b;omega) a)
   split
   ·exact key (m-1) _ (List.Perm.refl _)
   ·exact key m _ List.perm_middle
section
variable {e:Nat}
structure Gs (e:Nat) (s:St) (j pj:Nat) (y:MC) (T:List Int):Prop where
 DC:Bs e s
 st:s.sc.Cz=tY
 Hc:s.sc.CF=0
 gE: ∀(k:Nat)(z:M1),s.ms[k]?=Z z->z.phase≠3/\z.phase≠4
 bars: ∀b,b∈(core s).bars->b=tY
 pn:pj<s.rings.length
 my: ∃z:M1,s.ms[j]?=Z z/\mc z=y
 oE:y.p=pj/\y.phase=2
 pY:s.stat[pj]?=Z (3,(j:Int))
 qY:T.Nodup
 tt: ∀q,q∈T-> ∃k:Nat,q=k/\k<s.rings.length/\k≠pj/\s.stat[k]?=Z (3,-1)
 al: ∀(q:Nat)(w:Int),q<s.rings.length->s.stat[q]?=Z (3,w)->(q:Int)∈T\/q=pj
theorem Gs.step{s s':St}{T:List Int}(h:Gs e s j pj y ((k:Int)::T)){v:Pr}(r:v.1≠3)(t:Bs e s')(b:Kp s s')(g:s'.stat=s.stat.set k v)(u:s'.asked=s.asked)(hm: ∀(k:Nat)(z:M1),s'.ms[k]?=Z z->s.ms[k]?=Z z\/z.phase<=1):Gs e s' j pj y T:=by
 obtain⟨i,m⟩:=BH.1 h.qY;obtain⟨n,x,A,o,p⟩:=h.tt k (by simp);have:n=k:=by omega
 subst this;obtain⟨z,B,rfl⟩:=h.my;have C:z.phase=2:=h.oE.2;refine⟨t,by rw[b.sc];exact h.st,by rw[b.sc];exact h.Hc,λl z D=>?_,by simp only[core,u];exact h.bars,by rw[b.nr];exact h.pn,b.ms j z B (by omega),h.oE,?_,m,λq c=>?_,λq w c hw=>?_⟩
 ·rcases hm l z D with a|a
  ·exact h.gE l z a
  ·omega
 ·rw[g,Ao o];exact h.pY
 ·obtain⟨l,rfl,a,f,E⟩:=h.tt q (AO _ c)
  have:n≠l:=by rintro rfl;exact i c
  exact⟨l,rfl,by rw[b.nr];exact a,f,by rw[g,Ao this];exact E⟩
 ·rw[b.nr]at c
  rw[g]at hw;by_cases d:n=q
  ·subst d
   rw[Aj (Af.1 p).1]at hw;cases hw;exact absurd rfl r
  ·rw[Ao d]at hw
   rcases h.al q w c hw with a|a
   ·rcases Be.1 a with f|f
    ·omega
    ·exact .inl f
   ·exact .inr a
theorem UX(s:St)(st:List Pr)(ip:List Int)(al:List Int):Kp s {s with stat:=st,CD:=ip,all:=al}:=⟨rfl,rfl,rfl,rfl,λk x a=>⟨x,a,rfl,rfl,rfl,rfl,rfl,rfl,id⟩,λ_ y hy _=>⟨y,hy,rfl⟩⟩
theorem Gs.off{s:St}{T:List Int}(h:Gs e s j pj y ((k:Int)::T)):k<s.rings.length/\s.stat[k]?=Z (3,-1)/\(k:Int)∉s.CD/\dR s k={s with stat:=s.stat.set k (0,-1)}/\Bs e {s with stat:=s.stat.set k (0,-1)}:=by
 obtain⟨c,g,d,i,a⟩:=h.tt k (by simp);have:c=k:=by omega
 subst this;refine⟨d,a,λhm=>?_,?_,⟨?_,h.DC.DL,h.DC.th,h.DC.box⟩⟩
 ·obtain⟨l,m,n,f⟩:=h.DC.base.Kb _ hm
  have:c=l:=by omega
  subst this;rw[show(core s).stat[c]?=s.stat[c]? from rfl,a]at f;simp at f
 ·unfold dR;rw[Tv a,Ai rfl]
 ·exact h.DC.base.Rb (p:=c) (w:= -1) (b:=0) a (.inl ⟨rfl,rfl⟩)
theorem gG: ∀(d a:List Int)(s:St),Gs e s j pj y (d++a)-> ∃b,fz d s=Z b/\Gs e b j pj y a/\Kp s b:=by
 intro d;induction d with
 |nil=>intro a s h;exact⟨s,rfl,h,Kp.refl s⟩
 |cons p r q=>
  intro a s h;obtain⟨k,rfl,-⟩:=h.tt p (by simp);obtain⟨w,A,B,C,t⟩:=Gs.off (T:=r++a) h;have f:=(Af.1 A).1;unfold fz;rw[C];rcases Q6 t (p:=k) w (Aj f)with g|⟨b,jj,g,i,c,D,m⟩
  ·rw[g]
   have n:=Gs.step (T:=r++a) h (v:=(0,-1)) (by simp) t (UX s _ s.CD s.all) rfl rfl (λk z E=>.inl E);obtain⟨s2,o,a2,a3⟩:=q a _ n;exact⟨s2,o,a2,(UX s _ s.CD s.all).trans a3⟩
  ·rw[g]
   have F:b.CD=s.CD:=by rw[c]
   rw[Zao B]at i;have G:({b with CD:=s.CD}:St)=b:=by rw[<-F]
   rw[G]at i;have u:Kp s b:=⟨by rw[c],by rw[c],by rw[c],by rw[c],λk x H=>⟨x,by rw[c];exact H,rfl,rfl,rfl,rfl,rfl,rfl,id⟩,λl z f K=>⟨z,D l z f K,rfl⟩⟩;have n:=Gs.step (T:=r++a) h (v:=(1,(jj:Int))) (by simp) i u (by rw[c];simp) (by rw[c]) m;obtain⟨s2,o,a2,a3⟩:=q a _ n;exact⟨s2,o,a2,u.trans a3⟩
theorem Xg: ∀(c:List Int)(s:St),Gs e s j pj y c-> ∃d,JH c s=Z d/\Gs e d j pj y []/\Kp s d:=by
 intro c;induction c with
 |nil=>intro s h;exact⟨s,rfl,h,Kp.refl s⟩
 |cons p r B=>
  intro s h;obtain⟨k,rfl,-⟩:=h.tt p (by simp);obtain⟨f,C,t,D,g⟩:=h.off;have E:=(Af.1 C).1;have u:=h.DC.Il;have i:k<256:=by have:=h.DC.base.W9;simp[core]at this;omega
  unfold JH;rw[Ai (by omega),D];dsimp only;rw[KI t i,Am];rw[Nj (s:={s with stat:=s.stat.set k (0,-1),CD:=(k:Int)::s.CD}) f];have w:s.rings[k]?=Z s.rings[k]:=Ae f;dsimp only;generalize s.rings[k]=R at w;obtain⟨rest,f1,f2⟩:=IW (λr=>Ring.C7 r.CI r.row) s.rings k R w;have f3:=f2 ⟨0,[]⟩;unfold St.put;have b: ∀x,x∈Ring.C7 R.CI R.row->1<=x:=λx l=>h.DC.Pn x (Bb _ (f1.mem_iff.2 (Bt _ l)));rw[right_id b];dsimp only;have F:(Df {s with all:=s.all++Ring.C7 R.CI R.row,rings:=s.rings.set k ⟨0,[]⟩}).Perm (Df s):=by
   rw[BG];intro a;have O:=f1.count_eq a;have c3:=f3.count_eq a;simp only[Df,Ring.C7,BT]at*
   simp at c3;omega
  have G:Bs e {s with stat:=s.stat.set k (0,-1),CD:=(k:Int)::s.CD,all:=s.all++Ring.C7 R.CI R.row,rings:=s.rings.set k ⟨0,[]⟩}:=by
   refine⟨?_,h.DC.DL,h.DC.th,h.DC.box⟩
   have m:Dp {core s with stat:=s.stat.set k (0,-1),ip:=(k:Int)::s.CD}:=
    {g.base with
     Oi:=BH.2 ⟨t,g.base.Oi⟩,
     Kb:=λq n=>by
      rcases Be.1 n with rfl|n
      ·exact⟨k,rfl,f,Aj E⟩
      ·exact g.base.Kb q n}
   have o:=m.perm F ((s.rings.set k ⟨0,[]⟩).map (·.CI)) (by simp[core]) (by intro a u;obtain⟨z,H,rfl⟩:=BL.1 u;exact h.DC.J4 (by simp) z H);refine cast ?_ o;simp[core,Df]
  have A:Kp s {s with stat:=s.stat.set k (0,-1),CD:=(k:Int)::s.CD,all:=s.all++Ring.C7 R.CI R.row,rings:=s.rings.set k ⟨0,[]⟩}:=⟨rfl,rfl,by simp,rfl,λk x l=>⟨x,l,rfl,rfl,rfl,rfl,rfl,rfl,id⟩,λ_ y hy _=>⟨y,hy,rfl⟩⟩;have K:=h.step (v:=(0,-1)) (by simp) G A rfl rfl (λk z L=>.inl L);obtain⟨s2,M,a2,a3⟩:=B _ K;exact⟨s2,M,a2,A.trans a3⟩
theorem Ok{s:St}(h:Inv e s){i:Nat}{y:M1}(hy:s.ms[j]?=Z y)(G:y.phase=2)(hg:y.g=(i:Int)+1)(hh:s.sc.CF=y.g): ∃E,G6 s j=Z E/\Inv e E/\(∃y':M1,E.ms[j]?=Z y'/\mc y'=mc y)/\E.sc={s.sc with CF:=0,Cz:=tY}:=by
 have H:s.sc.Cz=true:=by
  cases K:s.sc.Cz with
  |true=>rfl
  |false=>have:s.sc.CF=0:=(h.link.go K).1;omega
 obtain⟨l1,l2,l3,l4,k,z,q,b1,b2,b3,b4,b5,b6⟩:=h.link.stop H;obtain⟨y0,u,rfl⟩:=DJ b1;have hd:(core s).Hc=s.sc.CF:=rfl;have L:k=j:=by
  rcases b3 with⟨-,F⟩|⟨h1,F⟩
  ·rw[hd]at F;omega
  ·exact h.base.mu k j _ _ b1 (CG hy) (by simp only[mc]at*;omega) (by simp only[mc]at*;omega)
 subst L;rw[hy]at u;cases u;have c:=h.base.mp k _ (CG hy);simp only[Oh,mc]at c;obtain⟨i',x,aa,M,-⟩:=c.2.2.2.2.2.1 (by clear c;omega);have ab:i<s.gs.length:=by have:=(Af.1 M).1;simp[core]at this;clear c;omega
 obtain⟨f,A,O,-⟩:=c.2.2.2.2.1 (by clear c;omega) (by clear c;omega);have:f=q:=by simp only[mc]at b4;clear c;omega
 subst this;clear c;have P:f<s.rings.length:=O;have B: ∀(l:Nat)(v:M1),s.ms[l]?=Z v->v.phase≠3/\v.phase≠4:=λl v n=>by refine⟨λh3=>?_,l4 l (mc v) (CG n)⟩;have c:=h.base.mp l _ (CG n);simp only[Oh,mc]at c;obtain⟨i2,x2,c1,-,-,-,c2⟩:=c.2.2.2.2.2.1 (by clear c;omega);have c3:=(c2 (.inl h3)).2;have:l=k:=h.base.mu l k _ _ (CG n) (CG hy) (by simp only[mc]at*;clear c;omega) (by simp only[mc]at*;clear c;omega);subst this;rw[hy]at n;cases n;clear c;omega
 obtain⟨w1,w2,w3⟩:=Xf y.p ((UF s.rings).map λl=>(l.length:Int)) 0 (GS (s.CS {s.sc with CF:=0,Cz:=tY}));have hlen:((UF s.rings).map λl=>(l.length:Int)).length=s.rings.length:=by simp[UF]
 have hG:Gs e (s.CS {s.sc with CF:=0,Cz:=tY}) k f (mc y) ((Ie ((UF s.rings).map λl=>(l.length:Int)) y.p (GS (s.CS {s.sc with CF:=0,Cz:=tY}))).1++(Ie ((UF s.rings).map λl=>(l.length:Int)) y.p (GS (s.CS {s.sc with CF:=0,Cz:=tY}))).2):=by
  refine⟨⟨{h.base with},h.DL,h.th,h.box⟩,rfl,rfl,B,λb K=>h.link.Eo l4 b K,P,⟨y,hy,rfl⟩,⟨A,G⟩,b5,w2,λx C=>?_,λx w C hw=>?_⟩
  ·obtain⟨l,rfl,h1,F,h3⟩:=w1 x C
   rw[hlen]at F;have r:l<s.rings.length:=by omega
   refine⟨l,rfl,r,by omega,?_⟩;obtain⟨a,w,d,-,-⟩:=Jp h.toBs r;have ad:(core s).wt=0:=l3.2 (by rw[hd,hh];omega);have ae:(core s).wt=runN s.stat:=l3.1;rcases l2 l a w r d with rfl|rfl
   ·have:=Po d;omega
   ·rcases b6 l w d with rfl|rfl
    ·exact d
    ·rcases h.base.sp l 3 _ r d with⟨h5,-⟩|⟨-,-,k2,v,h5,h6,h7,-⟩
     ·omega
     ·have:k2=k:=by omega
      subst this;rw[CG hy]at h6;cases h6;simp only[mc]at h7;omega
  ·by_cases g:x=f
   ·exact .inr g
   ·exact .inl (w3 x (by omega) (by rw[hlen];have:x<s.rings.length:=C;omega) (by omega))
 obtain⟨s2,g1,g2,g3⟩:=gG _ _ _ hG;obtain⟨m,g4,g5,g6⟩:=Xg _ _ g2;have g7:=g3.trans g6;obtain⟨y3,D,Q⟩:=g5.my;have ep:y3.p=f:=(Aq MC.p Q).trans A;have R:dR m y3.p={m with stat:=m.stat.set f (1,(k:Int))}:=by unfold dR;rw[ep,Tv g5.pY,Ah (by omega)]
 have S:f<m.stat.length:=(Af.1 g5.pY).1;have hI:Inv e {m with stat:=m.stat.set f (1,(k:Int))}:=by
  refine⟨⟨g5.DC.base.Rb (p:=f) (w:=(k:Int)) (b:=1) g5.pY (.inr ⟨by omega,rfl⟩),g5.DC.DL,g5.DC.th,g5.DC.box⟩,⟨λ_=>⟨g5.Hc,λx a w C t=>?_,λl v n=>?_⟩,λ_=>g5.bars,λl v n d=>?_,λd=>tf (d:m.sc.Cz=tZ) g5.st⟩⟩
  ·rintro rfl
   by_cases g:f=x
   ·subst g
    rw[show(core {m with stat:=m.stat.set f (1,(k:Int))}).stat[f]?=Z (1,(k:Int))from Aj S]at t;cases t
   ·rcases g5.al x w C (by simpa[core,Ay,g]using t)with d|d
    ·cases d
    ·exact g d.symm
  ·obtain⟨v,T,rfl⟩:=DJ n
   exact(g5.gE l v T).1
  ·obtain⟨v,T,rfl⟩:=DJ n
   exact absurd d (g5.gE l v T).2
 have hsc:m.sc={s.sc with CF:=0,Cz:=tY}:=g7.sc;obtain⟨s4,r1,r2,r3⟩:=J5 (i:=i) hI (λ_=>⟨g5.st,g5.gE⟩);obtain⟨s5,v1,v2,v3⟩:=Nf r2;refine⟨s5,?_,v2,?_,by rw[v3.sc,r3.sc];exact hsc⟩
 ·unfold G6
  rw[hy];dsimp only;rw[Ai (by omega)];refine Eq.trans (Aq (λo=>Option.bind o _) g1) ?_;show Option.bind (JH _ s2) _=_;refine Eq.trans (Aq (λo=>Option.bind o _) g4) ?_;dsimp only[Option.bind_some];rw[D];dsimp only;rw[R,hh,hg,show((i:Int)+1-1).toNat=i by omega,r1];exact v1
 ·have V:y3.phase≠0:=by have:y3.phase=y.phase:=Aq MC.phase Q;omega
  obtain⟨y4,W,e4⟩:=r3.ms k y3 D V;obtain⟨y5,X,e5⟩:=v3.ms k y4 W (by have:y4.phase=y3.phase:=Aq MC.phase e4;omega);exact⟨y5,X,e5.trans (e4.trans Q)⟩
end
end
open Cx (Pr pz)
open Vm (CP)
section
variable {s:St}
variable {e i j:Nat}
theorem Bs.oF(h:Bs e s){x:G}(a:s.gs[i]?=Z x):i<64:=by have:=(Af.1 a).1;have b:=h.base.g2;simp only[core,A9]at b;omega
theorem Inv.ex(h:Inv 1000 s)(e:Nat):Inv e s:=⟨⟨h.base,h.DL,λi x a=>⟨(h.th i x a).1,λb=>.inl (((h.th i x a).2 b).resolve_right (by have:=h.oF a;omega))⟩,h.box⟩,h.link⟩
theorem Inv.qZ(h:Inv i s){x:G}(b:s.gs[i]?=Z x)(hw:x.word=6):Inv 1000 s:=⟨⟨h.base,h.DL,λk z a=>⟨(h.th k z a).1,λc=>.inl (by
 rcases(h.th k z a).2 c with d|rfl
 ·exact d
 ·rw[b]at a;cases a;exact hw)⟩,h.box⟩,h.link⟩
theorem Inv.sc(h:Inv e s)(c:Sc)(b:c.Cz=s.sc.Cz)(d:c.CF=s.sc.CF)(f:c.wait=s.sc.wait)(g:c.G2=s.sc.G2)(i:c.Gq=s.sc.Gq):Inv e (s.CS c):=by
 have a:core (s.CS c)=core s:=by simp[core,St.CS,Df,b,d,f,g,i]
 exact⟨⟨by rw[a];exact h.base,h.DL,h.th,h.box⟩,by rw[a];exact h.link⟩
theorem Inv.run(h:Inv 1000 s){y:M1}(hy:s.ms[j]?=Z y)(d:y.phase=2\/y.phase=3\/y.phase=4)(l:y.g=(i:Int)+1): ∃x:G,s.gs[i]?=Z x/\x.word=2/\x.done=tY/\x.blocked=tY/\x.CA=tY/\(i:Int)+1∉s.waits/\(i:Int)+1∉Df s:=by
 have a:=h.base.mp j _ (CG hy);simp only[Oh,mc]at a;obtain⟨k,z,m,e,c,-⟩:=a.2.2.2.2.2.1 (by clear a;omega);have c:=c (by clear a;omega);clear a;have:k=i:=by omega
 subst this;obtain⟨x,b,rfl⟩:=Ik e;simp only[gc]at c;obtain⟨f1,f2,f3⟩:=h.flags b (by omega);refine⟨x,b,c,?_,f1,f2,f3,h.base.J3 (CV b) (by simp only[gc];omega)⟩;cases f:x.done with
 |false=>rfl
 |true=>have:=h.oF b;rcases(h.th k x b).2 f with g|g<;>omega
theorem Inv.Xh(h:Inv e s){k:Nat}{y z:M1}(hy:s.ms[j]?=Z y)(a:s.ms[k]?=Z z)(c:y.g=(i:Int)+1)(b:z.g=(i:Int)+1):k=j/\z=y:=by have:k=j:=h.base.mu k j _ _ (CG a) (CG hy) (by simp only[mc];omega) (by simp only[mc];omega);subst this;rw[hy]at a;cases a;exact⟨rfl,rfl⟩
theorem D2(h:Inv 1000 s){y:M1}(hy:s.ms[j]?=Z y)(K:y.phase=2)(hg:y.g=(i:Int)+1)(L:Int): ∃(x:G)(ins:CP)(M:St),s.gs[i]?=Z x/\Fh s x=Z ins/\x.word=2/\Dc s j L=Z M/\Inv 1000 M/\(ins.op≠14->ins.op≠8->ins.op≠9->core M={core s with gs:=(core s).gs.set i {gc x with begun:=tY}}/\M.sc.CF=s.sc.CF/\M.funcs=s.funcs)/\
   (s.sc.Cz=tY->M.sc.Cz=tY/\ ∀(k:Nat)(z':M1),M.ms[k]?=Z z'->z'.phase=3\/z'.phase=4-> ∃z:M1,s.ms[k]?=Z z/\mc z=mc z'):=by
 obtain⟨x,O,hw,hd,f1,f2,f3,f4⟩:=h.run hy (.inl K) hg;have hi:i<s.gs.length:=(Af.1 O).1;obtain⟨ins,t,i1,i2,i3,i4,r,hr,t1,t2,t3,t4,t5,t6⟩:=Tt h.DL rfl (h.th i x O).1 hd L;refine⟨x,ins,?_⟩;have S: ∃c,Kv s 2 i r.2=Z (s.CS c)/\c.Cz=s.sc.Cz/\c.CF=s.sc.CF/\c.wait=s.sc.wait/\c.G2=s.sc.G2/\c.Gq=s.sc.Gq:=by unfold Kv;rw[O];exact⟨_,rfl,rfl,rfl,rfl,rfl,rfl⟩
 obtain⟨c,ab,c1,c2,c3,c4,c5⟩:=S;have ad:=(h.ex i).sc c c1 c2 c3 c4 c5;have ae:Inv i ((s.CS c).CJ i {r.1 with begun:=tY}):=by
  refine Fe ad (i:=i) (x:=x) O _ ?_ ?_ (λhm=>absurd hm f4) (λhm=>absurd hm f3) (λk z m P=>?_) ⟨t1.congr t1.wd rfl rfl rfl rfl,λ_=>.inr rfl⟩
  ·dsimp only;rw[t2,hw];unfold D9.Dt;omega
  ·dsimp only;rw[t2,t3,t4,f1,f2];simp
  ·obtain⟨-,rfl⟩:=h.Xh hy m hg P
   dsimp only;omega
 have v:core ((s.CS c).CJ i {r.1 with begun:=tY})={core s with gs:=(core s).gs.set i {gc x with begun:=tY}}:=by rw[Ez];simp[core,St.CS,Df,gc,t2,t3,t4,c1,c2,c3,c4,c5]
 obtain⟨T,aj⟩:=ae.Ng (j:=j) (y:=y) hy {y with used:=wrap64 (y.used+1)} rfl;have w:core (((s.CS c).CJ i {r.1 with begun:=tY}).CQ j {y with used:=wrap64 (y.used+1)})=core ((s.CS c).CJ i {r.1 with begun:=tY}):=by
  have e:(s.ms.map mc).set j (mc y)=s.ms.map mc:=by apply List.ext_getElem?;grind
  rw[DT,show mc {y with used:=wrap64 (y.used+1)}=mc y from rfl];simp[core,St.CS,St.CJ,e]
 generalize g:(((s.CS c).CJ i {r.1 with begun:=tY}).CQ j {y with used:=wrap64 (y.used+1)})=d at*
 have A:d.ms[j]?=Z {y with used:=wrap64 (y.used+1)}:=by rw[<-g];exact Aj (Af.1 hy).1
 have f:d.sc=c:=by rw[<-g];rfl
 have af:d.rings=s.rings:=by rw[<-g];rfl
 have h4: ∃a b,(if wrap64 (y.used+1)=20 then GR d j else Z d)=Z {d with asked:=a,box:=b}/\a.map (·.Eo)=d.asked.map (·.Eo)/\b.length=d.box.length:=by
  split
  ·refine IZ T.toBs A (.inr ?_)
   have hM:=h.base.mp j _ (CG hy);simp only[Oh,mc]at hM;obtain⟨p,a1,a2,-⟩:=hM.2.2.2.2.1 (by omega) (by omega);exact⟨p,a1,by rw[af];exact a2⟩
  ·exact⟨d.asked,d.box,rfl,rfl,rfl⟩
 obtain⟨a,b,h4,h5,h6⟩:=h4;obtain⟨l,ak⟩:=EA T h5 h6;have B:core {d with asked:=a,box:=b}={core s with gs:=(core s).gs.set i {gc x with begun:=tY}}:=by rw[<-v,<-w];simp[core,Df,h5]
 have C:Dc s j L=(if r.1.done then(if c.CF=y.g then G6 {d with asked:=a,box:=b} j else Z {d with asked:=a,box:=b}).bind (λu=>(Gw u j).map λq=>q.2.mv q.1 6)else Z {d with asked:=a,box:=b}):=by unfold Dc;rw[hy];dsimp only;rw[Ai (by omega),show(y.g-1).toNat=i by omega,O];dsimp only;rw[t];dsimp only[Option.bind_some];rw[hr];dsimp only[Option.bind_some];rw[ab];dsimp only[Option.bind_some];rw[g,h4];dsimp only[Option.bind_some];rw[f]
 cases D:r.1.done with
 |false=>
  rw[D]at C;refine⟨{d with asked:=a,box:=b},O,t,hw,C,⟨⟨l.base,l.DL,λk z m=>⟨(l.th k z m).1,λV=>?_⟩,l.box⟩,l.link⟩,λ_ _ _=>⟨B,by dsimp only;rw[f,c2],by rw[<-g];rfl⟩,λn=>⟨by dsimp only;rw[f,c1];exact n,λk z m _=>?_⟩⟩
  ·rcases(l.th k z m).2 V with h7|rfl
   ·exact .inl h7
   ·have:d.gs[k]?=Z {r.1 with begun:=tY}:=by rw[<-g];exact Aj hi
    rw[this]at m;cases m;exact tf V D
  ·have E:d.ms[k]?=Z z:=m
   by_cases o:j=k
   ·subst o
    rw[A]at E;cases E;exact⟨y,hy,rfl⟩
   ·rw[<-g]at E
    exact⟨z,by simpa[St.CQ,St.CJ,St.CS,Ao o]using E,rfl⟩
 |true=>
  rw[D,Ai rfl]at C;have ag: ¬(ins.op≠14/\ins.op≠8/\ins.op≠9):=by have:=t6 D;omega
  have W:({d with asked:=a,box:=b}:St).ms[j]?=Z {y with used:=wrap64 (y.used+1)}:=A;have key: ∃(u:St)(Q:M1),(if c.CF=y.g then G6 {d with asked:=a,box:=b} j else Z {d with asked:=a,box:=b})=Z u/\Inv i u/\u.ms[j]?=Z Q/\mc Q=mc y/\u.sc.CF≠y.g/\(s.sc.Cz=tY->u={d with asked:=a,box:=b}):=by
   split
   ·rename_i hh
    obtain⟨u,a1,a2,⟨Q,a3,a4⟩,a5⟩:=Ok l W K hg (by dsimp only;rw[f];exact hh);refine⟨u,Q,a1,a2,a3,a4,by rw[a5];dsimp only;omega,λn=>?_⟩;have:s.sc.CF=0:=(h.link.go n).1;rw[c2]at hh;omega
   ·rename_i hh
    exact⟨_,_,rfl,l,W,rfl,by dsimp only;rw[f];exact hh,λ_=>rfl⟩
  obtain⟨u,Q,k1,k2,k3,k4,k5,k6⟩:=key;have kp:Q.phase=2:=(Aq MC.phase k4).trans K;have kg:Q.g=y.g:=Aq MC.g k4;obtain⟨F,H,X,m1,m2,m3,m4,m5,m6,m7,m8⟩:=KH k2 k3 (.inl ⟨kp,λ_=>by rw[kg];exact k5⟩);have:F=i:=by omega
  subst this;have aa:X.mv F 6=X.CJ F {H with word:=Ia H.word 6}:=by simp[St.mv,m3.at_]
  have R:Ia H.word 6=6:=by rw[m7 kp];decide+kernel
  have ah:Inv F (X.CJ F {H with word:=Ia H.word 6}):=by
   refine Fe m2 m3.at_ _ ?_ ?_ (λhm=>absurd hm m3.qs) (λhm=>absurd hm m3.ws) (λk z m P=>absurd P (m3.ms k z m)) ⟨(m2.th F H m3.at_).1.congr ?_ rfl rfl rfl rfl,λ_=>.inr rfl⟩
   ·dsimp only;rw[R];unfold D9.Dt;omega
   ·dsimp only;rw[m3.fl.1,m3.fl.2];simp
   ·dsimp only;rw[R];unfold D9.Dt;omega
  have ai:F<X.gs.length:=(Af.1 m3.at_).1;refine⟨X.mv F 6,O,t,hw,?_,?_,λh1 h2 h3=>absurd ⟨h1,h2,h3⟩ ag,λn=>?_⟩
  ·rw[C,k1]
   dsimp only[Option.bind_some];rw[m1];rfl
  ·rw[aa]
   exact ah.qZ (x:={H with word:=Ia H.word 6}) (by simp only[St.CJ];exact Aj ai) R
  ·have e5:=k6 n
   rw[aa,m6,e5];refine⟨by simp only[St.CJ,St.CQ];rw[f,c1];exact n,λk z m hz=>?_⟩;simp only[St.CJ,St.CQ]at m;by_cases o:j=k
   ·subst o
    rw[Aj (Af.1 A).1]at m;cases m;simp at hz
   ·rw[Ao o,<-g]at m
    exact⟨z,by simpa[St.CQ,St.CJ,St.CS,Ao o]using m,rfl⟩
end
end C2
end Go.Proofs.YtgadhchejmlfjaaGreatDoor
