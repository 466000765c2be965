/- A part of the proof. -/
import Derived.Test.YtgadhchejmlfjaaGreatDoorA6
set_option linter.unusedVariables false
set_option maxRecDepth 20000
set_option maxHeartbeats 16000000
open Go.Value renaming int->I,pointer->J,slice->Y
open Go.IntKind renaming i64->U
open Option renaming none->N,some->Z
open Bool renaming false->tY,true->tZ
open Go renaming Calls->tT,Value->tR,World->rO
open Go.Ending renaming returned->ui
open Go.Obj renaming cells->uj
open Go.RowKit renaming Below->tS
open Go.RowKit.Below renaming refl->tU
open Go.Value renaming bool->ue
open Go.Proofs.Tryz Go.RowKit Go.CN
namespace Go.Proofs.YtgadhchejmlfjaaGreatDoor
namespace C2
open Cx (Pr pz)
open Vm (CP)
variable {mb:Nat}{V:Vr}{own:Nat->Nat}{w:rO}{s:St}
section
variable {s s':St}{i j b k:Nat}
theorem GV{x:G}(a:s.gs[i]?=Z x)(t:Int):s.mv i t=s.CJ i {x with word:=Ia x.word t}:=by unfold St.mv;rw[a]
theorem Fc{x:G}(a:i<s.gs.length):(s.CJ i x).gs[i]?=Z x:=by show(s.gs.set i x)[i]?=Z x;rw[Ay];simp[a]
theorem Jl{y:M1}(a:j<s.ms.length):(s.CQ j y).ms[j]?=Z y:=by show(s.ms.set j y)[j]?=Z y;rw[Ay];simp[a]
theorem Jw(h:CE mb V own w s){x:G}{u:Int}(a:own b=20+5*i)(c:s.gs[i]?=Z x)(hu:(i:Int)+1=u):w.cell? ⟨b,0,N⟩=Z (I U u):=by obtain⟨_,_,e,d,_⟩:=h.Hr a c;rw[<-hu];exact mR d
theorem Ext.keep{C8:Nat->Nat}{w':rO}(h:Ext own w C8 w'){t:Nat}(c:own b=t)(a:b<w.heap.size):C8 b=t:=(h.same b a).trans c
theorem CE.ZW(h:CE mb V own w s)(a:k<s.rings.length):(Eb s k).row.length<=256/\0<=(Eb s k).CI:=by obtain⟨d,R,b⟩:=h.rings (by decide);have hw:=(b.Ff.ring k a).SM;have c:=b.is k a;unfold Eb;rw[<-c.2,<-c.1];exact⟨hw.1,hw.2.2.2.1⟩
theorem CE.gu(h:CE mb V own w s)(a:k<s.rings.length)(u:Int)(f:Bool):(Ring.MN 256 (Eb s k).CI (Eb s k).row u f).length<=300:=by
 have:=(h.ZW a).1;unfold Ring.MN Ring.Gd;split
 ·simp
 ·split
  ·split
   ·simp
   ·split<;>simp<;>omega
  ·split<;>simp<;>omega
theorem CE.Jm(h:CE mb V own w s){f:Bool}(L:own b=20+5*i)(a:Ec s (-1) i f=Z s'):tT prog 192 #[ptr mb,J N,ptr b,ue f] w (Ge mb V own w unit s'):=by
 unfold Ec at a;replace a:=CT a;obtain⟨⟨g,S⟩,a⟩:=a;rw[Ai rfl]at a;obtain⟨x,M⟩: ∃x,s.gs[i]?=Z x:=⟨_,Ae g⟩;rw[GV M]at a;have O:=Aa (h.is L M 1 (by decide) (by decide));have j:=Fc (x:={x with word:=Ia x.word 1}) g;obtain⟨s1,k⟩: ∃s1,s1=s.CJ i {x with word:=Ia x.word 1}:=⟨_,rfl⟩;have l:s1.all.length<1000000:=by rw[k];show s.all.length<_;omega
 rw[<-k]at O a j;have t:=Aa (Ab l j);have T:=Aa L;have W:=Aa h.fresh;go_enter func192,ntmps192;go_wp2_with(go_at_call 116;refine O.out.mono ?_;rintro e w1⟨rfl,P,v,y⟩;have c:=Aa v;have m:=Aa y);have o:=m.out.lt T.out (by omega) W.out;obtain⟨_,_,sv,p,_⟩:=c.out.Hr o t.out.2;have X:=mR p;have c9:=c.out.c9;have z:=p.lt;generalize hu:(i:Int)+1=u at*
 have HP:=Aa (c.out.drew.Zj u t.out.1);have A:=Aa m.out.drew;go_region_held3(λQ=>Q.cell? ⟨mb,9,N⟩=Z (ptr V.all)/\Q.cell? ⟨b,0,N⟩=Z (I U u)) (go_keep) (first|(go_at_call 243;refine HP.out.mono ?_;rintro e w2⟨⟨n,rfl⟩,R,d,q⟩;have k9:=d.c9;have X:w2.cell? ⟨b,0,N⟩=Z (I U u):=Jw d (q.keep o z) t.out.2 hu;have B:=Aa d;have C:=Aa (A.out.trans q)))
 all_goals
  go_wp2_with(first|(go_at_call 247;refine(B.out.Zy a).mono ?_;rintro e w3⟨rfl,V3,r,D,E,F⟩;have G:=Aa D;have H:=Aa (C.out.trans E);have K:=Aa F));go_end0;exact⟨rfl,V3,r,G.out,H.out,K.out⟩
theorem CE.Pj(h:CE mb V own w s){xb:Nat}{y:M1}{f:Bool}(hx:own xb=22+5*j)(hj:s.ms[j]?=Z y)(hb:own b=20+5*i)(a:Ec s y.p i f=Z s'):tT prog 192 #[ptr mb,ptr xb,ptr b,ue f] w (Ge mb V own w unit s'):=by
 have hF:=h.fresh;by_cases hp:y.p= -1
 ·rw[hp]at a
  unfold Ec at a;replace a:=CT a;obtain⟨⟨p,S⟩,a⟩:=a;rw[Ai rfl]at a;obtain⟨x,T⟩: ∃x,s.gs[i]?=Z x:=⟨_,Ae p⟩;rw[GV T]at a;have HI:=Aa (h.is hb T 1 (by decide) (by decide));have C:=Fc (x:={x with word:=Ia x.word 1}) p;have D:(s.CJ i {x with word:=Ia x.word 1}).ms[j]?=Z y:=hj;obtain⟨s1,W⟩: ∃s1,s1=s.CJ i {x with word:=Ia x.word 1}:=⟨_,rfl⟩;have X:s1.all.length<1000000:=by rw[W];show s.all.length<_;omega
  rw[<-W]at HI a C D;have m:=Aa (Ab X (Ab C D));have HB:=Aa (Ab hb hx);have HF:=Aa hF;have HP:=Aa hp;go_enter func192,ntmps192;go_wp2_with(go_at_call 116;refine HI.out.mono ?_;rintro e w1⟨rfl,aa,q,r⟩;have E:=(r.lt HB.out.2 (by omega) HF.out);have xc:=LH (q.C3 E m.out.2.2);rw[HP.out]at xc;have c:=Aa q;have t:=Aa r);have z:=t.out.lt HB.out.1 (by omega) HF.out;obtain⟨_,_,sv,A,_⟩:=c.out.Hr z m.out.2.1;have k0:=mR A;have c9:=c.out.c9;have G:=A.lt;generalize hu:(i:Int)+1=u at*
  have ag:=Aa (c.out.drew.Zj u m.out.1);have H:=Aa t.out.drew;go_region_held3(λK=>K.cell? ⟨mb,9,N⟩=Z (ptr V.all)/\K.cell? ⟨b,0,N⟩=Z (I U u)) (go_keep) (first|(go_at_call 243;refine ag.out.mono ?_;rintro e w2⟨⟨n,rfl⟩,ab,g,d⟩;have k9:=g.c9;have k0:w2.cell? ⟨b,0,N⟩=Z (I U u):=Jw g (d.keep z G) m.out.2.1 hu;have L:=Aa g;have M:=Aa (H.out.trans d)))
  all_goals
   go_wp2_with(first|(go_at_call 247;refine(L.out.Zy a).mono ?_;rintro e w3⟨rfl,V3,F,o,B,ah⟩;have O:=Aa o;have P:=Aa (M.out.trans B);have ai:=Aa ah));go_end0;exact⟨rfl,V3,F,O.out,P.out,ai.out⟩
 ·unfold Ec at a
  replace a:=CT a;obtain⟨⟨p,S⟩,a⟩:=a;rw[Ah hp]at a;replace a:=CT a;obtain⟨⟨a8,ba⟩,a⟩:=a;obtain⟨k,hk⟩: ∃k:Nat,y.p=k:=⟨y.p.toNat,by omega⟩;rw[hk,Am]at a;have aj:k<s.rings.length:=by omega
  obtain⟨x,T⟩: ∃x,s.gs[i]?=Z x:=⟨_,Ae p⟩;rw[GV T]at a;have HI:=Aa (h.is hb T 1 (by decide) (by decide));have C:=Fc (x:={x with word:=Ia x.word 1}) p;have D:(s.CJ i {x with word:=Ia x.word 1}).ms[j]?=Z y:=hj;have hd:((k:Int)== -1)=false:=by rw[Az];omega
  have m:=Aa (Ab S (Ab C (Ab D aj)));have HB:=Aa (Ab hb hx);have HF:=Aa hF;have HK:=Aa hk;go_enter func192,ntmps192;go_wp2_with(go_at_call 116;refine HI.out.mono ?_;rintro e w1⟨rfl,aa,q,r⟩;have E:=(r.lt HB.out.2 (by omega) HF.out);have xc:=LH (q.C3 E m.out.2.2.1);rw[HK.out]at xc;have c:=Aa q;have t:=Aa r;have Q:=Aa E);have z:=t.out.lt HB.out.1 (by omega) HF.out;obtain⟨_,_,sv,A,_⟩:=c.out.Hr z m.out.2.1;have G:=A.lt;have ak:=(c.out.C3 Q.out m.out.2.2.1).lt;have k0:=mR A;have c9:=c.out.c9;have c0:=c.out.c0;have l:=Aa (Ab z (Ab G ak));generalize hu:(i:Int)+1=u at*
  have ao:=Aa (c.out.drew.ring k m.out.2.2.2);have aq:=Aa (λrb R=>c.out.drew.nH (rb:=rb) m.out.2.2.2 R u f);have ad:=Aa (c.out.gu (k:=k) m.out.2.2.2 u f);have HU:=Aa hu;have H:=Aa t.out.drew;go_region_held3(λK=>K.cell? ⟨mb,9,N⟩=Z (ptr V.all)/\K.cell? ⟨mb,0,N⟩=Z (ptr V.procs)/\K.cell? ⟨xb,1,N⟩=Z (I U k)/\K.cell? ⟨b,0,N⟩=Z (I U u)) (go_keep) (first|(go_at_call 50;refine ao.out.mono ?_;rintro e w2⟨⟨rb,rfl,R⟩,rfl⟩;have ar:=Aa R)|(go_at_call 51;refine(aq.out _ ar.out).mono ?_;rintro e w2⟨v,rfl,hv,ab,g,d,au⟩;have k9:=g.c9;have Sk:=g.c0;have k0:w2.cell? ⟨b,0,N⟩=Z (I U u):=Jw g (d.keep l.out.1 l.out.2.1) m.out.2.1 HU.out;have k1:w2.cell? ⟨xb,1,N⟩=Z (I U k):=(by have:=LH (g.C3 (d.keep Q.out l.out.2.2) m.out.2.2.1);rwa [HK.out]at this);have L:=Aa g;have M:=Aa (H.out.trans d);have HV:=Aa (Ab hv au);have av:=Aa (d.keep Q.out l.out.2.2);have aw:=Aa (d.keep l.out.1 l.out.2.1);have ae:=Aa (Ab (An l.out.2.1 d.only.size) (An l.out.2.2 d.only.size)))|(go_at_call 243;refine(L.out.Wj _ _ (DG.Er HV.out.1) (λ_ j hj e=>by rw[HV.out.2 j hj]at e;cases e) (by have:=m.out.1;have:=ad.out;show s.all.length+_<_;omega)).mono ?_;rintro e w3⟨rfl,F,o,B⟩;have k9:=o.c9;have Sk:=o.c0;have k0:w3.cell? ⟨b,0,N⟩=Z (I U u):=Jw o (B.keep aw.out ae.out.1) m.out.2.1 HU.out;have k1:w3.cell? ⟨xb,1,N⟩=Z (I U k):=(by have:=LH (o.C3 (B.keep av.out ae.out.2) m.out.2.2.1);rwa [HK.out]at this);have O:=Aa o;have P:=Aa (M.out.trans B)))
  all_goals
   go_wp2_with(first|(go_at_call 247;refine(O.out.Zy a).mono ?_;rintro e w4⟨rfl,V4,af,ax,ay,az⟩;have a1:=Aa ax;have a6:=Aa (P.out.trans ay);have a7:=Aa az));go_end0;exact⟨rfl,V4,af,a1.out,a6.out,a7.out⟩
end
section
variable {xb j i b:Nat}{s':St}
theorem bind_some{α β:Type}{o:Option α}{f:α->Option β}{x:β}(h:o.bind f=Z x): ∃a,o=Z a/\f a=Z x:=by
 cases o with
 |none=>cases h
 |some a=>exact⟨a,rfl,h⟩
theorem CE.QX(h:CE mb V own w s){r:Nat×St}(d:own xb=22+5*j)(a:Gw s j=Z r): ∃b,own b=20+5*r.1/\tT prog 183 #[ptr xb] w (Dd mb V own w (ptr b) r.2):=by
 unfold Gw at a;cases c:s.ms[j]? with
 |none=>rw[c]at a;cases a
 |some y=>rw[c]at a;replace a:=CT a;obtain⟨e,a⟩:=a;simp only[Ak]at a;subst a;obtain⟨f,g⟩:=h.gp e (h.xg c).2;refine⟨_,g,?_⟩;rw[<-f];exact h.off d c
theorem CE.back(h:CE mb V own w s)(t:own xb=22+5*j)(a:Gx s j=Z s'):tT prog 185 #[ptr mb,ptr xb] w (Ge mb V own w unit s'):=by unfold Gx at a;replace a:=bind_some a;obtain⟨r,u,a⟩:=a;obtain⟨b,v,x⟩:=h.QX t u;have y:=Aa x;have z:=Aa v;have A:=Aa h.fresh;go_enter func185,ntmps185;go_wp2_with(first|(go_at_call 183;refine y.out.mono ?_;rintro e C⟨rfl,q,f,g⟩;have i:=Aa f;have c:=Aa g)|(go_at_call 192;refine(i.out.Jm (c.out.lt z.out (by omega) A.out) a).mono ?_;rintro e D⟨rfl,B,d,k,l,m⟩;have n:=Aa k;have o:=Aa (c.out.trans l);have p:=Aa m));go_end0;exact⟨rfl,B,d,n.out,o.out,p.out⟩
theorem Tm{p:Int}{f:Bool}(e:Ec s p i f=Z s'):s'.gs.length=s.gs.length:=by
 have k: ∀{a b:St}{p:Int}{j:Nat},JG a p j=Z b->b.gs=a.gs:=λ{a b p j} d=>by
  unfold JG at d;split at d
  ·simp only[Ak]at d;subst d;rfl
  ·cases d
 have l: ∀{a:St}{p:Int}{r:Bool×St},FX a p=Z r->r.2.gs=a.gs:=λ{a p r} d=>by
  unfold FX at d;split at d
  ·split at d
   ·simp only[Ak]at d;subst d;rfl
   ·replace d:=CT d
    obtain⟨_,d⟩:=d;obtain⟨c,g,h⟩:=AD.1 d;subst h;exact(k g).trans rfl
  ·replace d:=CT d
   obtain⟨_,d⟩:=d;obtain⟨c,g,h⟩:=AD.1 d;subst h;exact(k g).trans rfl
 have hw: ∀{a b:St},Hg a=Z b->b.gs=a.gs:=λ{a b} d=>by
  unfold Hg at d;split at d
  ·simp only[Ak]at d;subst d;rfl
  ·split at d
   ·cases d
   ·split at d
    ·simp only[Ak]at d;subst d;rfl
    ·split at d
     ·split at d
      ·next g=>simp only[Ak]at d;subst d;exact l g
      ·next g=>simp only[Ak]at d;subst d;exact l g
      ·cases d
     ·simp only[Ak]at d;subst d;rfl
 have hm: ∀(a:St)(i:Nat)(t:Int),(a.mv i t).gs.length=a.gs.length:=λa i t=>by
  unfold St.mv;split
  ·show(a.gs.set i _).length=_;simp
  ·rfl
 unfold Ec at e;replace e:=CT e;obtain⟨_,e⟩:=e;split at e
 ·rw[hw e];exact hm _ _ _
 ·replace e:=CT e
  obtain⟨_,e⟩:=e;rw[hw e];exact hm _ _ _
theorem CE.ZX(h:CE mb V own w s){x:G}(hb:own b=20+5*i)(hi:s.gs[i]?=Z x)(f:K0 s i=Z s'):tT prog 184 #[ptr mb,ptr b] w (Ge mb V own w unit s'):=by
 unfold K0 at f;obtain⟨a,cap,hv⟩:=h.pV;have c5:=h.c5;rw[hv]at c5;have L:=h.Hb.1;have ad:=CC hi;have y:=(h.Hr hb hi).Dj;have y:b<w.heap.size:=by obtain⟨sv,hB,_⟩:=y;exact hB.lt
 obtain⟨n,A⟩: ∃n,s.gs.length=n:=⟨_,rfl⟩;rw[A]at f c5 hv L ad;have HH:=Aa (Ab h (Ab f A));have HB:=Aa (Ab hb y);have HV:=Aa hv;clear h hb hi f hv A y;go_enter func184,ntmps184;go_wp2;go_loopw [11] (λt wr=> ∃(k:Nat)(B:Vr)(d:Nat->Nat)(s1:St),k<=n/\t=I U k/\CE mb B d wr s1/\Ext own w d wr/\Fx V B/\Gv ((i:Int)+1) (n-k) k s1=Z s'/\s1.gs.length=n) (λt _=>n-(intOf t).toNat)
 case atStart=>exact⟨0,V,own,s,Ap _,rfl,HH.out.1,Ext.refl _ _,Fx.refl _,HH.out.2.1,HH.out.2.2⟩
 case round=>
  obtain⟨k,B,d,s1,hk,rfl,j,F,H,f,A⟩:=hrel;by_cases au:k<n
  ·have g:k<s1.gs.length:=by omega
   obtain⟨v,l⟩: ∃v,s1.gs[k]?=Z v:=⟨_,Ae g⟩;obtain⟨m,hm⟩: ∃m,n-k=m+1:=⟨n-k-1,by omega⟩;rw[hm]at f;unfold Gv at f;rw[l]at f;dsimp only at f;obtain⟨g0,ar,C,cg,ae,_⟩:=j.grow g;rw[H.LB,HV.out]at C;simp only[As]at C;obtain⟨rfl,af,rfl⟩:=C;clear af;have z:=j.og k g;have ag:=j.Hr z l;obtain⟨o,p,sv,c,q⟩:=ag;have M:=kK c;have xw:=nN c;have f18:=c.free 18;obtain⟨xi,D⟩: ∃xi,s1.gs[i]?=Z xi:=⟨_,Ae (by omega)⟩;generalize hu:(i:Int)+1=u at*
   have b0:=Jw j (F.keep HB.out.1 HB.out.2) D hu;have av:(k:Int)<(n:Int):=by omega
   have HR:=Aa j;have HE:=Aa F;have O:=Aa H;have P:=Aa (Ab A (Ab hm l));by_cases e:v.Db=u
   ·rw[Ai e]at f
    have hd:(v.Db !=u)=false:=by simpa using e
    have HS:=Aa f;have HO:=Aa z;have HX:=Aa l;clear f j F H hm l D z c q p o A e g hu;go_wp2;go_quiet(fail)
    have j:=HR.out.drewN nq;have ah:=Aa (HE.out.drewN nq);clear M xw f18 b0 cg ae;generalize wr.drewN nq=W at*
    obtain⟨o,p,ai,c,q⟩:=j.Hr HO.out HX.out;have M:=kK c;have xw:=nN c;have f18:=c.free 18;have g:=CC HX.out;have hO:=oset (DA (B.CR k) W) 18 (I U 0);have Q:=j.Wi g hO {v with Db:=0} ⟨o,p,ai,S5 c 0,q⟩;have R:=Aa Q;have S:=Aa (ah.out.trans (DB hO (by rw[HO.out];omega)));have HL:=Aa (show(s1.CJ k {v with Db:=0}).gs.length=n from by show(s1.gs.set k _).length=n;rw[AX];exact P.out.1);clear j c q p o hO Q g;by_cases K:v.word=5
    ·have aj:(v.word==5)=true:=by simpa using K
     have r:=HS.out;rw[Ai K]at r;replace r:=bind_some r;obtain⟨s2,hq,r⟩:=r;have HQ:=Aa hq;have E:=Aa r;clear K hq r;go_wp2_with(go_at_call 192;refine(R.out.Jm HO.out HQ.out).mono ?_;rintro e w2⟨rfl,V2,T,X,aa,ab⟩;have ak:=Aa X;have ao:=Aa (S.out.trans aa);have aq:=Aa (O.out.trans ab);clear X aa ab);go_roundw
     case rel=>exact⟨k+1,V2,T,s2,by omega,by go_num,ak.out,ao.out,aq.out,by have:=P.out.2.1;rw[show n-(k+1)=m by omega];exact E.out,(Tm HQ.out).trans HL.out⟩
     case measure=>simp[intOf];omega
    ·have aj:(v.word==5)=false:=by simpa using K
     have r:=HS.out;rw[Ah K]at r;have E:=Aa r;clear K r;go_wp2;go_roundw
     case rel=>exact⟨k+1,B,d,_,by omega,by go_num,R.out,S.out,O.out,by have:=P.out.2.1;rw[show n-(k+1)=m by omega];exact E.out,HL.out⟩
     case measure=>simp[intOf];omega
   ·rw[Ah e]at f
    have hd:(v.Db !=u)=true:=by simpa using e
    have HS:=Aa f;clear f j F H hm l D z c q p o A e g hu;go_wp2;go_quiet(fail)
    go_wp2;go_roundw
    case rel=>exact⟨k+1,B,d,s1,by omega,by go_num,HR.out.drewN _,HE.out.drewN _,O.out,by have:=P.out.2.1;rw[show n-(k+1)=m by omega];exact HS.out,P.out.1⟩
    case measure=>simp[intOf];omega
  ·obtain rfl:k=n:=by omega
   rw[Bj]at f;simp only[Gv,Ak]at f;subst f;have HR:=Aa j;have HE:=Aa F;have O:=Aa H;clear j F H A;go_wp2;go_end0;exact⟨rfl,B,d,HR.out,HE.out,O.out⟩
theorem lf{y:M1}{gb:Nat->Nat}(h:Cy w xb (Da gb j y) 125)(id:Int):Cy (((w.setCell ⟨xb,2,N⟩ (Ej gb id)).setCell ⟨xb,3,N⟩ (I U 2)).setCell ⟨xb,5,N⟩ (I U 0)) xb (Da gb j {y with g:=id,phase:=2,used:=0}) 125:=((h.set 2 (Ej gb id)).set 3 (I U 2)).set 5 (I U 0)
theorem CE.KE(h:CE mb V own w s){x:G}(c:own b=20+5*i)(d:s.gs[i]?=Z x):Ej V.CR ((i:Int)+1)=ptr b:=by have a:=h.fH c d;unfold Ej;rw[Ah (by omega),show((i:Int)+1-1).toNat=i by omega,a]
theorem CE.lh(h:CE mb V own w s){x:G}{y:M1}(e:own xb=22+5*j)(d:s.ms[j]?=Z y)(l:own b=20+5*i)(f:s.gs[i]?=Z x):CE mb V own (((w.setCell ⟨xb,2,N⟩ (ptr b)).setCell ⟨xb,3,N⟩ (I U 2)).setCell ⟨xb,5,N⟩ (I U 0)) (s.CQ j {y with g:=(i:Int)+1,phase:=2,used:=0})/\Ext own w own (((w.setCell ⟨xb,2,N⟩ (ptr b)).setCell ⟨xb,3,N⟩ (I U 2)).setCell ⟨xb,5,N⟩ (I U 0)):=by have m:=h.C3 e d;have a:=h.dV e d;have n:=h.KE l f;have o:=CC f;have k:=oset (oset (oset (DA xb w) 2 (ptr b)) 3 (I U 2)) 5 (I U 0);have c:=lf m ((i:Int)+1);rw[n]at c;refine⟨h.NI (i:=j) (CC d) (by rw[<-a];exact k) {y with g:=(i:Int)+1,phase:=2,used:=0} ⟨by show 0<=(i:Int)+1;omega,by show(i:Int)+1<=_;omega⟩ (by rw[<-a];exact c),DB k (by omega)⟩
theorem CE.gx(h:CE mb V own w s)(hx:own xb=22+5*j)(t:own b=20+5*i)(a:Gy s j i=Z s'):tT prog 176 #[ptr mb,ptr xb,ptr b] w (Ge mb V own w unit s'):=by
 unfold Gy at a;cases f:s.gs[i]? with
 |none=>rw[f]at a;cases a
 |some x=>
  cases G:s.ms[j]? with
  |none=>rw[f,G]at a;cases a
  |some y=>
   rw[f,G]at a;dsimp only at a;have k:=Aa (h.Ky t f);obtain⟨_,_,sv,X,_⟩:=h.Hr t f;have H:=X.lt;have K:=Aa h.fresh;by_cases D:8<=x.word
   ·rw[Ai D]at a
    replace a:=CT a;obtain⟨aa,a⟩:=a;simp only[Ak]at a;subst a;rw[show decide (8<=x.word)=tZ by simpa using D]at k;generalize hu:(i:Int)+1=u at*
    have k0:=Jw h t f hu;have c9:=h.c9;have HP:=Aa (h.drew.Zj u (by omega));have r:=Aa (Ext.refl own w).drew;have v:=Aa (Ab f (Ab t H));have HU:=Aa hu;go_enter func176,ntmps176;go_wp2_with(go_at_call 193;refine k.out.mono ?_;rintro e w1⟨rfl,rfl⟩);go_region_held3(λw'=>w'.cell? ⟨mb,9,N⟩=Z (ptr V.all)/\w'.cell? ⟨b,0,N⟩=Z (I U u)) (go_keep) (first|(go_at_call 243;refine HP.out.mono ?_;rintro e L⟨⟨n,rfl⟩,l,c,d⟩;have k9:=c.c9;have k0:L.cell? ⟨b,0,N⟩=Z (I U u):=Jw c (d.keep v.out.2.1 v.out.2.2) v.out.1 HU.out;have z:=Aa c;have m:=Aa (r.out.trans d)))
    all_goals
     go_wp2;go_end0;exact⟨rfl,V,l,z.out,m.out,Fx.refl V⟩
   ·rw[Ah D]at a
    rw[show decide (8<=x.word)=tY by simpa using D]at k;have Kx:=kK X;by_cases E:x.Db≠0
    ·rw[Ai E]at a
     rw[GV f]at a;have hd:(x.Db !=0)=true:=by simpa using E
     have M:=Aa (h.is t f 5 (by decide) (by decide));have O:=Aa (Fc (x:={x with word:=Ia x.word 5}) (CC f));have v:=Aa a;have F:=Aa t;go_enter func176,ntmps176;go_wp2_with(first|(go_at_call 193;refine k.out.mono ?_;rintro e w1⟨rfl,rfl⟩)|(go_at_call 116;refine M.out.mono ?_;rintro e L⟨rfl,l,c,d⟩;have z:=Aa c;have r:=Aa d)|(go_at_call 184;refine(z.out.ZX (r.out.lt F.out (by omega) K.out) O.out v.out).mono ?_;rintro e w3⟨rfl,P,o,p,q,A⟩;have B:=Aa p;have m:=Aa (r.out.trans q);have Q:=Aa A));go_end0;exact⟨rfl,P,o,B.out,m.out,Q.out⟩
    ·rw[Ah E]at a
     rw[GV f]at a;have hd:(x.Db !=0)=false:=by simpa using E
     have M:=Aa (h.is t f 2 (by decide) (by decide));have O:=Aa (Fc (x:={x with word:=Ia x.word 2}) (CC f));have v:=Aa a;have F:=Aa (Ab t hx);have HJ:=Aa (show(s.CJ i {x with word:=Ia x.word 2}).ms[j]?=Z y from G);go_enter func176,ntmps176;go_wp2_with(first|(go_at_call 193;refine k.out.mono ?_;rintro e w1⟨rfl,rfl⟩)|(go_at_call 116;refine M.out.mono ?_;rintro e L⟨rfl,l,c,d⟩;have C:=d.lt F.out.2 (by omega) K.out;have R:=d.lt F.out.1 (by omega) K.out;have g:=c.C3 C HJ.out;have x2:=R8 g;have x3:=Wr g;have x5:=pU g;have ab:=g.free 2;have ad:=g.free 3;have ae:=g.free 5;obtain⟨p,q⟩:=c.lh C HJ.out R O.out;have m:=Aa (d.trans q);have B:=Aa p)|(go_at_call 247;refine(B.out.Zy v.out).mono ?_;rintro e w3⟨rfl,P,o,p,q,A⟩;have S:=Aa p;have T:=Aa (m.out.trans q);have W:=Aa A));go_end0;exact⟨rfl,P,o,S.out,T.out,W.out⟩
end
section
variable {w:rO}
theorem CE.jw(h:CE mb V own w s){p:Nat}(c:p<s.rings.length): ∃a,own a=23+5*V.GJ p/\a<w.heap.size/\ ∀W,tS w.heap.size w W->tT prog 50 #[ptr V.procs,I U p] W λe d=>e=ui (ptr a)/\d=W:=by obtain⟨f,R,b⟩:=h.rings (by decide);refine⟨(R p).b,b.ob p c,(b.Ff.ring p c).lt.1,λW g=>?_⟩;refine(CZ.Qq _ f _ R p W (b.Ff.below g)).mono ?_;rintro e d⟨rfl,rfl⟩;refine⟨?_,rfl⟩;unfold CZ.UA;rw[Ai ⟨by omega,by omega⟩,Am]
theorem CE.CX(h:CE mb V own w s){b t:Nat}(c:own b=t)(d:t≠0):b<w.heap.size:=by
 rcases Bc b w.heap.size with a|a
 ·exact a
 ·exact absurd ((h.fresh b a).symm.trans c).symm d
theorem DF(n:Nat):tS w.heap.size w (w.drewN n):=⟨rfl,rfl,rfl,Al _,λ_ _=>rfl⟩
theorem DZ:tS w.heap.size w w.drew:=⟨rfl,rfl,rfl,Al _,λ_ _=>rfl⟩
theorem CE.ZY(h:CE mb V own w s){xb j:Nat}{y:M1}(c:own xb=22+5*j)(b:s.ms[j]?=Z y)(u:Int):CE mb V own (w.setCell ⟨xb,7,N⟩ (I U u)) (s.CQ j {y with looks:=u})/\Ext own w own (w.setCell ⟨xb,7,N⟩ (I U u)):=by have e:=h.C3 c b;have a:=h.dV c b;have d:=oset (DA xb w) 7 (I U u);have f:=h.xg b;exact⟨h.NI (i:=j) (CC b) (by rw[<-a];exact d) {y with looks:=u} f (by rw[<-a];exact SZ e u),DB d (by omega)⟩
theorem Em{C8:Nat->Nat}{w':rO}{base:Nat}{v:tR}{l:List Int}(h:CH w base v l)(b: ∀j,v.ownBlock=Z j->own j=0) (c:Ext own w C8 w'):CH w' base v l/\ ∀j,v.ownBlock=Z j->C8 j=0:=⟨h.off c.only (λj a d=>d.1 (b j a)),λj a=>by rw[c.same j (h.lt j a).2];exact b j a⟩
end
section
variable {w:rO}{base g cap p:Nat}{r:List Int}
theorem QY{x:Int}(h:CH w base (Y (Z ⟨g,0,N⟩) (r.length+1) cap) (x::r))(e:cap≠1):DG w (Y (Z ⟨g,1,N⟩) r.length (cap-1)) r:=by
 have c:DG w (Y (Z ⟨g,0,N⟩) (x::r).length cap) (x::r):=DG.Er h;rcases h.open with⟨d,_⟩|⟨f,a,he,_,_,b,_⟩
 ·cases d
 ·simp only[As]at he
  obtain⟨_,_,rfl⟩:=he;have:=c.drop (Gk:=cap-1) (n:=r.length) 1 (by simp) (by simp) (by simp at b;omega);simpa using this
theorem QZ{x:Int}(h:CH w base (Y (Z ⟨g,0,N⟩) (r.length+1) 1) (x::r)):r=[]:=by
 rcases h.open with⟨c,_⟩|⟨d,b,he,_,_,a,_⟩
 ·cases c
 ·simp only[As]at he
  obtain⟨_,_,rfl⟩:=he;simp at a;exact a
theorem DS{n:Nat}{x:Int}(h:CH w base (Y (Z ⟨g,0,N⟩) n cap) (x::r)):w.cell? ⟨g,0,N⟩=Z (I U x)/\n=r.length+1/\n<=cap:=by
 rcases h.open with⟨c,_⟩|⟨e,b,he,_,_,a,d⟩
 ·cases c
 ·simp only[As,Ak,BN]at he
  obtain⟨⟨rfl,_⟩,rfl,rfl⟩:=he;exact⟨by simpa using d 0 (by simp),by simp,a⟩
theorem KF(row l:List Int):(Ring.Ir 256 row l).length<=l.length:=by unfold Ring.Ir;split<;>simp
theorem ZZ{nx:Int}{row:List Int}(h:row.length<=256):(Ring.II nx row).length<=257:=by
 unfold Ring.II Ring.C7;split
 ·split<;>simp
 ·simp;omega
theorem Oe{c:Int}{r:Int×St}(b:G4 s p c=Z r)(d:Ring.KZ (Eb s p).CI (Eb s p).row=tY): ∃(s2 a:St)(O:List Int),s2={s with rings:=s.rings.set p ⟨0,Ring.FJ (Eb s p).CI (Eb s p).row⟩}/\O=s2.all.take (JV s2)/\a={s2 with all:=s2.all.drop (JV s2)}/\
  (match O with|x::l=>Z (x,N4 a p (x::l))| []=>E8 p (EL a.rings.length c a.sc.draw) a)=Z r:=by
 refine⟨_,_,_,rfl,rfl,rfl,?_⟩;unfold G4 at b;rw[Ah (by rw[d];decide)]at b;exact b
theorem Tn(n self draw:Int):(EL n self draw).length<=1024:=by
 unfold EL FT;refine AA (Ch _ _) ?_;split
 ·simp
 ·exact KP _ _ _
theorem Na{z:Int}{l:List Int}{r:Int×St}(a:E8 p (z::l) s=Z r):(0<=z/\z<s.rings.length)/\ ∃(O:List Int)(c:St),O=Ring.II (Eb s z.toNat).CI (Eb s z.toNat).row/\c={s with rings:=s.rings.set z.toNat ⟨Ring.EB (Eb s z.toNat).CI (Eb s z.toNat).row,Ring.ET (Eb s z.toNat).row⟩}/\
  ((O=[]/\E8 p l c=Z r)\/ ∃y m,O=y::m/\(y,N4 c p (y::m))=r):=by
 unfold E8 at a;replace a:=CT a;refine⟨a.1,_,_,rfl,rfl,?_⟩;have b:=a.2;cases d:Ring.II (Eb s z.toNat).CI (Eb s z.toNat).row with
 |nil=>rw[d]at b;exact .inl ⟨rfl,b⟩
 |cons y m=>rw[d]at b;exact .inr ⟨y,m,rfl,by simpa using b⟩
structure Q0 (mb:Nat) (V:Vr) (own:Nat->Nat) (w:rO) (rb k:Nat) (bL:Nat) (vL:tR) (L:List Int) (r:Int×St) (q:Nat) (ox:Nat->Nat) (sx:St) (wr:rO):Prop where
 lj:q<=L.length
 ll:L.length<=1024
 GK:CE mb V ox wr sx
 ext:Ext own w ox wr
 mU:ox rb=23+5*V.GJ k/\rb<wr.heap.size
 kl:k<sx.rings.length
 al:sx.all.length<1000000
 Gg:CH wr bL vL L
 tg: ∀j,vL.ownBlock=Z j->ox j=0
 st:E8 k (L.drop q) sx=Z r
def lp(mb:Nat)(V:Vr)(own:Nat->Nat)(w:rO)(rb k:Nat)(a:Nat)(b:tR)(L:List Int)(r:Int×St)(t:tR)(wr:rO):Prop:= ∃(q:Nat)(ox:Nat->Nat)(c:St),t=I U q/\Q0 mb V own w rb k a b L r q ox c wr
theorem CE.found(h:CE mb V own w s){xb j:Nat}{r:Int}{s':St}(hx:own xb=22+5*j)(d:G5 s j=Z (r,s')):tT prog 175 #[ptr mb,ptr xb] w (Ge mb V own w (I U r) s'):=by
 unfold G5 at d;cases A:s.ms[j]? with
 |none=>rw[A]at d;cases d
 |some y=>
  rw[A]at d;dsimp only at d;replace d:=CT d;obtain⟨⟨E,h1,h2⟩,d⟩:=d;have hB:=h.C3 hx A;have x7:=sZ hB;have f7:=hB.free 7;have dk:=h.ji hx;generalize ec:wrap64 (y.looks+1)=lk at*
  obtain⟨P,hE⟩:=h.ZY hx A lk;have bq:=Jl (y:={y with looks:=lk}) (CC A);obtain⟨sq,ba⟩: ∃sq,sq=s.CQ j {y with looks:=lk}:=⟨_,rfl⟩;rw[<-ba]at P d bq;have bk:s.all=sq.all:=by rw[ba];rfl
  rw[bk]at d h2;obtain⟨k,hk⟩: ∃k:Nat,y.p=k:=⟨y.p.toNat,by omega⟩;have b9:k<sq.rings.length:=by rw[ba];show k<s.rings.length;omega
  rw[hk,Am]at d;have HX:=Aa (Ab hx (Ab bq (Ab hk (Ab b9 h2))));have HF:=Aa h.fresh;have c9:=P.c9;clear hB A bq ba E h1 bk hk b9 hx h;obtain⟨m1,m2⟩:=dk;by_cases hl:lk.tmod 4=0
  case' pos=>
   have hd:(lk.tmod 4==0)=true:=by simpa using hl
   cases ha:sq.all
   case cons x0 rest=>rw[Ai ⟨hl,by rw[ha];rfl⟩,ha]at d;simp only[Ak,AV,List.headD_cons,List.tail_cons]at d;obtain⟨rfl,rfl⟩:=d;have HG:=Aa (P.nF (by omega));rw[ha]at HG;have HE:=Aa hE;clear P hE ha hl h2;go_enter func175,ntmps175;go_wp2_with(go_at_call 240;refine HG.out.mono ?_;rintro e w1⟨rfl,o1,ar,ao⟩;have dm:=Aa ar;have au:=Aa (HE.out.trans ao);clear ar ao);go_ret;exact⟨rfl,V,o1,dm.out,au.out,Fx.refl V⟩
   case' nil=>
    rw[Ah (by rw[ha];simp)]at d;have HG:=Aa (P.nF (by omega));rw[ha]at HG;have e1:({sq with all:=([]:List Int).tail}:St)=sq:=by rw[List.tail_nil,<-ha]
    rw[e1]at HG;have HE:=Aa hE;have HS:=Aa d;clear P hE ha hl h2 e1 d;go_enter func175,ntmps175;go_wp2_with fail;refine HG.out.mono ?_;rintro e w1⟨rfl,o1,ar,ao⟩;have br:=Aa (ao.lt HX.out.1 (by omega) (by intro j A;exact HF.out j (AA HE.out.only.size A)));have HR:=Aa ar;have au:=Aa (HE.out.trans ao);clear ar ao c9 x7 f7 HG
  case' neg=>
   have hd:(lk.tmod 4==0)=false:=by simpa using hl
   have bs:(if lk.tmod 4=0/\sq.all.isEmpty=tY then Z (sq.all.headD 0,({sq with all:=sq.all.tail}:St))else G4 sq k k)=Z (r,s'):=d
   rw[Ah (λhh=>hl hh.1)]at bs;have HS:=Aa bs;have HR:=Aa P;have au:=Aa hE;have br:=Aa HX.out.1;clear P hE hl d bs c9 h2;go_enter func175,ntmps175;go_wp2;clear x7 f7;generalize w.setCell ⟨xb,7,N⟩ (I U lk)=w1 at*
  all_goals
   obtain⟨rb,bt,ca,av⟩:=HR.out.jw HX.out.2.2.2.1;have cb:=Aa (Ab bt ca);have cc:=Aa (λm=>av _ (DF m));have c0:=HR.out.c0;have x1:=LH (HR.out.C3 br.out HX.out.2.1);dsimp only at x1;rw[HX.out.2.2.1]at x1;have H:=Aa (λm=>(HR.out.drewN m).qJ HX.out.2.2.2.1 bt);clear bt ca av;cases aq:Ring.KZ (Eb sq k).CI (Eb sq k).row with
   |true=>
    have d:=HS.out;unfold G4 at d;rw[Ai aq]at d;simp only[Ak,AV]at d;obtain⟨rfl,rfl⟩:=d;rw[aq]at H;clear aq;try go_wp2
    go_quiet((go_at_call 50;exact BO (cc.out _)))
    go_wp2_with(go_at_call 241;refine(H.out _).mono ?_;rintro e w2⟨rfl,o2,aw,Q⟩;have K:=Aa aw;have bu:=Aa ((au.out.drewN _).trans Q);clear aw Q);go_ret;exact⟨rfl,V,o2,K.out,bu.out,Fx.refl V⟩
   |false=>
    obtain⟨s2,R,O,ax,hO,hQ,d⟩:=Oe HS.out aq;rw[aq]at H;have cd:k<s2.rings.length:=by rw[ax];show k<(sq.rings.set k _).length;rw[AX];exact HX.out.2.2.2.1
    have cf:s2.all.length<100000:=by rw[ax];exact HX.out.2.2.2.2
    have cg:s2.ms[j]?=Z {y with looks:=lk}:=by rw[ax];exact HX.out.2.1
    rw[<-ax]at H;have ay:=Aa (Ab cd (Ab cf cg));clear aq ax cd cf cg HS;have ch:=Aa hO;have cj:=Aa hQ;have ck:=Aa d;clear hO hQ d;try go_wp2
    go_quiet((go_at_call 50;exact BO (cc.out _)))
    go_wp2_with(go_at_call 241;refine(H.out _).mono ?_;rintro e w2⟨rfl,o2,aw,Q⟩;have K:=Aa aw;have cl:=Aa (Q.lt br.out (by omega) (HR.out.drewN nq).fresh);have cm:=Aa (Q.keep cb.out.1 cb.out.2);have bu:=Aa ((au.out.drewN _).trans Q);clear aw Q);clear c0 x1;have c0:=K.out.c0;have c9:=K.out.c9;have cp:=Aa (λm=>(K.out.drewN m).N3);have bw:Hid (∀m,tT prog 242 #[ptr V.all,I U s2.rings.length,I U 128] (w2.drewN m) (MT mb V o2 (w2.drewN m) (s2.all.take (JV s2)) {s2 with all:=s2.all.drop (JV s2)})):=λm=>(K.out.drewN m).ks s2.rings.length 128 (by have:=ay.out.2.1;omega);have hO:=ch.out;have hQ:=cj.out;have d:=ck.out;clear ch cj ck;have cq:O.length<=s2.all.length:=by rw[hO,AY];omega
    have cr:k<R.rings.length:=by rw[hQ];exact ay.out.1
    have ct:R.all.length<1000000:=by rw[hQ];show(s2.all.drop _).length<_;rw[Zba];have:=ay.out.2.1;omega
    have cu:R.ms[j]?=Z {y with looks:=lk}:=by rw[hQ];exact ay.out.2.2
    rw[<-hO,<-hQ]at bw;have S:=Aa (Ab cr (Ab ct (Ab cq cu)));clear hO hQ cq cr ct cu;go_region_held3(λB=>B.cell? ⟨mb,9,N⟩=Z (ptr V.all)/\B.cell? ⟨mb,0,N⟩=Z (ptr V.procs)) (go_keep) (first|(go_at_call 57;refine(cp.out 1).mono ?_;rintro e w3⟨rfl,rfl⟩)|(go_at_call 242;refine(bw.out 1).mono ?_;rintro e w3⟨v,rfl,hv,o3,bb,bc,cv⟩;obtain⟨va,vc,rfl⟩:=C4.Dm hv;have k9:=bb.c9;have k0:=bb.c0;have C:=Aa bb;have cw:=Aa (Ab hv cv);have bm:=Aa (bc.lt cl.out (by omega) (K.out.drewN 1).fresh);have aj:=Aa (bc.lt cm.out (by omega) (K.out.drewN 1).fresh);have HEq:=Aa ((bu.out.drewN 1).trans bc);clear hv bb bc cv))
    all_goals
     clear c0 c9 cp bw k9 k0;cases O with
     |cons x0 rest=>
      simp only[Ak,AV]at d;obtain⟨rfl,rfl⟩:=d;obtain⟨g,bz⟩: ∃g,va=Z ⟨g,0,N⟩:=by
       rcases cw.out.1.open with⟨E,T⟩|⟨g,cap,E,_⟩
       ·cases T
       ·simp only[As]at E;exact⟨g,E.1⟩
      subst bz;have F:=cw;have X:=Aa (Ab S.out.1 (Ab S.out.2.1 (show rest.length<1000000 by have h1:=S.out.2.2.1;have h2:=ay.out.2.1;simp at h1;omega)));simp only[Av]at*
      go_wp2;have c9:=C.out.c9;have dn:=(DS F.out.1).1;have dp:=(DS F.out.1).2.2;by_cases M:vc=1
      ·subst M
       have b0:=QZ F.out.1;subst b0;simp only[AG,AJ]at*
       have aa:=Aa (λm=>(C.out.drewN m).UG X.out.1 aj.out (Y (Z ⟨g,0,N⟩) 0 0) [] (DG.Ug _ _ _) (λb1=>absurd rfl b1) (by simp));go_region_held3(λB=>B.cell? ⟨mb,9,N⟩=Z (ptr V.all)/\B.cell? ⟨g,0,N⟩=Z (I U x0)) (go_keep) (first|(go_at_call 244;refine(aa.out 1).mono ?_;rintro e w4⟨v4,rfl,n,o4,b,f,o⟩;have k9:=b.c9;have i:=Em (F.out.1.drewN 1) F.out.2 f;have kg:=(DS i.1).1;have ab:=Aa b;have G:=Aa ((HEq.out.drewN 1).trans f);have p:=Aa (Ab n o);have u:=Aa i;clear b f n o i)|(go_at_call 243;refine(ab.out.Wj _ _ (DG.Er p.out.1) (λ_ j A e=>by rw[p.out.2 j A]at e;cases e) (by have h1:=X.out.2.1;have h2:=X.out.2.2;have h3:=KF (Eb R k).row [];show R.all.length+_<_;(try simp only[AG]at h3);omega)).mono ?_;rintro e w5⟨rfl,o5,c,a⟩;have k9:=c.c9;have x:=Em u.out.1 u.out.2 a;have kg:=(DS x.1).1;have ad:=Aa c;have ae:=Aa (G.out.trans a);clear c a x))
       all_goals
        go_wp2;go_ret;exact⟨rfl,V,o5,ad.out,ae.out,Fx.refl V⟩
      ·have dt:(1:Int)<=(rest.length:Int)+1:=by omega
       have aa:=Aa (λm=>(C.out.drewN m).UG X.out.1 aj.out (Y (Z ⟨g,1,N⟩) rest.length (vc-1)) rest ((QY F.out.1 M).drewN m) (λ_ j A=>F.out.2 j A) X.out.2.2);go_region_held3(λB=>B.cell? ⟨mb,9,N⟩=Z (ptr V.all)/\B.cell? ⟨g,0,N⟩=Z (I U x0)) (go_keep) (first|(go_at_call 244;refine(aa.out 1).mono ?_;rintro e w4⟨v4,rfl,n,o4,b,f,o⟩;have k9:=b.c9;have i:=Em (F.out.1.drewN 1) F.out.2 f;have kg:=(DS i.1).1;have ab:=Aa b;have G:=Aa ((HEq.out.drewN 1).trans f);have p:=Aa (Ab n o);have u:=Aa i;clear b f n o i)|(go_at_call 243;refine(ab.out.Wj _ _ (DG.Er p.out.1) (λ_ j A e=>by rw[p.out.2 j A]at e;cases e) (by have h1:=X.out.2.1;have h2:=X.out.2.2;have h3:=KF (Eb R k).row rest;show R.all.length+_<_;(try simp only[AG]at h3);omega)).mono ?_;rintro e w5⟨rfl,o5,c,a⟩;have k9:=c.c9;have x:=Em u.out.1 u.out.2 a;have kg:=(DS x.1).1;have ad:=Aa c;have ae:=Aa (G.out.trans a);clear c a x))
       all_goals
        go_wp2;go_ret;exact⟨rfl,V,o5,ad.out,ae.out,Fx.refl V⟩
     |nil=>
      dsimp only at d;obtain⟨L,hL⟩: ∃L,EL R.rings.length k R.sc.draw=L:=⟨_,rfl⟩;rw[hL]at d;have du:Hid (∀W,tT prog 245 #[I U R.rings.length,I U k,I U R.sc.draw] W (P3.Eg L W)):=λW=>hL▸P4.SD _ _ _ W;have dv:=Aa d;have dw:Hid (L.length<=1024):=hL▸Tn _ _ _;have c0:=C.out.c0;have kD:=C.out.kD;have x1:=LH (C.out.C3 bm.out S.out.2.2.2);dsimp only at x1;rw[HX.out.2.2.1]at x1;have cx:=Aa (λm=>(C.out.drewN m).N3);clear d hL;simp only[AG]at*
      go_wp2;go_region_held3(λB=>B.cell? ⟨mb,0,N⟩=Z (ptr V.procs)/\B.cell? ⟨mb,16,N⟩=Z (I U R.sc.draw)/\B.cell? ⟨xb,1,N⟩=Z (I U k)) (go_keep) (first|(go_at_call 57;refine(cx.out 1).mono ?_;rintro e w4⟨rfl,rfl⟩)|(go_at_call 245;refine(du.out _).mono ?_;rintro e w4⟨vL,rfl,bd,bf⟩;obtain⟨la,lc,rfl⟩:=C4.Dm bd;have b:CE mb V o3 w4 R:=(C.out.drewN 1).below bf;have k0:=b.c0;have pO:=b.kD;have kx:=LH (b.C3 bm.out S.out.2.2.2);dsimp only at kx;rw[HX.out.2.2.1]at kx;have G:=Lib.hid ((HEq.out.drewN 1).trans (Ext.below bf));have cy:Hid (Q0 mb V own w rb k (w3.drewN 1).heap.size (.slice la L.length lc) L (r,s') 0 o3 R w4):=⟨Nat.zero_le _,dw.out,b,G.out,⟨aj.out,Nat.lt_of_lt_of_le (C.out.CX aj.out (by omega)) bf.size⟩,S.out.1,S.out.2.1,bd,λj A=>(C.out.drewN 1).fresh j (bd.lt j A).1,dv.out⟩;clear bd bf b))
      all_goals
       clear c0 kD x1 k0 pO kx;go_wp2;go_loopw [94] (λt wr=>lp mb V own w rb k (w3.drewN 1).heap.size (.slice la L.length lc) L (r,s') t wr) (λt _=>L.length-(intOf t).toNat)
       case atStart=>exact⟨0,o3,R,rfl,cy.out⟩
       case round=>
        obtain⟨q,ox,sx,rfl,hrel⟩:=hrel;have P:=hrel.GK;have dx:=hrel.ll;by_cases af:q<L.length
        ·obtain⟨gl,hle⟩: ∃gl,la=Z ⟨gl,0,N⟩:=by
          rcases hrel.Gg.open with⟨E,T⟩|⟨gl,cap,E,_⟩
          ·rw[T]at af;simp at af
          ·simp only[As]at E;exact⟨gl,E.1⟩
         subst hle;obtain⟨_,_,_,_,_,_,dy⟩:=(hrel.Gg.open).resolve_left (λE=>by cases E.1);have b2:wr.cell? ⟨gl,q,N⟩=Z (I U (L[q]?.getD 0)):=by
          rcases hrel.Gg.open with⟨E,T⟩|⟨g2,cap,E,_,_,_,hc⟩
          ·rw[T]at af;simp at af
          ·simp only[As,Ak,BN]at E
           rw[E.1.1];exact hc q af
         clear dy;have ag:=hrel.st;rw[AQ af]at ag;have cz:L[q]?.getD 0=L[q]:=by rw[Ae af];rfl
         rw[cz]at b2;generalize L[q]=z at*
         clear cz;obtain⟨⟨z0,zl⟩,O2,sS,b3,az,bn⟩:=Na ag;obtain⟨kz,rfl⟩: ∃kz:Nat,z=kz:=⟨z.toNat,by omega⟩;rw[Am]at b3 az;have bg:kz<sx.rings.length:=by omega
         obtain⟨rz,c2,dc,av⟩:=P.jw bg;have bo:Hid (tT prog 50 #[ptr V.procs,I U kz] wr λe B=>e=ui (ptr rz)/\wr=B):=(av wr (tU _ _)).mono (λe B h=>⟨h.1,h.2.symm⟩);have bh:=Aa (P.nI bg c2);have b4:=ZZ (nx:=(Eb sx kz).CI) (P.ZW bg).1;rw[<-b3]at bh b4;rw[<-az]at bh;have df:k<sS.rings.length:=by rw[az];show k<(sx.rings.set kz _).length;rw[AX];exact hrel.kl
         have has:sS.all.length<1000000:=by rw[az];exact hrel.al
         have a1:=Aa (Ab df (Ab has b4));have D:=Aa hrel;have c0:=P.c0;have ed:(q:Int)<(L.length:Int):=by omega
         have b5:=Aa bn;have dh:=Aa (hrel.ext);clear ag bn b3 az df has hrel c2 dc av P z0 zl bg b4;rcases b5.out with⟨b7,h3⟩|⟨x0,rest,b7,h3⟩
         ·subst b7
          have dz:=Aa h3;clear h3 b5;go_wp2_with(first|(go_at_call 50;refine bo.out.mono ?_;rintro e w5⟨rfl,rfl⟩)|(go_at_call 246;refine bh.out.mono ?_;rintro e w5⟨v5,rfl,ah,o5,c,a,a6⟩;obtain⟨di,vs,rfl⟩:=C4.Dm ah;have a7:=Aa c;have l:=Aa (Ab ah a6);have a8:=Em D.out.Gg D.out.tg a;have b8:=Aa a8;have ak:=Aa (a.keep D.out.mU.1 D.out.mU.2);have bp:=Aa (An D.out.mU.2 a.only.size);have bj:=Aa (dh.out.trans a);clear ah c a a6 a8;simp only[AG]));go_roundw
          case rel=>exact⟨q+1,o5,sS,by go_num,⟨by omega,dx,a7.out,bj.out,⟨ak.out,bp.out⟩,a1.out.1,a1.out.2.1,b8.out.1,b8.out.2,dz.out⟩⟩
          case measure=>simp[intOf];omega
         ·subst b7
          simp only[AV]at h3;obtain⟨rfl,rfl⟩:=h3;clear b5;have ee:(0:Int)<(rest.length:Int)+1:=by omega
          have ef:decide ((0:Int)<(rest.length:Int)+1)=true:=by rw[Bo];omega
          go_wp2_with(first|(go_at_call 50;refine bo.out.mono ?_;rintro e w5⟨rfl,rfl⟩)|(go_at_call 246;refine bh.out.mono ?_;rintro e w5⟨v5,rfl,ah,o5,c,a,a6⟩;obtain⟨di,vs,rfl⟩:=C4.Dm ah;have a7:=Aa c;have l:=Aa (Ab ah a6);have a8:=Em D.out.Gg D.out.tg a;have b8:=Aa a8;have ak:=Aa (a.keep D.out.mU.1 D.out.mU.2);have bp:=Aa (An D.out.mU.2 a.only.size);have bj:=Aa (dh.out.trans a);clear ah c a a6 a8;simp only[Av]));obtain⟨g,bz⟩: ∃g,di=Z ⟨g,0,N⟩:=by
           rcases l.out.1.open with⟨E,T⟩|⟨g,cap,E,_⟩
           ·cases T
           ·simp only[As]at E;exact⟨g,E.1⟩
          subst bz;have ai:=Aa (Ab a1.out.1 (Ab a1.out.2.1 (show rest.length<1000000 by have h1:=a1.out.2.2;simp at h1;omega)));simp only[Av]at l;have c9:=a7.out.c9;have dn:=(DS l.out.1).1;have dp:=(DS l.out.1).2.2;by_cases M:vs=1
          ·subst M
           have b0:=QZ l.out.1;subst b0;simp only[AG,AJ]at*
           have aa:=Aa (λm=>(a7.out.drewN m).UG ai.out.1 ak.out (Y (Z ⟨g,0,N⟩) 0 0) [] (DG.Ug _ _ _) (λb1=>absurd rfl b1) (by simp));go_region_held3(λB=>B.cell? ⟨mb,9,N⟩=Z (ptr V.all)/\B.cell? ⟨g,0,N⟩=Z (I U x0)) (go_keep) (first|(go_at_call 244;refine(aa.out 1).mono ?_;rintro e w6⟨v4,rfl,n,o6,b,f,o⟩;have k9:=b.c9;have i:=Em (l.out.1.drewN 1) l.out.2 f;have kg:=(DS i.1).1;have ab:=Aa b;have G:=Aa ((bj.out.drewN 1).trans f);have p:=Aa (Ab n o);have u:=Aa i;clear b f n o i)|(go_at_call 243;refine(ab.out.Wj _ _ (DG.Er p.out.1) (λ_ j A e=>by rw[p.out.2 j A]at e;cases e) (by have h1:=ai.out.2.1;have h2:=ai.out.2.2;have h3:=KF (Eb sS k).row [];show sS.all.length+_<_;(try simp only[AG]at h3);omega)).mono ?_;rintro e w7⟨rfl,o7,c,a⟩;have k9:=c.c9;have x:=Em u.out.1 u.out.2 a;have kg:=(DS x.1).1;have ad:=Aa c;have ae:=Aa (G.out.trans a);clear c a x))
           all_goals
            go_wp2;go_ret;exact⟨rfl,V,o7,ad.out,ae.out,Fx.refl V⟩
          ·have dt:(1:Int)<=(rest.length:Int)+1:=by omega
           have aa:=Aa (λm=>(a7.out.drewN m).UG ai.out.1 ak.out (Y (Z ⟨g,1,N⟩) rest.length (vs-1)) rest ((QY l.out.1 M).drewN m) (λ_ j A=>l.out.2 j A) ai.out.2.2);go_region_held3(λB=>B.cell? ⟨mb,9,N⟩=Z (ptr V.all)/\B.cell? ⟨g,0,N⟩=Z (I U x0)) (go_keep) (first|(go_at_call 244;refine(aa.out 1).mono ?_;rintro e w6⟨v4,rfl,n,o6,b,f,o⟩;have k9:=b.c9;have i:=Em (l.out.1.drewN 1) l.out.2 f;have kg:=(DS i.1).1;have ab:=Aa b;have G:=Aa ((bj.out.drewN 1).trans f);have p:=Aa (Ab n o);have u:=Aa i;clear b f n o i)|(go_at_call 243;refine(ab.out.Wj _ _ (DG.Er p.out.1) (λ_ j A e=>by rw[p.out.2 j A]at e;cases e) (by have h1:=ai.out.2.1;have h2:=ai.out.2.2;have h3:=KF (Eb sS k).row rest;show sS.all.length+_<_;(try simp only[AG]at h3);omega)).mono ?_;rintro e w7⟨rfl,o7,c,a⟩;have k9:=c.c9;have x:=Em u.out.1 u.out.2 a;have kg:=(DS x.1).1;have ad:=Aa c;have ae:=Aa (G.out.trans a);clear c a x))
           all_goals
            go_wp2;go_ret;exact⟨rfl,V,o7,ad.out,ae.out,Fx.refl V⟩
        ·have hq:q=L.length:=by have:=hrel.lj;omega
         have ag:=hrel.st;rw[hq,Cl]at ag;simp only[E8,Ak,AV]at ag;obtain⟨rfl,rfl⟩:=ag;have ea:=Aa P;have eb:=Aa hrel.ext;clear P hrel;subst hq;go_wp2;go_ret;exact⟨rfl,V,ox,ea.out,eb.out,Fx.refl V⟩
end
section
variable {xb j:Nat}
theorem CE.Mp(h:CE mb V own w s)(u:Int):CE mb V own (w.setCell ⟨mb,19,N⟩ (I U u)) (s.CS {s.sc with wait:=u})/\Ext own w own (w.setCell ⟨mb,19,N⟩ (I U u)):=h.LI (oset (DA mb w) 19 (I U u)) _ h.hold (N6 h.D5 u)
theorem CE.Z0(h:CE mb V own w s){y:M1}{p:Int}(a:own xb=22+5*j)(b:s.ms[j]?=Z y)(c:y.p=p):w.cell? ⟨xb,1,N⟩=Z (I U p):=by rw[<-c];exact LH (h.C3 a b)
theorem Q1{p:Nat}: ∀(l:List Int){s:St}{r:Int×St},E8 p l s=Z r->r.2.ms=s.ms
 | [],s,r,h=>by simp only[E8,Ak]at h;rw[<-h]
 |z::l,s,r,h=>by
  obtain⟨_,O,c,_,b,a|⟨y,m,_,a⟩⟩:=Na h
  ·rw[Q1 l a.2,b]
  ·rw[<-a];show c.ms=s.ms;rw[b]
theorem Z1{y:M1}{r:Int×St}(h:G5 s j=Z r)(c:s.ms[j]?=Z y): ∃d,r.2.ms[j]?=Z d/\d.p=y.p:=by
 unfold G5 at h;rw[c]at h;dsimp only at h;replace h:=(CT h).2;have hm:=Jl (y:={y with looks:=wrap64 (y.looks+1)}) (CC c);split at h
 ·simp only[Ak]at h
  rw[<-h];exact⟨_,hm,rfl⟩
 ·cases e:Ring.KZ (Eb (s.CQ j {y with looks:=wrap64 (y.looks+1)}) y.p.toNat).CI (Eb (s.CQ j {y with looks:=wrap64 (y.looks+1)}) y.p.toNat).row with
  |true=>unfold G4 at h;rw[Ai e]at h;simp only[Ak]at h;rw[<-h];exact⟨_,hm,rfl⟩
  |false=>
   obtain⟨s2,f,O,g,k,i,b⟩:=Oe h e;have a:f.ms[j]?=Z {y with looks:=wrap64 (y.looks+1)}:=by rw[i,g];exact hm
   cases O with
   |nil=>exact⟨{y with looks:=wrap64 (y.looks+1)},by rw[Q1 _ b];exact a,rfl⟩
   |cons x l=>simp only[Ak]at b;rw[<-b];exact⟨_,a,rfl⟩
theorem CE.look(h:CE mb V own w s){s':St}(hx:own xb=22+5*j)(b:Ku s j=Z s'):tT prog 117 #[ptr mb,ptr xb] w (Ge mb V own w unit s'):=by
 unfold Ku at b;cases hj:s.ms[j]? with
 |none=>rw[hj]at b;cases b
 |some y=>
  rw[hj]at b;dsimp only at b;replace b:=CT b;obtain⟨h0,b⟩:=b;obtain⟨k,Q⟩: ∃k:Nat,y.p=k:=⟨y.p.toNat,by omega⟩;rw[Q,Am]at b;cases ha:s.asked[k]? with
  |none=>rw[ha]at b;cases b
  |some a=>
   rw[ha]at b;dsimp only at b;obtain⟨g,cap,hv,hg,n3,n4,bf,a0,a1,a2,f0,f1,f2⟩:=h.ask ha;have x1:=h.Z0 hx hj Q;have c7:=h.c7;rw[hv]at c7;have q:(k:Int)<(s.asked.length:Int):=by have:=CC ha;omega
   have H:=Aa (Ab hx (Ab hj (Ab Q (h.C3 hx hj).lt)));have HF:=Aa h.fresh;have Kx:=h.Kx;have HH:=Aa h;clear a0 a2 f0 f1 f2 hv ha hj hx h0;cases hb:a.Eo with
   |true=>
    rw[hb]at b a1;simp only[BD]at b;have K:=Aa (λm=>(HH.out.drewN m).serve b);clear hb b h Q;go_enter func117,ntmps117;go_wp2;go_quiet(fail)
    go_wp2_with(go_at_call 171;refine(K.out _).mono ?_;rintro e W⟨rfl,o1,c,d⟩;have f:=Aa c;have u:=Aa (((Ext.refl own w).drewN _).trans d);clear c d);go_end0;exact⟨rfl,V,o1,f.out,u.out,Fx.refl V⟩
   |false=>
    rw[hb]at b a1;simp only[A6,Bn]at b;cases C:s.sc.Cz with
    |true=>
     rw[C]at b Kx;simp only[BD]at b;have R:=Aa (λm=>(HH.out.drewN m).Qx k);have c8:=HH.out.c8;have K:=Aa b;obtain⟨s1,L⟩: ∃s1,s1=DQ s k:=⟨_,rfl⟩;have r:s1.ms[j]?=Z y:=by rw[L];exact H.out.2.1
     obtain⟨s2,p⟩: ∃s2,s2=Fg s1 k:=⟨_,rfl⟩;have A:s2.ms[j]?=Z y:=by rw[p];exact r
     have ai:Gu (s2.CS {s2.sc with wait:=wrap64 (s2.sc.wait-1)}) j=Z s':=by rw[p,L];exact K.out
     have X:Hid (∀m,tT prog 172 #[ptr V.stat,I U k] (w.drewN m) (Dd mb V own (w.drewN m) (I U (Cx.El s.stat k (λs wh=>s==1))) s1)):=by rw[L];exact R.out
     have S:({s1 with stat:=Cx.Dn s1.stat k Cx.Iq (λs wh=>Cx.F2 s)}:St)=s2:=p.symm;have t:=Aa (Ab r (Ab A (Ab ai S)));clear b L r p A ai S C hb h Q K R;go_enter func117,ntmps117;go_wp2;go_quiet(fail)
     go_wp2;go_region_held3(λD=>D.cell? ⟨mb,8,N⟩=Z (ptr V.stat)/\D.cell? ⟨xb,1,N⟩=Z (I U k)) (go_keep) (first|(go_at_call 172;refine(X.out (nq+1)).mono ?_;rintro e W⟨rfl,o1,c,d⟩;have k8:=c.c8;have aa:=d.lt H.out.1 (by omega) HF.out;have kx:=c.Z0 aa t.out.1 H.out.2.2.1;have f:=Aa c;have v:=Aa aa;have u:=Aa (((Ext.refl own w).drewN _).trans d);clear c d aa))
     all_goals
      have aw:Hid (∀m,tT prog 173 #[ptr V.stat,I U k] (W.drewN m) (Dd mb V o1 (W.drewN m) (I U (Cx.El s1.stat k (λs wh=>Cx.F2 s))) s2)):=λm=>by have:=(f.out.drewN m).Qy k;rwa [t.out.2.2.2]at this
      clear k8 kx a1 c7 c8 Kx x1;have c8:=f.out.c8;have x1:=f.out.Z0 v.out t.out.1 H.out.2.2.1;go_wp2;go_region_held3(λD=>D.cell? ⟨mb,8,N⟩=Z (ptr V.stat)/\D.cell? ⟨xb,1,N⟩=Z (I U k)) (go_keep) (first|(go_at_call 173;refine(aw.out 1).mono ?_;rintro e w2⟨rfl,o2,l,n⟩;have k8:=l.c8;have x:=n.lt v.out (by omega) (f.out.drewN 1).fresh;have kx:=l.Z0 x t.out.2.1 H.out.2.2.1;have o:=Aa l;have M:=Aa x;have E:=Aa ((u.out.drewN 1).trans n);clear l n x))
      all_goals
       have Wq:=o.out.Wq;have f19:=o.out.Fa 19;obtain⟨R3,E3⟩:=o.out.Mp (wrap64 (s2.sc.wait-1));have ax:=Aa (R3.Wx M.out t.out.2.2.1);have ab:=Aa (E.out.trans E3);clear R3 E3 k8 kx;go_wp2_with(go_at_call 174;refine ax.out.mono ?_;rintro e w3⟨rfl,o3,z,F⟩;have ad:=Aa z;have ae:=Aa (ab.out.trans F);clear z F);go_end0;exact⟨rfl,V,o3,ad.out,ae.out,Fx.refl V⟩
    |false=>
     rw[C]at b Kx;simp only[A6,Bn]at b;cases B:G5 s j with
     |none=>rw[B]at b;cases b
     |some rs=>
      obtain⟨id,s1⟩:=rs;rw[B]at b;dsimp only at b;have aj:=Aa (λm=>(HH.out.drewN m).found H.out.1 B);have ay:=Z1 B H.out.2.1;obtain⟨y1,r,O⟩:=ay;rw[Q]at O;by_cases hid:id=0
      ·rw[Ai hid]at b
       obtain⟨s2,p⟩: ∃s2,s2=DQ s1 k:=⟨_,rfl⟩;have A:s2.ms[j]?=Z y1:=by rw[p];exact r
       rw[<-p]at b;obtain⟨s3,P⟩: ∃s3,s3=({s2 with CD:=Idle.Iv 256 s2.CD k}:St):=⟨_,rfl⟩;rw[<-P]at b;have ak:s3.ms[j]?=Z y1:=by rw[P];exact A
       have hd:(id==0)=true:=by simpa using hid
       have t:=Aa (Ab r (Ab A (Ab ak (Ab p (Ab P (Ab b O))))));clear b p P r A ak hid B C hb h O Q;go_enter func117,ntmps117;go_wp2;go_quiet(fail)
       go_wp2_with(go_at_call 175;refine(aj.out _).mono ?_;rintro e W⟨rfl,T,o1,c,d,G⟩;have f:=Aa c;have v:=Aa (d.lt H.out.1 (by omega) HF.out);have u:=Aa (((Ext.refl own w).drewN _).trans d);have af:=Aa G;clear c d G);have az:Hid (∀m,tT prog 172 #[ptr T.stat,I U k] (W.drewN m) (Dd mb T o1 (W.drewN m) (I U (Cx.El s1.stat k (λs wh=>s==1))) s2)):=λm=>by have:=(f.out.drewN m).Qx k;rw[t.out.2.2.2.1];exact this
       clear Kx c7 x1 a1;have c8:=f.out.c8;have x1:=f.out.Z0 v.out t.out.1 t.out.2.2.2.2.2.2;go_region_held3(λD=>D.cell? ⟨mb,8,N⟩=Z (ptr T.stat)/\D.cell? ⟨xb,1,N⟩=Z (I U k)) (go_keep) (first|(go_at_call 172;refine(az.out 1).mono ?_;rintro e w2⟨rfl,o2,l,n⟩;have k8:=l.c8;have x:=n.lt v.out (by omega) (f.out.drewN 1).fresh;have kx:=l.Z0 x t.out.2.1 t.out.2.2.2.2.2.2;have o:=Aa l;have M:=Aa x;have E:=Aa ((u.out.drewN 1).trans n);clear l n x))
       all_goals
        have a6:Hid (∀m,tT prog 48 #[ptr T.FM,I U k] (w2.drewN m) (Dd mb T o2 (w2.drewN m) (ue (Idle.Yv 256 s2.CD k)) s3)):=λm=>by have:=(o.out.drewN m).ku k;rw[t.out.2.2.2.2.1];exact this
        clear c8 x1 k8 kx;have Wp:=o.out.Wp;have x1:=o.out.Z0 M.out t.out.2.1 t.out.2.2.2.2.2.2;go_wp2;go_region_held3(λD=>D.cell? ⟨mb,11,N⟩=Z (ptr T.FM)/\D.cell? ⟨xb,1,N⟩=Z (I U k)) (go_keep) (first|(go_at_call 48;refine(a6.out 1).mono ?_;rintro e w3⟨rfl,o3,z,ag⟩;have Yo:=z.Wp;have ah:=ag.lt M.out (by omega) (o.out.drewN 1).fresh;have kx:=z.Z0 ah t.out.2.2.1 t.out.2.2.2.2.2.2;have ad:=Aa z;have a7:=Aa ah;have ab:=Aa ((E.out.drewN 1).trans ag);clear z ag ah))
        all_goals
         go_wp2_with(go_at_call 174;refine(ad.out.Wx a7.out t.out.2.2.2.2.2.1).mono ?_;rintro e w4⟨rfl,o4,ao,F⟩;have a8:=Aa ao;have ae:=Aa (ab.out.trans F);clear ao F);go_end0;exact⟨rfl,T,o4,a8.out,ae.out,af.out⟩
      ·rw[Ah hid]at b
       replace b:=CT b;obtain⟨⟨h1,h2⟩,b⟩:=b;obtain⟨i,hi⟩: ∃i:Nat,id=(i:Int)+1:=⟨(id-1).toNat,by omega⟩;subst hi;have aq:((i:Int)+1-1).toNat=i:=by omega
       rw[aq]at b;have ar:i<s1.gs.length:=by omega
       have hd:(((i:Int)+1)==0)=false:=by rw[Az];omega
       have e1:(i:Int)+1-1=i:=by omega
       have q1:(i:Int)<(s1.gs.length:Int):=by omega
       have K:=Aa (Ab b ar);clear b h1 h2 aq ar hid B C hb h O Q r;go_enter func117,ntmps117;go_wp2;go_quiet(fail)
       go_wp2_with(first|(go_at_call 175;refine(aj.out _).mono ?_;rintro e W⟨rfl,T,o1,c,d,G⟩;have bb:i<64:=(by have h1:=c.Hb.1;have h2:=K.out.2;omega);obtain⟨gr,bc,au,bg,bd,_⟩:=c.grow K.out.2;have c5:=c.c5;rw[au]at c5;have f:=Aa c;have v:=Aa (d.lt H.out.1 (by omega) HF.out);have u:=Aa (((Ext.refl own w).drewN _).trans d);have af:=Aa G;clear c d G au)|(go_at_call 176;refine(f.out.gx v.out (f.out.og i K.out.2) K.out.1).mono ?_;rintro e w2⟨rfl,V2,o2,l,n,av⟩;have o:=Aa l;have E:=Aa (u.out.trans n);have ba:=Aa (af.out.trans av);clear l n av));go_end0;exact⟨rfl,V2,o2,o.out,E.out,ba.out⟩
end
section
variable {b i:Nat}
theorem CE.Mq(h:CE mb V own w s){x:G}(e:own b=20+5*i)(c:s.gs[i]?=Z x)(u:Bool):CE mb V own (w.setCell ⟨b,16,N⟩ (ue u)) (s.CJ i {x with CA:=u})/\Ext own w own (w.setCell ⟨b,16,N⟩ (ue u)):=by obtain⟨g,hw,j,k,d⟩:=h.Hr e c;have a:=h.fH e c;have f:=oset (DA b w) 16 (ue u);exact⟨h.Wi (CC c) (by rw[<-a];exact f) {x with CA:=u} (by rw[<-a];exact⟨g,hw,j,Wv k u,d⟩),DB f (by omega)⟩
theorem CE.Z2(h:CE mb V own w s){x:G}(c:own b=20+5*i)(d:s.gs[i]?=Z x):w.cell? ⟨b,16,N⟩=Z (ue x.CA)/\w.frozen? ⟨b,16,N⟩=false:=by obtain⟨f,hw,g,a,e⟩:=h.Hr c d;exact⟨qK a,a.free 16⟩
theorem CE.jx(h:CE mb V own w s){x:G}(a:own b=20+5*i)(c:s.gs[i]?=Z x):b<w.heap.size:=by obtain⟨f,hw,g,d,e⟩:=h.Hr a c;exact d.lt
theorem CE.release(h:CE mb V own w s){x:G}{s':St}(hb:own b=20+5*i)(H:s.gs[i]?=Z x)(d:EM s i=Z s'):tT prog 188 #[ptr mb,ptr b] w (Ge mb V own w unit s'):=by
 unfold EM at d;replace d:=CT d;obtain⟨ab,d⟩:=d;dsimp only at d;have R7:=h.R7;generalize hu:(i:Int)+1=u at*
 have b0:=Jw h hb H hu;have v:=Aa (Ab hb (Ab (h.jx hb H) (Ab H hu)));obtain⟨id,hid⟩: ∃id,id=Dg.P9 s.owner s.waits u:=⟨_,rfl⟩;obtain⟨s1,n⟩: ∃s1,s1=({s with owner:=Dg.Qa s.owner s.waits u,waits:=Dg.Qb s.owner s.waits u}:St):=⟨_,rfl⟩;have K:s1.gs[i]?=Z x:=by rw[n];exact H
 have A:Hid (∀m,tT prog 261 #[ptr V.CA,I U u] (w.drewN m) (Dd mb V own (w.drewN m) (.tuple #[I U id,I U (Dg.eF s.owner u)]) s1)):=λm=>by rw[hid,n];exact(h.drewN m).kv u (by omega)
 rw[<-hid,<-n,show s.gs=s1.gs by rw[n]]at d;have B:=Aa K;clear h hb H hu hid n K ab;by_cases L:id=0
 ·rw[Ai L]at d
  simp only[Ak]at d;subst d;have hd:(id==0)=true:=by simpa using L
  clear L;go_enter func188,ntmps188;go_wp2;go_region_held3(λy=>y.cell? ⟨mb,12,N⟩=Z (ptr V.CA)/\y.cell? ⟨b,0,N⟩=Z (I U u)) (go_keep) (first|(go_at_call 261;refine(A.out 1).mono ?_;rintro e M⟨rfl,o1,c,f⟩;have eH:=c.R7;have k0:M.cell? ⟨b,0,N⟩=Z (I U u):=Jw c (f.keep v.out.1 v.out.2.1) B.out v.out.2.2.2;have a:=Aa c;have o:=Aa (((Ext.refl own w).drewN 1).trans f);clear c f))
  all_goals
   go_wp2;go_end0;exact⟨rfl,V,o1,a.out,o.out,Fx.refl V⟩
 ·rw[Ah L]at d
  replace d:=CT d;obtain⟨h1,d⟩:=d;obtain⟨k,rfl⟩: ∃k:Nat,id=(k:Int)+1:=⟨(id-1).toNat,by omega⟩;have e2:((k:Int)+1-1).toNat=k:=by omega
  rw[e2]at d;have hd:(((k:Int)+1)==0)=false:=by rw[Az];omega
  have e1:(k:Int)+1-1=k:=by omega
  cases O:s1.gs[k]? with
  |none=>rw[O]at d;cases d
  |some z=>
   rw[O]at d;dsimp only at d;have P:=CC O;have q1:(k:Int)<(s1.gs.length:Int):=by omega
   have C:(s1.CJ k {z with CA:=tY}).gs[k]?=Z {z with CA:=tY}:=Fc P;obtain⟨s2,D⟩: ∃s2,s2=s1.CJ k {z with CA:=tY}:=⟨_,rfl⟩;rw[<-D]at d C;have l:=Aa (Ab O (Ab C D));clear L h1 e2 O C D P;by_cases F:8<=z.word
   ·rw[Ai F]at d
    simp only[Ak]at d;subst d;have p:decide (8<=z.word)=true:=by simpa using F
    have H8:=Aa p;clear F p;go_enter func188,ntmps188;go_wp2;go_region_held3(λy=>y.cell? ⟨mb,12,N⟩=Z (ptr V.CA)/\y.cell? ⟨b,0,N⟩=Z (I U u)) (go_keep) (first|(go_at_call 261;refine(A.out 1).mono ?_;rintro e M⟨rfl,o1,c,f⟩;have eH:=c.R7;have k0:M.cell? ⟨b,0,N⟩=Z (I U u):=Jw c (f.keep v.out.1 v.out.2.1) B.out v.out.2.2.2;have a:=Aa c;have o:=Aa (((Ext.refl own w).drewN 1).trans f);clear c f))
    all_goals
     have Q:k<64:=by have h1:=a.out.Hb.1;omega
     obtain⟨gr,R,q,ad,S,_⟩:=a.out.grow (CC l.out.1);have c5:=a.out.c5;rw[q]at c5;have g:=a.out.og k (CC l.out.1);obtain⟨ae,T⟩:=a.out.Z2 g l.out.1;obtain⟨j,r⟩:=a.out.Mq g l.out.1 tY;rw[<-l.out.2.2]at j;have t:=Aa (j.Ky g l.out.2.1);rw[show decide (8<=({z with CA:=tY}:G).word)=tZ from H8.out]at t;have af:=Aa j;have E:=Aa (o.out.trans r);clear q g j r eH k0;go_wp2_with(go_at_call 193;refine t.out.mono ?_;rintro e w2⟨rfl,rfl⟩);go_end0;exact⟨rfl,V,o1,af.out,E.out,Fx.refl V⟩
   ·rw[Ah F]at d
    have p:decide (8<=z.word)=false:=by simpa using F
    have H8:=Aa (Ab p d);clear F p d;go_enter func188,ntmps188;go_wp2;go_region_held3(λy=>y.cell? ⟨mb,12,N⟩=Z (ptr V.CA)/\y.cell? ⟨b,0,N⟩=Z (I U u)) (go_keep) (first|(go_at_call 261;refine(A.out 1).mono ?_;rintro e M⟨rfl,o1,c,f⟩;have eH:=c.R7;have k0:M.cell? ⟨b,0,N⟩=Z (I U u):=Jw c (f.keep v.out.1 v.out.2.1) B.out v.out.2.2.2;have a:=Aa c;have o:=Aa (((Ext.refl own w).drewN 1).trans f);clear c f))
    all_goals
     have Q:k<64:=by have h1:=a.out.Hb.1;omega
     obtain⟨gr,R,q,ad,S,_⟩:=a.out.grow (CC l.out.1);have c5:=a.out.c5;rw[q]at c5;have g:=a.out.og k (CC l.out.1);obtain⟨ae,T⟩:=a.out.Z2 g l.out.1;obtain⟨j,r⟩:=a.out.Mq g l.out.1 tY;rw[<-l.out.2.2]at j;have t:=Aa (j.Ky g l.out.2.1);rw[show decide (8<=({z with CA:=tY}:G).word)=tY from H8.out.1]at t;have HQ:=Aa (j.Jm g H8.out.2);have E:=Aa (o.out.trans r);clear q g j r eH k0;go_wp2_with(first|(go_at_call 193;refine t.out.mono ?_;rintro e w2⟨rfl,rfl⟩)|(go_at_call 192;refine HQ.out.mono ?_;rintro e w3⟨rfl,V3,o3,W,X,aa⟩;have ag:=Aa W;have ah:=Aa (E.out.trans X);have ai:=Aa aa;clear W X aa));go_end0;exact⟨rfl,V3,o3,ag.out,ah.out,ai.out⟩
end
end C2
namespace pW
open C2 (Dw Ie)
variable {w w1:rO}{v1 v2 v':tR}{gl il:List Int}
structure Pl (w:rO) (P:Nat) (v1 v2:tR) (gl il:List Int):Prop where
 Dj:Cy w P #[v1,v2] 367
 J1:CH w (P+1) v1 gl
 GL:CH w (P+1) v2 il
 ne: ∀j,v1.ownBlock=Z j->v2.ownBlock≠Z j
theorem Pl.nil(w:rO):Pl (w.alloc (uj #[Y N 0 0,Y N 0 0] 367)) w.heap.size (Y N 0 0) (Y N 0 0) [] []:=⟨Cy.new w _ 367,CH.nil _ _,CH.nil _ _,by simp[Value.ownBlock]⟩
theorem Pl.jP{P:Nat}{x:Int}{o:Obj}(h:Pl w P v1 v2 gl il)(b:JM (w.alloc o) (P+1) v1 gl [x] v' w1):w1.cell? ⟨P,0,N⟩=Z v1/\w1.frozen? ⟨P,0,N⟩=tY/\Pl (w1.setCell ⟨P,0,N⟩ v') P v' v2 (gl++[x]) il/\ ∀B,B<=P->tS B w (w1.setCell ⟨P,0,N⟩ v'):=by
 have d:v1.ownBlock≠Z P:=λe=>by have:=(h.J1.lt P e).1;omega
 have f:v2.ownBlock≠Z P:=λe=>by have:=(h.GL.lt P e).1;omega
 have g:=(h.Dj.alloc o).kept b.2.1 (λe=>d e.symm);have i: ∀j,v'.ownBlock=Z j->j≠P:=λj a e=>by have:=(b.1.lt j a).1;omega
 refine⟨g.cell 0,g.free 0,⟨g.set 0 v',?_,?_,λj a c=>?_⟩,λB q=>?_⟩
 ·exact b.1.off ((Cw.refl (λj=>j=P) w1).set (.inr rfl) _ _) (λj a e=>i j a e)
 ·have l:CH w1 (P+1) v2 il:=(h.GL.below (Cu (tU _ _) o)).kept b.2.1 (by
   cases n:v2.ownBlock with
   |none=>exact .inl rfl
   |some j=>exact .inr (λe=>h.ne j e.symm n))
  exact l.off ((Cw.refl (λj=>j=P) w1).set (.inr rfl) _ _) (λj a e=>f (by rw[a,show j=P from e]))
 ·rcases b.2.2 j a with m|m
  ·exact h.ne j m c
  ·have:=(h.GL.lt j c).2;simp at m;omega
 ·have r:=h.Dj.lt
  refine Below.setCell (Below.grown ((tU B w).alloc (by omega) o) b.2.1 (by simp;omega) (λk p=>by have:=(h.J1.lt k p).1;omega)) (by omega) _
theorem Pl.oy{P:Nat}{x:Int}{o:Obj}(h:Pl w P v1 v2 gl il)(b:JM (w.alloc o) (P+1) v2 il [x] v' w1):w1.cell? ⟨P,1,N⟩=Z v2/\w1.frozen? ⟨P,1,N⟩=tY/\Pl (w1.setCell ⟨P,1,N⟩ v') P v1 v' gl (il++[x])/\ ∀B,B<=P->tS B w (w1.setCell ⟨P,1,N⟩ v'):=by
 have c:v1.ownBlock≠Z P:=λe=>by have:=(h.J1.lt P e).1;omega
 have d:v2.ownBlock≠Z P:=λe=>by have:=(h.GL.lt P e).1;omega
 have f:=(h.Dj.alloc o).kept b.2.1 (λe=>d e.symm);have g: ∀j,v'.ownBlock=Z j->j≠P:=λj a e=>by have:=(b.1.lt j a).1;omega
 refine⟨f.cell 1,f.free 1,⟨f.set 1 v',?_,?_,λj a i=>?_⟩,λB q=>?_⟩
 ·have l:CH w1 (P+1) v1 gl:=(h.J1.below (Cu (tU _ _) o)).kept b.2.1 (by
   cases n:v1.ownBlock with
   |none=>exact .inl rfl
   |some j=>exact .inr (λe=>h.ne j n e.symm))
  exact l.off ((Cw.refl (λj=>j=P) w1).set (.inr rfl) _ _) (λj a e=>c (by rw[a,show j=P from e]))
 ·exact b.1.off ((Cw.refl (λj=>j=P) w1).set (.inr rfl) _ _) (λj a e=>g j a e)
 ·rcases b.2.2 j i with m|m
  ·exact h.ne j a m
  ·have:=(h.J1.lt j a).2;simp at m;omega
 ·have r:=h.Dj.lt
  refine Below.setCell (Below.grown ((tU B w).alloc (by omega) o) b.2.1 (by simp;omega) (λk p=>by have:=(h.GL.lt k p).1;omega)) (by omega) _
def Z3(L:List Int×List Int)(w:rO)(e:Ending)(w':rO):Prop:= ∃v1 v2,e=ui (.agg #[v1,v2])/\CH w' w.heap.size v1 L.1/\CH w' w.heap.size v2 L.2/\tS w.heap.size w w'
structure qV (me Nb:Int) (u:tR) (waits:List Int) (w:rO) (q:Nat) (m:Int) (v1 v2:tR) (gl il:List Int) (wr:rO):Prop where
 lj:q<=waits.length
 pl:Pl wr w.heap.size v1 v2 gl il
 bl:tS w.heap.size w wr
 qW:m<=Nb/\(0<=m\/m=Nb)
 lens:gl.length+il.length<=q
 eq:Ie waits me Nb=(gl++(Dw me (waits.drop q) q m).1,il++(Dw me (waits.drop q) q m).2)
def WR(me a:Int)(u:tR)(waits:List Int)(w:rO)(t2 t12:tR)(wr:rO):Prop:= ∃(q:Nat)(m:Int)(v1 v2:tR)(gl il:List Int),t12=I U q/\t2=I U m/\qV me a u waits w q m v1 v2 gl il wr
theorem LQ(me:Int)(n:Int)(r:List Int)(i:Nat)(m:Int):Dw me (n::r) i m=if(i:Int)=me then Dw me r (i+1) m else if 0<n/\0<m then((i:Int)::(Dw me r (i+1) (m-1)).1,(Dw me r (i+1) (m-1)).2)else((Dw me r (i+1) m).1,(i:Int)::(Dw me r (i+1) m).2):=by rw[Dw]
theorem lq{W:rO}{b:Nat}{u0 u1:tR}{tmps:Array tR}{Q:Ending->rO->Prop}(h:Cy W b #[u0,u1] 367)(c:tmps[6]?.getD undef=J (Z ⟨b,0,N⟩))(d:Q (ui (.agg #[u0,u1])) W):bodyPost prog f297 Q Exit.ret {tmps:=tmps,defers:=[]} W:=by have a:=h.cell 0;have k1:=h.cell 1;simp only[Ad,Ag,Ac]at a k1;exact AM (v:=.agg #[u0,u1]) (by simp[results,results297,go_sem,c,a,k1]) rfl d
theorem WX(u:tR)(waits:List Int)(me b:Int)(w:rO)(hu:DG w u waits)(hl:waits.length<=100000)(hm:b<=9223372036854775807):tT prog 297 #[u,I U me,I U b] w (Z3 (Ie waits me b) w):=by
 obtain⟨a,cap,rfl⟩:=hu.len;have W:=Aa hu;have X:=Aa hm;clear hu hm;go_enter func297,ntmps297;go_wp2;go_loopw [2,12] (λt2 t12 wr=>WR me b (.slice a waits.length cap) waits w t2 t12 wr) (λ_ t _=>waits.length-(intOf t).toNat)
 case atStart=>exact⟨0,b,_,_,[],[],rfl,rfl,Ap _,Pl.nil w,Cu (tU _ _) _,⟨Zah _,.inr rfl⟩,Al _,by simp[Ie]⟩
 case round=>
  obtain⟨q,m,v1,v2,gl,il,rfl,rfl,hrel⟩:=hrel;have d:=hrel.pl;by_cases l:q<waits.length
  ·have B:=W.out.below hrel.bl
   rcases B.open with⟨_,G⟩|⟨_,_,_,G⟩|⟨bu,off,R,he,_,_,aa,i⟩
   ·simp[G]at l
   ·simp[G]at l
   simp only[As]at he;obtain⟨rfl,_,rfl⟩:=he;have cu:=i q l;have heq:=hrel.eq;rw[AQ l,LQ]at heq;rw[show waits[q]?.getD 0=waits[q] by rw[Ae l];rfl]at cu;clear i B;generalize waits[q]=n at*
   obtain⟨H,c1,rfl⟩:=C4.Dm d.J1;obtain⟨a2,K,rfl⟩:=C4.Dm d.GL;have L:=d.Dj.lt;have p0:=d.Dj.cell 0;have E:=d.Dj.cell 1;have C:=d.Dj.free 0;have D:=d.Dj.free 1;simp only[Ad,Ac,Ag]at p0 E;have hlen:=hrel.lens;have ab:(q:Int)<(waits.length:Int):=by omega
   have z:=hrel.qW;have F:=Aa hrel;have k:=Aa d;clear hrel d;by_cases c:(q:Int)=me
   ·rw[Ai c]at heq
    have hd:((q:Int)==me)=true:=by simpa using c
    have y:=Aa heq;clear c heq;go_wp2;go_roundw
    case rel=>exact⟨q+1,m,_,_,gl,il,by go_num,rfl,by omega,k.out,F.out.bl,z,by omega,y.out⟩
    case measure=>simp[intOf];omega
   ·rw[Ah c]at heq
    have hd:((q:Int)==me)=false:=by simpa using c
    clear c;by_cases A:0<n
    ·have M:decide (0<n)=true:=by simpa using A
     by_cases o:0<m
     ·rw[Ai ⟨A,o⟩]at heq
      have P:decide (0<m)=true:=by simpa using o
      have e1:wrap64 (m-1)=m-1:=Cm _ (by have:=X.out;omega);have y:=Aa heq;have f:gl.length+ [(q:Int)].length<100000000:=by simp;omega
      have p:=Aa f;clear heq A f;go_wp2_with(at_builtin;refine Ju underlying22 C4.Dv (w.heap.size+1) _ rfl _ _ rfl _ _ _ [(q:Int)] rfl rfl (k.out.J1.below (Cu (tU _ _) _)) (DG.EW wr q) (by simp;omega) p.out ?_;intro v' w1 r;obtain⟨S,s,rfl⟩:=r.some;obtain⟨T,V,g,h⟩:=k.out.jP r;have v:=Aa g;have x:=Aa (F.out.bl.trans (h _ (Al _)));clear r g h);go_roundw
      case rel=>exact⟨q+1,m-1,_,_,gl++[(q:Int)],il,by go_num,rfl,by omega,v.out,x.out,⟨by omega,.inl (by omega)⟩,by simp;omega,by rw[y.out];simp⟩
      case measure=>simp[intOf];omega
     ·rw[Ah (λe=>o e.2)]at heq
      have P:decide (0<m)=false:=by simpa using o
      have y:=Aa heq;have f:il.length+ [(q:Int)].length<100000000:=by simp;omega
      have p:=Aa f;clear heq A f o;go_wp2_with(at_builtin;refine Ju underlying22 C4.Dv (w.heap.size+1) _ rfl _ _ rfl _ _ _ [(q:Int)] rfl rfl (k.out.GL.below (Cu (tU _ _) _)) (DG.EW wr q) (by simp;omega) p.out ?_;intro v' w1 r;obtain⟨S,s,rfl⟩:=r.some;obtain⟨T,V,g,h⟩:=k.out.oy r;have v:=Aa g;have x:=Aa (F.out.bl.trans (h _ (Al _)));clear r g h);go_roundw
      case rel=>exact⟨q+1,m,_,_,gl,il++[(q:Int)],by go_num,rfl,by omega,v.out,x.out,z,by simp;omega,by rw[y.out];simp⟩
      case measure=>simp[intOf];omega
    ·rw[Ah (λe=>A e.1)]at heq
     have M:decide (0<n)=false:=by simpa using A
     have y:=Aa heq;have f:il.length+ [(q:Int)].length<100000000:=by simp;omega
     have p:=Aa f;clear heq A f;go_wp2_with(at_builtin;refine Ju underlying22 C4.Dv (w.heap.size+1) _ rfl _ _ rfl _ _ _ [(q:Int)] rfl rfl (k.out.GL.below (Cu (tU _ _) _)) (DG.EW wr q) (by simp;omega) p.out ?_;intro v' w1 r;obtain⟨S,s,rfl⟩:=r.some;obtain⟨T,V,g,h⟩:=k.out.oy r;have v:=Aa g;have x:=Aa (F.out.bl.trans (h _ (Al _)));clear r g h);go_roundw
     case rel=>exact⟨q+1,m,_,_,gl,il++[(q:Int)],by go_num,rfl,by omega,v.out,x.out,z,by simp;omega,by rw[y.out];simp⟩
     case measure=>simp[intOf];omega
  ·have hq:q=waits.length:=by have:=hrel.lj;omega
   subst hq;have heq:=hrel.eq;rw[Cl]at heq;simp only[Dw,BW]at heq;obtain⟨H,c1,rfl⟩:=C4.Dm d.J1;obtain⟨a2,K,rfl⟩:=C4.Dm d.GL;have k:=Aa d;have HB:=Aa hrel.bl;have y:=Aa heq;have L:=d.Dj.lt;have p0:=d.Dj.cell 0;have E:=d.Dj.cell 1;have C:=d.Dj.free 0;have D:=d.Dj.free 1;simp only[Ad,Ac,Ag]at p0 E;clear hrel d heq;go_wp2;clear p0 E C D;have O:=((Cw.refl (λj=>j=w.heap.size) wr).set (.inr rfl) 0 (.slice H gl.length c1)).set (.inr rfl) 1 (.slice a2 il.length K);refine lq ((k.out.Dj.set 0 (.slice H gl.length c1)).set 1 (.slice a2 il.length K)) rfl ⟨_,_,rfl,?_,?_,(HB.out.setCell (Al _) _).setCell (Al _) _⟩
   ·rw[y.out];exact(CH.off k.out.J1 O (λj Q e=>by have:=(k.out.J1.lt j Q).1;have:j=w.heap.size:=e;omega)).mono (Bh _)
   ·rw[y.out];exact(CH.off k.out.GL O (λj Q e=>by have:=(k.out.GL.lt j Q).1;have:j=w.heap.size:=e;omega)).mono (Bh _)
end pW
namespace C2
open Cx (Pr pz)
open Vm (CP)
variable {mb:Nat}{V:Vr}{own:Nat->Nat}{w:rO}{s:St}
section
variable {s s':St}{xb j:Nat}
theorem To{p:Int}{k:Nat}(h:Iz s p=Z k):k<s.ms.length:=by unfold Iz at h;obtain⟨⟨a,b⟩,h⟩:=CT h;simp only[Ak]at h;omega
theorem CE.Z4(h:CE mb V own w s){y:M1}(a:own xb=22+5*j)(b:s.ms[j]?=Z y):xb<w.heap.size:=(h.C3 a b).lt
theorem Q2:(prog.info? 125).map (λi=>i.size)=Z 8:=by kernel_rfl
theorem Z5:prog.underlying 123=Z (.pointer 125):=by kernel_rfl
theorem Z6(w:rO)(b:Nat):(binOp .neq 123 (ptr b) (ptr b)).run prog w= .ok (ue tY) w:=by
 obtain⟨i,a,_⟩:=AD.1 Q2;have h: ∀d:Nat,(Op.equalIn (d+1) 123 (ptr b) (ptr b)).run prog w= .ok tZ w:=λd=>by simp[Op.equalIn,Co Z5,sizeOf,typeInfo,a,run_sameAddr_same]
 simp only[binOp];simp[Op.equal,Op.maxDepth,h 9999]
theorem WY{b c:Nat}{f g:Array tR}(h: ¬b=c)(j:Cy w b f 125)(k:Cy w c g 125):(binOp .neq 123 (ptr b) (ptr c)).run prog w= .ok (ue tZ) w:=by
 obtain⟨i,l,m⟩:=AD.1 Q2;have h: ∀d:Nat,(Op.equalIn (d+1) 123 (ptr b) (ptr c)).run prog w= .ok tY w:=λd=>by simp[Op.equalIn,Co Z5,sizeOf,typeInfo,l,m,run_sameAddr_other w (a:=⟨b,0,N⟩) (b:=⟨c,0,N⟩) (λe=>h (Aq Addr.block e)) j k]
 simp only[binOp];simp[Op.equal,Op.maxDepth,h 9999]
theorem Pk(h:GR s j=Z s'):s'.ms=s.ms:=by
 unfold GR at h;cases a:s.ms[j]? with
 |none=>rw[a]at h;cases h
 |some y=>
  rw[a]at h;replace h:=CT h;obtain⟨_,h⟩:=h;split at h
  ·cases h;rfl
  ·replace h:=CT h
   obtain⟨_,h⟩:=h;split at h
   ·cases h;rfl
   ·cases h
def lr(mb:Nat)(V:Vr)(own:Nat->Nat)(w:rO)(n j:Nat)(s':St)(t:tR)(wr:rO):Prop:= ∃(k:Nat)(a:Nat->Nat)(s1:St),k<=n/\t=I U k/\CE mb V a wr s1/\Ext own w a wr/\Gz j (n-k) k s1=Z s'/\j<s1.ms.length
theorem CE.again(h:CE mb V own w s){y:M1}(M:own xb=22+5*j)(O:s.ms[j]?=Z y)(a:MU s j=Z s'):tT prog 186 #[ptr mb,ptr xb] w (Dd mb V own w unit s'):=by
 unfold MU at a;have E:=h.Hb.2.2;have c0:=h.c0;have F:=h.Z4 M O;have R:=Aa h.N3;have G:=Aa (Ab h (Ab a (CC O)));have P:=Aa (Ab M F);generalize hn:s.rings.length=n at*
 go_enter func186,ntmps186;go_wp2_with(go_at_call 57;refine R.out.mono ?_;rintro e p⟨rfl,rfl⟩);go_loopw [11] (λt wr=>lr mb V own w n j s' t wr) (λt _=>n-(intOf t).toNat)
 case atStart=>exact⟨0,own,s,Ap _,rfl,G.out.1,Ext.refl _ _,G.out.2.1,G.out.2.2⟩
 case round=>
  obtain⟨k,d,s1,hk,rfl,b,o,a,c⟩:=hrel;by_cases S:k<n
  ·obtain⟨m,hm⟩: ∃m,n-k=m+1:=⟨n-k-1,by omega⟩
   have g:n-(k+1)=m:=by omega
   rw[hm]at a;unfold Gz at a;have v:=o.keep P.out.1 P.out.2;have c8:=b.c8;have T:(k:Int)<(n:Int):=by omega
   cases hw:Iz s1 k with
   |none=>
    rw[hw]at a;dsimp only at a;have x:=Aa (b.Zw hw);have l:=Aa b;have q:=Aa o;have f:=Aa (Ab a c);have r:=Aa g;go_wp2_with(go_at_call 257;refine x.out.mono ?_;rintro e p⟨rfl,rfl⟩);go_roundw
    case rel=>exact⟨k+1,d,s1,by omega,by go_num,l.out,q.out,by rw[r.out];exact f.out.1,f.out.2⟩
    case measure=>simp[intOf];omega
   |some i=>
    rw[hw]at a;dsimp only at a;have u:=To hw;have z:=b.ox i u;have x:=Aa (b.Kz hw);by_cases A:i=j
    ·subst A
     obtain rfl:=b.ux i u xb v;rw[Ah (λe=>e.1 rfl)]at a;have l:=Aa b;have q:=Aa o;have f:=Aa (Ab a c);have r:=Aa g;have H:=Z6 wr (V.DR i);go_wp2_with(go_at_call 257;refine x.out.mono ?_;rintro e p⟨rfl,rfl⟩);go_roundw
     case rel=>exact⟨k+1,d,s1,by omega,by go_num,l.out,q.out,by rw[r.out];exact f.out.1,f.out.2⟩
     case measure=>simp[intOf];omega
    ·have W: ¬V.DR i=xb:=by rintro rfl;omega
     have K:=Aa (b.fw k);have H:=WY W (b.C3 z (Ae u)) (b.C3 v (Ae c));by_cases D:Cx.FV s1.stat k=1
     ·rw[Ai ⟨A,D⟩]at a
      rw[D]at K;obtain⟨s2,Q,a⟩:=bind_some a;have B:j<s2.ms.length:=by rw[Pk Q];exact c
      replace c:=B;have X:=Aa (b.asks z Q);have q:=Aa o;have f:=Aa (Ab a c);have r:=Aa g;go_wp2_with(first|(go_at_call 257;refine x.out.mono ?_;rintro e p⟨rfl,rfl⟩)|(go_at_call 58;refine K.out.mono ?_;rintro e p⟨rfl,rfl⟩)|(go_at_call 258;refine X.out.mono ?_;rintro e p⟨rfl,C,b,o⟩;have l:=Aa b;have L:=Aa (q.out.trans o)));go_roundw
      case rel=>exact⟨k+1,C,s2,by omega,by go_num,l.out,L.out,by rw[r.out];exact f.out.1,f.out.2⟩
      case measure=>simp[intOf];omega
     ·rw[Ah (λe=>D e.2)]at a
      have hd:(Cx.FV s1.stat k==1)=false:=by simpa using D
      have l:=Aa b;have q:=Aa o;have f:=Aa (Ab a c);have r:=Aa g;generalize Cx.FV s1.stat k=st at*
      go_wp2_with(first|(go_at_call 257;refine x.out.mono ?_;rintro e p⟨rfl,rfl⟩)|(go_at_call 58;refine K.out.mono ?_;rintro e p⟨rfl,rfl⟩));go_roundw
      case rel=>exact⟨k+1,d,s1,by omega,by go_num,l.out,q.out,by rw[r.out];exact f.out.1,f.out.2⟩
      case measure=>simp[intOf];omega
  ·obtain rfl:k=n:=by omega
   rw[Bj]at a;unfold Gz at a;simp only[Ak]at a;subst a;have l:=Aa (show Dd mb V own w unit s1 (ui unit) wr from⟨rfl,d,b,o⟩);go_wp2;go_end0;exact l.out
end
section
variable {xb j b i:Nat}
theorem CE.lu(h:CE mb V own w s){y:M1}(c:own xb=22+5*j)(b:s.ms[j]?=Z y)(u:Int):CE mb V own (w.setCell ⟨xb,1,N⟩ (I U u)) (s.CQ j {y with p:=u})/\Ext own w own (w.setCell ⟨xb,1,N⟩ (I U u)):=by have e:=h.C3 c b;have a:=h.dV c b;have d:=oset (DA xb w) 1 (I U u);have f:=h.xg b;exact⟨h.NI (i:=j) (CC b) (by rw[<-a];exact d) {y with p:=u} f (by rw[<-a];exact kJ e u),DB d (by omega)⟩
theorem CE.Hk(h:CE mb V own w s){y:M1}(c:own xb=22+5*j)(b:s.ms[j]?=Z y)(u:Int):CE mb V own (w.setCell ⟨xb,3,N⟩ (I U u)) (s.CQ j {y with phase:=u})/\Ext own w own (w.setCell ⟨xb,3,N⟩ (I U u)):=by have e:=h.C3 c b;have a:=h.dV c b;have d:=oset (DA xb w) 3 (I U u);have f:=h.xg b;exact⟨h.NI (i:=j) (CC b) (by rw[<-a];exact d) {y with phase:=u} f (by rw[<-a];exact MY e u),DB d (by omega)⟩
theorem CE.Tq(h:CE mb V own w s)(u:Bool):CE mb V own (w.setCell ⟨mb,18,N⟩ (ue u)) (s.CS {s.sc with Cz:=u})/\Ext own w own (w.setCell ⟨mb,18,N⟩ (ue u)):=h.LI (oset (DA mb w) 18 (ue u)) _ h.hold (O7 h.D5 u)
def IV(mb:Nat)(V:Vr)(own:Nat->Nat)(w:rO)(n j:Nat)(s':St)(t:tR)(wr:rO):Prop:= ∃(k:Nat)(a:Nat->Nat)(s1:St),k<=n/\t=I U k/\CE mb V a wr s1/\Ext own w a wr/\E9 j (n-k) k s1=Z s'/\j<s1.ms.length
theorem IV.next{n:Nat}{s':St}{t:tR}{wr:rO}{k m:Nat}{a:Nat->Nat}{s1:St}(g:k<n)(hm:n-(k+1)=m)(b:t=I U (k+1:Nat))(c:CE mb V a wr s1)(d:Ext own w a wr)(e:E9 j m (k+1) s1=Z s')(f:j<s1.ms.length):IV mb V own w n j s' t wr:=⟨k+1,a,s1,by omega,b,c,d,by rw[hm];exact e,f⟩
theorem CE.stops(h:CE mb V own w s){s':St}(M:own xb=22+5*j)(a:K1 s j=Z s'):tT prog 296 #[ptr mb,ptr xb] w (Dd mb V own w unit s'):=by
 unfold K1 at a;cases F:s.ms[j]? with
 |none=>rw[F]at a;cases a
 |some y=>
 rw[F]at a;dsimp only at a;obtain⟨A1,A2⟩:=h.Tq tZ;obtain⟨B1,B2⟩:=A1.Hk (y:=y) M F 3;have B3:=A2.trans B2;have ae:=h.Hb.2.2;have Kx:=h.Kx;have f18:=h.Fa 18;have c3:=Wr (h.C3 M F);have f3:=(h.C3 M F).free 3;obtain⟨n1,n2⟩:=h.ji M;have c0:=B1.c0;have HL:=Aa B1.N3;have T:=h.Z4 M F;have b:j<((s.CS {s.sc with Cz:=tZ}).CQ j {y with phase:=3}).ms.length:=by show j<(s.ms.set j _).length;rw[AX];exact CC F
 have HH:=Aa (Ab B1 (Ab B3 (Ab a b)));have HX:=Aa (Ab M T);have W:((s.CS {s.sc with Cz:=tZ}).CQ j {y with phase:=3}).rings.length=s.rings.length:=rfl;rw[W]at HL;clear h M F a T A1 A2 B1 B2 B3 W b;generalize hn:s.rings.length=n at*
 clear hn;generalize(s.CS {s.sc with Cz:=tZ}).CQ j {y with phase:=3}=s0 at*
 go_enter func296,ntmps296;go_wp2_with(go_at_call 57;refine HL.out.mono ?_;rintro e o⟨rfl,rfl⟩);generalize(w.setCell ⟨mb,18,N⟩ (ue tZ)).setCell ⟨xb,3,N⟩ (I U 3)=w0 at*
 clear c0 Kx f18 c3 f3;go_loopw [16] (λt wr=>IV mb V own w n j s' t wr) (λt _=>n-(intOf t).toNat)
 case atStart=>exact⟨0,own,s0,Ap _,rfl,HH.out.1,HH.out.2.1,HH.out.2.2.1,HH.out.2.2.2⟩
 case round=>
  obtain⟨k,X,s1,hk,rfl,f,q,a,b⟩:=hrel;by_cases u:k<n
  ·obtain⟨m,hm⟩: ∃m,n-k=m+1:=⟨n-k-1,by omega⟩
   have aa:n-(k+1)=m:=by omega
   rw[hm]at a;unfold E9 at a;dsimp only at a;have r:=q.keep HX.out.1 HX.out.2;have c8:=f.c8;have Wq:=f.Wq;have f19:=f.Fa 19;have ag:(k:Int)<(n:Int):=by omega
   have G:=Aa (f.fw k);have HM:=Aa aa;clear hm aa;by_cases B:Cx.FV s1.stat k=2
   ·rw[Ai B]at a
    rw[B]at G;cases hw:Iz s1 k with
    |none=>rw[hw]at a;cases a
    |some i=>
     rw[hw]at a;dsimp only at a;cases O:s1.ms[i]? with
     |none=>rw[O]at a;cases a
     |some yi=>
      rw[O]at a;dsimp only at a;have ab:=CC O;have v:=f.ox i ab;have x1:=LH (f.C3 v O);have ah:=(f.C3 v O).free 1;obtain⟨m1,m2⟩:=f.ji v;have HW:=Aa (f.Kz hw);obtain⟨H,E1⟩:=f.lu v O (-1);have HT:=Aa (H.Qy k);have C:=Aa (q.trans E1);have D:=Aa a;have E:=Aa (show j<(s1.CQ i {yi with p:= -1}).ms.length from by show j<(s1.ms.set i _).length;rw[AX];exact b);have e8:=H.c8;clear H E1 f q a b hw O ab v r B;go_wp2_with(first|(go_at_call 58;refine G.out.mono ?_;rintro e o⟨rfl,rfl⟩)|(go_at_call 257;refine HW.out.mono ?_;rintro e o⟨rfl,rfl⟩)|(go_at_call 173;refine HT.out.mono ?_;rintro e o⟨rfl,x,c,d⟩;have af:=c.Wp;have g:=Aa c;have l:=Aa (C.out.trans d);clear c d)|(go_at_call 191;refine(g.out.UE _).mono ?_;rintro e o⟨rfl,ad,z,A⟩;have P:=Aa z;have Q:=Aa (l.out.trans A);clear z A));go_roundw
      case rel=>exact IV.next u HM.out (by go_num) P.out Q.out D.out E.out
      case measure=>simp[intOf];omega
   ·rw[Ah B]at a
    by_cases K:Cx.FV s1.stat k=0
    ·rw[Ai K]at a
     rw[K]at G;have HT:=Aa (f.Qy k);have C:=Aa q;have D:=Aa a;have E:=Aa b;clear f q a b r B K;go_wp2_with(first|(go_at_call 58;refine G.out.mono ?_;rintro e o⟨rfl,rfl⟩)|(go_at_call 173;refine HT.out.mono ?_;rintro e o⟨rfl,x,c,d⟩;have af:=c.Wp;have g:=Aa c;have l:=Aa (C.out.trans d);clear c d)|(go_at_call 191;refine(g.out.UE _).mono ?_;rintro e o⟨rfl,ad,z,A⟩;have P:=Aa z;have Q:=Aa (l.out.trans A);clear z A));go_roundw
     case rel=>exact IV.next u HM.out (by go_num) P.out Q.out D.out E.out
     case measure=>simp[intOf];omega
    ·rw[Ah K]at a
     by_cases R:Cx.FV s1.stat k=1
     ·rw[Ai R]at a
      rw[R]at G;cases hy:s1.ms[j]? with
      |none=>rw[hy]at a;cases a
      |some y1=>
       rw[hy]at a;dsimp only at a;have x1:=LH (f.C3 r hy);by_cases S:(k:Int)=y1.p
       ·rw[Ai S]at a
        rw[<-S]at x1;have HT:=Aa (f.Qy k);have C:=Aa q;have D:=Aa a;have E:=Aa b;clear f q a b r B K R S hy;go_wp2_with(first|(go_at_call 58;refine G.out.mono ?_;rintro e o⟨rfl,rfl⟩)|(go_at_call 173;refine HT.out.mono ?_;rintro e o⟨rfl,x,c,d⟩;have g:=Aa c;have l:=Aa (C.out.trans d);clear c d));go_roundw
        case rel=>exact IV.next u HM.out (by go_num) g.out l.out D.out E.out
        case measure=>simp[intOf];omega
       ·rw[Ah S]at a
        have hd:((k:Int)==y1.p)=false:=by simpa using S
        cases hw:Iz s1 k with
        |none=>rw[hw]at a;cases a
        |some i=>
         rw[hw]at a;dsimp only at a;obtain⟨s2,hq,a⟩:=bind_some a;have L:j<s2.ms.length:=by rw[Pk hq];exact b
         obtain⟨H,E1⟩:=f.Mp (wrap64 (s1.sc.wait+1));have HW:=Aa (H.Kz (p:=k) (k:=i) hw);have HA:=Aa (H.asks (H.ox i (To (s:=s1) hw)) hq);have C:=Aa (q.trans E1);have D:=Aa a;have E:=Aa L;clear H E1 f q a b L r B K R S hy hw hq;generalize y1.p=yp at*
         generalize s1.sc.wait=wt at*
         go_wp2_with(first|(go_at_call 58;refine G.out.mono ?_;rintro e o⟨rfl,rfl⟩)|(go_at_call 257;refine HW.out.mono ?_;rintro e o⟨rfl,rfl⟩)|(go_at_call 258;refine HA.out.mono ?_;rintro e o⟨rfl,x,c,d⟩;have g:=Aa c;have l:=Aa (C.out.trans d);clear c d));go_roundw
         case rel=>exact IV.next u HM.out (by go_num) g.out l.out D.out E.out
         case measure=>simp[intOf];omega
     ·rw[Ah R]at a
      have d2:(Cx.FV s1.stat k==2)=false:=by simpa using B
      have d0:(Cx.FV s1.stat k==0)=false:=by simpa using K
      have d1:(Cx.FV s1.stat k==1)=false:=by simpa using R
      have HR:=Aa f;have C:=Aa q;have D:=Aa a;have E:=Aa b;clear f q a b r B K R;generalize Cx.FV s1.stat k=st at*
      go_wp2_with(first|(go_at_call 58;refine G.out.mono ?_;rintro e o⟨rfl,rfl⟩));go_roundw
      case rel=>exact IV.next u HM.out (by go_num) HR.out C.out D.out E.out
      case measure=>simp[intOf];omega
  ·obtain rfl:k=n:=by omega
   rw[Bj]at a;unfold E9 at a;simp only[Ak]at a;subst a;have HR:=Aa (show Dd mb V own w unit s1 (ui unit) wr from⟨rfl,X,f,q⟩);clear f q;go_wp2;go_end0;exact HR.out
theorem CE.Q3(h:CE mb V own w s){x:G}(e:own b=20+5*i)(c:s.gs[i]?=Z x)(u:Bool):CE mb V own (w.setCell ⟨b,17,N⟩ (ue u)) (s.CJ i {x with begun:=u})/\Ext own w own (w.setCell ⟨b,17,N⟩ (ue u)):=by obtain⟨g,hw,j,k,d⟩:=h.Hr e c;have a:=h.fH e c;have f:=oset (DA b w) 17 (ue u);exact⟨h.Wi (CC c) (by rw[<-a];exact f) {x with begun:=u} (by rw[<-a];exact⟨g,hw,j,S0 k u,d⟩),DB f (by omega)⟩
theorem CE.UR(h:CE mb V own w s){x:G}(c:own b=20+5*i)(d:s.gs[i]?=Z x):w.cell? ⟨b,17,N⟩=Z (ue x.begun)/\w.frozen? ⟨b,17,N⟩=false:=by obtain⟨f,hw,g,a,e⟩:=h.Hr c d;exact⟨nO a,a.free 17⟩
theorem CE.gy(h:CE mb V own w s)(a:own b=20+5*i): ¬b=mb/\ ¬mb=b:=by have:=h.om;constructor<;>(rintro rfl;omega)
theorem Ey{C8:Nat->Nat}{w':rO}{cs:Array tR}{t:TypeId}(h:Cy w b cs t)(a:own b=0)(c:Ext own w C8 w'):Cy w' b cs t:=h.only c.only (λd=>d.1 a)
def EI(op a b c n:Int):Obj:=uj #[I U op,I U a,I U b,I U c,I U n] 84
end
section
variable {W wa w3:rO}{v1 v2:tR}{gl il:List Int}
theorem Tr(x:Int):wrap64 x<=9223372036854775807:=by unfold wrap64;omega
theorem Ts{c:Sc}(h:Cy w mb (DE V c) 121):Cy ((w.setCell ⟨mb,20,N⟩ (J N)).setCell ⟨mb,18,N⟩ (ue tY)) mb (DE V {c with CF:=0,Cz:=tY}) 121:=(h.set 20 (J N)).set 18 (ue tY)
theorem CE.Z7(h:CE mb V own w s):CE mb V own ((w.setCell ⟨mb,20,N⟩ (J N)).setCell ⟨mb,18,N⟩ (ue tY)) (s.CS {s.sc with CF:=0,Cz:=tY})/\Ext own w own ((w.setCell ⟨mb,20,N⟩ (J N)).setCell ⟨mb,18,N⟩ (ue tY)):=h.LI (oset (oset (DA mb w) 20 (J N)) 18 (ue tY)) {s.sc with CF:=0,Cz:=tY} ⟨Zah 0,Za0 _⟩ (Ts h.D5)
def EJ(a:List (List Int)):List Int:=a.map λl=>(l.length:Int)
def jy(a:List (List Int))(w1:rO)(t5 t29:tR)(wr:rO):Prop:= ∃k:Nat,k<=a.length/\t29=I U k/\CH wr w1.heap.size t5 ((EJ a).take k)/\tS w1.heap.size w1 wr
theorem WZ{a:List (List Int)}{w1 wr e:rO}{k:Nat}{v v':tR}{o:Obj}{l:List Int}(b:k<a.length)(c:a[k]?.getD []=l)(g:CH wr w1.heap.size v ((EJ a).take k))(d:tS w1.heap.size w1 wr)(f:JM (wr.alloc o) w1.heap.size v ((EJ a).take k) [(l.length:Int)] v' e)(t29:tR)(h:t29=I U (k+1:Nat)):jy a w1 v' t29 e:=by
 refine⟨k+1,b,h,?_,?_⟩
 ·have:(EJ a).take (k+1)=(EJ a).take k++[(l.length:Int)]:=by rw[Bu];congr 1;unfold EJ;rw[AZ,Ae b];rw[Ae b]at c;simp only[AW]at c;simp[c]
  rw[this];exact f.1
 ·exact Below.grown (d.alloc d.size o) f.2.1 (by have:=d.size;simp;omega) (λj i=>(g.lt j i).1)
def Q4(own:Nat->Nat)(W:rO)(P:Nat)(v1 v2:tR)(gl il:List Int):Prop:=Cy W P #[v1,v2] 367/\own P=0/\CH W 0 v1 gl/\CH W 0 v2 il/\(∀j,v1.ownBlock=Z j->own j=0)/\(∀j,v2.ownBlock=Z j->own j=0)
theorem Q4.ext{C8:Nat->Nat}{W':rO}{P:Nat}(h:Q4 own W P v1 v2 gl il)(g:Ext own W C8 W'):Q4 C8 W' P v1 v2 gl il:=by obtain⟨a,b,c,d,e,f⟩:=h;obtain⟨c1,i⟩:=Em c e g;obtain⟨d1,d2⟩:=Em d f g;exact⟨Ey a b g,(g.same P a.lt).trans b,c1,d1,i,d2⟩
abbrev jz:Obj:=uj #[Y N 0 0,Y N 0 0] 367
def Of(mb:Nat)(V:Vr)(own:Nat->Nat)(wa:rO)(s:St)(W:rO)(P:Nat)(v1 v2:tR)(gl il:List Int):Prop:=CE mb V own W s/\Ext own wa own W/\Q4 own W P v1 v2 gl il
theorem Z8{a:rO}{P:Nat}(f:CE mb V own wa s)(h:tS wa.heap.size wa a)(i:Cy a P #[Y N 0 0,Y N 0 0] 367)(b:wa.heap.size<=P)(o1:CH a wa.heap.size v1 gl)(o2:CH a wa.heap.size v2 il)(n1:v1.ownBlock≠Z P)(n2:v2.ownBlock≠Z P):Of mb V own wa s ((a.setCell ⟨P,0,N⟩ v1).setCell ⟨P,1,N⟩ v2) P v1 v2 gl il:=by have d:tS wa.heap.size wa ((a.setCell ⟨P,0,N⟩ v1).setCell ⟨P,1,N⟩ v2):=(h.setCell b _).setCell b _;have g:Cw (λj=>j=P) a ((a.setCell ⟨P,0,N⟩ v1).setCell ⟨P,1,N⟩ v2):=oset (oset (DA P a) 0 v1) 1 v2;refine⟨f.below d,Ext.below d,(i.set 0 v1).set 1 v2,f.fresh _ b,(o1.off g (λj c e=>n1 (by rw[c,show j=P from e]))).mono (Ap _),(o2.off g (λj c e=>n2 (by rw[c,show j=P from e]))).mono (Ap _),λj c=>f.fresh j (o1.lt j c).1,λj c=>f.fresh j (o2.lt j c).1⟩
theorem W6(b:CE mb V own wa s)(c:tS wa.heap.size wa W)(f:tS W.heap.size W w3)(o1:CH w3 W.heap.size v1 gl)(o2:CH w3 W.heap.size v2 il):Of mb V own wa s (w3.alloc (uj #[v1,v2] 367)) w3.heap.size v1 v2 gl il:=by have d:=c.trans (f.mono c.size);have a:tS wa.heap.size wa (w3.alloc (uj #[v1,v2] 367)):=d.alloc d.size _;exact⟨b.below a,Ext.below a,Cy.new w3 _ 367,b.fresh _ d.size,(o1.below (Cu (tU _ _) _)).mono (Ap _),(o2.below (Cu (tU _ _) _)).mono (Ap _),λj e=>b.fresh j (AA c.size (o1.lt j e).1),λj e=>b.fresh j (AA c.size (o2.lt j e).1)⟩
theorem Nc{P:Nat}(f:CE mb V own wa s)(a:tS wa.heap.size wa W)(d:tS W.heap.size W w3)(b:Cy W P #[Y N 0 0,Y N 0 0] 367)(c:wa.heap.size<=P)(o1:CH w3 W.heap.size v1 gl)(o2:CH w3 W.heap.size v2 il):Of mb V own wa s ((w3.setCell ⟨P,0,N⟩ v1).setCell ⟨P,1,N⟩ v2) P v1 v2 gl il:=Z8 f (a.trans (d.mono a.size)) (b.below d b.lt) c (o1.mono a.size) (o2.mono a.size) (λe=>by have g:=(o1.lt _ e).1;have h:=b.lt;omega) (λe=>by have g:=(o2.lt _ e).1;have h:=b.lt;omega)
theorem Gh(h:tS wa.heap.size wa W):tS wa.heap.size wa W.drew:=h.trans ⟨rfl,rfl,rfl,Al _,λ_ _=>rfl⟩
theorem Gi{w2:rO}(h:tS wa.heap.size wa W)(a:tS W.heap.size W w2):tS wa.heap.size wa w2:=h.trans (a.mono h.size)
theorem DK(h:tS wa.heap.size wa W)(o:Obj):tS wa.heap.size wa (W.alloc o):=h.alloc h.size o
def tj(mb:Nat)(V:Vr)(own:Nat->Nat)(w:rO)(P:Nat)(v1 v2:tR)(gl il:List Int)(s2:St)(t:tR)(wr:rO):Prop:= ∃(k:Nat)(b:Vr)(a:Nat->Nat)(s1:St),k<=gl.length/\t=I U k/\CE mb b a wr s1/\Ext own w a wr/\Fx V b/\Q4 a wr P v1 v2 gl il/\fz (gl.drop k) s1=Z s2
theorem Ij(me:Int): ∀(l:List Int)(i:Nat)(m:Int),(Dw me l i m).1.length+(Dw me l i m).2.length<=l.length
 | [],i,m=>by simp[Dw]
 |n::r,i,m=>by
  rw[pW.LQ];split
  ·have:=Ij me r (i+1) m
   simp only[Av];omega
  ·split
   ·have:=Ij me r (i+1) (m-1)
    simp only[Av];omega
   ·have:=Ij me r (i+1) m
    simp only[Av];omega
theorem CE.qX(h:CE mb V own w s){p:Nat}(a:p<s.rings.length):(Ring.C7 (Eb s p).CI (Eb s p).row).length<=257:=by
 obtain⟨c,R,b⟩:=h.rings (by decide);have hw:=(b.Ff.ring p a).SM;rw[(b.is p a).1,(b.is p a).2]at hw;have d:(Eb s p).row.length<=256:=hw.1;unfold Ring.C7;rw[Au];split
 ·simp only[Av,AG];omega
 ·simp only[AG];omega
def tm(mb:Nat)(V:Vr)(own:Nat->Nat)(w:rO)(v2:tR)(il:List Int)(s2:St)(t:tR)(wr:rO):Prop:= ∃(k:Nat)(b:Vr)(a:Nat->Nat)(s1:St),k<=il.length/\t=I U k/\CE mb b a wr s1/\Ext own w a wr/\Fx V b/\CH wr 0 v2 il/\(∀j,v2.ownBlock=Z j->a j=0)/\JH (il.drop k) s1=Z s2
theorem CE.start(h:CE mb V own w s){xb j:Nat}{s':St}(hx:own xb=22+5*j)(m:G6 s j=Z s'):tT prog 249 #[ptr mb,ptr xb] w (Ge mb V own w unit s'):=by
 unfold G6 at m;cases hj:s.ms[j]? with
 |none=>rw[hj]at m;cases m
 |some y=>
 rw[hj]at m;dsimp only at m;replace m:=CT m;obtain⟨⟨bo,bp⟩,m⟩:=m;obtain⟨e1,hb⟩:=h.gp bo bp;obtain⟨i,hi⟩: ∃i:Nat,(s.sc.CF-1).toNat=i:=⟨_,rfl⟩;rw[hi]at e1 hb m;have au:i<s.gs.length:=by omega
 obtain⟨b,bq⟩: ∃b,V.CR i=b:=⟨_,rfl⟩;rw[bq]at e1 hb;have JX:=h.JX;rw[e1]at JX;have f20:=h.Fa 20;have Kx:=h.Kx;have f18:=h.Fa 18;have br:=h.Z4 hx hj;have bs:=h.jx hb (Ae au);obtain⟨T,bt⟩:=h.Z7;obtain⟨s1,af⟩: ∃s1,s1=s.CS {s.sc with CF:=0,Cz:=tY}:=⟨_,rfl⟩;have bu:s1.ms[j]?=Z y:=by rw[af];exact hj
 have ak:i<s1.gs.length:=by rw[af];exact au
 rw[<-af]at T m;have av:=T.Hb.2.2;have aw:(UF s1.rings).length=s1.rings.length:=by unfold UF;simp
 have c0:=T.c0;have HQ:=Aa T.Zl;have HH:=Aa (Ab T (Ab bt (Ab m (Ab bu ak))));have X:=Aa (Ab hx (Ab br (Ab hb bs)));have ax:(UF s1.rings).length<=256:=by omega
 clear h T bt m hj bu hx br hb bs bo bp hi au ak af bq e1 aw av;obtain⟨o,ay⟩: ∃o,UF s1.rings=o:=⟨_,rfl⟩;rw[ay]at HQ ax;have ck:=Aa ay;clear ay;go_enter func249,ntmps249;go_wp2_with(go_at_call 60;refine HQ.out.mono ?_;rintro e w1⟨vq,rfl,az,bw⟩;obtain⟨qa,qc,rfl⟩:=az.len;have cl:=Aa az;have a1:=Aa bw;clear az bw);clear JX f20 Kx f18;go_loopw [5,29] (λt5 t29 wr=>jy o w1 t5 t29 wr) (λ_ t _=>o.length-(intOf t).toNat)
 case atStart=>exact⟨0,Ap _,rfl,CH.nil _ _,tU _ _⟩
 case round=>
  obtain⟨k,hk,rfl,hO,hB⟩:=hrel;by_cases a:k<o.length
  ·have bz:=cl.out.below hB
   obtain⟨_,g,u,rfl,cu,a6⟩:=bz.at k a;obtain⟨l,hl⟩: ∃l,o[k]?.getD []=l:=⟨_,rfl⟩;rw[hl]at a6;obtain⟨ua,uc,rfl⟩:=C4.Dm a6;have b0:(k:Int)<(o.length:Int):=by omega
   obtain⟨a5,c5,rfl⟩:=C4.Dm hO;have b1:((EJ o).take k).length=k:=by unfold EJ;rw[AY,A9];omega
   have HO:=Aa hO;have HB:=Aa hB;have cm:=Aa hl;have df:=hB.size;clear bz a6 hO hB hl;go_wp2_with(at_builtin;refine Ju underlying22 C4.Dv w1.heap.size _ rfl _ _ rfl _ _ _ [(l.length:Int)] rfl rfl (HO.out.below (Cu (tU _ _) _)) (DG.EW wr (l.length:Int)) (by simp;omega) (by rw[b1];simp;omega) ?_;intro v' w2 hA;obtain⟨g',cp,b2⟩:=hA.some;rw[b1]at b2;subst b2;have HA:=Aa hA;clear hA);go_roundw
   case rel=>exact WZ a cm.out HO.out HB.out HA.out _ (by go_num)
   case measure=>simp[intOf];omega
  ·obtain rfl:k=o.length:=by omega
   rw[show(EJ o).take o.length=EJ o from AL (by simp[EJ])]at hO;obtain⟨a5,c5,rfl⟩:=C4.Dm hO;have ao:(EJ o).length=o.length:=by simp[EJ]
   rw[ao]at hO⊢;have dh:wr.cell? ⟨xb,1,N⟩=Z (I U y.p):=LH (((HH.out.1.below a1.out).below hB).C3 X.out.1 HH.out.2.2.2.1);have K:=Aa ((HH.out.1.below a1.out).below hB);have a7:=Aa ((HH.out.2.1.trans (Ext.below a1.out)).trans (Ext.below hB));have HO:=Aa hO;clear hO hB;have b3:Hid (∀W,tS wr.heap.size wr W->tT prog 298 #[ptr mb] W λe w'=>e=ui (I U (GS s1))/\tS W.heap.size W w'):=λW hW=>((K.out.below hW).free).mono (by rintro e w'⟨rfl,n,rfl⟩;exact⟨rfl,⟨rfl,rfl,rfl,Al _,λ_ _=>rfl⟩⟩);have aq:(EJ o).length<=100000:=by simp[EJ];omega
   have a8:Hid (∀W,tS wr.heap.size wr W->tT prog 297 #[.slice a5 o.length c5,I U y.p,I U (GS s1)] W (pW.Z3 (Ie (EJ o) y.p (GS s1)) W)):=λW hW=>pW.WX _ (EJ o) y.p (GS s1) W (DG.Er (HO.out.below hW)) aq (Tr _);have aa:Hid (∀W,tS wr.heap.size wr W->W.cell? ⟨xb,1,N⟩=Z (I U y.p)):=λW hW=>LH ((K.out.below hW).C3 (a7.out.keep X.out.1 X.out.2.1) HH.out.2.2.2.1);have ar:=(K.out.Z4 (a7.out.keep X.out.1 X.out.2.1) HH.out.2.2.2.1);have b4:=Aa ar;have di: ¬wr.heap.size=xb:=by omega
   clear aq c0 ar;have m:=HH.out.2.2.1;rw[ck.out,show List.map (λl=>(l.length:Int)) o=EJ o from rfl]at m;obtain⟨⟨gl,il⟩,ba⟩: ∃pl,Ie (EJ o) y.p (GS s1)=pl:=⟨_,rfl⟩;have dk:gl.length<=256/\il.length<=256:=by have T:=Ij y.p (EJ o) 0 (GS s1);have h2:Dw y.p (EJ o) 0 (GS s1)=(gl,il):=ba;rw[h2,ao]at T;dsimp only at T;omega
   rw[ba]at m a8;dsimp only at m;replace m:=bind_some m;obtain⟨s2,c,m⟩:=m;have HS:=Aa (Ab c m);clear m c ba;go_wp2;generalize GS s1=fr at*
   go_region_held3(λw'=>w'.cell? ⟨xb,1,N⟩=Z (I U y.p)) (go_keep) (first|(go_at_call 298;refine(b3.out _ (by repeat(first|exact tU _ _|apply DK|apply Gh))).mono ?_;rintro e w2⟨rfl,ag⟩;have L:tS wr.heap.size wr w2:=Gi (by repeat(first|exact tU _ _|apply DK|apply Gh)) ag;have kx:=aa.out _ L;have dm: ¬w2.heap.size=xb:=(by have T:=L.size;have h2:=b4.out;omega);first|(have M:Cy w2 wr.heap.size #[Y N 0 0,Y N 0 0] 367:=(Cy.new wr.drew #[Y N 0 0,Y N 0 0] 367).below ag (by simp);have q0:=M.cell 0;have q1:=M.cell 1;have q2:=M.free 0;have q3:=M.free 1;have bb:=Aa M;clear M;simp only[Ad,Ac,Ag]at q0 q1;have B:=Aa L;clear L ag)|(have B:=Aa L;clear L ag))|(go_at_call 297;refine(a8.out _ (by repeat(first|exact B.out|apply DK))).mono ?_;rintro e w3⟨v1,v2,rfl,o1,o2,p⟩;dsimp only at o1 o2;obtain⟨p1,r1,rfl⟩:=C4.Dm o1;obtain⟨p2,r2,rfl⟩:=C4.Dm o2;first|(have kz:=aa.out _ (Gi B.out p);have C:=Aa (Nc K.out B.out p bb.out (Al _) o1 o2);have r:=bb.out.below p bb.out.lt;have q0:=r.cell 0;have q1:=r.cell 1;have q2:=r.free 0;have q3:=r.free 1;clear r;simp only[Ad,Ac,Ag]at q0 q1;clear o1 o2 p)|(have kz:=aa.out _ (Gi (DK B.out jz) p);have C:=Aa (Nc K.out (DK B.out jz) p (Cy.new w2 _ 367) B.out.size o1 o2);have r:=(Cy.new w2 #[Y N 0 0,Y N 0 0] 367).below p (by simp);have q0:=r.cell 0;have q1:=r.cell 1;have q2:=r.free 0;have q3:=r.free 1;clear r;simp only[Ad,Ac,Ag]at q0 q1;clear o1 o2 p)|(have kz:=aa.out _ (Gi B.out p);have C:=Aa (W6 K.out B.out p o1 o2);clear o1 o2 p)))
   all_goals
    first
     |(have hx:Hid (Of mb V own wr s1 _ w3.heap.size _ _ gl il):=C;clear hx;generalize w3.alloc (uj #[.slice p1 gl.length r1,.slice p2 il.length r2] 367)=W at*;generalize w3.heap.size=P at*)
     |(have hx:Hid (Of mb V own wr s1 _ wr.heap.size _ _ gl il):=C;clear hx;generalize(w3.setCell ⟨wr.heap.size,0,N⟩ (.slice p1 gl.length r1)).setCell ⟨wr.heap.size,1,N⟩ (.slice p2 il.length r2)=W at*;generalize wr.heap.size=P at*)
     |(have hx:Hid (Of mb V own wr s1 _ w2.heap.size _ _ gl il):=C;clear hx;generalize(w3.setCell ⟨w2.heap.size,0,N⟩ (.slice p1 gl.length r1)).setCell ⟨w2.heap.size,1,N⟩ (.slice p2 il.length r2)=W at*;generalize w2.heap.size=P at*)
   all_goals
    have b5:=Aa C.out.1;have b7:=Aa (a7.out.trans C.out.2.1);have bc:=Aa C.out.2.2;have cq:W.cell? ⟨P,0,N⟩=Z (.slice p1 gl.length r1):=bc.out.1.cell 0;clear C b3 a8 aa HO b4;go_wp2;go_loopw [50] (λt wr=>tj mb V own w P (.slice p1 gl.length r1) (.slice p2 il.length r2) gl il s2 t wr) (λt _=>gl.length-(intOf t).toNat)
    case atStart=>exact⟨0,V,own,s1,Ap _,rfl,b5.out,b7.out,Fx.refl V,bc.out,HS.out.1⟩
    case round=>
     obtain⟨k,V1,b8,sA,hk,rfl,H,hE,hF,O,c⟩:=hrel;by_cases a:k<gl.length
     ·rcases O.2.2.1.open with⟨_,h0⟩|⟨gb,b9,hv,_,_,_,d⟩
      ·rw[h0]at a;simp at a
      simp only[As]at hv;obtain⟨rfl,_,rfl⟩:=hv;have cu:=d k a;rw[AQ a]at c;unfold fz at c;rw[show gl[k]?.getD 0=gl[k] by rw[Ae a];rfl]at cu;clear d;generalize gl[k]=n at*
      replace c:=bind_some c;obtain⟨⟨rb,s3⟩,ca,c⟩:=c;have c8:=H.c8;have HT:=Aa (H.pR n);have b0:(k:Int)<(gl.length:Int):=by omega
      have HE:=Aa hE;have f:=Aa (Ab hF (Ab O (Ab ca c)));clear H hE hF O ca c;go_wp2_with(first|(go_at_call 299;refine HT.out.mono ?_;rintro e w4⟨rfl,o4,x,D⟩;have Q:=Aa x;have F:=Aa D;clear x D)|(go_at_call 293;refine(Q.out.begin f.out.2.2.1).mono ?_;rintro e w5⟨rfl,V5,o5,z,E,ab⟩;have R:=Aa z;have S:=Aa (F.out.trans E);have bd:=Aa ab;clear z E ab));go_roundw
      case rel=>exact⟨k+1,V5,o5,s3,by omega,by go_num,R.out,HE.out.trans S.out,f.out.1.trans bd.out,f.out.2.1.ext S.out,f.out.2.2.2⟩
      case measure=>simp[intOf];omega
     ·obtain rfl:k=gl.length:=by omega
      rw[Cl]at c;simp only[fz,Ak]at c;subst c;have HI:=HS.out.2;replace HI:=bind_some HI;obtain⟨s3,hid,A⟩:=HI;have cr:wr.cell? ⟨P,1,N⟩=Z (.slice p2 il.length r2):=O.1.cell 1;have HR:=Aa H;have HE:=Aa hE;have f:=Aa (Ab hF (Ab O (Ab hid A)));clear H hE hF O hid A cq b5 b7 bc;go_wp2;go_loopw [67] (λt wr=>tm mb V own w (.slice p2 il.length r2) il s3 t wr) (λt _=>il.length-(intOf t).toNat)
      case atStart=>exact⟨0,V1,b8,sA,Ap _,rfl,HR.out,HE.out,f.out.1,f.out.2.1.2.2.2.1,f.out.2.1.2.2.2.2.2,f.out.2.2.1⟩
      case round=>
       have ct:=Aa f.out.2.2.2;clear HR HE f cr;obtain⟨k,V2,dc,sB,hk,rfl,H,hE,hF,ah,bf,hid⟩:=hrel;by_cases a:k<il.length
       ·rcases ah.open with⟨_,h0⟩|⟨gb,b9,hv,_,_,_,d⟩
        ·rw[h0]at a;simp at a
        simp only[As]at hv;obtain⟨rfl,_,rfl⟩:=hv;have cu:=d k a;rw[AQ a]at hid;unfold JH at hid;rw[show il[k]?.getD 0=il[k] by rw[Ae a];rfl]at cu;clear d;generalize il[k]=n at*
        replace hid:=CT hid;obtain⟨⟨h0,T,h2⟩,hid⟩:=hid;dsimp only at hid;obtain⟨q,rfl⟩: ∃q:Nat,n=q:=⟨n.toNat,by omega⟩;rw[Am]at hid;have hq:q<sB.rings.length:=by omega
        have cb:=H.qX hq;have c8:=H.c8;have HT:=Aa (H.pR q);have b0:(k:Int)<(il.length:Int):=by have:=a;omega
        have HE:=Aa hE;have f:=Aa (Ab hF (Ab ah (Ab bf hid)));have ai:=Aa (Ab hq (Ab cb h2));clear H hE hF ah bf hid h0 T h2 hq cb;go_wp2_with(first|(go_at_call 299;refine HT.out.mono ?_;rintro e w4⟨rfl,o4,x,D⟩;have dn:=x.Wp;have Q:=Aa x;have F:=Aa D;clear x D)|(go_at_call 48;refine(Q.out.ku _).mono ?_;rintro e w5⟨rfl,o5,z,E⟩;have a9:=z.c9;have a0:=z.c0;have R:=Aa z;have S:=Aa (F.out.trans E);clear z E));go_region_held3(λw'=>w'.cell? ⟨mb,9,N⟩=Z (ptr V2.all)/\w'.cell? ⟨mb,0,N⟩=Z (ptr V2.procs)) (go_keep) (first|(go_at_call 50;refine((R.out.drewN 1).ring q ai.out.1).mono ?_;rintro e w6⟨⟨rb,rfl,cc⟩,rfl⟩;have cv:=Aa cc;clear cc)|(go_at_call 300;refine((R.out.drewN 1).kA ai.out.1 cv.out).mono ?_;rintro e w7⟨v,rfl,bg,o6,G,ad,cd⟩;obtain⟨va,vc,rfl⟩:=C4.Dm bg;have k0:=G.c0;have k9:=G.c9;have HV:=Aa (Ab bg cd);have bh:=Aa G;have bj:=Aa ((S.out.drewN 1).trans ad);clear G ad bg cd)|(go_at_call 243;refine(bh.out.Wj _ _ (DG.Er HV.out.1) (λ_ j hj=>by rw[HV.out.2 j hj];decide) (by have cw:=ai.out.2.1;have cx:=ai.out.2.2;exact An (Nat.add_lt_add_of_lt_of_le cx cw) (by decide))).mono ?_;rintro e w8⟨rfl,o7,aj,cf⟩;have k0:=aj.c0;have k9:=aj.c9;have cy:=Aa aj;have bk:=Aa (bj.out.trans cf);clear aj cf))
        all_goals
         go_wp2;go_roundw
         case rel=>exact⟨k+1,V2,o7,_,by omega,by go_num,cy.out,HE.out.trans bk.out,f.out.1,(Em f.out.2.1 f.out.2.2.1 bk.out).1,(Em f.out.2.1 f.out.2.2.1 bk.out).2,f.out.2.2.2⟩
         case measure=>simp[intOf];omega
       ·obtain rfl:k=il.length:=by omega
        rw[Cl]at hid;simp only[JH,Ak]at hid;subst hid;have cg:=hE.keep X.out.1 X.out.2.1;have A:=ct.out;cases ae:sB.ms[j]? with
        |none=>rw[ae]at A;cases A
        |some y3=>
         rw[ae]at A;dsimp only at A;replace A:=bind_some A;obtain⟨s4,bm,ch⟩:=A;have c8:=H.c8;have x1:=LH (H.C3 cg ae);obtain⟨yp,hyp⟩: ∃yp,y3.p=yp:=⟨_,rfl⟩;rw[hyp]at x1 bm;have HT:=Aa ((H.drewN 1).pR yp);have HE:=Aa (hE.drewN 1);have f:=Aa (Ab hF (Ab bm (Ab ch (Ab ae hyp))));clear H hE hF cg bm ch ae ah bf hyp;go_wp2;go_region_held3(λw'=>w'.cell? ⟨mb,8,N⟩=Z (ptr V2.stat)/\w'.cell? ⟨xb,1,N⟩=Z (I U yp)) (go_keep) (first|(go_at_call 299;refine HT.out.mono ?_;rintro e w4⟨rfl,o4,x,D⟩;have k8:=x.c8;have F:=Aa (HE.out.trans D);have kx:=x.Z0 (F.out.keep X.out.1 X.out.2.1) f.out.2.2.2.1 f.out.2.2.2.2;have Q:=Aa x;clear x D))
         all_goals
          have bn:=F.out.keep X.out.2.2.1 X.out.2.2.2;have cz:=Aa (Q.out.release bn (Ae (Q.out.lg b i bn)) f.out.2.1);clear bn k8 kx;go_wp2_with(first|(go_at_call 188;refine cz.out.mono ?_;rintro e w5⟨rfl,V5,o5,z,E,ab⟩;have R:=Aa z;have S:=Aa (F.out.trans E);have bd:=Aa (f.out.1.trans ab);clear z E ab)|(go_at_call 247;refine(R.out.Zy f.out.2.2.1).mono ?_;rintro e w6⟨rfl,V6,o6,G,ad,cj⟩;have bh:=Aa G;have bj:=Aa (S.out.trans ad);have c2:=Aa (bd.out.trans cj);clear G ad cj));go_end0;exact⟨rfl,V6,o6,bh.out,bj.out,c2.out⟩
end
end C2
end Go.Proofs.YtgadhchejmlfjaaGreatDoor
