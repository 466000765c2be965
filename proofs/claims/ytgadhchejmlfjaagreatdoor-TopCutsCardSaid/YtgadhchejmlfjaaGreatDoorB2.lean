/- A part of the proof. -/
import Derived.Test.YtgadhchejmlfjaaGreatDoorB1
set_option linter.unusedVariables false
set_option maxRecDepth 20000
set_option maxHeartbeats 16000000
open Go.Value renaming int→I,pointer→J,slice→Y
open Go.IntKind renaming i64→U
open Option renaming none→N,some→Z
open Bool renaming false→rm
open Go renaming Calls→re,Value→qY,World→oZ
open Go.Value renaming bool→ry
namespace Go.Proofs.YtgadhchejmlfjaaGreatDoor.CX
open Go.Proofs.Tryz Go.RowKit Go.CL
open Cw (Pr pz)
open Vm (CN)
section
section
variable {mb:Nat} {V:Vr} {own:Nat→Nat} {w:oZ} {s:St}
variable {xb j i b:Nat} {s':St}
theorem bind_some{α β:Type}{o:Option α}{f:α→Option β}{x:β}(h:o.bind f=Z x): ∃a,o=Z a∧f a=Z x:=by
 cases o with
 |none=>cases h
 |some a=>exact⟨a,rfl,h⟩
theorem CC.Ql(h:CC mb V own w s){r:Nat×St}(d:own xb=22+5*j)(a:Gf s j=Z r): ∃b,own b=20+5*r.1∧re prog 183 #[ptr xb] w (Da mb V own w (ptr b) r.2):=by
 unfold Gf at a;cases c:s.ms[j]? with
 |none=>rw[c]at a;cases a
 |some y=>rw[c]at a;replace a:=CQ a;obtain⟨e,a⟩:=a;simp only[Ak]at a;subst a;obtain⟨f,g⟩:=h.gp e (h.xg c).2;refine⟨_,g,?_⟩;rw[←f];exact h.off d c
theorem CC.back(h:CC mb V own w s)(q:own xb=22+5*j)(a:Gg s j=Z s'):re prog 185 #[ptr mb,ptr xb] w (FY mb V own w unit s'):=by unfold Gg at a;replace a:=bind_some a;obtain⟨r,t,a⟩:=a;obtain⟨b,u,v⟩:=h.Ql q t;have y:=Aa v;have z:=Aa u;have A:=Aa h.fresh;clear h q t v u;go_enter func185,ntmps185;go_wp2_with(first|(go_at_call 183;refine y.out.mono ?_;rintro e C⟨rfl,x,c,d⟩;have m:=Aa c;have f:=Aa d;clear c d)|(go_at_call 192;refine(m.out.I7 (f.out.lt z.out (by omega) A.out) a).mono ?_;rintro e D⟨rfl,B,g,i,k,l⟩;have n:=Aa i;have o:=Aa (f.out.trans k);have p:=Aa l;clear i k l));go_end0;exact⟨rfl,B,g,n.out,o.out,p.out⟩
theorem SF{p:Int}{f:Bool}(e:D6 s p i f=Z s'):s'.gs.length=s.gs.length:=by
 have k: ∀{a b:St}{p:Int}{j:Nat},Jp a p j=Z b→b.gs=a.gs:=fun{a b p j} d=>by
  unfold Jp at d;split at d
  ·simp only[Ak]at d;subst d;rfl
  ·cases d
 have l: ∀{a:St}{p:Int}{r:Bool×St},FJ a p=Z r→r.2.gs=a.gs:=fun{a p r} d=>by
  unfold FJ at d;split at d
  ·split at d
   ·simp only[Ak]at d;subst d;rfl
   ·replace d:=CQ d
    obtain⟨_,d⟩:=d;obtain⟨c,g,h⟩:=Ax.1 d;subst h;exact(k g).trans rfl
  ·replace d:=CQ d
   obtain⟨_,d⟩:=d;obtain⟨c,g,h⟩:=Ax.1 d;subst h;exact(k g).trans rfl
 have hw: ∀{a b:St},G9 a=Z b→b.gs=a.gs:=fun{a b} d=>by
  unfold G9 at d;split at d
  ·simp only[Ak]at d;subst d;rfl
  ·split at d
   ·cases d
   ·split at d
    ·simp only[Ak]at d;subst d;rfl
    ·split at d
     ·split at d
      ·next g=>simp only[Ak]at d;subst d;exact l g
      ·next g=>simp only[Ak]at d;subst d;exact l g
      ·cases d
     ·simp only[Ak]at d;subst d;rfl
 have hm: ∀(a:St)(i:Nat)(t:Int),(a.mv i t).gs.length=a.gs.length:=fun a i t=>by
  unfold St.mv;split
  ·show(a.gs.set i _).length=_;simp
  ·rfl
 unfold D6 at e;replace e:=CQ e;obtain⟨_,e⟩:=e;split at e
 ·rw[hw e];exact hm _ _ _
 ·replace e:=CQ e
  obtain⟨_,e⟩:=e;rw[hw e];exact hm _ _ _
theorem CC.Y6(h:CC mb V own w s){x:G}(hb:own b=20+5*i)(hi:s.gs[i]?=Z x)(f:KS s i=Z s'):re prog 184 #[ptr mb,ptr b] w (FY mb V own w unit s'):=by
 unfold KS at f;obtain⟨a,cap,hv⟩:=h.nv;have c5:=h.c5;rw[hv]at c5;have L:=h.Hm.1;have ae:=Cz hi;have z:=(h.Hi hb hi).Dp;have z:b<w.heap.size:=by obtain⟨sv,hB,_⟩:=z;exact hB.lt
 obtain⟨n,A⟩: ∃n,s.gs.length=n:=⟨_,rfl⟩;rw[A]at f c5 hv L ae;have HH:=Aa (Ab h (Ab f A));have HB:=Aa (Ab hb z);have HV:=Aa hv;clear h hb hi f hv A z;go_enter func184,ntmps184;go_wp2;go_loopw [11] (fun t wr=> ∃(k:Nat)(B:Vr)(d:Nat→Nat)(s1:St),k≤n∧t=I U k∧CC mb B d wr s1∧Ext own w d wr∧Fx V B∧Ge ((i:Int)+1) (n-k) k s1=Z s'∧s1.gs.length=n) (fun t _=>n-(intOf t).toNat)
 case atStart=>exact⟨0,V,own,s,Ap _,rfl,HH.out.1,Ext.refl _ _,Fx.refl _,HH.out.2.1,HH.out.2.2⟩
 case round=>
  obtain⟨k,B,d,s1,hk,rfl,l,F,H,f,A⟩:=hrel;by_cases av:k<n
  ·have g:k<s1.gs.length:=by omega
   obtain⟨y,j⟩: ∃y,s1.gs[k]?=Z y:=⟨_,Ae g⟩;obtain⟨m,hm⟩: ∃m,n-k=m+1:=⟨n-k-1,by omega⟩;rw[hm]at f;unfold Ge at f;rw[j]at f;dsimp only at f;obtain⟨g0,au,C,cg,af,_⟩:=l.grow g;rw[H.Lu,HV.out]at C;simp only[Ar]at C;obtain⟨rfl,ag,rfl⟩:=C;clear ag;have o:=l.og k g;have ah:=l.Hi o j;obtain⟨p,q,sv,c,r⟩:=ah;have M:=jl c;have xw:=lC c;have f18:=c.free 18;obtain⟨xi,D⟩: ∃xi,s1.gs[i]?=Z xi:=⟨_,Ae (by omega)⟩;generalize hu:(i:Int)+1=u at*
   have b0:=Jh l (F.keep HB.out.1 HB.out.2) D hu;have aw:(k:Int)<(n:Int):=by omega
   have O:=l.cA o j;have HR:=Aa l;have HE:=Aa F;have P:=Aa H;have Q:=Aa (Ab A (Ab hm j));by_cases e:y.C9=u
   ·rw[Ai e]at f
    have hd:(y.C9 !=u)=false:=by simpa using e
    have HS:=Aa f;have HO:=Aa o;have HX:=Aa j;clear f l F H hm j D o c r q p A e g O hu;go_wp2;go_quiet(fail)
    have l:=HR.out.drewN nq;have ai:=Aa (HE.out.drewN nq);clear M xw f18 b0 cg af;generalize wr.drewN nq=W at*
    obtain⟨p,q,aj,c,r⟩:=l.Hi HO.out HX.out;have M:=jl c;have xw:=lC c;have f18:=c.free 18;have g:=Cz HX.out;have hO:=oset (Ds (B.CP k) W) 18 (I U 0);have R:=l.VK g hO {y with C9:=0} ⟨p,q,aj,SB c 0,r⟩;have S:=Aa R;have T:=Aa (ai.out.trans (Dx hO (by rw[HO.out];omega)));have HL:=Aa (show(s1.CH k {y with C9:=0}).gs.length=n from by show(s1.gs.set k _).length=n;rw[AV];exact Q.out.1);clear l c r q p hO R g;by_cases K:y.word=5
    ·have ak:(y.word==5)=true:=by simpa using K
     have v:=HS.out;rw[Ai K]at v;replace v:=bind_some v;obtain⟨s2,hq,v⟩:=v;have HQ:=Aa hq;have E:=Aa v;clear K hq v;go_wp2_with(go_at_call 192;refine(S.out.I7 HO.out HQ.out).mono ?_;rintro e w2⟨rfl,V2,X,aa,ab,ad⟩;have ao:=Aa aa;have aq:=Aa (T.out.trans ab);have ar:=Aa (P.out.trans ad);clear aa ab ad);go_roundw
     case rel=>exact⟨k+1,V2,X,s2,by omega,by go_num,ao.out,aq.out,ar.out,by have:=Q.out.2.1;rw[show n-(k+1)=m by omega];exact E.out,(SF HQ.out).trans HL.out⟩
     case measure=>simp[intOf];omega
    ·have ak:(y.word==5)=false:=by simpa using K
     have v:=HS.out;rw[Ah K]at v;have E:=Aa v;clear K v;go_wp2;go_roundw
     case rel=>exact⟨k+1,B,d,_,by omega,by go_num,S.out,T.out,P.out,by have:=Q.out.2.1;rw[show n-(k+1)=m by omega];exact E.out,HL.out⟩
     case measure=>simp[intOf];omega
   ·rw[Ah e]at f
    have hd:(y.C9 !=u)=true:=by simpa using e
    have HS:=Aa f;clear f l F H hm j D o c r q p A e g O hu;go_wp2;go_quiet(fail)
    go_wp2;go_roundw
    case rel=>exact⟨k+1,B,d,s1,by omega,by go_num,HR.out.drewN _,HE.out.drewN _,P.out,by have:=Q.out.2.1;rw[show n-(k+1)=m by omega];exact HS.out,Q.out.1⟩
    case measure=>simp[intOf];omega
  ·obtain rfl:k=n:=by omega
   rw[Cg]at f;simp only[Ge,Ak]at f;subst f;have HR:=Aa l;have HE:=Aa F;have P:=Aa H;clear l F H A;go_wp2;go_end0;exact⟨rfl,B,d,HR.out,HE.out,P.out⟩
theorem jm{y:M1}{gb:Nat→Nat}(h:Cx w xb (C8 gb j y) 125)(id:Int):Cx (((w.setCell ⟨xb,2,N⟩ (Eb gb id)).setCell ⟨xb,3,N⟩ (I U 2)).setCell ⟨xb,5,N⟩ (I U 0)) xb (C8 gb j {y with g:=id,phase:=2,used:=0}) 125:=((h.set 2 (Eb gb id)).set 3 (I U 2)).set 5 (I U 0)
theorem CC.Kr(h:CC mb V own w s){x:G}(c:own b=20+5*i)(d:s.gs[i]?=Z x):Eb V.CP ((i:Int)+1)=ptr b:=by have a:=h.cA c d;unfold Eb;rw[Ah (by omega),show((i:Int)+1-1).toNat=i by omega,a]
theorem CC.jn(h:CC mb V own w s){x:G}{y:M1}(e:own xb=22+5*j)(d:s.ms[j]?=Z y)(l:own b=20+5*i)(f:s.gs[i]?=Z x):CC mb V own (((w.setCell ⟨xb,2,N⟩ (ptr b)).setCell ⟨xb,3,N⟩ (I U 2)).setCell ⟨xb,5,N⟩ (I U 0)) (s.CM j {y with g:=(i:Int)+1,phase:=2,used:=0})∧Ext own w own (((w.setCell ⟨xb,2,N⟩ (ptr b)).setCell ⟨xb,3,N⟩ (I U 2)).setCell ⟨xb,5,N⟩ (I U 0)):=by have m:=h.CW e d;have a:=h.bZ e d;have n:=h.Kr l f;have o:=Cz f;have k:=oset (oset (oset (Ds xb w) 2 (ptr b)) 3 (I U 2)) 5 (I U 0);have c:=jm m ((i:Int)+1);rw[n]at c;refine⟨h.Nj (i:=j) (Cz d) (by rw[←a];exact k) {y with g:=(i:Int)+1,phase:=2,used:=0} ⟨by show 0≤(i:Int)+1;omega,by show(i:Int)+1≤_;omega⟩ (by rw[←a];exact c),Dx k (by omega)⟩
theorem CC.eJ(h:CC mb V own w s)(L:own xb=22+5*j)(m:own b=20+5*i)(a:Gh s j i=Z s'):re prog 176 #[ptr mb,ptr xb,ptr b] w (FY mb V own w unit s'):=by
 unfold Gh at a;cases f:s.gs[i]? with
 |none=>rw[f]at a;cases a
 |some x=>
  cases F:s.ms[j]? with
  |none=>rw[f,F]at a;cases a
  |some y=>
   rw[f,F]at a;dsimp only at a;have o:=Aa (h.Ko m f);obtain⟨_,_,sv,H,_⟩:=h.Hi m f;have v:=H.lt;have O:=Aa h.fresh;by_cases A:8≤x.word
   ·rw[Ai A]at a
    replace a:=CQ a;obtain⟨P,a⟩:=a;simp only[Ak]at a;subst a;rw[show decide (8≤x.word)=true by simpa using A]at o;generalize hu:(i:Int)+1=u at*
    have k0:=Jh h m f hu;have c9:=h.c9;have Q:=h.Nc;have ae: ¬mb=w.heap.size:=by omega
    have af: ¬b=w.heap.size:=by omega
    have HP:=Aa (h.drew.YO u (by omega));have z:=Aa (Ext.refl own w).drew;have B:=Aa (Ab f (Ab m v));have HU:=Aa hu;clear h m f F L P A H v Q hu;go_enter func176,ntmps176;go_wp2_with(go_at_call 193;refine o.out.mono ?_;rintro e w1⟨rfl,rfl⟩);go_region_held3(fun w'=>w'.cell? ⟨mb,9,N⟩=Z (ptr V.all)∧w'.cell? ⟨b,0,N⟩=Z (I U u)) (go_keep) (first|(go_at_call 243;refine HP.out.mono ?_;rintro e R⟨⟨n,rfl⟩,p,c,d⟩;have k9:=c.c9;have k0:R.cell? ⟨b,0,N⟩=Z (I U u):=Jh c (d.keep B.out.2.1 B.out.2.2) B.out.1 HU.out;have C:=Aa c;have q:=Aa (z.out.trans d);clear c d))
    all_goals
     go_wp2;go_end0;exact⟨rfl,V,p,C.out,q.out,Fx.refl V⟩
   ·rw[Ah A]at a
    rw[show decide (8≤x.word)=rm by simpa using A]at o;have JY:=jl H;by_cases G:x.C9≠0
    ·rw[Ai G]at a
     rw[GK f]at a;have hd:(x.C9 !=0)=true:=by simpa using G
     have S:=Aa (h.is m f 5 (by decide) (by decide));have T:=Aa (EY (x:={x with word:=Hn x.word 5}) (Cz f));have B:=Aa a;have M:=Aa m;clear h m f F L A H v G a;go_enter func176,ntmps176;go_wp2_with(first|(go_at_call 193;refine o.out.mono ?_;rintro e w1⟨rfl,rfl⟩)|(go_at_call 116;refine S.out.mono ?_;rintro e R⟨rfl,p,c,d⟩;have C:=Aa c;have z:=Aa d;clear c d)|(go_at_call 184;refine(C.out.Y6 (z.out.lt M.out (by omega) O.out) T.out B.out).mono ?_;rintro e w3⟨rfl,W,r,g,k,t⟩;have D:=Aa g;have q:=Aa (z.out.trans k);have X:=Aa t;clear g k t));go_end0;exact⟨rfl,W,r,D.out,q.out,X.out⟩
    ·rw[Ah G]at a
     rw[GK f]at a;have hd:(x.C9 !=0)=false:=by simpa using G
     have S:=Aa (h.is m f 2 (by decide) (by decide));have T:=Aa (EY (x:={x with word:=Hn x.word 2}) (Cz f));have B:=Aa a;have M:=Aa (Ab m L);have HJ:=Aa (show(s.CH i {x with word:=Hn x.word 2}).ms[j]?=Z y from F);have HL:=Aa (Cz f);clear h m f F L A H v G a;go_enter func176,ntmps176;go_wp2_with(first|(go_at_call 193;refine o.out.mono ?_;rintro e w1⟨rfl,rfl⟩)|(go_at_call 116;refine S.out.mono ?_;rintro e R⟨rfl,p,c,d⟩;have E:=d.lt M.out.2 (by omega) O.out;have K:=d.lt M.out.1 (by omega) O.out;have l:=c.CW E HJ.out;have x2:=RC l;have x3:=VP l;have x5:=nu l;have ag:=l.free 2;have ah:=l.free 3;have ai:=l.free 5;obtain⟨g,k⟩:=c.jn E HJ.out K T.out;have q:=Aa (d.trans k);have D:=Aa g;clear c d E K l k g)|(go_at_call 247;refine(D.out.Y4 B.out).mono ?_;rintro e w3⟨rfl,W,r,g,k,t⟩;have aa:=Aa g;have ab:=Aa (q.out.trans k);have ad:=Aa t;clear g k t));go_end0;exact⟨rfl,W,r,aa.out,ab.out,ad.out⟩
end
end
section
section
variable {mb:Nat} {V:Vr} {own:Nat→Nat} {w:oZ} {s:St}
variable {w:oZ}
theorem CC.gV(h:CC mb V own w s){p:Nat}(c:p<s.rings.length): ∃a,own a=23+5*V.Gw p∧a<w.heap.size∧ ∀W,Below w.heap.size w W→re prog 50 #[ptr V.procs,I U p] W fun e d=>e= .returned (ptr a)∧d=W:=by obtain⟨f,R,b⟩:=h.rings (by decide);refine⟨(R p).b,b.ob p c,(b.E7.ring p c).lt.1,fun W g=>?_⟩;refine(CV.PO _ f _ R p W (b.E7.below g)).mono ?_;rintro e d⟨rfl,rfl⟩;refine⟨?_,rfl⟩;unfold CV.T4;rw[Ai ⟨by omega,by omega⟩,An]
theorem CC.CU(h:CC mb V own w s){b t:Nat}(c:own b=t)(d:t≠0):b<w.heap.size:=by
 rcases AY b w.heap.size with a|a
 ·exact a
 ·exact absurd ((h.fresh b a).symm.trans c).symm d
theorem DA(n:Nat):Below w.heap.size w (w.drewN n):=⟨rfl,rfl,rfl,Al _,fun _ _=>rfl⟩
theorem DU:Below w.heap.size w w.drew:=⟨rfl,rfl,rfl,Al _,fun _ _=>rfl⟩
theorem CC.Y7(h:CC mb V own w s){xb j:Nat}{y:M1}(c:own xb=22+5*j)(b:s.ms[j]?=Z y)(u:Int):CC mb V own (w.setCell ⟨xb,7,N⟩ (I U u)) (s.CM j {y with looks:=u})∧Ext own w own (w.setCell ⟨xb,7,N⟩ (I U u)):=by have e:=h.CW c b;have a:=h.bZ c b;have d:=oset (Ds xb w) 7 (I U u);have f:=h.xg b;exact⟨h.Nj (i:=j) (Cz b) (by rw[←a];exact d) {y with looks:=u} f (by rw[←a];exact Sz e u),Dx d (by omega)⟩
theorem Ee{C6:Nat→Nat}{w':oZ}{base:Nat}{v:qY}{l:List Int}(h:CF w base v l)(b: ∀j,v.ownBlock=Z j→own j=0) (c:Ext own w C6 w'):CF w' base v l∧ ∀j,v.ownBlock=Z j→C6 j=0:=⟨h.off c.only (fun j a d=>d.1 (b j a)),fun j a=>by rw[c.same j (h.lt j a).2];exact b j a⟩
end
end
section
section
variable {mb:Nat} {V:Vr} {own:Nat→Nat} {w:oZ} {s:St}
variable {w:oZ} {base g cap p:Nat} {r:List Int}
theorem Qm{x:Int}(h:CF w base (Y (Z ⟨g,0,N⟩) (r.length+1) cap) (x::r))(e:cap≠1):DB w (Y (Z ⟨g,1,N⟩) r.length (cap-1)) r:=by
 have c:DB w (Y (Z ⟨g,0,N⟩) (x::r).length cap) (x::r):=DB.Eh h;rcases h.open with⟨d,_⟩|⟨f,a,he,_,_,b,_⟩
 ·cases d
 ·simp only[Ar]at he
  obtain⟨_,_,rfl⟩:=he;have:=c.drop (F6:=cap-1) (n:=r.length) 1 (by simp) (by simp) (by simp at b;omega);simpa using this
theorem Qn{x:Int}(h:CF w base (Y (Z ⟨g,0,N⟩) (r.length+1) 1) (x::r)):r=[]:=by
 rcases h.open with⟨c,_⟩|⟨d,b,he,_,_,a,_⟩
 ·cases c
 ·simp only[Ar]at he
  obtain⟨_,_,rfl⟩:=he;simp at a;exact a
theorem DQ{n:Nat}{x:Int}(h:CF w base (Y (Z ⟨g,0,N⟩) n cap) (x::r)):w.cell? ⟨g,0,N⟩=Z (I U x)∧n=r.length+1∧n≤cap:=by
 rcases h.open with⟨c,_⟩|⟨e,b,he,_,_,a,d⟩
 ·cases c
 ·simp only[Ar,Ak,BF]at he
  obtain⟨⟨rfl,_⟩,rfl,rfl⟩:=he;exact⟨by simpa using d 0 (by simp),by simp,a⟩
theorem Ks(row l:List Int):(Ring.Ia 256 row l).length≤l.length:=by unfold Ring.Ia;split<;>simp
theorem Y8{nx:Int}{row:List Int}(h:row.length≤256):(Ring.IA nx row).length≤257:=by
 unfold Ring.IA Ring.C3;split
 ·split<;>simp
 ·simp;omega
theorem NM{c:Int}{r:Int×St}(b:GZ s p c=Z r)(d:Ring.KQ (D5 s p).CG (D5 s p).row=rm): ∃(s2 a:St)(O:List Int),s2={s with rings:=s.rings.set p ⟨0,Ring.FA (D5 s p).CG (D5 s p).row⟩}∧O=s2.all.take (JF s2)∧a={s2 with all:=s2.all.drop (JF s2)}∧
  (match O with|x::l=>Z (x,NH a p (x::l))| []=>EV p (EH a.rings.length c a.sc.draw) a)=Z r:=by
 refine⟨_,_,_,rfl,rfl,rfl,?_⟩;unfold GZ at b;rw[Ah (by rw[d];decide)]at b;exact b
theorem SG(n self draw:Int):(EH n self draw).length≤1024:=by
 unfold EH FI;refine AE (Ce _ _) ?_;split
 ·simp
 ·exact KG _ _ _
theorem ML{z:Int}{l:List Int}{r:Int×St}(a:EV p (z::l) s=Z r):(0≤z∧z<s.rings.length)∧ ∃(O:List Int)(c:St),O=Ring.IA (D5 s z.toNat).CG (D5 s z.toNat).row∧c={s with rings:=s.rings.set z.toNat ⟨Ring.Ex (D5 s z.toNat).CG (D5 s z.toNat).row,Ring.EM (D5 s z.toNat).row⟩}∧
  ((O=[]∧EV p l c=Z r)∨ ∃y m,O=y::m∧(y,NH c p (y::m))=r):=by
 unfold EV at a;replace a:=CQ a;refine⟨a.1,_,_,rfl,rfl,?_⟩;have b:=a.2;cases d:Ring.IA (D5 s z.toNat).CG (D5 s z.toNat).row with
 |nil=>rw[d]at b;exact .inl ⟨rfl,b⟩
 |cons y m=>rw[d]at b;exact .inr ⟨y,m,rfl,by simpa using b⟩
structure Qo (mb:Nat) (V:Vr) (own:Nat→Nat) (w:oZ) (rb k:Nat) (bL:Nat) (vL:qY) (L:List Int) (r:Int×St) (q:Nat) (ox:Nat→Nat) (sx:St) (wr:oZ):Prop where
 jo:q≤L.length
 ll:L.length≤1024
 Gx:CC mb V ox wr sx
 ext:Ext own w ox wr
 kG:ox rb=23+5*V.Gw k∧rb<wr.heap.size
 kl:k<sx.rings.length
 al:sx.all.length<1000000
 F0:CF wr bL vL L
 tg: ∀j,vL.ownBlock=Z j→ox j=0
 st:EV k (L.drop q) sx=Z r
def jq(mb:Nat)(V:Vr)(own:Nat→Nat)(w:oZ)(rb k:Nat)(a:Nat)(b:qY)(L:List Int)(r:Int×St)(t:qY)(wr:oZ):Prop:= ∃(q:Nat)(ox:Nat→Nat)(c:St),t=I U q∧Qo mb V own w rb k a b L r q ox c wr
theorem CC.found(h:CC mb V own w s){xb j:Nat}{r:Int}{s':St}(hx:own xb=22+5*j)(d:G0 s j=Z (r,s')):re prog 175 #[ptr mb,ptr xb] w (FY mb V own w (I U r) s'):=by
 unfold G0 at d;cases A:s.ms[j]? with
 |none=>rw[A]at d;cases d
 |some y=>
  rw[A]at d;dsimp only at d;replace d:=CQ d;obtain⟨⟨E,h1,h2⟩,d⟩:=d;have hB:=h.CW hx A;have x7:=pS hB;have f7:=hB.free 7;have dm:=h.gT hx;generalize dn:wrap64 (y.looks+1)=lk at*
  obtain⟨P,hE⟩:=h.Y7 hx A lk;have br:=I6 (y:={y with looks:=lk}) (Cz A);obtain⟨Q,bb⟩: ∃Q,Q=s.CM j {y with looks:=lk}:=⟨_,rfl⟩;rw[←bb]at P d br;have bm:s.all=Q.all:=by rw[bb];rfl
  rw[bm]at d h2;obtain⟨k,hk⟩: ∃k:Nat,y.p=k:=⟨y.p.toNat,by omega⟩;have ca:k<Q.rings.length:=by rw[bb];show k<s.rings.length;omega
  rw[hk,An]at d;have HX:=Aa (Ab hx (Ab br (Ab hk (Ab ca h2))));have HF:=Aa h.fresh;have eh:=Aa hB.lt;have c9:=P.c9;have ei:=Aa dn;clear hB A br bb E h1 bm hk ca hx h;obtain⟨m1,m2⟩:=dm;by_cases hl:lk.tmod 4=0
  case' pos=>
   have hd:(lk.tmod 4==0)=true:=by simpa using hl
   cases ha:Q.all
   case cons x0 rest=>rw[Ai ⟨hl,by rw[ha];rfl⟩,ha]at d;simp only[Ak,AM,List.headD_cons,List.tail_cons]at d;obtain⟨rfl,rfl⟩:=d;have HG:=Aa (P.lq (by omega));rw[ha]at HG;have HE:=Aa hE;clear P hE ha hl h2;go_enter func175,ntmps175;go_wp2_with(go_at_call 240;refine HG.out.mono ?_;rintro e w1⟨rfl,o1,au,aq⟩;have dp:=Aa au;have av:=Aa (HE.out.trans aq);clear au aq);go_ret;exact⟨rfl,V,o1,dp.out,av.out,Fx.refl V⟩
   case' nil=>
    rw[Ah (by rw[ha];simp)]at d;have HG:=Aa (P.lq (by omega));rw[ha]at HG;have e1:({Q with all:=([]:List Int).tail}:St)=Q:=by rw[List.tail_nil,←ha]
    rw[e1]at HG;have HE:=Aa hE;have HS:=Aa d;clear P hE ha hl h2 e1 d;go_enter func175,ntmps175;go_wp2_with fail;refine HG.out.mono ?_;rintro e w1⟨rfl,o1,au,aq⟩;have bs:=Aa (aq.lt HX.out.1 (by omega) (by intro j A;exact HF.out j (AE HE.out.only.size A)));have HR:=Aa au;have av:=Aa (HE.out.trans aq);clear au aq c9 x7 f7 HG
  case' neg=>
   have hd:(lk.tmod 4==0)=false:=by simpa using hl
   have bt:(if lk.tmod 4=0∧Q.all.isEmpty=rm then Z (Q.all.headD 0,({Q with all:=Q.all.tail}:St))else GZ Q k k)=Z (r,s'):=d
   rw[Ah (fun hh=>hl hh.1)]at bt;have HS:=Aa bt;have HR:=Aa P;have av:=Aa hE;have bs:=Aa HX.out.1;clear P hE hl d bt c9 h2;go_enter func175,ntmps175;go_wp2;clear x7 f7;generalize w.setCell ⟨xb,7,N⟩ (I U lk)=w1 at*
  all_goals
   obtain⟨rb,bu,cb,aw⟩:=HR.out.gV HX.out.2.2.2.1;have cc:=Aa (Ab bu cb);have cd:=Aa (fun m=>aw _ (DA m));have c0:=HR.out.c0;have x1:=Lz (HR.out.CW bs.out HX.out.2.1);dsimp only at x1;rw[HX.out.2.2.1]at x1;have H:=Aa (fun m=>(HR.out.drewN m).oc HX.out.2.2.2.1 bu);clear bu cb aw;cases ar:Ring.KQ (D5 Q k).CG (D5 Q k).row with
   |true=>
    have d:=HS.out;unfold GZ at d;rw[Ai ar]at d;simp only[Ak,AM]at d;obtain⟨rfl,rfl⟩:=d;rw[ar]at H;clear ar;try go_wp2
    go_quiet((go_at_call 50;exact BG (cd.out _)))
    go_wp2_with(go_at_call 241;refine(H.out _).mono ?_;rintro e w2⟨rfl,o2,ax,R⟩;have K:=Aa ax;have bw:=Aa ((av.out.drewN _).trans R);clear ax R);go_ret;exact⟨rfl,V,o2,K.out,bw.out,Fx.refl V⟩
   |false=>
    obtain⟨s2,S,O,ay,hO,hQ,d⟩:=NM HS.out ar;rw[ar]at H;have cf:k<s2.rings.length:=by rw[ay];show k<(Q.rings.set k _).length;rw[AV];exact HX.out.2.2.2.1
    have ch:s2.all.length<100000:=by rw[ay];exact HX.out.2.2.2.2
    have cj:s2.ms[j]?=Z {y with looks:=lk}:=by rw[ay];exact HX.out.2.1
    rw[←ay]at H;have az:=Aa (Ab cf (Ab ch cj));clear ar ay cf ch cj HS;have ck:=Aa hO;have cl:=Aa hQ;have cm:=Aa d;clear hO hQ d;try go_wp2
    go_quiet((go_at_call 50;exact BG (cd.out _)))
    go_wp2_with(go_at_call 241;refine(H.out _).mono ?_;rintro e w2⟨rfl,o2,ax,R⟩;have K:=Aa ax;have cn:=Aa (R.lt bs.out (by omega) (HR.out.drewN nq).fresh);have cp:=Aa (R.keep cc.out.1 cc.out.2);have bw:=Aa ((av.out.drewN _).trans R);clear ax R);clear c0 x1;have c0:=K.out.c0;have c9:=K.out.c9;have cq:=Aa (fun m=>(K.out.drewN m).NG);have bz:Hid (∀m,re prog 242 #[ptr V.all,I U s2.rings.length,I U 128] (w2.drewN m) (ME mb V o2 (w2.drewN m) (s2.all.take (JF s2)) {s2 with all:=s2.all.drop (JF s2)})):=fun m=>(K.out.drewN m).jd s2.rings.length 128 (by have:=az.out.2.1;omega);have hO:=ck.out;have hQ:=cl.out;have d:=cm.out;clear ck cl cm;have cr:O.length≤s2.all.length:=by rw[hO,AN];omega
    have ct:k<S.rings.length:=by rw[hQ];exact az.out.1
    have cu:S.all.length<1000000:=by rw[hQ];show(s2.all.drop _).length<_;rw[BW];have:=az.out.2.1;omega
    have cv:S.ms[j]?=Z {y with looks:=lk}:=by rw[hQ];exact az.out.2.2
    rw[←hO,←hQ]at bz;have T:=Aa (Ab ct (Ab cu (Ab cr cv)));clear hO hQ cr ct cu cv;go_region_held3(fun B=>B.cell? ⟨mb,9,N⟩=Z (ptr V.all)∧B.cell? ⟨mb,0,N⟩=Z (ptr V.procs)) (go_keep) (first|(go_at_call 57;refine(cq.out 1).mono ?_;rintro e w3⟨rfl,rfl⟩)|(go_at_call 242;refine(bz.out 1).mono ?_;rintro e w3⟨v,rfl,hv,o3,bc,bd,cw⟩;obtain⟨va,vc,rfl⟩:=CY.Dh hv;have k9:=bc.c9;have k0:=bc.c0;have C:=Aa bc;have cx:=Aa (Ab hv cw);have bn:=Aa (bd.lt cn.out (by omega) (K.out.drewN 1).fresh);have ak:=Aa (bd.lt cp.out (by omega) (K.out.drewN 1).fresh);have HEq:=Aa ((bw.out.drewN 1).trans bd);clear hv bc bd cw))
    all_goals
     clear c0 c9 cq bz k9 k0;cases O with
     |cons x0 rest=>
      simp only[Ak,AM]at d;obtain⟨rfl,rfl⟩:=d;obtain⟨g,b0⟩: ∃g,va=Z ⟨g,0,N⟩:=by
       rcases cx.out.1.open with⟨E,X⟩|⟨g,cap,E,_⟩
       ·cases X
       ·simp only[Ar]at E;exact⟨g,E.1⟩
      subst b0;have F:=cx;have aa:=Aa (Ab T.out.1 (Ab T.out.2.1 (show rest.length<1000000 by have h1:=T.out.2.2.1;have h2:=az.out.2.1;simp at h1;omega)));simp only[AB]at*
      go_wp2;have c9:=C.out.c9;have dt:=(DQ F.out.1).1;have du:=(DQ F.out.1).2.2;by_cases M:vc=1
      ·subst M
       have b1:=Qn F.out.1;subst b1;simp only[AF,AO]at*
       have ab:=Aa (fun m=>(C.out.drewN m).Uf aa.out.1 ak.out (Y (Z ⟨g,0,N⟩) 0 0) [] (DB.TO _ _ _) (fun b2=>absurd rfl b2) (by simp));go_region_held3(fun B=>B.cell? ⟨mb,9,N⟩=Z (ptr V.all)∧B.cell? ⟨g,0,N⟩=Z (I U x0)) (go_keep) (first|(go_at_call 244;refine(ab.out 1).mono ?_;rintro e w4⟨v4,rfl,n,o4,b,f,o⟩;have k9:=b.c9;have i:=Ee (F.out.1.drewN 1) F.out.2 f;have kg:=(DQ i.1).1;have ad:=Aa b;have G:=Aa ((HEq.out.drewN 1).trans f);have p:=Aa (Ab n o);have u:=Aa i;clear b f n o i)|(go_at_call 243;refine(ad.out.VL _ _ (DB.Eh p.out.1) (fun _ j A e=>by rw[p.out.2 j A]at e;cases e) (by have h1:=aa.out.2.1;have h2:=aa.out.2.2;have h3:=Ks (D5 S k).row [];show S.all.length+_<_;(try simp only[AF]at h3);omega)).mono ?_;rintro e w5⟨rfl,o5,c,a⟩;have k9:=c.c9;have x:=Ee u.out.1 u.out.2 a;have kg:=(DQ x.1).1;have ae:=Aa c;have af:=Aa (G.out.trans a);clear c a x))
       all_goals
        go_wp2;go_ret;exact⟨rfl,V,o5,ae.out,af.out,Fx.refl V⟩
      ·have dv:(1:Int)≤(vc:Int):=by omega
       have dw:(1:Int)≤(rest.length:Int)+1:=by omega
       have dx:(rest.length:Int)+1≤(vc:Int):=by omega
       have ab:=Aa (fun m=>(C.out.drewN m).Uf aa.out.1 ak.out (Y (Z ⟨g,1,N⟩) rest.length (vc-1)) rest ((Qm F.out.1 M).drewN m) (fun _ j A=>F.out.2 j A) aa.out.2.2);go_region_held3(fun B=>B.cell? ⟨mb,9,N⟩=Z (ptr V.all)∧B.cell? ⟨g,0,N⟩=Z (I U x0)) (go_keep) (first|(go_at_call 244;refine(ab.out 1).mono ?_;rintro e w4⟨v4,rfl,n,o4,b,f,o⟩;have k9:=b.c9;have i:=Ee (F.out.1.drewN 1) F.out.2 f;have kg:=(DQ i.1).1;have ad:=Aa b;have G:=Aa ((HEq.out.drewN 1).trans f);have p:=Aa (Ab n o);have u:=Aa i;clear b f n o i)|(go_at_call 243;refine(ad.out.VL _ _ (DB.Eh p.out.1) (fun _ j A e=>by rw[p.out.2 j A]at e;cases e) (by have h1:=aa.out.2.1;have h2:=aa.out.2.2;have h3:=Ks (D5 S k).row rest;show S.all.length+_<_;(try simp only[AF]at h3);omega)).mono ?_;rintro e w5⟨rfl,o5,c,a⟩;have k9:=c.c9;have x:=Ee u.out.1 u.out.2 a;have kg:=(DQ x.1).1;have ae:=Aa c;have af:=Aa (G.out.trans a);clear c a x))
       all_goals
        go_wp2;go_ret;exact⟨rfl,V,o5,ae.out,af.out,Fx.refl V⟩
     |nil=>
      dsimp only at d;obtain⟨L,hL⟩: ∃L,EH S.rings.length k S.sc.draw=L:=⟨_,rfl⟩;rw[hL]at d;have dy:Hid (∀W,re prog 245 #[I U S.rings.length,I U k,I U S.sc.draw] W (Sd.D9 L W)):=fun W=>hL▸P0.Sn _ _ _ W;have dz:=Aa d;have ea:Hid (L.length≤1024):=hL▸SG _ _ _;have c0:=C.out.c0;have gS:=C.out.gS;have x1:=Lz (C.out.CW bn.out T.out.2.2.2);dsimp only at x1;rw[HX.out.2.2.1]at x1;have cy:=Aa (fun m=>(C.out.drewN m).NG);clear d hL;simp only[AF]at*
      go_wp2;go_region_held3(fun B=>B.cell? ⟨mb,0,N⟩=Z (ptr V.procs)∧B.cell? ⟨mb,16,N⟩=Z (I U S.sc.draw)∧B.cell? ⟨xb,1,N⟩=Z (I U k)) (go_keep) (first|(go_at_call 57;refine(cy.out 1).mono ?_;rintro e w4⟨rfl,rfl⟩)|(go_at_call 245;refine(dy.out _).mono ?_;rintro e w4⟨vL,rfl,bf,bg⟩;obtain⟨la,lc,rfl⟩:=CY.Dh bf;have b:CC mb V o3 w4 S:=(C.out.drewN 1).below bg;have k0:=b.c0;have ny:=b.gS;have kx:=Lz (b.CW bn.out T.out.2.2.2);dsimp only at kx;rw[HX.out.2.2.1]at kx;have G:=Lib.hid ((HEq.out.drewN 1).trans (Ext.below bg));have cz:Hid (Qo mb V own w rb k (w3.drewN 1).heap.size (.slice la L.length lc) L (r,s') 0 o3 S w4):=⟨Nat.zero_le _,ea.out,b,G.out,⟨ak.out,Nat.lt_of_lt_of_le (C.out.CU ak.out (by omega)) bg.size⟩,T.out.1,T.out.2.1,bf,fun j A=>(C.out.drewN 1).fresh j (bf.lt j A).1,dz.out⟩;clear bf bg b))
      all_goals
       clear c0 gS x1 k0 ny kx;go_wp2;go_loopw [94] (fun t wr=>jq mb V own w rb k (w3.drewN 1).heap.size (.slice la L.length lc) L (r,s') t wr) (fun t _=>L.length-(intOf t).toNat)
       case atStart=>exact⟨0,o3,S,rfl,cz.out⟩
       case round=>
        obtain⟨q,ox,sx,rfl,hrel⟩:=hrel;have P:=hrel.Gx;have eb:=hrel.ll;by_cases ag:q<L.length
        ·obtain⟨gl,hle⟩: ∃gl,la=Z ⟨gl,0,N⟩:=by
          rcases hrel.F0.open with⟨E,X⟩|⟨gl,cap,E,_⟩
          ·rw[X]at ag;simp at ag
          ·simp only[Ar]at E;exact⟨gl,E.1⟩
         subst hle;obtain⟨_,_,_,_,_,_,ec⟩:=(hrel.F0.open).resolve_left (fun E=>by cases E.1);have b3:wr.cell? ⟨gl,q,N⟩=Z (I U (L[q]?.getD 0)):=by
          rcases hrel.F0.open with⟨E,X⟩|⟨g2,cap,E,_,_,_,hc⟩
          ·rw[X]at ag;simp at ag
          ·simp only[Ar,Ak,BF]at E
           rw[E.1.1];exact hc q ag
         clear ec;have ah:=hrel.st;rw[A0 ag]at ah;have c2:L[q]?.getD 0=L[q]:=by rw[Ae ag];rfl
         rw[c2]at b3;generalize L[q]=z at*
         clear c2;obtain⟨⟨z0,zl⟩,O2,sS,b4,a1,bo⟩:=ML ah;obtain⟨kz,rfl⟩: ∃kz:Nat,z=kz:=⟨z.toNat,by omega⟩;rw[An]at b4 a1;have bh:kz<sx.rings.length:=by omega
         obtain⟨rz,dc,df,aw⟩:=P.gV bh;have bp:Hid (re prog 50 #[ptr V.procs,I U kz] wr fun e B=>e= .returned (ptr rz)∧wr=B):=(aw wr (Below.refl _ _)).mono (fun e B h=>⟨h.1,h.2.symm⟩);have bj:=Aa (P.lv bh dc);have b5:=Y8 (nx:=(D5 sx kz).CG) (P.Y5 bh).1;rw[←b4]at bj b5;rw[←a1]at bj;have dh:k<sS.rings.length:=by rw[a1];show k<(sx.rings.set kz _).length;rw[AV];exact hrel.kl
         have has:sS.all.length<1000000:=by rw[a1];exact hrel.al
         have a6:=Aa (Ab dh (Ab has b5));have D:=Aa hrel;have c0:=P.c0;have ej:(q:Int)<(L.length:Int):=by omega
         have b7:=Aa bo;have di:=Aa (hrel.ext);clear ah bo b4 a1 dh has hrel dc df aw P z0 zl bh b5;rcases b7.out with⟨b8,h3⟩|⟨x0,rest,b8,h3⟩
         ·subst b8
          have ed:=Aa h3;clear h3 b7;go_wp2_with(first|(go_at_call 50;refine bp.out.mono ?_;rintro e w5⟨rfl,rfl⟩)|(go_at_call 246;refine bj.out.mono ?_;rintro e w5⟨v5,rfl,ai,o5,c,a,a7⟩;obtain⟨dk,vs,rfl⟩:=CY.Dh ai;have a8:=Aa c;have l:=Aa (Ab ai a7);have ba:=Ee D.out.F0 D.out.tg a;have b9:=Aa ba;have ao:=Aa (a.keep D.out.kG.1 D.out.kG.2);have bq:=Aa (Am D.out.kG.2 a.only.size);have bk:=Aa (di.out.trans a);clear ai c a a7 ba;simp only[AF]));go_roundw
          case rel=>exact⟨q+1,o5,sS,by go_num,⟨by omega,eb,a8.out,bk.out,⟨ao.out,bq.out⟩,a6.out.1,a6.out.2.1,b9.out.1,b9.out.2,ed.out⟩⟩
          case measure=>simp[intOf];omega
         ·subst b8
          simp only[AM]at h3;obtain⟨rfl,rfl⟩:=h3;clear b7;have ek:(0:Int)<(rest.length:Int)+1:=by omega
          have eo:decide ((0:Int)<(rest.length:Int)+1)=true:=by rw[Bc];omega
          go_wp2_with(first|(go_at_call 50;refine bp.out.mono ?_;rintro e w5⟨rfl,rfl⟩)|(go_at_call 246;refine bj.out.mono ?_;rintro e w5⟨v5,rfl,ai,o5,c,a,a7⟩;obtain⟨dk,vs,rfl⟩:=CY.Dh ai;have a8:=Aa c;have l:=Aa (Ab ai a7);have ba:=Ee D.out.F0 D.out.tg a;have b9:=Aa ba;have ao:=Aa (a.keep D.out.kG.1 D.out.kG.2);have bq:=Aa (Am D.out.kG.2 a.only.size);have bk:=Aa (di.out.trans a);clear ai c a a7 ba;simp only[AB]));obtain⟨g,b0⟩: ∃g,dk=Z ⟨g,0,N⟩:=by
           rcases l.out.1.open with⟨E,X⟩|⟨g,cap,E,_⟩
           ·cases X
           ·simp only[Ar]at E;exact⟨g,E.1⟩
          subst b0;have aj:=Aa (Ab a6.out.1 (Ab a6.out.2.1 (show rest.length<1000000 by have h1:=a6.out.2.2;simp at h1;omega)));simp only[AB]at l;have c9:=a8.out.c9;have dt:=(DQ l.out.1).1;have du:=(DQ l.out.1).2.2;by_cases M:vs=1
          ·subst M
           have b1:=Qn l.out.1;subst b1;simp only[AF,AO]at*
           have ab:=Aa (fun m=>(a8.out.drewN m).Uf aj.out.1 ao.out (Y (Z ⟨g,0,N⟩) 0 0) [] (DB.TO _ _ _) (fun b2=>absurd rfl b2) (by simp));go_region_held3(fun B=>B.cell? ⟨mb,9,N⟩=Z (ptr V.all)∧B.cell? ⟨g,0,N⟩=Z (I U x0)) (go_keep) (first|(go_at_call 244;refine(ab.out 1).mono ?_;rintro e w6⟨v4,rfl,n,o6,b,f,o⟩;have k9:=b.c9;have i:=Ee (l.out.1.drewN 1) l.out.2 f;have kg:=(DQ i.1).1;have ad:=Aa b;have G:=Aa ((bk.out.drewN 1).trans f);have p:=Aa (Ab n o);have u:=Aa i;clear b f n o i)|(go_at_call 243;refine(ad.out.VL _ _ (DB.Eh p.out.1) (fun _ j A e=>by rw[p.out.2 j A]at e;cases e) (by have h1:=aj.out.2.1;have h2:=aj.out.2.2;have h3:=Ks (D5 sS k).row [];show sS.all.length+_<_;(try simp only[AF]at h3);omega)).mono ?_;rintro e w7⟨rfl,o7,c,a⟩;have k9:=c.c9;have x:=Ee u.out.1 u.out.2 a;have kg:=(DQ x.1).1;have ae:=Aa c;have af:=Aa (G.out.trans a);clear c a x))
           all_goals
            go_wp2;go_ret;exact⟨rfl,V,o7,ae.out,af.out,Fx.refl V⟩
          ·have dv:(1:Int)≤(vs:Int):=by omega
           have dw:(1:Int)≤(rest.length:Int)+1:=by omega
           have dx:(rest.length:Int)+1≤(vs:Int):=by omega
           have ab:=Aa (fun m=>(a8.out.drewN m).Uf aj.out.1 ao.out (Y (Z ⟨g,1,N⟩) rest.length (vs-1)) rest ((Qm l.out.1 M).drewN m) (fun _ j A=>l.out.2 j A) aj.out.2.2);go_region_held3(fun B=>B.cell? ⟨mb,9,N⟩=Z (ptr V.all)∧B.cell? ⟨g,0,N⟩=Z (I U x0)) (go_keep) (first|(go_at_call 244;refine(ab.out 1).mono ?_;rintro e w6⟨v4,rfl,n,o6,b,f,o⟩;have k9:=b.c9;have i:=Ee (l.out.1.drewN 1) l.out.2 f;have kg:=(DQ i.1).1;have ad:=Aa b;have G:=Aa ((bk.out.drewN 1).trans f);have p:=Aa (Ab n o);have u:=Aa i;clear b f n o i)|(go_at_call 243;refine(ad.out.VL _ _ (DB.Eh p.out.1) (fun _ j A e=>by rw[p.out.2 j A]at e;cases e) (by have h1:=aj.out.2.1;have h2:=aj.out.2.2;have h3:=Ks (D5 sS k).row rest;show sS.all.length+_<_;(try simp only[AF]at h3);omega)).mono ?_;rintro e w7⟨rfl,o7,c,a⟩;have k9:=c.c9;have x:=Ee u.out.1 u.out.2 a;have kg:=(DQ x.1).1;have ae:=Aa c;have af:=Aa (G.out.trans a);clear c a x))
           all_goals
            go_wp2;go_ret;exact⟨rfl,V,o7,ae.out,af.out,Fx.refl V⟩
        ·have hq:q=L.length:=by have:=hrel.jo;omega
         have ah:=hrel.st;rw[hq,Zat]at ah;simp only[EV,Ak,AM]at ah;obtain⟨rfl,rfl⟩:=ah;have ee:=Aa P;have ef:=Aa hrel.ext;clear P hrel;subst hq;go_wp2;go_ret;exact⟨rfl,V,ox,ee.out,ef.out,Fx.refl V⟩
end
end
section
section
variable {mb:Nat} {V:Vr} {own:Nat→Nat} {w:oZ} {s:St}
variable {xb j:Nat}
theorem CC.L2(h:CC mb V own w s)(u:Int):CC mb V own (w.setCell ⟨mb,19,N⟩ (I U u)) (s.CO {s.sc with wait:=u})∧Ext own w own (w.setCell ⟨mb,19,N⟩ (I U u)):=h.LA (oset (Ds mb w) 19 (I U u)) _ h.hold (NK h.D2 u)
theorem CC.Y9(h:CC mb V own w s){y:M1}{p:Int}(a:own xb=22+5*j)(b:s.ms[j]?=Z y)(c:y.p=p):w.cell? ⟨xb,1,N⟩=Z (I U p):=by rw[←c];exact Lz (h.CW a b)
theorem Qp{p:Nat}: ∀(l:List Int){s:St}{r:Int×St},EV p l s=Z r→r.2.ms=s.ms
 | [],s,r,h=>by simp only[EV,Ak]at h;rw[←h]
 |z::l,s,r,h=>by
  obtain⟨_,O,c,_,b,a|⟨y,m,_,a⟩⟩:=ML h
  ·rw[Qp l a.2,b]
  ·rw[←a];show c.ms=s.ms;rw[b]
theorem Za{y:M1}{r:Int×St}(h:G0 s j=Z r)(c:s.ms[j]?=Z y): ∃d,r.2.ms[j]?=Z d∧d.p=y.p:=by
 unfold G0 at h;rw[c]at h;dsimp only at h;replace h:=(CQ h).2;have hm:=I6 (y:={y with looks:=wrap64 (y.looks+1)}) (Cz c);split at h
 ·simp only[Ak]at h
  rw[←h];exact⟨_,hm,rfl⟩
 ·cases e:Ring.KQ (D5 (s.CM j {y with looks:=wrap64 (y.looks+1)}) y.p.toNat).CG (D5 (s.CM j {y with looks:=wrap64 (y.looks+1)}) y.p.toNat).row with
  |true=>unfold GZ at h;rw[Ai e]at h;simp only[Ak]at h;rw[←h];exact⟨_,hm,rfl⟩
  |false=>
   obtain⟨s2,f,O,g,k,i,b⟩:=NM h e;have a:f.ms[j]?=Z {y with looks:=wrap64 (y.looks+1)}:=by rw[i,g];exact hm
   cases O with
   |nil=>exact⟨{y with looks:=wrap64 (y.looks+1)},by rw[Qp _ b];exact a,rfl⟩
   |cons x l=>simp only[Ak]at b;rw[←b];exact⟨_,a,rfl⟩
theorem CC.look(h:CC mb V own w s){s':St}(hx:own xb=22+5*j)(b:Kj s j=Z s'):re prog 117 #[ptr mb,ptr xb] w (FY mb V own w unit s'):=by
 unfold Kj at b;cases hj:s.ms[j]? with
 |none=>rw[hj]at b;cases b
 |some y=>
  rw[hj]at b;dsimp only at b;replace b:=CQ b;obtain⟨h0,b⟩:=b;obtain⟨k,Q⟩: ∃k:Nat,y.p=k:=⟨y.p.toNat,by omega⟩;rw[Q,An]at b;cases ha:s.asked[k]? with
  |none=>rw[ha]at b;cases b
  |some a=>
   rw[ha]at b;dsimp only at b;obtain⟨g,cap,hv,hg,n3,n4,bf,a0,a1,a2,f0,f1,f2⟩:=h.ask ha;have x1:=h.Y9 hx hj Q;have c7:=h.c7;rw[hv]at c7;have q:(k:Int)<(s.asked.length:Int):=by have:=Cz ha;omega
   have H:=Aa (Ab hx (Ab hj (Ab Q (h.CW hx hj).lt)));have HF:=Aa h.fresh;have JY:=h.JY;have HH:=Aa h;clear a0 a2 f0 f1 f2 hv ha hj hx h0;cases hb:a.Eg with
   |true=>
    rw[hb]at b a1;simp only[BM]at b;have K:=Aa (fun m=>(HH.out.drewN m).serve b);clear hb b h Q;go_enter func117,ntmps117;go_wp2;go_quiet(fail)
    go_wp2_with(go_at_call 171;refine(K.out _).mono ?_;rintro e W⟨rfl,o1,c,d⟩;have f:=Aa c;have u:=Aa (((Ext.refl own w).drewN _).trans d);clear c d);go_end0;exact⟨rfl,V,o1,f.out,u.out,Fx.refl V⟩
   |false=>
    rw[hb]at b a1;simp only[B6,BH]at b;cases C:s.sc.Cy with
    |true=>
     rw[C]at b JY;simp only[BM]at b;have R:=Aa (fun m=>(HH.out.drewN m).Qb k);have c8:=HH.out.c8;have K:=Aa b;obtain⟨s1,L⟩: ∃s1,s1=DM s k:=⟨_,rfl⟩;have r:s1.ms[j]?=Z y:=by rw[L];exact H.out.2.1
     obtain⟨s2,p⟩: ∃s2,s2=E8 s1 k:=⟨_,rfl⟩;have A:s2.ms[j]?=Z y:=by rw[p];exact r
     have ai:Gc (s2.CO {s2.sc with wait:=wrap64 (s2.sc.wait-1)}) j=Z s':=by rw[p,L];exact K.out
     have X:Hid (∀m,re prog 172 #[ptr V.stat,I U k] (w.drewN m) (Da mb V own (w.drewN m) (I U (Cw.Ed s.stat k (fun s wh=>s==1))) s1)):=by rw[L];exact R.out
     have S:({s1 with stat:=Cw.Di s1.stat k Cw.H5 (fun s wh=>Cw.FN s)}:St)=s2:=p.symm;have t:=Aa (Ab r (Ab A (Ab ai S)));clear b L r p A ai S C hb h Q K R;go_enter func117,ntmps117;go_wp2;go_quiet(fail)
     go_wp2;go_region_held3(fun D=>D.cell? ⟨mb,8,N⟩=Z (ptr V.stat)∧D.cell? ⟨xb,1,N⟩=Z (I U k)) (go_keep) (first|(go_at_call 172;refine(X.out (nq+1)).mono ?_;rintro e W⟨rfl,o1,c,d⟩;have k8:=c.c8;have aa:=d.lt H.out.1 (by omega) HF.out;have kx:=c.Y9 aa t.out.1 H.out.2.2.1;have f:=Aa c;have v:=Aa aa;have u:=Aa (((Ext.refl own w).drewN _).trans d);clear c d aa))
     all_goals
      have aw:Hid (∀m,re prog 173 #[ptr V.stat,I U k] (W.drewN m) (Da mb V o1 (W.drewN m) (I U (Cw.Ed s1.stat k (fun s wh=>Cw.FN s))) s2)):=fun m=>by have:=(f.out.drewN m).Qc k;rwa [t.out.2.2.2]at this
      clear k8 kx a1 c7 c8 JY x1;have c8:=f.out.c8;have x1:=f.out.Y9 v.out t.out.1 H.out.2.2.1;go_wp2;go_region_held3(fun D=>D.cell? ⟨mb,8,N⟩=Z (ptr V.stat)∧D.cell? ⟨xb,1,N⟩=Z (I U k)) (go_keep) (first|(go_at_call 173;refine(aw.out 1).mono ?_;rintro e w2⟨rfl,o2,l,n⟩;have k8:=l.c8;have x:=n.lt v.out (by omega) (f.out.drewN 1).fresh;have kx:=l.Y9 x t.out.2.1 H.out.2.2.1;have o:=Aa l;have M:=Aa x;have E:=Aa ((u.out.drewN 1).trans n);clear l n x))
      all_goals
       have VO:=o.out.VO;have f19:=o.out.EX 19;obtain⟨R3,E3⟩:=o.out.L2 (wrap64 (s2.sc.wait-1));have ax:=Aa (R3.VU M.out t.out.2.2.1);have ab:=Aa (E.out.trans E3);clear R3 E3 k8 kx;go_wp2_with(go_at_call 174;refine ax.out.mono ?_;rintro e w3⟨rfl,o3,z,F⟩;have ad:=Aa z;have ae:=Aa (ab.out.trans F);clear z F);go_end0;exact⟨rfl,V,o3,ad.out,ae.out,Fx.refl V⟩
    |false=>
     rw[C]at b JY;simp only[B6,BH]at b;cases B:G0 s j with
     |none=>rw[B]at b;cases b
     |some rs=>
      obtain⟨id,s1⟩:=rs;rw[B]at b;dsimp only at b;have aj:=Aa (fun m=>(HH.out.drewN m).found H.out.1 B);have ay:=Za B H.out.2.1;obtain⟨y1,r,O⟩:=ay;rw[Q]at O;by_cases hid:id=0
      ·rw[Ai hid]at b
       obtain⟨s2,p⟩: ∃s2,s2=DM s1 k:=⟨_,rfl⟩;have A:s2.ms[j]?=Z y1:=by rw[p];exact r
       rw[←p]at b;obtain⟨s3,P⟩: ∃s3,s3=({s2 with CB:=Idle.Ig 256 s2.CB k}:St):=⟨_,rfl⟩;rw[←P]at b;have ak:s3.ms[j]?=Z y1:=by rw[P];exact A
       have hd:(id==0)=true:=by simpa using hid
       have t:=Aa (Ab r (Ab A (Ab ak (Ab p (Ab P (Ab b O))))));clear b p P r A ak hid B C hb h O Q;go_enter func117,ntmps117;go_wp2;go_quiet(fail)
       go_wp2_with(go_at_call 175;refine(aj.out _).mono ?_;rintro e W⟨rfl,T,o1,c,d,G⟩;have f:=Aa c;have v:=Aa (d.lt H.out.1 (by omega) HF.out);have u:=Aa (((Ext.refl own w).drewN _).trans d);have af:=Aa G;clear c d G);have az:Hid (∀m,re prog 172 #[ptr T.stat,I U k] (W.drewN m) (Da mb T o1 (W.drewN m) (I U (Cw.Ed s1.stat k (fun s wh=>s==1))) s2)):=fun m=>by have:=(f.out.drewN m).Qb k;rw[t.out.2.2.2.1];exact this
       clear JY c7 x1 a1;have c8:=f.out.c8;have x1:=f.out.Y9 v.out t.out.1 t.out.2.2.2.2.2.2;go_region_held3(fun D=>D.cell? ⟨mb,8,N⟩=Z (ptr T.stat)∧D.cell? ⟨xb,1,N⟩=Z (I U k)) (go_keep) (first|(go_at_call 172;refine(az.out 1).mono ?_;rintro e w2⟨rfl,o2,l,n⟩;have k8:=l.c8;have x:=n.lt v.out (by omega) (f.out.drewN 1).fresh;have kx:=l.Y9 x t.out.2.1 t.out.2.2.2.2.2.2;have o:=Aa l;have M:=Aa x;have E:=Aa ((u.out.drewN 1).trans n);clear l n x))
       all_goals
        have a6:Hid (∀m,re prog 48 #[ptr T.FC,I U k] (w2.drewN m) (Da mb T o2 (w2.drewN m) (ry (Idle.Yw 256 s2.CB k)) s3)):=fun m=>by have:=(o.out.drewN m).je k;rw[t.out.2.2.2.2.1];exact this
        clear c8 x1 k8 kx;have RA:=o.out.RA;have x1:=o.out.Y9 M.out t.out.2.1 t.out.2.2.2.2.2.2;go_wp2;go_region_held3(fun D=>D.cell? ⟨mb,11,N⟩=Z (ptr T.FC)∧D.cell? ⟨xb,1,N⟩=Z (I U k)) (go_keep) (first|(go_at_call 48;refine(a6.out 1).mono ?_;rintro e w3⟨rfl,o3,z,ag⟩;have X5:=z.RA;have ah:=ag.lt M.out (by omega) (o.out.drewN 1).fresh;have kx:=z.Y9 ah t.out.2.2.1 t.out.2.2.2.2.2.2;have ad:=Aa z;have a7:=Aa ah;have ab:=Aa ((E.out.drewN 1).trans ag);clear z ag ah))
        all_goals
         go_wp2_with(go_at_call 174;refine(ad.out.VU a7.out t.out.2.2.2.2.2.1).mono ?_;rintro e w4⟨rfl,o4,ao,F⟩;have a8:=Aa ao;have ae:=Aa (ab.out.trans F);clear ao F);go_end0;exact⟨rfl,T,o4,a8.out,ae.out,af.out⟩
      ·rw[Ah hid]at b
       replace b:=CQ b;obtain⟨⟨h1,h2⟩,b⟩:=b;obtain⟨i,hi⟩: ∃i:Nat,id=(i:Int)+1:=⟨(id-1).toNat,by omega⟩;subst hi;have aq:((i:Int)+1-1).toNat=i:=by omega
       rw[aq]at b;have ar:i<s1.gs.length:=by omega
       have hd:(((i:Int)+1)==0)=false:=by rw[Au];omega
       have e1:(i:Int)+1-1=i:=by omega
       have q1:(i:Int)<(s1.gs.length:Int):=by omega
       have K:=Aa (Ab b ar);clear b h1 h2 aq ar hid B C hb h O Q r;go_enter func117,ntmps117;go_wp2;go_quiet(fail)
       go_wp2_with(first|(go_at_call 175;refine(aj.out _).mono ?_;rintro e W⟨rfl,T,o1,c,d,G⟩;have bb:i<64:=(by have h1:=c.Hm.1;have h2:=K.out.2;omega);obtain⟨gr,bc,au,bg,bd,_⟩:=c.grow K.out.2;have c5:=c.c5;rw[au]at c5;have f:=Aa c;have v:=Aa (d.lt H.out.1 (by omega) HF.out);have u:=Aa (((Ext.refl own w).drewN _).trans d);have af:=Aa G;clear c d G au)|(go_at_call 176;refine(f.out.eJ v.out (f.out.og i K.out.2) K.out.1).mono ?_;rintro e w2⟨rfl,V2,o2,l,n,av⟩;have o:=Aa l;have E:=Aa (u.out.trans n);have ba:=Aa (af.out.trans av);clear l n av));go_end0;exact⟨rfl,V2,o2,o.out,E.out,ba.out⟩
end
end
section
variable {mb:Nat} {V:Vr} {own:Nat→Nat} {w:oZ} {s:St}
variable {b i:Nat}
theorem CC.L8(h:CC mb V own w s){x:G}(e:own b=20+5*i)(c:s.gs[i]?=Z x)(u:Bool):CC mb V own (w.setCell ⟨b,16,N⟩ (ry u)) (s.CH i {x with CA:=u})∧Ext own w own (w.setCell ⟨b,16,N⟩ (ry u)):=by obtain⟨g,hw,j,k,d⟩:=h.Hi e c;have a:=h.cA e c;have f:=oset (Ds b w) 16 (ry u);exact⟨h.VK (Cz c) (by rw[←a];exact f) {x with CA:=u} (by rw[←a];exact⟨g,hw,j,VS k u,d⟩),Dx f (by omega)⟩
theorem CC.Zb(h:CC mb V own w s){x:G}(c:own b=20+5*i)(d:s.gs[i]?=Z x):w.cell? ⟨b,16,N⟩=Z (ry x.CA)∧w.frozen? ⟨b,16,N⟩=false:=by obtain⟨f,hw,g,a,e⟩:=h.Hi c d;exact⟨oe a,a.free 16⟩
theorem CC.eK(h:CC mb V own w s){x:G}(a:own b=20+5*i)(c:s.gs[i]?=Z x):b<w.heap.size:=by obtain⟨f,hw,g,d,e⟩:=h.Hi a c;exact d.lt
theorem CC.release(h:CC mb V own w s){x:G}{s':St}(hb:own b=20+5*i)(H:s.gs[i]?=Z x)(d:EI s i=Z s'):re prog 188 #[ptr mb,ptr b] w (FY mb V own w unit s'):=by
 unfold EI at d;replace d:=CQ d;obtain⟨ab,d⟩:=d;dsimp only at d;have RB:=h.RB;generalize hu:(i:Int)+1=u at*
 have b0:=Jh h hb H hu;have v:=Aa (Ab hb (Ab (h.eK hb H) (Ab H hu)));have HF:=Aa h.fresh;obtain⟨id,hid⟩: ∃id,id=Dc.P5 s.owner s.waits u:=⟨_,rfl⟩;obtain⟨s1,n⟩: ∃s1,s1=({s with owner:=Dc.P6 s.owner s.waits u,waits:=Dc.P7 s.owner s.waits u}:St):=⟨_,rfl⟩;have K:s1.gs[i]?=Z x:=by rw[n];exact H
 have A:Hid (∀m,re prog 261 #[ptr V.CA,I U u] (w.drewN m) (Da mb V own (w.drewN m) (.tuple #[I U id,I U (Dc.dJ s.owner u)]) s1)):=fun m=>by rw[hid,n];exact(h.drewN m).jf u (by omega)
 rw[←hid,←n,show s.gs=s1.gs by rw[n]]at d;have B:=Aa K;have HH:=Aa h;clear h hb H hu hid n K ab;by_cases L:id=0
 ·rw[Ai L]at d
  simp only[Ak]at d;subst d;have hd:(id==0)=true:=by simpa using L
  clear L;go_enter func188,ntmps188;go_wp2;go_region_held3(fun y=>y.cell? ⟨mb,12,N⟩=Z (ptr V.CA)∧y.cell? ⟨b,0,N⟩=Z (I U u)) (go_keep) (first|(go_at_call 261;refine(A.out 1).mono ?_;rintro e M⟨rfl,o1,c,f⟩;have eL:=c.RB;have k0:M.cell? ⟨b,0,N⟩=Z (I U u):=Jh c (f.keep v.out.1 v.out.2.1) B.out v.out.2.2.2;have a:=Aa c;have o:=Aa (((Ext.refl own w).drewN 1).trans f);clear c f))
  all_goals
   go_wp2;go_end0;exact⟨rfl,V,o1,a.out,o.out,Fx.refl V⟩
 ·rw[Ah L]at d
  replace d:=CQ d;obtain⟨h1,d⟩:=d;obtain⟨k,rfl⟩: ∃k:Nat,id=(k:Int)+1:=⟨(id-1).toNat,by omega⟩;have e2:((k:Int)+1-1).toNat=k:=by omega
  rw[e2]at d;have hd:(((k:Int)+1)==0)=false:=by rw[Au];omega
  have e1:(k:Int)+1-1=k:=by omega
  cases O:s1.gs[k]? with
  |none=>rw[O]at d;cases d
  |some z=>
   rw[O]at d;dsimp only at d;have P:=Cz O;have q1:(k:Int)<(s1.gs.length:Int):=by omega
   have C:(s1.CH k {z with CA:=rm}).gs[k]?=Z {z with CA:=rm}:=EY P;obtain⟨s2,D⟩: ∃s2,s2=s1.CH k {z with CA:=rm}:=⟨_,rfl⟩;rw[←D]at d C;have l:=Aa (Ab O (Ab C D));clear L h1 e2 O C D P;by_cases F:8≤z.word
   ·rw[Ai F]at d
    simp only[Ak]at d;subst d;have p:decide (8≤z.word)=true:=by simpa using F
    have H8:=Aa p;clear F p;go_enter func188,ntmps188;go_wp2;go_region_held3(fun y=>y.cell? ⟨mb,12,N⟩=Z (ptr V.CA)∧y.cell? ⟨b,0,N⟩=Z (I U u)) (go_keep) (first|(go_at_call 261;refine(A.out 1).mono ?_;rintro e M⟨rfl,o1,c,f⟩;have eL:=c.RB;have k0:M.cell? ⟨b,0,N⟩=Z (I U u):=Jh c (f.keep v.out.1 v.out.2.1) B.out v.out.2.2.2;have a:=Aa c;have o:=Aa (((Ext.refl own w).drewN 1).trans f);clear c f))
    all_goals
     have Q:k<64:=by have h1:=a.out.Hm.1;have h2:=Cz l.out.1;omega
     obtain⟨gr,R,q,ad,S,_⟩:=a.out.grow (Cz l.out.1);have c5:=a.out.c5;rw[q]at c5;have g:=a.out.og k (Cz l.out.1);obtain⟨ae,T⟩:=a.out.Zb g l.out.1;obtain⟨j,r⟩:=a.out.L8 g l.out.1 rm;rw[←l.out.2.2]at j;have t:=Aa (j.Ko g l.out.2.1);rw[show decide (8≤({z with CA:=rm}:G).word)=true from H8.out]at t;have af:=Aa j;have E:=Aa (o.out.trans r);clear q g j r eL k0;go_wp2_with(go_at_call 193;refine t.out.mono ?_;rintro e w2⟨rfl,rfl⟩);go_end0;exact⟨rfl,V,o1,af.out,E.out,Fx.refl V⟩
   ·rw[Ah F]at d
    have p:decide (8≤z.word)=false:=by simpa using F
    have H8:=Aa (Ab p d);clear F p d;go_enter func188,ntmps188;go_wp2;go_region_held3(fun y=>y.cell? ⟨mb,12,N⟩=Z (ptr V.CA)∧y.cell? ⟨b,0,N⟩=Z (I U u)) (go_keep) (first|(go_at_call 261;refine(A.out 1).mono ?_;rintro e M⟨rfl,o1,c,f⟩;have eL:=c.RB;have k0:M.cell? ⟨b,0,N⟩=Z (I U u):=Jh c (f.keep v.out.1 v.out.2.1) B.out v.out.2.2.2;have a:=Aa c;have o:=Aa (((Ext.refl own w).drewN 1).trans f);clear c f))
    all_goals
     have Q:k<64:=by have h1:=a.out.Hm.1;have h2:=Cz l.out.1;omega
     obtain⟨gr,R,q,ad,S,_⟩:=a.out.grow (Cz l.out.1);have c5:=a.out.c5;rw[q]at c5;have g:=a.out.og k (Cz l.out.1);obtain⟨ae,T⟩:=a.out.Zb g l.out.1;obtain⟨j,r⟩:=a.out.L8 g l.out.1 rm;rw[←l.out.2.2]at j;have t:=Aa (j.Ko g l.out.2.1);rw[show decide (8≤({z with CA:=rm}:G).word)=rm from H8.out.1]at t;have HQ:=Aa (j.I7 g H8.out.2);have E:=Aa (o.out.trans r);clear q g j r eL k0;go_wp2_with(first|(go_at_call 193;refine t.out.mono ?_;rintro e w2⟨rfl,rfl⟩)|(go_at_call 192;refine HQ.out.mono ?_;rintro e w3⟨rfl,V3,o3,W,X,aa⟩;have ag:=Aa W;have ah:=Aa (E.out.trans X);have ai:=Aa aa;clear W X aa));go_end0;exact⟨rfl,V3,o3,ag.out,ah.out,ai.out⟩
end
end Go.Proofs.YtgadhchejmlfjaaGreatDoor.CX
