/- A part of the proof. -/
import Derived.Test.YtgadhchejmlfjaaGreatDoorC5
set_option linter.unusedVariables false
set_option maxRecDepth 20000
set_option maxHeartbeats 16000000
open Go.Value renaming int→I,pointer→J,slice→Y
open Go.IntKind renaming i64→U
open Option renaming none→N,some→Z
open Bool renaming false→rm,true→rq
open List renaming replicate→rj
namespace Go.Proofs.YtgadhchejmlfjaaGreatDoor.CX
open Go.RowKit Go.CL
open Cw (Pr pz)
open Vm (CN)
section
section
variable {e:Nat} {s:St}
variable {i e:Nat}
theorem O4{x:G}(b:s.gs[i]?=Z x)(x':G)(h:x'.fn=x.fn∧x'.Dt=x.Dt∧x'.CS=x.CS∧x'.stack=x.stack∧x'.done=x.done∧x'.begun=x.begun∧(8≤x.word→8≤x'.word)):Kp s (s.CH i x'):=by
 refine⟨rfl,rfl,rfl,by simp[St.CH],fun k z a=>?_,fun _ y hy _=>⟨y,hy,rfl⟩⟩;have c:i<s.gs.length:=(Af.1 b).1;by_cases e:i=k
 ·subst e
  rw[b]at a;cases a;exact⟨x',by simp[St.CH,c],h⟩
 ·exact⟨z,by simp only[St.CH];rw[Ao e];exact a,rfl,rfl,rfl,rfl,rfl,rfl,id⟩
theorem Inv.fT(h:Inv e s){j:Nat}{y:M1}(hy:s.ms[j]?=Z y)(l:y.g=(i:Int)+1): ∃x:G,s.gs[i]?=Z x∧2≤y.phase∧(y.phase≤4→x.word=2)∧(y.phase=5→x.word=3∨x.word=11):=by
 have b:=h.base.mp j _ (CE hy);simp only[N5,mc]at b;have a:2≤y.phase:=by obtain⟨m,-,a2,a3,-⟩:=b;omega
 obtain⟨k,z,n,c,d,f,-⟩:=b.2.2.2.2.2.1 a;clear b;have:k=i:=by omega
 subst this;obtain⟨x,g,rfl⟩:=Hw c;exact⟨x,g,a,d,f⟩
theorem Xf(h:Inv e s)(p:Int)(w:p= -1∨(0≤p∧p<s.rings.length))(t:Option Nat)(A: ∀k,t=Z k→k<s.gs.length): ∃n f,MG s p t=Z (n,f)∧Inv e f∧Kp s f:=by
 cases t with
 |none=>exact⟨_,_,rfl,h,Kp.refl s⟩
 |some k=>
  have r:=A k rfl;have a:s.gs[k]?=Z s.gs[k]:=Ae r;generalize s.gs[k]=x at a;unfold MG;dsimp only;rw[a];dsimp only;split
  ·exact⟨_,_,rfl,h,Kp.refl s⟩
  ·split
   ·obtain⟨c,d⟩:=h.UE a {x with token:=rq} rfl ⟨rfl,rfl,rfl,rfl,rfl⟩
    exact⟨_,_,rfl,c,d⟩
   ·rename_i B
    have u:=h.base.gw k _ (CT a);simp only[gc]at u;obtain⟨hw,g⟩:=u.2.1 (by simpa using B);have b:=h.th k x a;have m:(k:Int)+1∉s.waits:=fun hm=>by
     obtain⟨l,z,D,c,d⟩:=h.base.ww _ hm;have:l=k:=by omega
     subst this;rw[CT a]at c;cases c;exact tf d g
    have o:Inv e (s.CH k {x with blocked:=rm}):=by refine E6 h a _ b.1.wd ⟨by simp,fun c=>tf c g⟩ (fun hm=>absurd hm (h.base.JS (CT a) (by simp only[gc];omega))) (fun hm=>absurd hm m) (fun j y hy q=>absurd q (h.base.MZ (CT a) (by simp only[gc];omega) (CE hy))) ⟨b.1.congr b.1.wd rfl rfl rfl rfl,b.2⟩
    have v:=O4 a {x with blocked:=rm} ⟨rfl,rfl,rfl,rfl,rfl,rfl,id⟩;split
    ·exact⟨_,_,rfl,o,v⟩
    ·obtain⟨f,c,d,C⟩:=Fm o (o.loose (i:=k) (x:={x with blocked:=rm}) (by simp[St.CH,r]) (by dsimp only;omega) ⟨rfl,g⟩) p w rq
     rw[c];exact⟨_,_,rfl,d,v.trans C⟩
theorem Tt(h:Inv e s)(p:Int)(F:p= -1∨(0≤p∧p<s.rings.length))(t:Option Nat)(G: ∀k,t=Z k→k<s.gs.length): ∃n o,Kl s p t=Z (n,o)∧Inv e o∧(∀(j:Nat)(y:M1),s.ms[j]?=Z y→y.phase≠0→ ∃C:M1,o.ms[j]?=Z C∧mc C=mc y):=by
 cases t with
 |none=>exact⟨_,_,rfl,h,fun j y hy _=>⟨y,hy,rfl⟩⟩
 |some k=>
  have D:=G k rfl;have d:s.gs[k]?=Z s.gs[k]:=Ae D;generalize s.gs[k]=x at d;unfold Kl;dsimp only;rw[d];dsimp only;split
  ·exact⟨_,_,rfl,h,fun j y hy _=>⟨y,hy,rfl⟩⟩
  ·rename_i u
   have f:=h.th k x d;have q:=h.base.gw k _ (CT d);simp only[gc]at q;have r:x.word=9∨x.word=11∨x.word=12∨x.word=13:=by
    have:=q.1;unfold MH at u;unfold D4.Dm at this;by_cases r:x.word<8
    ·rw[Ai r]at u;exact absurd rfl u
    ·omega
   have v:Inv e (s.CH k {x with word:=x.word-8}):=by
    refine E6 h d _ ?_ ⟨fun a=>?_,fun a=>?_⟩ (fun hm=>?_) (fun hm=>?_) (fun j y hy w=>?_) ⟨f.1.congr ?_ rfl rfl rfl rfl,fun H=>?_⟩
    ·dsimp only;unfold D4.Dm;omega
    ·have:=q.2.1 a;dsimp only;exact⟨by omega,this.2⟩
    ·have:=q.2.2 a;dsimp only;omega
    ·obtain⟨i,z,K,a,g⟩:=h.base.qw _ hm
     have:i=k:=by omega
     subst this;rw[CT d]at a;cases a;simp only[gc]at g;dsimp only;omega
    ·obtain⟨l,z,K,a,g⟩:=h.base.ww _ hm
     have:l=k:=by omega
     subst this;rw[CT d]at a;cases a;exact g
    ·obtain⟨S,m,c1,E,c3⟩:=h.fT hy w
     rw[d]at m;cases m;dsimp only;refine⟨fun L=>by have:=E L;omega,fun M=>by have:=c3 M;omega,fun T=>by have:=E (by omega);omega⟩
    ·dsimp only;unfold D4.Dm;omega
    ·rcases f.2 H with a|a
     ·omega
     ·exact .inr a
   split
   ·rename_i c
    have A:x.blocked=rm∧x.CA=false:=by
     rcases r with b|b|b|b
     ·simp[MH,b]at c
     ·simp[MH,b]at c
     ·simp[MH,b]at c
      cases O:x.blocked<;>cases P:x.CA<;>simp[O,P]at c⊢
     ·obtain⟨f1,f2,-⟩:=h.flags d (by omega)
      exact⟨f1,f2⟩
    have Q:x.word=12∨x.word=13:=by
     rcases r with b|b|b|b
     ·simp[MH,b]at c
     ·simp[MH,b]at c
     ·exact .inl b
     ·exact .inr b
    obtain⟨o,a,g,R⟩:=Fm v (v.loose (i:=k) (x:={x with word:=x.word-8}) (by simp[St.CH,D]) (by dsimp only;omega) A) p F rm;rw[a];exact⟨_,_,rfl,g,fun j y hy B=>R.ms j y hy B⟩
   ·exact⟨_,_,rfl,v,fun j y hy _=>⟨y,hy,rfl⟩⟩
theorem aP(h:Inv 1000 s)(B:s.gs.length<64)(fn arg:Int)(n:kJ s.funcs fn 0):Inv 1000 (GJ s fn arg)∧Q5 (GJ s fn arg) s.gs.length ⟨1,fn,0,[arg,0,0,0,0,0,0,0],rm,rm,rm,rm,rm,0,[]⟩:=by
 have d: ∀id,id∈Db s→id≤s.gs.length:=fun id hid=>by obtain⟨i,z,rfl,b,-⟩:=h.base.qw id hid;have:=(Af.1 b).1;simp only[core,Bg]at this;omega
 have e: ∀id,id∈s.waits→id≤s.gs.length:=fun id hid=>by obtain⟨i,z,rfl,b,-⟩:=h.base.ww id hid;have:=(Af.1 b).1;simp only[core,Bg]at this;omega
 have f: ∀(j:Nat)(y:M1),s.ms[j]?=Z y→y.g≠(s.gs.length:Int)+1:=fun j y hy o=>by obtain⟨x,a,-⟩:=h.fT hy o;have:=(Af.1 a).1;omega
 have m:core (GJ s fn arg)={core s with gs:=(core s).gs++[⟨1,rm,rm,rm⟩]}:=by simp[core,GJ,Db,gc]
 have kA: ∀(i:Nat)(x:GC),(core s).gs[i]?=Z x→((core s).gs++[(⟨1,rm,rm,rm⟩:GC)])[i]?=Z x:=fun i x a=>by rw[AD (Af.1 a).1];exact a
 refine⟨⟨⟨?_,h.DI,fun i x a=>?_,h.box⟩,by rw[m];exact⟨h.link.go,h.link.Eg,h.link.bars,h.link.stop⟩⟩,⟨by simp[GJ],fun hm=>?_,f,fun hm=>?_,.inl rfl,rfl,rfl⟩⟩
 ·rw[m]
  exact{h.base with
   g1:=by simp,
   g2:=by simp[core];omega,
   Ji:=by have:=h.base.Ji;simp;omega,
   qw:=fun id hid=>by obtain⟨i,x,b,c,g⟩:=h.base.qw id hid;exact⟨i,x,b,kA i x c,g⟩,
   mp:=fun k z p=>by obtain⟨q,a2,a3,a4,a5,r,t⟩:=h.base.mp k z p;exact⟨q,a2,a3,a4,a5,fun c=>by obtain⟨i,x,u,v,w⟩:=r c;exact⟨i,x,u,kA i x v,w⟩,t⟩,
   ww:=fun id hid=>by obtain⟨i,x,b,c,g⟩:=h.base.ww id hid;exact⟨i,x,b,kA i x c,g⟩,
   gw:=fun i x a=>by
    by_cases l:i<(core s).gs.length
    ·exact h.base.gw i x (by rw[AD l]at a;exact a)
    ·have:x=⟨1,rm,rm,rm⟩:=by rw[AJ (by omega)]at a;have:=A7 a;simpa using this
     subst this;simp[D4.Dm]}
 ·simp only[GJ]at a
  by_cases l:i<s.gs.length
  ·exact h.th i x (by rw[AD l]at a;exact a)
  ·rw[AJ (by omega)]at a
   have:=A7 a;simp only[Zb7]at this;subst this;exact⟨⟨rfl,.inr (.inl rfl),n,by simp,by simp⟩,fun A=>by cases A⟩
 ·have:=d _ hm;omega
 ·have:=e _ hm;omega
theorem O5(g:Int)(C:1≤g): ∀(n k:Nat)(s:St),Inv e s→k+n=s.ms.length→ ∃a b,El g n k s=Z {s with asked:=a,box:=b}∧a.map (·.Eg)=s.asked.map (·.Eg)∧b.length=s.box.length:=by
 intro n;induction n with
 |zero=>intro k s h _;exact⟨s.asked,s.box,rfl,rfl,rfl⟩
 |succ n o=>
  intro k s h D;have hy:s.ms[k]?=Z s.ms[k]:=Ae (by omega);generalize s.ms[k]=y at hy;unfold El;rw[hy];dsimp only;split
  ·rename_i u
   have q:=h.base.mp k _ (CE hy);simp only[N5,mc]at q;have v:y.p= -1∨ ∃p:Nat,y.p=p∧p<s.rings.length:=by
    obtain⟨E,a2,a3,a4,a5,w,r⟩:=q;by_cases x:y.phase=5
    ·rcases r x with d|⟨p,d,i,-⟩
     ·exact .inl d
     ·exact .inr ⟨p,d,i⟩
    ·have:1≤y.phase∧y.phase≤4:=by clear a5 w r;omega
     obtain⟨p,d,i,-⟩:=a5 this.1 this.2;exact .inr ⟨p,d,i⟩
   obtain⟨c,b,z,t,f⟩:=IX h.toBs hy v;rw[z];obtain⟨A,B,j,l,m⟩:=o (k+1) _ (Eu h t f).1 (by dsimp only;omega);exact⟨A,B,j,l.trans t,m.trans f⟩
  ·exact o (k+1) s h (by omega)
theorem Rb(h:Inv e s)(k:Nat): ∃c,Ha s k=Z c∧Inv e c:=by obtain⟨a,b,d,f,g⟩:=O5 ((k:Int)+1) (by omega) s.ms.length 0 s h (by omega);exact⟨_,d,(Eu h f g).1⟩
theorem aQ(h:Inv e s){k:Nat}{x:G}(f:s.gs[k]?=Z x)(hw:x.word=1∨x.word=3∨x.word=4∨x.word=5): ∃n,Ly s k=Z n∧Inv e n∧Kp s n:=by
 have W:k<s.gs.length:=(Af.1 f).1;have t:=h.th k x f;have F:=h.base.gw k _ (CT f);simp only[gc]at F;have X:Inv e (s.CH k {x with word:=x.word+8,C9:=0}):=by
  refine E6 h f _ ?_ ⟨fun b=>?_,fun b=>?_⟩ (fun hm=>?_) (fun hm=>?_) (fun j y hy H=>?_) ⟨t.1.congr ?_ rfl rfl rfl rfl,fun hd=>?_⟩
  ·dsimp only;unfold D4.Dm;omega
  ·have:=F.2.1 b;dsimp only;exact⟨by omega,this.2⟩
  ·have:=F.2.2 b;dsimp only;omega
  ·obtain⟨i,z,C,b,K⟩:=h.base.qw _ hm
   have:i=k:=by omega
   subst this;rw[CT f]at b;cases b;simp only[gc]at K;dsimp only;omega
  ·obtain⟨l,z,C,b,K⟩:=h.base.ww _ hm
   have:l=k:=by omega
   subst this;rw[CT f]at b;cases b;exact K
  ·obtain⟨m,a,c1,D,c3⟩:=h.fT hy H
   rw[f]at a;cases a;dsimp only;refine⟨fun h4=>by have:=D h4;omega,fun h5=>by have:=c3 h5;omega,fun h6=>by have:=D (by omega);omega⟩
  ·dsimp only;unfold D4.Dm;omega
  ·rcases t.2 hd with b|b
   ·omega
   ·exact .inr b
 have hK:=O4 f {x with word:=x.word+8,C9:=0} ⟨rfl,rfl,rfl,rfl,rfl,rfl,fun h8=>by dsimp only;omega⟩;obtain⟨s2,u1,u2,u3⟩:=La X k;obtain⟨m,a,-,-,-,-,-,-,g⟩:=u3.gs k {x with word:=x.word+8,C9:=0} (by simp[St.CH,W]);have g:=g (by dsimp only;omega);have u:k<s2.gs.length:=(Af.1 a).1;have fin: ∀d:St,Inv e d→Kp s2 d→(∃L:G,d.gs[k]?=Z L∧8≤L.word)→ ∃n,Qe k d=Z n∧Inv e n∧Kp s n:=by
  intro d v M⟨L,o,aa⟩;unfold Qe;rw[o];dsimp only;have w:=(hK.trans u3).trans M;split
  ·rename_i O
   have P: ∀(j:Nat)(y:M1),d.ms[j]?=Z y→y.phase≠3∧y.phase≠4:=fun j y hy=>by
    have key: ¬(y.phase=3∨y.phase=4):=fun Q=>by
     have A:=v.base.mp j _ (CE hy);simp only[N5,mc]at A;obtain⟨i,z,V,E,R,-,b5⟩:=A.2.2.2.2.2.1 (by clear A;omega);have b6:=(b5 Q).2;have b7:=R (by clear A;omega);have b8:(core d).F0=d.owner:=rfl;clear A;have:i=k:=by omega
     subst this;rw[CT o]at E;cases E;simp only[gc]at b7;omega
    omega
   obtain⟨s4,v1,v2,v3⟩:=JU (i:=k) v (fun _=>⟨by
    cases S:d.sc.Cy with
    |false=>rfl
    |true=>obtain⟨l1,l2,l3,l4,j,z,q,V,E,R,-⟩:=v.link.stop S;obtain⟨y,hy,rfl⟩:=DG V;have b8:(core d).F0=d.owner:=rfl;obtain⟨x4,B,c1,D,-⟩:=v.fT (i:=k) hy (by simp only[mc]at E;omega);rw[o]at B;cases B;have:=D (by simp only[mc]at R;omega);omega,P⟩)
   exact⟨s4,v1,v2,w.trans v3⟩
  ·exact⟨d,rfl,v,w⟩
 unfold Ly;rw[f];dsimp only;rw[u1];dsimp only[Option.bind_some];unfold YR;rw[a];dsimp only;have ab:s2.waits.length≤64:=by have:=I9 (core s2).gs.length s2.waits u2.base.wn (fun x f=>by obtain⟨k,z,rfl,b,-⟩:=u2.base.ww x f;have:=(Af.1 b).1;omega);exact AE this u2.base.g2
 rw[Ai (by omega)];cases hs:m.CA with
 |false=>rw[Ah (by simp)];exact fin s2 u2 (Kp.refl s2) ⟨m,a,g⟩
 |true=>
  rw[Ai rfl];have c:=u2.th k m a;have p:=u2.base.gw k _ (CT a);simp only[gc]at p;have ad:=p.2.2 hs;have O:core {s2.CH k {m with CA:=rm}with waits:=s2.waits.erase ((k:Int)+1)}={core s2 with gs:=(core s2).gs.set k (gc {m with CA:=rm}),ws:=(core s2).ws.erase ((k:Int)+1)}:=by simp[core,St.CH,Db]
  refine fin _ ⟨⟨?_,u2.DI,fun i z r=>?_,u2.box⟩,?_⟩ ?_ ⟨{m with CA:=rm},by simp only[St.CH];exact Aj u,g⟩
  ·rw[O]
   have hb:Dj {core s2 with ws:=(core s2).ws.erase ((k:Int)+1)}:={u2.base with wn:=u2.base.wn.erase _,ww:=fun id hid=>u2.base.ww id (Ck hid)};exact hb.CH (i:=k) (CT a) ⟨c.1.wd,by simp only[gc];exact fun b=>⟨(p.2.1 b).1,trivial⟩,by simp[gc]⟩ (fun hm=>absurd hm (u2.base.JS (CT a) (by simp only[gc];omega))) (fun hm=>absurd hm u2.base.wn.not_mem_erase) (fun j z r T=>absurd T (u2.base.MZ (CT a) (by simp only[gc];omega) r))
  ·simp only[St.CH]at r
   by_cases C:k=i
   ·subst C
    rw[Aj u]at r;cases r;exact⟨c.1.congr c.1.wd rfl rfl rfl rfl,c.2⟩
   ·rw[Ao C]at r
    exact u2.th i z r
  ·rw[O];exact⟨u2.link.go,u2.link.Eg,u2.link.bars,u2.link.stop⟩
  ·have:=O4 a {m with CA:=rm} ⟨rfl,rfl,rfl,rfl,rfl,rfl,id⟩
   exact⟨this.sc,this.DI,this.nr,this.gl,this.gs,this.ms⟩
end
end
section
theorem Tu(f:Rs→List Int)(d:f=fun r=>Ring.C3 r.CG r.row): ∀(l:List Rs)(q:List Int),(∀x,x∈l.flatMap f→1≤x)→(D7 l q).Perm (l.flatMap f++q):=by
  intro l;unfold D7;induction l with
  |nil=>intro q _;simp
  |cons r l e=>intro q b;rw[BD]at b;rw[List.foldl_cons,BD];refine(e _ (fun x c=>b x (AX _ c))).trans ?_;rw[d]at b⊢;rw[right_id (l:=Ring.C3 r.CG r.row) fun x c=>b x (Bl _ c)];rw[Bz];intro a;simp only[BL];omega
theorem fU(n:Nat):(rj n r0).flatMap (fun r=>Ring.C3 r.CG r.row)=[]:=by rw[List.flatMap_eq_nil_iff];intro x a;have:=Zas a;subst this;simp[Ring.C3,r0]
section
variable {s:St}
theorem Inv.held(h:Inv 1000 s){j:Nat}{y:M1}(hy:s.ms[j]?=Z y)(A:y.phase=2)(Q:1≤y.g)(R:s.sc.CD=y.g):s.sc.Cy=rq∧s.CB=[]∧s.sc.wait=0∧runN s.stat=0∧(∀(k:Nat)(z:MC),(core s).ms[k]?=Z z→z.phase≠4)∧s.owner=y.g∧ ∃q:Nat,y.p=q∧q<s.rings.length∧s.stat[q]?=Z (3,(j:Int))∧ ∀(p:Nat)(a w:Int),p<s.rings.length→s.stat[p]?=Z (a,w)→a=3∧(w= -1∨w=j∧p=q):=by
  have b:s.sc.Cy=true:=by
    cases B:s.sc.Cy with
    |true=>rfl
    |false=>have:s.sc.CD=0:=(h.link.go B).1
            omega
  obtain⟨C,D,⟨E,f⟩,F,k,z,q,o,G,H,g,K,b6⟩:=h.link.stop b;obtain⟨S,c,rfl⟩:=DG o;have r:(core s).Io=s.sc.CD:=rfl;have i:k=j:=by
    rcases H with⟨-,t⟩|⟨T,t⟩
    ·rw[r]at t;omega
    ·exact h.base.mu k j _ _ o (CE hy) (by simp only[mc]at*;omega) (by simp only[mc]at*;omega)
  subst i;rw[hy]at c;cases c;have l:(core s).wt=0:=f (by rw[r];omega);have m:runN s.stat=0:=by have:(core s).wt=runN s.stat:=E;omega
  have n:q<s.rings.length:=by
    have d:=h.base.mp k _ (CE hy);simp only[N5,mc]at d;obtain⟨L,c1,M,-⟩:=d.2.2.2.2.1 (by clear d;omega) (by clear d;omega);have:L=q:=by simp only[mc]at g;clear d;omega
    subst this;exact M
  refine⟨b,C,l,m,F,G,q,g,n,K,fun p a w u e=>?_⟩;rcases D p a w u e with rfl|rfl
  ·have:=O1 e;omega
  · refine⟨rfl,?_⟩
    rcases b6 p w e with rfl|rfl
    ·exact .inl rfl
    · refine .inr ⟨rfl,?_⟩
      rcases h.base.sp p 3 _ u e with⟨O,-⟩|⟨-,-,k2,v,O,x,P,-⟩
      ·omega
      · have:k2=k:=by omega
        subst this;rw[CE hy]at x;cases x;simp only[mc]at P g;omega
theorem Rc{l:List Pr}{n tn:Nat}(k:n≤l.length)(f: ∀(p:Nat)(a w:Int),p<n→l[p]?=Z (a,w)→a=3) (g: ∀p,n≤p→p<l.length→l[p]?=Z (4,-1)) (m:1≤tn):(D8 l tn).length=max l.length tn∧(∀p,p<tn→(D8 l tn)[p]?=Z (if p<n then(l[p]?.getD pz)else(3,-1)))∧(∀p,tn≤p→p<(D8 l tn).length→(D8 l tn)[p]?=Z (4,-1)):=by
  have j:Cw.cnt 3 l=l.length-Cw.cnt 4 l:=by
    have o:l=l.take n++l.drop n:=(Bm _ _).symm;have t3: ∀x,x∈l.take n→x.1=3:=fun x c=>by
      obtain⟨i,d⟩:=Za6 c;rw[Co]at d;split at d
      ·exact f i x.1 x.2 (by assumption) d
      ·cases d
    have d4: ∀x,x∈l.drop n→x.1=4:=fun x c=>by obtain⟨i,d⟩:=Za6 c;rw[Zai]at d;have:=g (n+i) (by omega) (Af.1 d).1;rw[this]at d;cases d;rfl
    have c1:Cw.cnt 3 (l.take n)=n:=by unfold Cw.cnt;rw[List.countP_eq_length.2 fun x c=>by simp[t3 x c]];simp;omega
    have q:Cw.cnt 3 (l.drop n)=0:=Zac.2 fun x c=>by simp[d4 x c]
    have c3:Cw.cnt 4 (l.take n)=0:=Zac.2 fun x c=>by simp[t3 x c]
    have c4:Cw.cnt 4 (l.drop n)=l.length-n:=by unfold Cw.cnt;rw[List.countP_eq_length.2 fun x c=>by simp[d4 x c]];simp
    have r:Cw.cnt 3 l=Cw.cnt 3 (l.take n)+Cw.cnt 3 (l.drop n):=by unfold Cw.cnt;rw[←Zaj,Bm]
    have s:Cw.cnt 4 l=Cw.cnt 4 (l.take n)+Cw.cnt 4 (l.drop n):=by unfold Cw.cnt;rw[←Zaj,Bm]
    omega
  unfold D8;rw[Ai j];have hlen:(((l++rj (tn-l.length) ((4,-1):Pr)).take tn).map (fun(x:Pr)=>if x.1=4 then((3,-1):Pr)else x)).length=tn:=by simp;omega
  refine⟨by rw[Aw,hlen];simp;omega,fun p h=>?_,fun p h b=>?_⟩
  · rw[AD (by omega),Bn,Co,Ai h]
    by_cases b:p<l.length
    · rw[AD b]
      by_cases e:p<n
      · rw[Ai e]
        have:=f p l[p].1 l[p].2 e (Ae b);simp[b,this]
      ·rw[Ah e,g p (by omega) b];rfl
    · rw[AJ (by omega),Ah (by omega)]
      rw[BE,Ai (by omega)];rfl
  · rw[Aw,hlen]at b
    rw[AJ (by omega),hlen,BE,Ai (by simp at b;omega)]
theorem Tv(h:Inv 1000 s){j i:Nat}{y:M1}(hy:s.ms[j]?=Z y)(C:y.phase=2)(hg:y.g=(i:Int)+1)(n:Int): ∃r s',FZ s j n=Z (r,s')∧Inv 1000 s'∧ ∃y':M1,s'.ms[j]?=Z y'∧y'.phase=2∧y'.g=y.g:=by
  unfold FZ;rw[hy];dsimp only;by_cases hc:s.sc.CD≠y.g∨n<1∨256<n
  ·rw[Ai hc];exact⟨_,_,rfl,h,y,hy,C,rfl⟩
  · rw[Ah hc]
    obtain⟨c,rfl⟩: ∃k:Nat,n=k:=⟨n.toNat,by omega⟩;obtain⟨ar,aa,ab,bc,h4,how,q,au,av,aw,D⟩:=h.held hy C (by omega) (by omega);rw[Ai ⟨by have:=h.base.sl;simpa[core]using this,by have:=h.toBs.Hy;omega,by omega⟩];rw[An];have hj:j<s.ms.length:=(Af.1 hy).1;have ad:j<64:=by have:=h.base.m2;simp[core]at this;omega
    have ae:1≤c:=by omega
    have ax:c≤256:=by omega
    have bd:s.asked.length=s.rings.length:=by have:=h.base.nb;simpa[core]using this
    obtain⟨r1,r2,r3⟩:=Rc (l:=s.stat) (n:=s.rings.length) (tn:=c) h.base.ns (fun p a w g L=>(D p a w g L).1) (fun p E h2=>h.base.sd p E h2) ae;have ay:=h.base.sl;simp only[core]at ay;generalize hS:D8 s.stat c=S at*
    have hQ:(Db {s with stat:=S,rings:=s.rings.take c++rj (c-s.rings.length) r0,all:=D7 (s.rings.drop c) s.all,asked:=s.asked.take c++rj (c-s.asked.length) p0}).Perm (Db s):=by
      have hd:=Tu _ rfl (s.rings.drop c) s.all fun x hx=>h.OZ x (AX _ (by obtain⟨r,hr,hx⟩:=Zbp.1 hx;exact Zbp.2 ⟨r,Za3 hr,hx⟩));rw[Bz];intro a;have c1:=hd.count_eq a;have c2:=Aq (fun l=>List.count a (l.flatMap fun r=>Ring.C3 r.CG r.row)) (Bm c s.rings);rw[Zbz]at c2;simp only[Db,Zbz,fU,BL,Zak]at*
      omega
    have az: ∀a,a∈(s.rings.take c++rj (c-s.rings.length) r0).map (·.CG)→0≤a:=fun a ha=>by
      obtain⟨r,hr,rfl⟩:=B8.1 ha;rcases BU.1 hr with E|E
      ·exact h.Kx (Zaq E)
      ·rw[Zas E];simp[r0]
    have af: ∀(k:Nat)(z:MC),(core s).ms[k]?=Z z→k≠j→z.phase=0∨(z.phase=5∧z.p= -1):=fun k z f m=>by
      obtain⟨a1,a2,a3,a4,a5,M,Q⟩:=h.base.mp k z f;by_cases h0:z.phase=0
      ·exact .inl h0
      · by_cases B:z.phase=5
        · rcases Q B with b|⟨p,b1,R,K⟩
          ·exact .inr ⟨B,b⟩
          ·rcases K with K|K<;>exact absurd (D p _ _ R K).1 (by decide)
        · have ag:1≤z.phase∧z.phase≤4:=by clear a5 M Q;omega
          obtain⟨p,b1,R,K⟩:=a5 ag.1 ag.2;rcases K with K|K
          ·exact absurd (D p _ _ R K).1 (by decide)
          ·rcases(D p _ _ R K).2 with b4|b4<;>exfalso<;>clear a5 M Q<;>omega
    have a8:=h.base.mp j _ (CE hy)
    have fin: ∀(o:Nat)(t:List Pr),o<c→t.length=S.length→t[o]?=Z (3,(j:Int))→(∀p,p<c→p≠o→t[p]?=Z (3,-1))→(∀p,c≤p→p<t.length→t[p]?=Z (4,-1))→
        Inv 1000 {s with stat:=t,rings:=s.rings.take c++rj (c-s.rings.length) r0,all:=D7 (s.rings.drop c) s.all,asked:=s.asked.take c++rj (c-s.asked.length) p0,ms:=s.ms.set j {y with p:=(o:Int)}}:=by
      intro o t k1 k2 k3 k4 k5
      have ah:core {s with stat:=t,rings:=s.rings.take c++rj (c-s.rings.length) r0,all:=D7 (s.rings.drop c) s.all,asked:=s.asked.take c++rj (c-s.asked.length) p0,ms:=s.ms.set j {y with p:=(o:Int)}}=
          {core s with n:=c,qs:=Db {s with stat:=S,rings:=s.rings.take c++rj (c-s.rings.length) r0,all:=D7 (s.rings.drop c) s.all,asked:=s.asked.take c++rj (c-s.asked.length) p0},CG:=(s.rings.take c++rj (c-s.rings.length) r0).map (·.CG),stat:=t,bars:=(s.asked.take c++rj (c-s.asked.length) p0).map (·.Eg),ms:=(core s).ms.set j ⟨o,y.g,y.phase⟩}:=by
        simp[core,Db,mc];omega
      have T:(core s).ms.length=s.ms.length:=by simp[core]
      have F: ∀(k:Nat)(z:MC),((core s).ms.set j ⟨(o:Int),y.g,y.phase⟩)[k]?=Z z→(k=j∧z=⟨(o:Int),y.g,y.phase⟩)∨(k≠j∧(core s).ms[k]?=Z z):=fun k z f=>by
        by_cases m:j=k
        ·subst m;rw[Aj (by rw[T];exact hj)]at f;cases f;exact .inl ⟨rfl,rfl⟩
        ·rw[Ao m]at f;exact .inr ⟨fun e=>m e.symm,f⟩
      have ai: ∀b,b∈(s.asked.take c++rj (c-s.asked.length) p0).map (·.Eg)→b=false:=fun b hb=>by
        obtain⟨a,ha,rfl⟩:=B8.1 hb;rcases BU.1 ha with E|E
        ·exact h.link.Eg h4 _ (B8.2 ⟨a,Zaq E,rfl⟩)
        ·rw[Zas E];rfl
      refine⟨⟨?_,h.DI,h.th,h.box⟩,?_⟩
      · rw[ah]
        exact{h.base with
          mL:=ae,
          aI:=ax,
          nb:=by simp;omega,
          oQ:=by simp;omega,
          ns:=by dsimp only;omega,
          sl:=by dsimp only;omega,
          m1:=by simp;exact h.base.m1,
          m2:=by simp;exact h.base.m2,
          qn:=hQ.nodup_iff.2 h.base.qn,
          qw:=fun id hid=>h.base.qw id (hQ.mem_iff.1 hid),
          rn:=az,
          mp:=fun k z f=>by
            rcases F k z f with⟨rfl,rfl⟩|⟨m,f⟩
            · obtain⟨a1,a2,a3,a4,a5,M,Q⟩:=a8
              exact⟨a1,a2,a3,a4,fun _ _=>⟨o,rfl,k1,.inr k3⟩,M,fun B=>by dsimp only at B;clear a5 M Q;omega⟩
            · have:=af k z f m
              obtain⟨a1,a2,a3,a4,a5,M,Q⟩:=h.base.mp k z f;exact⟨a1,a2,a3,a4,fun u v=>by clear a5 M Q;omega,M,fun B=>by left;clear a5 M Q;omega⟩,
          mu:=fun k l z z' f hl G O=>by
            rcases F k z f with⟨e1,e2⟩|⟨-,aj⟩<;>rcases F l z' hl with⟨e3,e4⟩|⟨-,ak⟩
            ·rw[e1,e3]
            ·rw[e1];rw[e2]at G O;exact h.base.mu j l _ _ (CE hy) ak G O
            ·rw[e3];rw[e4]at G;exact h.base.mu k j _ _ aj (CE hy) G O
            ·exact h.base.mu k l _ _ aj ak G O,
          sp:=fun p a w g L=>by
            by_cases d:p=o
            · subst d
              rw[show t[p]?=Z (a,w)from L]at k3;cases k3;exact .inr ⟨by omega,by omega,j,_,rfl,List.getElem?_set_self (by rw[T];exact hj),rfl,by dsimp only;omega⟩
            · have:=k4 p g d
              rw[show t[p]?=Z (a,w)from L]at this;cases this;exact .inl ⟨rfl,.inr rfl⟩,
          sd:=fun p E h2=>k5 p E h2,
          J0:=fun p g=>by rw[show(core s).ip=s.CB from rfl,aa]at g;(cases g),
          JR:=fun k f=>by
            obtain⟨l,z,rfl,b1,R⟩:=h.base.JR k f;have:j≠l:=by rintro rfl;rw[CE hy]at b1;cases b1;simp only[mc]at R;omega
            exact⟨l,z,rfl,by dsimp only;rw[List.getElem?_set_ne this];exact b1,R⟩}
      · rw[ah]
        refine⟨fun e=>tf ar e,fun _=>ai,fun k z f B=>?_,fun _=>⟨aa,fun p a w g L=>?_,⟨?_,fun _=>ab⟩,fun k z f=>?_,j,_,o,List.getElem?_set_self (by rw[T];exact hj),how,.inr ⟨C,by show s.sc.CD=_;dsimp only;omega⟩,rfl,k3,fun p w L=>?_⟩⟩
        · rcases F k z f with⟨rfl,rfl⟩|⟨m,f⟩
          ·dsimp only at B;omega
          ·exact absurd B (h4 k z f)
        · by_cases d:p=o
          · subst d
            rw[show t[p]?=Z (a,w)from L]at k3;cases k3;exact .inr rfl
          · have:=k4 p g d
            rw[show t[p]?=Z (a,w)from L]at this;cases this;exact .inr rfl
        · show s.sc.wait=_
          have:runN t=0:=Zac.2 fun x hx=>by
            obtain⟨p,g⟩:=Za6 hx;have H:=(Af.1 g).1;by_cases V:p<c
            · by_cases d:p=o
              ·subst d;rw[g]at k3;cases k3;simp
              ·rw[k4 p V d]at g;cases g;simp
            ·rw[k5 p (by omega) H]at g;cases g;simp
          rw[ab,this];rfl
        · rcases F k z f with⟨rfl,rfl⟩|⟨m,f⟩
          ·dsimp only;omega
          ·exact h4 k z f
        · have A:t[p]?=Z (3,w):=L
          have H:=(Af.1 A).1;by_cases V:p<c
          · by_cases d:p=o
            ·subst d;rw[A]at k3;cases k3;exact .inr rfl
            ·rw[k4 p V d]at A;cases A;exact .inl rfl
          ·rw[k5 p (by omega) H]at A;cases A
    have W: ∀p,p<c→p≠q→S[p]?=Z (3,-1):=fun p g d=>by
      rw[r2 p g];by_cases P:p<s.rings.length
      · rw[Ai P]
        obtain⟨a,w,g1,-,-⟩:=Jb h.toBs P;have:=D p a w P g1;rw[g1];obtain⟨rfl,B⟩:=this;rcases B with rfl|B
        ·rfl
        ·exact absurd B.2 d
      ·rw[Ah P]
    split
    · rename_i ba
      have bb:(0:Nat)≠q:=by omega
      have ao:S[0]?=Z (3,-1):=W 0 (by omega) bb;have X:0<S.length:=(Af.1 ao).1;have e1:bX (({s with stat:=S,rings:=s.rings.take c++rj (c-s.rings.length) r0,all:=D7 (s.rings.drop c) s.all,asked:=s.asked.take c++rj (c-s.asked.length) p0}:St).CM j {y with p:=0}) 0={s with stat:=S.set 0 (0,-1),rings:=s.rings.take c++rj (c-s.rings.length) r0,all:=D7 (s.rings.drop c) s.all,asked:=s.asked.take c++rj (c-s.asked.length) p0,ms:=s.ms.set j {y with p:=0}}:=by have e0:=To (p:=0) ao;rw[Ai rfl]at e0;unfold bX St.CM;exact Aq (fun S:List Pr=>({s with stat:=S,rings:=s.rings.take c++rj (c-s.rings.length) r0,all:=D7 (s.rings.drop c) s.all,asked:=s.asked.take c++rj (c-s.asked.length) p0,ms:=s.ms.set j {y with p:=0}}:St)) e0
      have e2:Cw.LS (S.set 0 (0,-1)) 0 j (fun _ _=>(1,(j:Int))) (fun s _=>s==0)=(S.set 0 (0,-1)).set 0 (1,(j:Int)):=take_set (p:=0) (Aj X) ad;have e3:((S.set 0 (0,-1)).set 0 (1,(j:Int)))[0]?=Z (1,(j:Int)):=Aj (by simpa using X);have e4:Cw.Di ((S.set 0 (0,-1)).set 0 (1,(j:Int))) 0 Cw.H5 (fun s _=>Cw.FN s)=((S.set 0 (0,-1)).set 0 (1,(j:Int))).set 0 (3,(j:Int)):=IW (p:=0) e3 (.inr (.inl rfl));refine⟨_,_,rfl,?_,{y with p:=0},Aj hj,C,rfl⟩;have e5:(((S.set 0 (0,-1)).set 0 (1,(j:Int))).set 0 (3,(j:Int)))=S.set 0 (3,(j:Int)):=by simp
      rw[e1,e2];unfold E8;dsimp only;rw[e4,e5];refine fin 0 (S.set 0 (3,(j:Int))) (by omega) (by simp) (Aj X) (fun p g bf=>?_) (fun p g H=>?_)
      ·rw[Ao (by omega)];exact W p g (by omega)
      ·rw[Ao (by omega)];exact r3 p g (by simpa using H)
    · rename_i ba
      have aq:q<c:=by omega
      refine⟨_,_,rfl,?_,y,hy,C,rfl⟩;have:=fin q S aq rfl (by rw[r2 q aq,Ai av,aw];rfl) W r3;have ey:({y with p:=(q:Int)}:M1)=y:=by rw[←au]
      have em:s.ms.set j y=s.ms:=by apply List.ext_getElem?;grind
      rw[ey,em]at this;exact this
end
end
section
section
variable {c:Cr}
theorem Dj.both(h:Dj c){i j:Nat}{x x':GC}{y y':MC}(V:c.gs[i]?=Z x)(L:c.ms[j]?=Z y)(ab:2≤y.phase)(hg:y.g=(i:Int)+1)(ad:y'.g=y.g)(hp:y'.p=y.p)(hf:x'.blocked=rm∧x'.CA=rm)(hw:x'.word=2∧y'.phase=2∨x'.word=3∧y'.phase=5)(ae:x.word=2∨x.word=3)(GS:List Pr)(D:GS=c.stat∨ ∃p:Nat,y.p=p∧c.stat[p]?=Z (1,(j:Int))∧GS=c.stat.set p (2,(j:Int))∧y'.phase=5) (W: ∃p:Nat,y.p=p∧p<c.n∧c.stat[p]?=Z (1,(j:Int))) (hs:x.CA=rm):Dj {c with gs:=c.gs.set i x',ms:=c.ms.set j y',stat:=GS}:=by
 obtain⟨p,af,O,A⟩:=W;have X:p<c.stat.length:=(Af.1 A).1;have P:=(Af.1 V).1;have Q:=(Af.1 L).1;have hlen:GS.length=c.stat.length:=by rcases D with e|⟨q,-,-,e,-⟩<;>rw[e];simp
 have o: ∀q:Nat,q≠p→GS[q]?=c.stat[q]?:=fun q E=>by
  rcases D with e|⟨q',s,-,e,-⟩
  ·rw[e]
  ·have:q'=p:=by omega
   subst this;rw[e,Ao (by omega)]
 have R: ∃a:Int,GS[p]?=Z (a,(j:Int))∧(a=1∨a=2∧y'.phase=5):=by
  rcases D with e|⟨q',s,-,e,e5⟩
  ·exact⟨1,by rw[e];exact A,.inl rfl⟩
  ·have:q'=p:=by omega
   subst this;exact⟨2,by rw[e];exact Aj X,.inr ⟨rfl,e5⟩⟩
 have F: ∀(k:Nat)(z:MC),(c.ms.set j y')[k]?=Z z→(k=j∧z=y')∨(k≠j∧c.ms[k]?=Z z):=fun k z f=>by
  by_cases d:j=k
  ·subst d;rw[Aj Q]at f;cases f;exact .inl ⟨rfl,rfl⟩
  ·rw[Ao d]at f;exact .inr ⟨fun e=>d e.symm,f⟩
 have aa: ∀(k:Nat)(z:MC),c.ms[k]?=Z z→k≠j→z.g≠(i:Int)+1:=fun k z f d e=>d (h.mu k j _ _ f L (by omega) (by omega));have B: ∀(k:Nat)(z:MC)(a:Int),c.ms[k]?=Z z→k≠j→ ∀q:Nat,c.stat[q]?=Z (a,(k:Int))→q≠p:=fun k z a f d q E e=>by subst e;rw[A]at E;simp at E;omega
 refine{h with
  ns:=by dsimp only;rw[hlen];exact h.ns,
  sl:=by dsimp only;rw[hlen];exact h.sl,
  g1:=by simp;exact h.g1,
  g2:=by simp;exact h.g2,
  m1:=by simp;exact h.m1,
  m2:=by simp;exact h.m2,
  Ji:=by simp;exact h.Ji,
  qw:=fun id hid=>?_,
  mp:=fun k z f=>?_,
  mu:=fun k l z z' f hl G H=>?_,
  sp:=fun q a w E K=>?_,
  sd:=fun q m C=>by rw[show GS[q]?=c.stat[q]? from o q (by dsimp only at m;omega)];exact h.sd q m (by dsimp only at C;omega),
  J0:=fun q E=>?_,
  JR:=fun k f=>?_,
  ww:=fun id hid=>?_,
  gw:=fun k z f=>?_}
 ·obtain⟨k,z,rfl,m,C⟩:=h.qw id hid
  have:i≠k:=by rintro rfl;rw[V]at m;cases m;omega
  exact⟨k,z,rfl,by dsimp only;rw[List.getElem?_set_ne this];exact m,C⟩
 ·rcases F k z f with⟨rfl,rfl⟩|⟨d,g⟩
  ·obtain⟨a,s,M⟩:=R
   refine⟨by omega,by omega,by omega,by omega,fun _ _=>⟨p,by omega,O,?_⟩,fun _=>⟨i,x',by omega,Aj P,by omega,by omega,by omega⟩,fun _=>.inr ⟨p,by omega,O,?_⟩⟩
   ·rcases M with rfl|M
    ·exact .inl s
    ·omega
   ·rcases M with rfl|⟨rfl,-⟩
    ·exact .inr s
    ·exact .inl s
  ·obtain⟨a1,a2,a3,a4,a5,a6,a7⟩:=h.mp k z g
   refine⟨a1,a2,a3,a4,fun u v=>?_,fun u=>?_,fun u=>?_⟩
   ·obtain⟨q,r,t,n⟩:=a5 u v
    refine⟨q,r,t,?_⟩;dsimp only;rcases n with n|n
    ·left;rw[o q (B k z _ g d q n)];exact n
    ·right;rw[o q (B k z _ g d q n)];exact n
   ·obtain⟨l,v,r,t,n⟩:=a6 u
    have:i≠l:=by rintro rfl;exact aa k z g d r
    exact⟨l,v,r,by dsimp only;rw[List.getElem?_set_ne this];exact t,n⟩
   ·rcases a7 u with b|⟨q,r,t,n⟩
    ·exact .inl b
    ·refine .inr ⟨q,r,t,?_⟩
     dsimp only;rcases n with n|n
     ·left;rw[o q (B k z _ g d q n)];exact n
     ·right;rw[o q (B k z _ g d q n)];exact n
 ·rcases F k z f with⟨s,M⟩|⟨-,g⟩<;>rcases F l z' hl with⟨e3,e4⟩|⟨-,S⟩
  ·rw[s,e3]
  ·rw[s];rw[M]at G H;exact h.mu j l _ _ L S (by omega) (by omega)
  ·rw[e3];rw[e4]at G;exact h.mu k j _ _ g L (by omega) H
  ·exact h.mu k l _ _ g S G H
 ·by_cases T:q=p
  ·subst T
   obtain⟨a',s,M⟩:=R;rw[show GS[q]?=Z (a,w)from K]at s;cases s;exact .inr ⟨by omega,by omega,j,y',rfl,Aj Q,by omega,by omega⟩
  ·rw[show GS[q]?=c.stat[q]? from o q T]at K
   rcases h.sp q a w E K with m|⟨m,C,k,z,h3,h4,h5,h6⟩
   ·exact .inl m
   ·have:j≠k:=by rintro rfl;rw[L]at h4;cases h4;omega
    exact .inr ⟨m,C,k,z,h3,by dsimp only;rw[List.getElem?_set_ne this];exact h4,h5,h6⟩
 ·obtain⟨l,rfl,r,t⟩:=h.J0 q E
  have:l≠p:=by rintro rfl;rw[A]at t;simp at t
  exact⟨l,rfl,r,by dsimp only;rw[o l this];exact t⟩
 ·obtain⟨l,z,rfl,r,t⟩:=h.JR k f
  have:j≠l:=by rintro rfl;rw[L]at r;cases r;omega
  exact⟨l,z,rfl,by dsimp only;rw[List.getElem?_set_ne this];exact r,t⟩
 ·obtain⟨k,z,rfl,m,C⟩:=h.ww id hid
  have:i≠k:=by rintro rfl;rw[V]at m;cases m;exact tf C hs
  exact⟨k,z,rfl,by dsimp only;rw[List.getElem?_set_ne this];exact m,C⟩
 ·dsimp only at f
  by_cases e:i=k
  ·subst e
   rw[Aj P]at f;cases f;refine⟨by unfold D4.Dm;omega,fun m=>tf m hf.1,fun m=>tf m hf.2⟩
  ·rw[Ao e]at f;exact h.gw k z f
theorem Dj.again(h:Dj c){j p:Nat}{y:MC}{a w:Int}(B:c.ms[j]?=Z y)(K:y.phase=5)(T:p<c.n)(O:c.stat[p]?=Z (a,w))(hc:y.p=p∧a=2∧w=j∨y.p= -1∧a=0∧w= -1):Dj {c with ms:=c.ms.set j ⟨p,y.g,5⟩,stat:=c.stat.set p (1,(j:Int)),ip:=c.ip.erase p}:=by
 have C:p<c.stat.length:=(Af.1 O).1;have D:=(Af.1 B).1;have V:=h.mp j y B;have t: ∀(k:Nat)(z:MC),(c.ms.set j ⟨(p:Int),y.g,5⟩)[k]?=Z z→(k=j∧z=⟨(p:Int),y.g,5⟩)∨(k≠j∧c.ms[k]?=Z z):=fun k z m=>by
  by_cases d:j=k
  ·subst d;rw[Aj D]at m;cases m;exact .inl ⟨rfl,rfl⟩
  ·rw[Ao d]at m;exact .inr ⟨fun e=>d e.symm,m⟩
 have n: ∀(k:Nat)(b:Int),k≠j→ ∀q:Nat,c.stat[q]?=Z (b,(k:Int))→p≠q:=fun k b d q x e=>by subst e;rw[O]at x;cases x;omega
 refine{h with ns:=by simp;exact h.ns,sl:=by simp;exact h.sl,m1:=by simp;exact h.m1,m2:=by simp;exact h.m2,mp:=fun k z m=>?_,mu:=fun k l z z' m W i o=>?_,sp:=fun q a' v x g=>?_,sd:=fun q E P=>by have:=h.sd q E;grind,N6:=h.N6.erase _,J0:=fun q x=>?_,JR:=fun k m=>?_}
 ·rcases t k z m with⟨rfl,rfl⟩|⟨d,r⟩
  ·obtain⟨Q,a2,a3,a4,a5,H,L⟩:=V
   refine⟨by simp,by simp,by simp,by simp,by simp,fun _=>?_,fun _=>.inr ⟨p,rfl,T,.inr (Aj C)⟩⟩;have:=H (by clear a5 H L;omega);rw[K]at this;exact this
  ·obtain⟨Q,a2,a3,a4,a5,H,L⟩:=h.mp k z r
   refine⟨Q,a2,a3,a4,fun u v=>?_,H,fun u=>?_⟩
   ·obtain⟨q,s,A,f⟩:=a5 u v
    refine⟨q,s,A,?_⟩;dsimp only;rcases f with f|f
    ·left;rw[Ao (n k _ d q f)];exact f
    ·right;rw[Ao (n k _ d q f)];exact f
   ·rcases L u with b|⟨q,s,A,f⟩
    ·exact .inl b
    ·refine .inr ⟨q,s,A,?_⟩
     dsimp only;rcases f with f|f
     ·left;rw[Ao (n k _ d q f)];exact f
     ·right;rw[Ao (n k _ d q f)];exact f
 ·rcases t k z m with⟨R,X⟩|⟨-,r⟩<;>rcases t l z' W with⟨S,e4⟩|⟨-,F⟩
  ·rw[R,S]
  ·rw[R];rw[X]at i o;exact h.mu j l _ _ B F i o
  ·rw[S];rw[e4]at i;exact h.mu k j _ _ r B i o
  ·exact h.mu k l _ _ r F i o
 ·by_cases G:p=q
  ·subst G
   dsimp only at g;rw[Aj C]at g;cases g;exact .inr ⟨by omega,by omega,j,_,rfl,Aj D,rfl,by simp⟩
  ·dsimp only at g
   rw[Ao G]at g;rcases h.sp q a' v x g with E|⟨E,P,k,z,h3,M,h5,h6⟩
   ·exact .inl E
   ·have:j≠k:=by rintro rfl;rw[B]at M;cases M;omega
    exact .inr ⟨E,P,k,z,h3,by dsimp only;rw[List.getElem?_set_ne this];exact M,h5,h6⟩
 ·obtain⟨l,rfl,s,A⟩:=h.J0 q (Ck x)
  have:p≠l:=by rintro rfl;exact h.N6.not_mem_erase x
  exact⟨l,rfl,s,by dsimp only;rw[List.getElem?_set_ne this];exact A⟩
 ·obtain⟨l,z,rfl,s,A⟩:=h.JR k m
  have:j≠l:=by rintro rfl;rw[B]at s;cases s;omega
  exact⟨l,z,rfl,by dsimp only;rw[List.getElem?_set_ne this];exact s,A⟩
theorem Dj.mS(h:Dj c){j:Nat}{y:MC}(g:c.ms[j]?=Z y)(B:y.p= -1)(i:y.phase≠0):Dj {c with ms:=c.ms.set j ⟨-1,0,0⟩,Im:=(j:Int)::c.Im}:=by
 have m:=(Af.1 g).1;have f:(j:Int)∉c.Im:=fun hm=>by
  obtain⟨k,z,e,b,n⟩:=h.JR _ hm;have:j=k:=by omega
  subst this;rw[g]at b;cases b;exact i n
 exact{h with
  m1:=by simp;exact h.m1,
  m2:=by simp;exact h.m2,
  mp:=fun k z d=>by
   by_cases p:k=j
   ·have:z=⟨-1,0,0⟩:=by grind
    subst this;unfold N5;simp
   ·exact h.mp k z (by grind),
  mu:=fun k l z z' d C=>by have:=h.mu k l z z';grind,
  sp:=fun q a w r s=>by
   rcases h.sp q a w r s with b|⟨b,n,k,z,t,o,u,v⟩
   ·exact .inl b
   ·have:j≠k:=by rintro rfl;rw[g]at o;cases o;omega
    exact .inr ⟨b,n,k,z,t,by dsimp only;rw[List.getElem?_set_ne this];exact o,u,v⟩,
  j3:=BB.2 ⟨f,h.j3⟩,
  JR:=fun k d=>by
   rcases Bv.1 d with rfl|d
   ·exact⟨j,⟨-1,0,0⟩,rfl,Aj m,rfl⟩
   ·obtain⟨l,z,rfl,x,A⟩:=h.JR k d
    have:j≠l:=by rintro rfl;exact f d
    exact⟨l,z,rfl,by dsimp only;rw[List.getElem?_set_ne this];exact x,A⟩}
end
end
section
section
variable {s:St}
variable {i j:Nat} {x:G} {y:M1}
theorem after{s':St}(c:s.gs[i]?=Z x)(hy:s.ms[j]?=Z y)(h:core s'={core s with gs:=(core s).gs.set i {gc x with begun:=rm}}):
  (∃a:M1,s'.ms[j]?=Z a∧mc a=mc y)∧(∃b:G,s'.gs[i]?=Z b∧gc b={gc x with begun:=rm})∧s'.stat=s.stat∧s'.sc.Cy=s.sc.Cy∧s'.rings.length=s.rings.length:=by
 have d:=Aq Cr.ms h;have e:=Aq Cr.gs h;refine⟨DG (by rw[d];exact CE hy),Hw (by rw[e];exact Aj (by simpa[core]using(Af.1 c).1)),Aq Cr.stat h,Aq Cr.st h,Aq Cr.n h⟩
theorem iv(a:s.gs[i]?=Z x)(hy:s.ms[j]?=Z y)(x':G)(y':M1)(st:List Pr):core ({s.CH i x' with stat:=st}.CM j y')={core s with gs:=(core s).gs.set i (gc x'),ms:=(core s).ms.set j (mc y'),stat:=st}:=by simp[core,St.CM,St.CH,Db]
theorem Inv.j7{e:Nat}(h:Inv e s){x':G}(c:s.gs[i]?=Z x)(d:OY s.funcs x'∧(x'.done=rq→x'.word=6∨i=e)): ∀(k:Nat)(z:G),(s.gs.set i x')[k]?=Z z→OY s.funcs z∧(z.done=rq→z.word=6∨k=e):=fun k z a=>by
 by_cases b:i=k
 ·subst b
  rw[Aj (Af.1 c).1]at a;cases a;exact d
 ·rw[Ao b]at a;exact h.th k z a
theorem Re(h:Inv 1000 s){p:Nat}(l:s.gs[i]?=Z x)(hy:s.ms[j]?=Z y)(t:y.phase=2∧x.word=2∧(s.sc.Cy=rq→s.sc.CD≠y.g)∨y.phase=5∧x.word=3)(H:y.g=(i:Int)+1)(E:y.p=p)(K:p<s.rings.length)(m:s.stat[p]?=Z (1,(j:Int)))(w:Int)(y':M1)(u:y'.g=y.g)(A:y'.p=y.p)(hw:w=2∧y'.phase=2∨w=3∧y'.phase=5)(st:List Pr)(n:st=s.stat∨s.sc.Cy=rm∧st=s.stat.set p (2,(j:Int))∧y'.phase=5):Inv 1000 ({s.CH i {x with word:=w}with stat:=st}.CM j y'):=by
 have B:p<s.stat.length:=(Af.1 m).1;obtain⟨f1,f2,-⟩:=h.flags l (by omega);have o:=h.th i x l;refine⟨⟨?_,h.DI,h.j7 l ⟨o.1.congr (by dsimp only;unfold D4.Dm;omega) rfl rfl rfl rfl,fun L=>?_⟩,h.box⟩,?_⟩
 ·rw[iv l hy]
  refine h.base.both (CT l) (CE hy) (by simp only[mc];omega) H u A ⟨f1,f2⟩ hw (by simp only[gc];omega) st ?_ ⟨p,E,K,m⟩ f2;rcases n with e|⟨-,e,M⟩
  ·exact .inl e
  ·exact .inr ⟨p,E,m,e,M⟩
 ·have:=o.2 L
  have:=h.mR l;omega
 ·rw[iv l hy]
  have r:(mc y).phase≠3∧(mc y).phase≠4:=by simp only[mc];omega
  have f:(mc y').phase≠3∧(mc y').phase≠4:=by simp only[mc];omega
  rcases n with rfl|⟨F,rfl,-⟩
  ·have b:=h.link.Nr (CE hy) r f (fun m=>by rcases t with G|G;exact .inl (G.2.2 m);exact .inr (by simp only[mc];omega))
   exact⟨b.go,b.Eg,b.bars,b.stop⟩
  ·have C:j<(core s).ms.length:=by simpa[core]using(Af.1 hy).1
   have b:=h.link.look (c:=core s) F (mN:=(core s).ms.set j (mc y')) (GS:=s.stat.set p (2,(j:Int))) (j4:=s.CB) (nG:=s.CK) (fun q a v R d=>?_) (fun k z g=>?_) (fun k z g S=>?_)
   ·exact⟨b.go,b.Eg,b.bars,b.stop⟩
   ·have:=(h.link.go F).2.1 q a v R
    by_cases e:p=q
    ·subst e;rw[Aj B]at d;cases d;decide
    ·rw[Ao e]at d;exact this d
   ·by_cases e:j=k
    ·subst e;rw[Aj C]at g;cases g;exact .inl f
    ·rw[Ao e]at g;exact .inr g
   ·have:j≠k:=by rintro rfl;rw[CE hy]at g;cases g;exact r.2 S
    rw[Ao this];exact g
theorem aR(h:Inv 1000 s)(f:s.gs[i]?=Z x)(hy:s.ms[j]?=Z y)(b:y.phase=2)(F:y.g=(i:Int)+1)(m:s.sc.CD≠y.g)(x':G)(c:x'.fn=x.fn∧x'.Dt=x.Dt∧x'.CS=x.CS∧x'.stack=x.stack∧x'.done=x.done)(hw:x'.word=x.word)(t: ¬(x'.blocked=rq∧x'.CA=rq)): ∃q,Gf (s.CH i x') j=Z q∧Inv 1000 (q.2.mv q.1 4):=by
 obtain⟨a,z,s2,-,u,l,H,o,p,r,-⟩:=Ky h hy (.inl ⟨b,fun _=>m⟩);have:a=i:=by omega
 subst this;rw[f]at o;cases o;have w:=(Af.1 f).1;have d:=h.th a x f;refine⟨(a,(s.CH a x').CM j {y with g:=0,phase:=1}),?_,?_⟩
 ·unfold Gf;rw[show(s.CH a x').ms[j]?=s.ms[j]? from rfl,hy];dsimp only;rw[if_pos (by omega),show(y.g-1).toNat=a by omega]
 ·have A:Hn x'.word 4=4:=by rw[hw,r b];decide+kernel
  have e:((s.CH a x').CM j {y with g:=0,phase:=1}).mv a 4=s2.CH a {x' with word:=4}:=by rw[p];simp[St.mv,St.CH,St.CM,w,A]
  dsimp only;rw[e];refine E6 u l.at_ _ (by dsimp only;unfold D4.Dm;omega) ⟨fun B=>⟨.inl rfl,?_⟩,fun _=>.inl rfl⟩ (fun hm=>absurd hm l.qs) (fun hm=>absurd hm l.ws) (fun k v C n=>absurd n (l.ms k v C)) ⟨?_,fun D=>?_⟩
  ·cases E:x'.CA with
   |false=>rfl
   |true=>exact absurd ⟨B,E⟩ t
  ·rw[show s2.funcs=s.funcs by rw[p];rfl];exact d.1.congr (by dsimp only;unfold D4.Dm;omega) c.1 c.2.1 c.2.2.1 c.2.2.2.1
  ·have:=d.2 (c.2.2.2.2▸D)
   have:=h.mR f;have:=r b;omega
theorem Xg(h:Inv 1000 s){ins:CN}(f:s.gs[i]?=Z x)(hy:s.ms[j]?=Z y)(a:y.phase=2)(g:y.g=(i:Int)+1)(c:E9 s x=Z ins)(v:ins.op=12): ∃p,JG s j (decide (s.sc.CD=y.g))=Z p∧Inv 1000 p:=by
 obtain⟨B,r,s1,k1,k2,k3,k4,k5,k6,-⟩:=DW h hy a g 0;rw[f]at k1;cases k1;rw[c]at k2;cases k2;obtain⟨c1,w,c3⟩:=k6 (by omega) (by omega) (by omega);obtain⟨⟨t,k,u⟩,⟨l,b,ex⟩,c4,c5,c6⟩:=after f hy c1;have m:t.g=y.g:=Aq MC.g u;have d:t.phase=2:=(Aq MC.phase u).trans a;unfold JG;rw[hy];dsimp only;rw[Ai (by omega),k4];dsimp only[Option.bind_some];rw[show(y.g-1).toNat=i by omega,b];by_cases n:s.sc.CD=y.g
 ·rw[Ai (by simpa using n)];exact⟨s1,rfl,k5⟩
 ·rw[Ah (by simpa using n)]
  dsimp only;split
  ·exact⟨_,rfl,(k5.UE b {l with token:=rm} rfl ⟨rfl,rfl,rfl,rfl,rfl⟩).1⟩
  ·obtain⟨-,-,-,-,f2,-⟩:=h.run hy (.inl a) g
   have o:l.CA=false:=by have:=Aq GC.CA ex;simp only[gc]at this;obtain⟨C,e,-,-,-,f2,-⟩:=h.run hy (.inl a) g;rw[f]at e;cases e;rw[this];exact f2
   obtain⟨q,z,A⟩:=aR k5 b k d (by omega) (by rw[w,m];exact n) {l with blocked:=rq} ⟨rfl,rfl,rfl,rfl,rfl⟩ rfl (by simp[o]);rw[z];exact⟨_,rfl,A⟩
theorem fV(h:Inv 1000 s){ins:CN}(E:s.gs[i]?=Z x)(hy:s.ms[j]?=Z y)(b:y.phase=2)(F:y.g=(i:Int)+1)(g:E9 s x=Z ins)(H:ins.op=16): ∃G,Sw s j ins (decide (s.sc.CD=y.g))=Z G∧Inv 1000 G:=by
 unfold Sw;rw[hy];dsimp only;by_cases v:s.sc.CD=y.g
 ·rw[Ai (by simpa using v)]
  obtain⟨K,k,s1,k1,k2,k3,k4,k5,-⟩:=DW h hy b F 0;exact⟨s1,k4,k5⟩
 rw[Ah (by simpa using v)];obtain⟨p,w,L,M⟩:=h.one hy (.inr (.inr ⟨b,v⟩));have l:p<s.asked.length:=by have:=h.base.nb;simp[core]at this;omega
 rw[Ai (by omega),show s.asked[y.p.toNat]?=Z s.asked[p] by rw[w,An];exact Ae l,show(y.g-1).toNat=i by omega,E];dsimp only;cases O:s.asked[p].Eg with
 |true=>rw[Ai rfl,w];exact Lb h (Ae l) O
 |false=>
  rw[Ah (by decide)];cases A:s.sc.Cy with
  |true=>rw[Ai rfl];exact IV h hy (.inl ⟨b,fun _=>v⟩)
  |false=>
   rw[Ah (by decide)];have B:=(Af.1 hy).1;obtain⟨P,-⟩:=h.M2 hy {y with left:=D3 (rg x ins.a.toNat) 8} rfl;generalize a:s.CM j {y with left:=D3 (rg x ins.a.toNat) 8}=s0 at*
   have m:s0.ms[j]?=Z {y with left:=D3 (rg x ins.a.toNat) 8}:=by rw[←a];exact Aj B
   have n:s0.gs[i]?=Z x:=by rw[←a];exact E
   obtain⟨K,k,s1,k1,k2,k3,k4,k5,k6,-⟩:=DW P m b F 0;rw[n]at k1;cases k1;rw[show E9 s0 x=Z ins by rw[←a];exact g]at k2;cases k2;obtain⟨c1,X,c3⟩:=k6 (by omega) (by omega) (by omega);obtain⟨⟨d,o,C⟩,⟨z,q,ex⟩,c4,c5,c6⟩:=after n m c1;have Q:d.g=y.g:=Aq MC.g C;have r:d.p=y.p:=Aq MC.p C;have t:d.phase=2:=(Aq MC.phase C).trans b;have u:z.word=2:=(Aq GC.word ex).trans k3;rw[k4];dsimp only[Option.bind_some];rw[o];dsimp only;rw[Ai (by omega)];have R:Hn z.word 3=3:=by rw[u];decide+kernel
   have S:s1.mv i 3=s1.CH i {z with word:=3}:=by simp[St.mv,q,R]
   simp only[show(d.g-1).toNat=i by omega];rw[S];have f:s1.stat[p]?=Z (1,(j:Int)):=by rw[c4,←a];exact M
   have T:=(Af.1 f).1;have V:Cw.Di (s1.CH i {z with word:=3}).stat d.p (fun _ W=>(2,W)) (fun s _=>s==1)=s1.stat.set p (2,(j:Int)):=by show Cw.Di s1.stat d.p _ _=_;unfold Cw.Di;rw[r,w,Ai (by omega),An,f];simp
   rw[V];have c:s0.sc.Cy=false:=by rw[←a];exact A
   have D:s0.rings=s.rings:=by rw[←a];rfl
   exact⟨_,rfl,Re k5 q o (.inl ⟨t,u,fun e=>tf e (c5.trans c)⟩) (by omega) (r.trans w) (by rw[c6,D];exact L) f 3 {d with phase:=5} rfl rfl (.inr ⟨rfl,rfl⟩) _ (.inr ⟨c5.trans c,rfl,rfl⟩)⟩
end
end
section
variable {s:St}
variable {j p:Nat} {y:M1}
theorem Lc(h:Inv 1000 s){i:Nat}{x:G}(b:s.gs[i]?=Z x)(hy:s.ms[j]?=Z y)(a:y.phase=5)(g:y.g=(i:Int)+1)(c:y.p=p)(d:p<s.rings.length)(e:s.stat[p]?=Z (1,(j:Int)))(hw:x.word=3∨x.word=11): ∃f,call2 s j y.g=Z f∧Inv 1000 f:=by
 unfold call2;rw[show(y.g-1).toNat=i by omega,b];dsimp only;split
 ·exact IV h hy (.inr ⟨a,p,c,d,e⟩)
 ·have k:Hn x.word 2=2:=by rw[show x.word=3 by omega];decide+kernel
  have l:s.mv i 2=s.CH i {x with word:=2}:=by simp[St.mv,b,k]
  rw[l,show(s.CH i {x with word:=2}).ms[j]?=s.ms[j]? from rfl,hy];exact⟨_,rfl,Re h b hy (.inr ⟨a,by omega⟩) g c d e 2 {y with phase:=2} rfl rfl (.inl ⟨rfl,rfl⟩) s.stat (.inl rfl)⟩
theorem Xh{l:List Pr}(a:l[p]?=Z (2,(j:Int)))(c:j<64):Cw.LS l p j (fun _ _=>(1,(j:Int))) (fun s b=>s==2&&b==(j:Int))=l.set p (1,(j:Int)):=by have d:=(Af.1 a).1;unfold Cw.LS Cw.Di Cw.Jv;rw[Ah (by omega),Ai (by omega)];simp[a]
theorem Tw{l:List Pr}(a:l[p]?=Z (1,(j:Int)))(c:j<64):Cw.LS l p j (fun _ _=>(1,(j:Int))) (fun s b=>s==2&&b==(j:Int))=l:=by have d:=(Af.1 a).1;unfold Cw.LS Cw.Di Cw.Jv;rw[Ah (by omega),Ai (by omega)];simp[a]
theorem M6(h:Inv 1000 s){a w:Int}(hy:s.ms[j]?=Z y)(f:y.phase=5)(o:p<s.rings.length)(n:s.stat[p]?=Z (a,w))(r:y.p=p∧a=2∧w=j∨y.p= -1∧a=0∧w= -1)(g:s.sc.Cy=rm):Inv 1000 (({s with CB:=s.CB.erase p,stat:=s.stat.set p (1,(j:Int))}:St).CM j {y with p:=p}):=by
 have i:core (({s with CB:=s.CB.erase p,stat:=s.stat.set p (1,(j:Int))}:St).CM j {y with p:=p})={core s with ms:=(core s).ms.set j ⟨p,y.g,5⟩,stat:=s.stat.set p (1,(j:Int)),ip:=s.CB.erase p}:=by simp[core,St.CM,Db,mc,f]
 have l:j<(core s).ms.length:=by simpa[core]using(Af.1 hy).1
 have m:=(Af.1 n).1;refine⟨⟨?_,h.DI,h.th,h.box⟩,?_⟩
 ·rw[i];exact h.base.again (CE hy) f o n r
 ·rw[i]
  refine h.link.look (c:=core s) g (nG:=s.CK) (fun q a v u b=>?_) (fun k z d=>?_) (fun k z d x=>?_)
  ·have:=(h.link.go g).2.1 q a v u
   by_cases e:p=q
   ·subst e;rw[Aj m]at b;cases b;decide
   ·rw[Ao e]at b;exact this b
  ·by_cases e:j=k
   ·subst e;rw[Aj l]at d;cases d;exact .inl ⟨by simp,by simp⟩
   ·rw[Ao e]at d;exact .inr d
  ·have:j≠k:=by rintro rfl;rw[CE hy]at d;cases d;simp only[mc]at x;omega
   rw[Ao this];exact d
theorem aS(h:Inv 1000 s)(hy:s.ms[j]?=Z y)(a:y.phase=5): ∃C,Kn s j=Z C∧Inv 1000 C:=by
 have m:=(Af.1 hy).1;have b:j<64:=by have:=h.base.m2;simp[core]at this;omega
 unfold Kn;rw[hy];dsimp only;split
 ·exact⟨_,rfl,(h.M2 hy {y with left:=wrap64 (y.left-1)} rfl).1⟩
 obtain⟨i,x,D,f,hw,H⟩: ∃(i:Nat)(x:G),y.g=(i:Int)+1∧s.gs[i]?=Z x∧(x.word=3∨x.word=11)∧(y.p= -1∨ ∃p:Nat,y.p=p∧p<s.rings.length∧(s.stat[p]?=Z (2,(j:Int))∨s.stat[p]?=Z (1,(j:Int)))):=by obtain⟨-,-,-,-,-,Q,R⟩:=h.base.mp j _ (CE hy);obtain⟨i,z,S,T,-,V,-⟩:=Q (by simp only[mc];omega);obtain⟨x,f,rfl⟩:=Hw T;exact⟨i,x,S,f,V a,R a⟩
 rw[Ai (by omega)];split
 ·rename_i d
  obtain⟨p,v,n,c⟩:=H.resolve_left d;clear H;rw[v];rcases c with c|c
  ·have K:s.sc.Cy=false:=by
    cases e:s.sc.Cy with
    |false=>rfl
    |true=>have:=(h.link.stop e).2.1 p _ _ n c;omega
   have t:=M6 h hy a n c (.inl ⟨v,rfl,rfl⟩) K;have e:({s with CB:=s.CB.erase p,stat:=s.stat.set p (1,(j:Int))}:St).CM j {y with p:=p}={s with stat:=s.stat.set p (1,(j:Int))}:=by
    have L:s.CB.erase (p:Int)=s.CB:=Zan fun hm=>by
     obtain⟨q,E,M,F⟩:=h.base.J0 _ hm;have:q=p:=by omega
     subst this;rw[show(core s).stat[q]?=s.stat[q]? from rfl,c]at F;simp at F
    have E:s.ms.set j {y with p:=(p:Int)}=s.ms:=by rw[show({y with p:=(p:Int)}:M1)=y by rw[←v]];apply List.ext_getElem?;grind
    simp[St.CM,L,E]
   rw[e]at t;rw[Xh c b];exact Lc t f hy a D v n (Aj (Af.1 c).1) hw
  ·rw[Tw c b]
   exact Lc h f hy a D v n c hw
 ·rename_i d
  have d:y.p= -1:=Classical.not_not.1 d;clear H;split
  ·rename_i P
   obtain⟨p,r,w⟩:=List.exists_cons_of_ne_nil P.1;obtain⟨q,rfl,n,c⟩:=h.base.J0 p (by simp[core,w]);rw[show s.CB.headD 0=(q:Int) by rw[w];rfl,take_set (l:=s.stat) c b];have t:=M6 h hy a n c (.inr ⟨d,rfl,rfl⟩) P.2;exact Lc t (y:={y with p:=(q:Int)}) f (by simp only[St.CM];exact Aj m) a D rfl n (Aj (Af.1 c).1) hw
  ·have O:(j:Int)∉s.CK:=fun hm=>by
    obtain⟨k,z,e,M,F⟩:=h.base.JR _ hm;have:j=k:=by omega
    subst this;rw[CE hy]at M;cases M;simp only[mc]at F;omega
   have L:Gf s j=Z (i,s.CM j {y with g:=0,phase:=1}):=by unfold Gf;rw[hy];dsimp only;rw[if_pos (by omega),show(y.g-1).toNat=i by omega]
   have E:Gc (s.CM j {y with g:=0,phase:=1}) j=Z {s with ms:=s.ms.set j {y with p:= -1,g:=0,phase:=0,CR:=rm},CK:=(j:Int)::s.CK}:=by unfold Gc;simp[St.CM,m,Kz O b]
   rw[L];dsimp only[Option.bind_some];rw[E];dsimp only[Option.bind_some];have A:core {s with ms:=s.ms.set j {y with p:= -1,g:=0,phase:=0,CR:=rm},CK:=(j:Int)::s.CK}={core s with ms:=(core s).ms.set j ⟨-1,0,0⟩,Im:=(j:Int)::s.CK}:=by simp[core,Db,mc]
   have t:Inv 1000 {s with ms:=s.ms.set j {y with p:= -1,g:=0,phase:=0,CR:=rm},CK:=(j:Int)::s.CK}:=by
    refine⟨⟨?_,h.DI,h.th,h.box⟩,?_⟩
    ·rw[A];exact h.base.mS (CE hy) d (by simp only[mc];omega)
    ·rw[A]
     have u:=h.link.Nr (y':=⟨-1,0,0⟩) (CE hy) (by simp only[mc];omega) (by simp) (fun _=>.inr (by simp only[mc];omega));exact⟨u.go,u.Eg,u.bars,u.stop⟩
   obtain⟨f1,f2,f3⟩:=h.flags f (by omega);have u:Q5 {s with ms:=s.ms.set j {y with p:= -1,g:=0,phase:=0,CR:=rm},CK:=(j:Int)::s.CK} i x:=by
    refine⟨f,h.base.JS (CT f) (by simp only[gc];omega),fun k z B e=>?_,f3,by omega,f1,f2⟩;dsimp only at B;by_cases o:j=k
    ·subst o;rw[List.getElem?_set_self m]at B;cases B;dsimp only at e;omega
    ·rw[Ao o]at B
     exact o (h.Xb hy B D e).1.symm
   obtain⟨C,k1,k2,-⟩:=Fm t u (-1) (.inl rfl) rm;exact⟨C,k1,k2⟩
theorem aT(h:Inv 1000 s)(hy:s.ms[j]?=Z y)(b:y.phase=3): ∃r,Lx s j=Z r∧Inv 1000 r:=by
 unfold Lx;rw[hy];dsimp only;split
 ·exact N7 h j
 rename_i B;have C:=h.base.mp j _ (CE hy);obtain⟨R,a2,a3,a4,a5,D,S⟩:=C;obtain⟨i,x,t,E,F,T,u⟩:=D (by simp only[mc];omega);have d:s.sc.Cy=true:=by
  cases e:s.sc.Cy with
  |true=>rfl
  |false=>exact absurd b ((h.link.go e).2.2 j _ (CE hy))
 obtain⟨G,H,⟨K,-⟩,v,k,z,q,c1,L,c3,c4,c5,c6⟩:=h.link.stop d;have n:k=j:=h.base.mu k j _ _ c1 (CE hy) (by have:=(u (.inl b)).2;simp only[mc]at*;omega) (by have:=(u (.inl b)).2;simp only[mc]at*;omega);subst n;rw[CE hy]at c1;cases c1;have o:(core s).wt=0:=by have:(core s).wt=s.sc.wait:=rfl;omega
 have f:=(Af.1 hy).1;have p:y.g=(i:Int)+1:=t;have g:core ((s.CM k {y with phase:=2}).CO {s.sc with CD:=y.g})={core s with ms:=(core s).ms.set k ⟨y.p,y.g,2⟩,Io:=y.g}:=by simp[core,St.CM,St.CO,Db,mc]
 have a:k<(core s).ms.length:=by simpa[core]using f
 have m: ∀(l:Nat)(z:MC),((core s).ms.set k ⟨y.p,y.g,2⟩)[l]?=Z z→z.phase≠4:=fun l z c=>by
  by_cases e:k=l
  ·subst e;rw[Aj a]at c;cases c;simp
  ·rw[Ao e]at c;exact v l z c
 have M:Inv 1000 ((s.CM k {y with phase:=2}).CO {s.sc with CD:=y.g}):=by
  refine⟨⟨?_,h.DI,h.th,h.box⟩,?_⟩
  ·rw[g]
   have O:=h.base.Nr (y':=⟨y.p,y.g,2⟩) (CE hy) ⟨by simp,by simp,by simp,by simp,fun _ _=>a5 (by simp only[mc];omega) (by simp only[mc];omega),fun _=>⟨i,x,t,E,fun _=>F (by simp only[mc];omega),by simp,by simp⟩,by simp⟩ (.inl rfl) rfl (by simp) (fun hm=>by
    obtain⟨l,z,e,w,P⟩:=h.base.JR _ hm;have:k=l:=by omega
    subst this;rw[CE hy]at w;cases w;simp only[mc]at P;omega)
   exact{O with}
  ·rw[g]
   exact⟨fun e=>tf d e,fun _=>h.link.Eg v,fun l z c Q=>absurd Q (m l z c),fun _=>⟨G,H,⟨K,fun _=>o⟩,m,k,_,q,Aj a,L,.inr ⟨rfl,rfl⟩,c4,c5,c6⟩⟩
 obtain⟨W,A,s1,k1,k2,k3,k4,k5,-⟩:=DW M (j:=k) (y:={y with phase:=2}) (by simp only[St.CM,St.CO];exact Aj f) rfl p 0;exact⟨s1,k4,k5⟩
theorem fW(h:Inv 1000 s)(hy:s.ms[j]?=Z y)(d:y.phase=4): ∃r,Qg s j=Z r∧Inv 1000 r:=by
 unfold Qg;rw[hy];dsimp only;split
 ·exact N7 h j
 rename_i O;obtain⟨a1,a2,a3,a4,a5,t,G⟩:=h.base.mp j _ (CE hy);obtain⟨i,x,H,P,u,K,w⟩:=t (by simp only[mc];omega);have how:=(w (.inr d)).2;have a:s.sc.Cy=false:=by
  cases e:s.sc.Cy with
  |false=>rfl
  |true=>exact absurd d ((h.link.stop e).2.2.2.1 j _ (CE hy))
 have f:=(Af.1 hy).1;have A:y.g=(i:Int)+1:=H;rw[Ai (by omega),show(y.g-1).toNat=i by omega];have B:GR (core s).bars=0:=by have C:=h.link.bars j _ (CE hy) d;have:(core s).wt=s.sc.wait:=rfl;omega
 have g: ∀b,b∈(core s).bars→b=false:=fun b Q=>by
  have:=Zac.1 B b Q;cases b
  ·rfl
  ·simp at this
 have o:core (s.CM j {y with phase:=2})={core s with ms:=(core s).ms.set j ⟨y.p,y.g,2⟩}:=by rw[DR];rfl
 have p:j<(core s).ms.length:=by simpa[core]using f
 have q: ∀(l:Nat)(z:MC),((core s).ms.set j ⟨y.p,y.g,2⟩)[l]?=Z z→z.phase=2∨l≠j∧(core s).ms[l]?=Z z:=fun l z c=>by
  by_cases e:j=l
  ·subst e;rw[Aj p]at c;cases c;exact .inl rfl
  ·rw[Ao e]at c;exact .inr ⟨fun R=>e R.symm,c⟩
 have S:Inv 1000 (s.CM j {y with phase:=2}):=by
  refine⟨⟨?_,h.DI,h.th,h.box⟩,?_⟩
  ·rw[o]
   exact h.base.Nr (y':=⟨y.p,y.g,2⟩) (CE hy) ⟨by simp,by simp,by simp,by simp,fun _ _=>a5 (by simp only[mc];omega) (by simp only[mc];omega),fun _=>⟨i,x,H,P,fun _=>u (by simp only[mc];omega),by simp,by simp⟩,by simp⟩ (.inl rfl) rfl (by simp) (fun hm=>by
    obtain⟨l,z,e,C,T⟩:=h.base.JR _ hm;have:j=l:=by omega
    subst this;rw[CE hy]at C;cases C;simp only[mc]at T;omega)
  ·rw[o]
   refine⟨fun _=>⟨(h.link.go a).1,(h.link.go a).2.1,fun l z c=>?_⟩,fun _=>g,fun l z c V=>?_,fun e=>tf e a⟩
   ·rcases q l z c with e|⟨-,e⟩
    ·omega
    ·exact(h.link.go a).2.2 l z e
   ·rcases q l z c with e|⟨-,e⟩
    ·omega
    ·exact h.link.bars l z e V
 obtain⟨x',L,s1,k1,k2,k3,k4,k5,-,k7⟩:=DW S (j:=j) (y:={y with phase:=2}) (by simp only[St.CM];exact Aj f) rfl A 0;rw[k4];dsimp only[Option.bind_some];obtain⟨W,M⟩:=k7 a;obtain⟨r,m1,m2,-⟩:=JU (i:=i) k5 (fun _=>⟨W,fun k z X=>by
  have key: ¬(z.phase=3∨z.phase=4):=fun D=>by
   obtain⟨v,m,e⟩:=M k z X D;have e1:v.phase=z.phase:=Aq MC.phase e;by_cases n:j=k
   ·subst n
    simp only[St.CM]at m;rw[Aj f]at m;cases m;dsimp only at e1;omega
   ·simp only[St.CM]at m
    rw[Ao n]at m;obtain⟨-,-,-,-,-,d6,-⟩:=h.base.mp k _ (CE m);have E:1≤(mc y).g:=by omega
    have F:(mc v).phase=3∨(mc v).phase=4:=by clear a5 t G u K w M d6;simp only[mc];omega
    clear a5 t G u K w;obtain⟨i2,z2,d1,d2,d3,d4,d5⟩:=d6 (by clear d6;omega);have d8:=(d5 F).2;exact n (h.base.mu j k _ _ (CE hy) (CE m) (by rw[←how,d8]) E)
  omega⟩)
 exact⟨r,m1,m2⟩
end
end Go.Proofs.YtgadhchejmlfjaaGreatDoor.CX
