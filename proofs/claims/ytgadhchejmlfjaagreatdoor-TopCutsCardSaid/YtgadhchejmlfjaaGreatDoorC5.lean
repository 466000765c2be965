/- A part of the proof. -/
import Derived.Test.YtgadhchejmlfjaaGreatDoorC4
set_option linter.unusedVariables false
set_option maxRecDepth 20000
set_option maxHeartbeats 16000000
open Go.Value renaming int→I,pointer→J,slice→Y
open Go.IntKind renaming i64→U
open Option renaming none→N,some→Z
open Bool renaming false→rm,true→rq
namespace Go.Proofs.YtgadhchejmlfjaaGreatDoor.CX
open Go.RowKit Go.CL
open Cw (Pr pz)
open Vm (CN)
section
section
variable {e:Nat} {s:St}
theorem Eu(h:Inv e s){a:List Pc}{b:List (Option Int)}(d:a.map (·.Eg)=s.asked.map (·.Eg))(f:b.length=s.box.length):Inv e {s with asked:=a,box:=b}∧Kp s {s with asked:=a,box:=b}:=by
 have c:core {s with asked:=a,box:=b}=core s:=by simp[core,Db,d]
 exact⟨⟨⟨by rw[c];exact h.base,h.DI,h.th,by rw[←h.box];exact f⟩,by rw[c];exact h.link⟩,rfl,rfl,rfl,rfl,fun k x g=>⟨x,g,rfl,rfl,rfl,rfl,rfl,rfl,id⟩,fun _ y hy _=>⟨y,hy,rfl⟩⟩
theorem Q8(l:List (Option Int))(m:Nat)(d:Int):(Kh l m d).length=l.length:=by unfold Kh;(repeat' split)<;>first|rfl|simp
theorem IX(h:Bs e s){j:Nat}{y:M1}(hy:s.ms[j]?=Z y)(c:y.p= -1∨ ∃p:Nat,y.p=p∧p<s.rings.length): ∃a b,GH s j=Z {s with asked:=a,box:=b}∧a.map (·.Eg)=s.asked.map (·.Eg)∧b.length=s.box.length:=by
 have g:j<64:=by have:=(Af.1 hy).1;have:=h.base.m2;simp[core]at this;omega
 unfold GH;rw[hy];dsimp only;rw[Ai g];by_cases d:y.p= -1
 ·rw[Ai d]
  exact⟨s.asked,_,rfl,rfl,Q8 _ _ _⟩
 ·rw[Ah d]
  rcases c with c|⟨p,c,i⟩
  ·exact absurd c d
  ·have f:p<s.asked.length:=by have:=h.base.nb;simp[core]at this;omega
   rw[Ai (by omega),c,An,Ae f];refine⟨_,_,rfl,?_,Q8 _ _ _⟩;apply BC;intro k;simp only[Bu];grind
theorem Jb(h:Bs e s){p:Nat}(c:p<s.rings.length): ∃a w,s.stat[p]?=Z (a,w)∧Cw.FG s.stat p=a∧Cw.Ic s.stat p=w:=by
 have b:p<s.stat.length:=Am c h.base.ns;refine⟨s.stat[p].1,s.stat[p].2,Ae b,?_,?_⟩
 ·unfold Cw.FG;rw[Ai (by omega)];simp[b]
 ·unfold Cw.Ic;rw[Ai (by omega)];simp[b]
theorem O3(h:Bs e s){p:Nat}(f:p<s.rings.length){a w:Int}(g:s.stat[p]?=Z (a,w)):(w= -1∧Ii s p=N∧(a=0∨a=3))∨ ∃(k:Nat)(y:M1),w=k∧Ii s p=Z k∧s.ms[k]?=Z y∧y.p=p∧1≤y.phase∧1≤a∧a≤3:=by
 obtain⟨a',o,i,q,b⟩:=Jb h f;rw[g]at i;cases i;rcases h.base.sp p a w f g with⟨c,d⟩|⟨c,d,k,z,j,l,m,n⟩
 ·refine .inl ⟨c,?_,d⟩
  unfold Ii;rw[Ah (by rw[b];omega)]
 ·obtain⟨y,hy,rfl⟩:=DG l
  have:=(Af.1 hy).1;refine .inr ⟨k,y,j,?_,hy,m,n,c,d⟩;unfold Ii;rw[Ai (by rw[b];omega),b,j,An]
theorem Tr(j:Nat): ∀(n p:Nat)(s:St),Inv e s→p+n=s.rings.length→ ∃a b,Gi j n p s=Z {s with asked:=a,box:=b}∧a.map (·.Eg)=s.asked.map (·.Eg)∧b.length=s.box.length:=by
 intro n;induction n with
 |zero=>intro p s h _;exact⟨s.asked,s.box,rfl,rfl,rfl⟩
 |succ n f=>
  intro p s h B;have g:p<s.rings.length:=by omega
  obtain⟨a,w,r,C,D⟩:=Jb h.toBs g;unfold Gi;rcases O3 h.toBs g r with⟨t,i,-⟩|⟨k,y,t,i,u,v,-⟩
  ·rw[i];exact f (p+1) s h (by omega)
  ·rw[i]
   dsimp only;split
   ·obtain⟨c,b,x,q,d⟩:=IX h.toBs u (.inr ⟨p,v,g⟩)
    rw[x];obtain⟨z,A,l,m,o⟩:=f (p+1) _ (Eu h q d).1 (by dsimp only;omega);exact⟨z,A,l,m.trans q,o.trans d⟩
   ·exact f (p+1) s h (by omega)
theorem N7(h:Inv e s)(j:Nat): ∃c,MF s j=Z c∧Inv e c:=by obtain⟨a,b,d,f,g⟩:=Tr j s.rings.length 0 s h (by omega);exact⟨_,d,(Eu h f g).1⟩
theorem JU(h:Inv e s){i:Nat}(H:s.owner=(i:Int)+1→s.sc.Cy=rm∧ ∀(k:Nat)(z:M1),s.ms[k]?=Z z→z.phase≠3∧z.phase≠4): ∃j,EI s i=Z j∧Inv e j∧Kp s j:=by
 have K:s.waits.length≤64:=by have:=I9 (core s).gs.length s.waits h.base.wn (fun x b=>by obtain⟨k,z,rfl,t,-⟩:=h.base.ww x b;have:=(Af.1 t).1;omega);exact AE this h.base.g2
 unfold EI;rw[Ai (by omega)];by_cases f:s.owner=(i:Int)+1
 ·obtain⟨u,v⟩:=H f
  have g: ¬(i:Int)+1<1:=by omega
  unfold Dc.P5 Dc.P6 Dc.P7;rw[Ah g,Ai f,Ah g,Ai f,Ah g,Ai f];have p: ∀(k:Nat)(z:MC)(o:Int)(gs:List GC),(core s).ms[k]?=Z z→N5 (core s).n (core s).stat gs (core s).F0 k z→N5 (core s).n (core s).stat gs o k z:=fun k z o gs d p=>by obtain⟨y,hy,rfl⟩:=DG d;have:=v k y hy;obtain⟨L,a2,a3,a4,a5,M,O⟩:=p;exact⟨L,a2,a3,a4,a5,fun m=>by obtain⟨i,x,P,Q,R,S,b5⟩:=M m;exact⟨i,x,P,Q,R,S,fun T=>(T.elim this.1 this.2).elim⟩,O⟩
  have E: ∀(o:Int)(ws:List Int)(gs:List GC),Nq {core s with F0:=o,ws:=ws,gs:=gs}:=fun o ws gs=>⟨h.link.go,h.link.Eg,h.link.bars,fun c=>tf c u⟩;cases hw:s.waits with
  |nil=>
   dsimp only[List.headD_nil,List.tail_nil];rw[Ai rfl];refine⟨_,rfl,⟨⟨?_,h.DI,h.th,h.box⟩,?_⟩,rfl,rfl,rfl,rfl,fun k x b=>⟨x,b,rfl,rfl,rfl,rfl,rfl,rfl,id⟩,fun _ y hy _=>⟨y,hy,rfl⟩⟩
   ·exact(({h.base with mp:=fun k z d=>p k z 0 _ d (h.base.mp k z d),KY:=by simp,Ji:=by simp,wn:=by simp,ww:=by simp}:Dj {core s with F0:=0,ws:=[]}))
   ·exact E 0 [] _
  |cons id r=>
   dsimp only[List.headD_cons,List.tail_cons];have F:(id::r).Nodup:=by rw[←hw];exact h.base.wn
   obtain⟨k,z,rfl,t,m⟩:=h.base.ww id (by simp[core,hw]);obtain⟨x,b,rfl⟩:=Hw t;have d:k<s.gs.length:=(Af.1 b).1;have w:=h.base.gw k _ (CT b);simp only[gc]at w m;have X:=w.2.2 m;have n:x.blocked=false:=by
    cases hb:x.blocked with
    |false=>rfl
    |true=>have:=(w.2.1 hb).2;rw[m]at this;cases this
   rw[Ah (by omega),Ai (by omega),show((k:Int)+1-1).toNat=k by omega];rw[b];dsimp only;have q:=h.th k x b;have A:(k:Int)+1∉r:=(BB.1 F).1;have B:Inv e (({s with owner:=(k:Int)+1,waits:=r}:St).CH k {x with CA:=rm}):=by
    refine⟨⟨?_,h.DI,fun l z a=>?_,h.box⟩,?_⟩
    ·rw[Et]
     have C:Dj {core s with F0:=(k:Int)+1,ws:=r}:={h.base with mp:=fun l z a=>p l z _ _ a (h.base.mp l z a),KY:=by dsimp only;omega,Ji:=by simp[core];omega,wn:=(BB.1 F).2,ww:=fun id hid=>h.base.ww id (by simp only[core];rw[hw];exact A6 _ hid)};refine C.CH (i:=k) (CT b) ⟨q.1.wd,by simp[gc,n],by simp[gc]⟩ (fun hm=>absurd hm (h.base.JS (CT b) (by simp only[gc];omega))) (fun hm=>absurd hm A) (fun l z a D=>?_);exact absurd D (h.base.MZ (CT b) (by simp only[gc];omega) a)
    ·by_cases c:k=l
     ·subst c
      simp only[St.CH,Aj d]at a;cases a;exact⟨q.1.congr q.1.wd rfl rfl rfl rfl,q.2⟩
     ·simp only[St.CH,Ao c]at a
      exact h.th l z a
    ·rw[Et];exact E _ _ _
   have G:Kp s (({s with owner:=(k:Int)+1,waits:=r}:St).CH k {x with CA:=rm}):=by
    refine⟨rfl,rfl,rfl,by simp[St.CH],fun l z a=>?_,fun _ y hy _=>⟨y,hy,rfl⟩⟩;by_cases c:k=l
    ·subst c
     rw[b]at a;cases a;exact⟨_,Aj d,rfl,rfl,rfl,rfl,rfl,rfl,id⟩
    ·exact⟨z,by simp only[St.CH];rw[Ao c];exact a,rfl,rfl,rfl,rfl,rfl,rfl,id⟩
   split
   ·exact⟨_,rfl,B,G⟩
   ·obtain⟨j,h5,h6,h7⟩:=Fm B (B.loose (i:=k) (x:={x with CA:=rm}) (by simp only[St.CH];exact List.getElem?_set_self d) (by dsimp only;omega) ⟨n,rfl⟩) (-1) (.inl rfl) rm
    exact⟨j,h5,h6,G.trans h7⟩
 ·have g: ¬(i:Int)+1<1:=by omega
  have c:Dc.P5 s.owner s.waits ((i:Int)+1)=0:=by unfold Dc.P5;rw[Ah g,Ah f]
  have e2:Dc.P6 s.owner s.waits ((i:Int)+1)=s.owner:=by unfold Dc.P6;rw[Ah g,Ah f]
  have e3:Dc.P7 s.owner s.waits ((i:Int)+1)=s.waits:=by unfold Dc.P7;rw[Ah g,Ah f]
  rw[c,e2,e3];dsimp only;rw[Ai rfl];exact⟨s,rfl,h,Kp.refl s⟩
end
end
section
variable {j pj k:Nat} {y:MC}
theorem Dj.Q9{c:Cr}(h:Dj c){p:Nat}{w b:Int}(o:c.stat[p]?=Z (3,w))(t:w= -1∧b=0∨w≠ -1∧b=1):Dj {c with stat:=c.stat.set p (b,w)}:=
  {h with
    ns:=by simp;exact h.ns,
    sl:=by simp;exact h.sl,
    mp:=fun k z x=>by
      obtain⟨y,a2,a3,a4,a5,A,B⟩:=h.mp k z x;refine⟨y,a2,a3,a4,fun u v=>?_,A,fun u=>?_⟩
      · obtain⟨q,i,j,r⟩:=a5 u v
        refine⟨q,i,j,?_⟩;by_cases d:p=q
        · subst d
          have C:p<c.stat.length:=(Af.1 o).1;rw[o]at r;have e:w=k:=by grind
          left;rw[Aj C];rcases t with⟨g,-⟩|⟨-,m⟩
          ·omega
          ·rw[m,e]
        ·simpa[As,d]using r
      · rcases B u with b|⟨q,i,j,r⟩
        ·exact .inl b
        · have d:p≠q:=by rintro rfl;grind
          exact .inr ⟨q,i,j,by simpa[As,d]using r⟩,
    sp:=fun q a v d f=>by
      by_cases n:p=q
      · subst n
        have:=h.sp p 3 w d o;rw[Aj (Af.1 o).1]at f;cases f;rcases t with⟨g,m⟩|⟨g,m⟩
        ·exact .inl ⟨g,.inl m⟩
        · rcases this with⟨s,-⟩|⟨-,-,s⟩
          ·exact absurd s g
          ·exact .inr ⟨by omega,by omega,s⟩
      ·exact h.sp q a v d (by simpa[As,n]using f),
    sd:=fun q g m=>by have:=h.sd q g;grind,
    J0:=fun q d=>by
      obtain⟨l,rfl,i,j⟩:=h.J0 q d;have:p≠l:=by rintro rfl;grind
      exact⟨l,rfl,i,by simpa[As,this]using j⟩}
theorem W9(self:Int): ∀(l:List Int)(i:Nat)(m:Int),(∀q,q∈(Dq self l i m).1++(Dq self l i m).2→ ∃k:Nat,q=k∧i≤k∧k<i+l.length∧q≠self)∧((Dq self l i m).1++(Dq self l i m).2).Nodup∧ ∀k:Nat,i≤k→k<i+l.length→(k:Int)≠self→(k:Int)∈(Dq self l i m).1++(Dq self l i m).2:=by
  intro l;induction l with
  |nil=>intro i m;simp[Dq];omega
  |cons n r j=>
    intro i m;unfold Dq;split
    · rename_i p
      obtain⟨d,f,g⟩:=j (i+1) m;refine⟨fun q c=>?_,f,fun k e b a=>g k (by omega) (by simp at b;omega) a⟩;obtain⟨k,rfl,e,b,a⟩:=d q c;exact⟨k,rfl,by omega,by simp;omega,a⟩
    · rename_i p
      have key: ∀(m':Int)(o:List Int),o.Perm ((i:Int)::((Dq self r (i+1) m').1++(Dq self r (i+1) m').2))→(∀q,q∈o→ ∃k:Nat,q=k∧i≤k∧k<i+(n::r).length∧q≠self)∧o.Nodup∧ ∀k:Nat,i≤k→k<i+(n::r).length→(k:Int)≠self→(k:Int)∈o:=by
        intro m' o h;obtain⟨d,f,g⟩:=j (i+1) m';refine⟨fun q c=>?_,h.nodup_iff.2 (BB.2 ⟨fun hm=>?_,f⟩),fun k e b a=>h.mem_iff.2 ?_⟩
        · rcases Bv.1 (h.mem_iff.1 c)with rfl|c
          ·exact⟨i,rfl,by omega,by simp,p⟩
          · obtain⟨k,rfl,e,b,a⟩:=d q c
            exact⟨k,rfl,by omega,by simp;omega,a⟩
        · obtain⟨k,e,b,-⟩:=d _ hm
          omega
        · by_cases s:k=i
          ·subst s;exact List.mem_cons_self
          ·exact A6 _ (g k (by omega) (by simp at b;omega) a)
      split
      ·exact key (m-1) _ (List.Perm.refl _)
      ·exact key m _ List.perm_middle
section
variable {e:Nat}
structure Gs (e:Nat) (s:St) (j pj:Nat) (y:MC) (T:List Int):Prop where
  Dy:Bs e s
  st:s.sc.Cy=rm
  Io:s.sc.CD=0
  fQ: ∀(k:Nat)(z:M1),s.ms[k]?=Z z→z.phase≠3∧z.phase≠4
  bars: ∀b,b∈(core s).bars→b=rm
  pn:pj<s.rings.length
  my: ∃z:M1,s.ms[j]?=Z z∧mc z=y
  mP:y.p=pj∧y.phase=2
  nH:s.stat[pj]?=Z (3,(j:Int))
  mQ:T.Nodup
  tt: ∀q,q∈T→ ∃k:Nat,q=k∧k<s.rings.length∧k≠pj∧s.stat[k]?=Z (3,-1)
  al: ∀(q:Nat)(w:Int),q<s.rings.length→s.stat[q]?=Z (3,w)→(q:Int)∈T∨q=pj
theorem Gs.step{s s':St}{T:List Int}(h:Gs e s j pj y ((k:Int)::T)){v:Pr}(r:v.1≠3)(t:Bs e s')(b:Kp s s')(g:s'.stat=s.stat.set k v)(u:s'.asked=s.asked)(hm: ∀(k:Nat)(z:M1),s'.ms[k]?=Z z→s.ms[k]?=Z z∨z.phase≤1):Gs e s' j pj y T:=by
  obtain⟨i,m⟩:=BB.1 h.mQ;obtain⟨n,x,A,o,p⟩:=h.tt k (by simp);have:n=k:=by omega
  subst this;obtain⟨z,B,rfl⟩:=h.my;have C:z.phase=2:=h.mP.2;refine⟨t,by rw[b.sc];exact h.st,by rw[b.sc];exact h.Io,fun l z D=>?_,by simp only[core,u];exact h.bars,by rw[b.nr];exact h.pn,b.ms j z B (by omega),h.mP,?_,m,fun q c=>?_,fun q w c hw=>?_⟩
  · rcases hm l z D with a|a
    ·exact h.fQ l z a
    ·omega
  ·rw[g,Ao o];exact h.nH
  · obtain⟨l,rfl,a,f,E⟩:=h.tt q (A6 _ c)
    have:n≠l:=by rintro rfl;exact i c
    exact⟨l,rfl,by rw[b.nr];exact a,f,by rw[g,Ao this];exact E⟩
  · rw[b.nr]at c
    rw[g]at hw;by_cases d:n=q
    · subst d
      rw[Aj (Af.1 p).1]at hw;cases hw;exact absurd rfl r
    · rw[Ao d]at hw
      rcases h.al q w c hw with a|a
      · rcases Bv.1 a with f|f
        ·omega
        ·exact .inl f
      ·exact .inr a
theorem UH(s:St)(st:List Pr)(ip:List Int)(al:List Int):Kp s {s with stat:=st,CB:=ip,all:=al}:=⟨rfl,rfl,rfl,rfl,fun k x a=>⟨x,a,rfl,rfl,rfl,rfl,rfl,rfl,id⟩,fun _ y hy _=>⟨y,hy,rfl⟩⟩
theorem Gs.off{s:St}{T:List Int}(h:Gs e s j pj y ((k:Int)::T)):k<s.rings.length∧s.stat[k]?=Z (3,-1)∧(k:Int)∉s.CB∧bX s k={s with stat:=s.stat.set k (0,-1)}∧Bs e {s with stat:=s.stat.set k (0,-1)}:=by
  obtain⟨c,g,d,i,a⟩:=h.tt k (by simp);have:c=k:=by omega
  subst this;refine⟨d,a,fun hm=>?_,?_,⟨?_,h.Dy.DI,h.Dy.th,h.Dy.box⟩⟩
  · obtain⟨l,m,n,f⟩:=h.Dy.base.J0 _ hm
    have:c=l:=by omega
    subst this;rw[show(core s).stat[c]?=s.stat[c]? from rfl,a]at f;simp at f
  ·unfold bX;rw[To a,Ai rfl]
  ·exact h.Dy.base.Q9 (p:=c) (w:= -1) (b:=0) a (.inl ⟨rfl,rfl⟩)
theorem fR: ∀(d a:List Int)(s:St),Gs e s j pj y (d++a)→ ∃b,dS d s=Z b∧Gs e b j pj y a∧Kp s b:=by
  intro d;induction d with
  |nil=>intro a s h;exact⟨s,rfl,h,Kp.refl s⟩
  |cons p r q=>
    intro a s h;obtain⟨k,rfl,-⟩:=h.tt p (by simp);obtain⟨w,A,B,C,t⟩:=Gs.off (T:=r++a) h;have f:=(Af.1 A).1;have L:=(h.mQ);unfold dS;rw[C];rcases Q4 t (p:=k) w (Aj f)with g|⟨b,jj,g,i,c,D,m⟩
    · rw[g]
      have n:=Gs.step (T:=r++a) h (v:=(0,-1)) (by simp) t (UH s _ s.CB s.all) rfl rfl (fun k z E=>.inl E);obtain⟨s2,o,a2,a3⟩:=q a _ n;exact⟨s2,o,a2,(UH s _ s.CB s.all).trans a3⟩
    · rw[g]
      have F:b.CB=s.CB:=by rw[c]
      rw[Zan B]at i;have G:({b with CB:=s.CB}:St)=b:=by rw[←F]
      rw[G]at i;have u:Kp s b:=⟨by rw[c],by rw[c],by rw[c],by rw[c],fun k x H=>⟨x,by rw[c];exact H,rfl,rfl,rfl,rfl,rfl,rfl,id⟩,fun l z f K=>⟨z,D l z f K,rfl⟩⟩;have n:=Gs.step (T:=r++a) h (v:=(1,(jj:Int))) (by simp) i u (by rw[c];simp) (by rw[c]) m;obtain⟨s2,o,a2,a3⟩:=q a _ n;exact⟨s2,o,a2,u.trans a3⟩
theorem Xa: ∀(c:List Int)(s:St),Gs e s j pj y c→ ∃d,Jq c s=Z d∧Gs e d j pj y []∧Kp s d:=by
  intro c;induction c with
  |nil=>intro s h;exact⟨s,rfl,h,Kp.refl s⟩
  |cons p r B=>
    intro s h;obtain⟨k,rfl,-⟩:=h.tt p (by simp);obtain⟨f,C,t,D,g⟩:=h.off;have E:=(Af.1 C).1;have u:=h.Dy.Hy;have i:k<256:=by have:=h.Dy.base.aI;simp[core]at this;omega
    unfold Jq;rw[Ai (by omega),D];dsimp only;rw[Kz t i,An];rw[M5 (s:={s with stat:=s.stat.set k (0,-1),CB:=(k:Int)::s.CB}) f];have w:s.rings[k]?=Z s.rings[k]:=Ae f;dsimp only;generalize s.rings[k]=R at w;obtain⟨rest,f1,f2⟩:=IU (fun r=>Ring.C3 r.CG r.row) s.rings k R w;have f3:=f2 ⟨0,[]⟩;unfold St.put;have b: ∀x,x∈Ring.C3 R.CG R.row→1≤x:=fun x l=>h.Dy.OZ x (AX _ (f1.mem_iff.2 (Bl _ l)));rw[right_id b];dsimp only;have F:(Db {s with all:=s.all++Ring.C3 R.CG R.row,rings:=s.rings.set k ⟨0,[]⟩}).Perm (Db s):=by
      rw[Bz];intro a;have O:=f1.count_eq a;have c3:=f3.count_eq a;simp only[Db,Ring.C3,BL]at*
      simp at c3;omega
    have G:Bs e {s with stat:=s.stat.set k (0,-1),CB:=(k:Int)::s.CB,all:=s.all++Ring.C3 R.CG R.row,rings:=s.rings.set k ⟨0,[]⟩}:=by
      refine⟨?_,h.Dy.DI,h.Dy.th,h.Dy.box⟩
      have m:Dj {core s with stat:=s.stat.set k (0,-1),ip:=(k:Int)::s.CB}:=
        {g.base with
          N6:=BB.2 ⟨t,g.base.N6⟩,
          J0:=fun q n=>by
            rcases Bv.1 n with rfl|n
            ·exact⟨k,rfl,f,Aj E⟩
            ·exact g.base.J0 q n}
      have o:=m.perm F ((s.rings.set k ⟨0,[]⟩).map (·.CG)) (by simp[core]) (by intro a u;obtain⟨z,H,rfl⟩:=B8.1 u;exact h.Dy.JT (by simp) z H);refine cast ?_ o;simp[core,Db]
    have A:Kp s {s with stat:=s.stat.set k (0,-1),CB:=(k:Int)::s.CB,all:=s.all++Ring.C3 R.CG R.row,rings:=s.rings.set k ⟨0,[]⟩}:=⟨rfl,rfl,by simp,rfl,fun k x l=>⟨x,l,rfl,rfl,rfl,rfl,rfl,rfl,id⟩,fun _ y hy _=>⟨y,hy,rfl⟩⟩;have K:=h.step (v:=(0,-1)) (by simp) G A rfl rfl (fun k z L=>.inl L);obtain⟨s2,M,a2,a3⟩:=B _ K;exact⟨s2,M,a2,A.trans a3⟩
theorem N8{s:St}(h:Inv e s){i:Nat}{y:M1}(hy:s.ms[j]?=Z y)(G:y.phase=2)(hg:y.g=(i:Int)+1)(hh:s.sc.CD=y.g): ∃E,G1 s j=Z E∧Inv e E∧(∃y':M1,E.ms[j]?=Z y'∧mc y'=mc y)∧E.sc={s.sc with CD:=0,Cy:=rm}:=by
  have H:s.sc.Cy=true:=by
    cases K:s.sc.Cy with
    |true=>rfl
    |false=>have:s.sc.CD=0:=(h.link.go K).1
            omega
  obtain⟨l1,l2,l3,l4,k,z,q,b1,b2,b3,b4,b5,b6⟩:=h.link.stop H;obtain⟨y0,u,rfl⟩:=DG b1;have hd:(core s).Io=s.sc.CD:=rfl;have L:k=j:=by
    rcases b3 with⟨-,F⟩|⟨h1,F⟩
    ·rw[hd]at F;omega
    ·exact h.base.mu k j _ _ b1 (CE hy) (by simp only[mc]at*;omega) (by simp only[mc]at*;omega)
  subst L;rw[hy]at u;cases u;have c:=h.base.mp k _ (CE hy);simp only[N5,mc]at c;obtain⟨i',x,aa,M,-⟩:=c.2.2.2.2.2.1 (by clear c;omega);have ab:i<s.gs.length:=by have:=(Af.1 M).1;simp[core]at this;clear c;omega
  obtain⟨f,A,O,-⟩:=c.2.2.2.2.1 (by clear c;omega) (by clear c;omega);have:f=q:=by simp only[mc]at b4;clear c;omega
  subst this;clear c;have P:f<s.rings.length:=O;have B: ∀(l:Nat)(v:M1),s.ms[l]?=Z v→v.phase≠3∧v.phase≠4:=fun l v n=>by refine⟨fun h3=>?_,l4 l (mc v) (CE n)⟩;have c:=h.base.mp l _ (CE n);simp only[N5,mc]at c;obtain⟨i2,x2,c1,-,-,-,c2⟩:=c.2.2.2.2.2.1 (by clear c;omega);have c3:=(c2 (.inl h3)).2;have:l=k:=h.base.mu l k _ _ (CE n) (CE hy) (by simp only[mc]at*;clear c;omega) (by simp only[mc]at*;clear c;omega);subst this;rw[hy]at n;cases n;clear c;omega
  obtain⟨w1,w2,w3⟩:=W9 y.p ((Ue s.rings).map fun l=>(l.length:Int)) 0 (GI (s.CO {s.sc with CD:=0,Cy:=rm}));have hlen:((Ue s.rings).map fun l=>(l.length:Int)).length=s.rings.length:=by simp[Ue]
  have hG:Gs e (s.CO {s.sc with CD:=0,Cy:=rm}) k f (mc y) ((Hq ((Ue s.rings).map fun l=>(l.length:Int)) y.p (GI (s.CO {s.sc with CD:=0,Cy:=rm}))).1++(Hq ((Ue s.rings).map fun l=>(l.length:Int)) y.p (GI (s.CO {s.sc with CD:=0,Cy:=rm}))).2):=by
    refine⟨⟨{h.base with},h.DI,h.th,h.box⟩,rfl,rfl,B,fun b K=>h.link.Eg l4 b K,P,⟨y,hy,rfl⟩,⟨A,G⟩,b5,w2,fun x C=>?_,fun x w C hw=>?_⟩
    · obtain⟨l,rfl,h1,F,h3⟩:=w1 x C
      rw[hlen]at F;have r:l<s.rings.length:=by omega
      refine⟨l,rfl,r,by omega,?_⟩;obtain⟨a,w,d,-,-⟩:=Jb h.toBs r;have ad:(core s).wt=0:=l3.2 (by rw[hd,hh];omega);have ae:(core s).wt=runN s.stat:=l3.1;rcases l2 l a w r d with rfl|rfl
      ·have:=O1 d;omega
      · rcases b6 l w d with rfl|rfl
        ·exact d
        · rcases h.base.sp l 3 _ r d with⟨h5,-⟩|⟨-,-,k2,v,h5,h6,h7,-⟩
          ·omega
          · have:k2=k:=by omega
            subst this;rw[CE hy]at h6;cases h6;simp only[mc]at h7;omega
    · by_cases g:x=f
      ·exact .inr g
      ·exact .inl (w3 x (by omega) (by rw[hlen];have:x<s.rings.length:=C;omega) (by omega))
  have e1:(s.CO {s.sc with CD:=0,Cy:=rm}).ms[k]?=Z y:=hy;obtain⟨s2,g1,g2,g3⟩:=fR _ _ _ hG;obtain⟨m,g4,g5,g6⟩:=Xa _ _ g2;have g7:=g3.trans g6;obtain⟨y3,D,Q⟩:=g5.my;have ep:y3.p=f:=(Aq MC.p Q).trans A;have R:bX m y3.p={m with stat:=m.stat.set f (1,(k:Int))}:=by unfold bX;rw[ep,To g5.nH,Ah (by omega)]
  have S:f<m.stat.length:=(Af.1 g5.nH).1;have hI:Inv e {m with stat:=m.stat.set f (1,(k:Int))}:=by
    refine⟨⟨g5.Dy.base.Q9 (p:=f) (w:=(k:Int)) (b:=1) g5.nH (.inr ⟨by omega,rfl⟩),g5.Dy.DI,g5.Dy.th,g5.Dy.box⟩,⟨fun _=>⟨g5.Io,fun x a w C t=>?_,fun l v n=>?_⟩,fun _=>g5.bars,fun l v n d=>?_,fun d=>tf (d:m.sc.Cy=rq) g5.st⟩⟩
    · rintro rfl
      by_cases g:f=x
      · subst g
        rw[show(core {m with stat:=m.stat.set f (1,(k:Int))}).stat[f]?=Z (1,(k:Int))from Aj S]at t;cases t
      · rcases g5.al x w C (by simpa[core,As,g]using t)with d|d
        ·cases d
        ·exact g d.symm
    · obtain⟨v,T,rfl⟩:=DG n
      exact(g5.fQ l v T).1
    · obtain⟨v,T,rfl⟩:=DG n
      exact absurd d (g5.fQ l v T).2
  have hsc:m.sc={s.sc with CD:=0,Cy:=rm}:=g7.sc;obtain⟨s4,r1,r2,r3⟩:=JU (i:=i) hI (fun _=>⟨g5.st,g5.fQ⟩);obtain⟨s5,v1,v2,v3⟩:=M0 r2;refine⟨s5,?_,v2,?_,by rw[v3.sc,r3.sc];exact hsc⟩
  · unfold G1
    rw[hy];dsimp only;rw[Ai (by omega)];refine Eq.trans (Aq (fun o=>Option.bind o _) g1) ?_;show Option.bind (Jq _ s2) _=_;refine Eq.trans (Aq (fun o=>Option.bind o _) g4) ?_;dsimp only[Option.bind_some];rw[D];dsimp only;rw[R,hh,hg,show((i:Int)+1-1).toNat=i by omega,r1];exact v1
  · have V:y3.phase≠0:=by have:y3.phase=y.phase:=Aq MC.phase Q;omega
    obtain⟨y4,W,e4⟩:=r3.ms k y3 D V;obtain⟨y5,X,e5⟩:=v3.ms k y4 W (by have:y4.phase=y3.phase:=Aq MC.phase e4;omega);exact⟨y5,X,e5.trans (e4.trans Q)⟩
end
end
section
section
variable {s:St}
variable {e i j:Nat}
theorem Bs.mR(h:Bs e s){x:G}(a:s.gs[i]?=Z x):i<64:=by have:=(Af.1 a).1;have b:=h.base.g2;simp only[core,Bg]at b;omega
theorem Inv.ex(h:Inv 1000 s)(e:Nat):Inv e s:=⟨⟨h.base,h.DI,fun i x a=>⟨(h.th i x a).1,fun b=>.inl (((h.th i x a).2 b).resolve_right (by have:=h.mR a;omega))⟩,h.box⟩,h.link⟩
theorem Inv.oT(h:Inv i s){x:G}(b:s.gs[i]?=Z x)(hw:x.word=6):Inv 1000 s:=⟨⟨h.base,h.DI,fun k z a=>⟨(h.th k z a).1,fun c=>.inl (by
 rcases(h.th k z a).2 c with d|rfl
 ·exact d
 ·rw[b]at a;cases a;exact hw)⟩,h.box⟩,h.link⟩
theorem Inv.sc(h:Inv e s)(c:Sc)(b:c.Cy=s.sc.Cy)(d:c.CD=s.sc.CD)(f:c.wait=s.sc.wait)(g:c.cg=s.sc.cg)(i:c.Ga=s.sc.Ga):Inv e (s.CO c):=by
 have a:core (s.CO c)=core s:=by simp[core,St.CO,Db,b,d,f,g,i]
 exact⟨⟨by rw[a];exact h.base,h.DI,h.th,h.box⟩,by rw[a];exact h.link⟩
theorem Inv.run(h:Inv 1000 s){y:M1}(hy:s.ms[j]?=Z y)(d:y.phase=2∨y.phase=3∨y.phase=4)(l:y.g=(i:Int)+1): ∃x:G,s.gs[i]?=Z x∧x.word=2∧x.done=rm∧x.blocked=rm∧x.CA=rm∧(i:Int)+1∉s.waits∧(i:Int)+1∉Db s:=by
 have a:=h.base.mp j _ (CE hy);simp only[N5,mc]at a;obtain⟨k,z,m,e,c,-⟩:=a.2.2.2.2.2.1 (by clear a;omega);have c:=c (by clear a;omega);clear a;have:k=i:=by omega
 subst this;obtain⟨x,b,rfl⟩:=Hw e;simp only[gc]at c;obtain⟨f1,f2,f3⟩:=h.flags b (by omega);refine⟨x,b,c,?_,f1,f2,f3,h.base.JS (CT b) (by simp only[gc];omega)⟩;cases f:x.done with
 |false=>rfl
 |true=>have:=h.mR b;rcases(h.th k x b).2 f with g|g<;>omega
theorem Inv.Xb(h:Inv e s){k:Nat}{y z:M1}(hy:s.ms[j]?=Z y)(a:s.ms[k]?=Z z)(c:y.g=(i:Int)+1)(b:z.g=(i:Int)+1):k=j∧z=y:=by have:k=j:=h.base.mu k j _ _ (CE a) (CE hy) (by simp only[mc];omega) (by simp only[mc];omega);subst this;rw[hy]at a;cases a;exact⟨rfl,rfl⟩
theorem DW(h:Inv 1000 s){y:M1}(hy:s.ms[j]?=Z y)(K:y.phase=2)(hg:y.g=(i:Int)+1)(L:Int): ∃(x:G)(ins:CN)(M:St),s.gs[i]?=Z x∧E9 s x=Z ins∧x.word=2∧C5 s j L=Z M∧Inv 1000 M∧(ins.op≠14→ins.op≠8→ins.op≠9→core M={core s with gs:=(core s).gs.set i {gc x with begun:=rm}}∧M.sc.CD=s.sc.CD∧M.funcs=s.funcs)∧
   (s.sc.Cy=rm→M.sc.Cy=rm∧ ∀(k:Nat)(z':M1),M.ms[k]?=Z z'→z'.phase=3∨z'.phase=4→ ∃z:M1,s.ms[k]?=Z z∧mc z=mc z'):=by
 obtain⟨x,O,hw,hd,f1,f2,f3,f4⟩:=h.run hy (.inl K) hg;have hi:i<s.gs.length:=(Af.1 O).1;obtain⟨ins,t,i1,i2,i3,i4,r,hr,t1,t2,t3,t4,t5,t6⟩:=Tm h.DI rfl (h.th i x O).1 hd L;refine⟨x,ins,?_⟩;have S: ∃c,Kk s 2 i r.2=Z (s.CO c)∧c.Cy=s.sc.Cy∧c.CD=s.sc.CD∧c.wait=s.sc.wait∧c.cg=s.sc.cg∧c.Ga=s.sc.Ga:=by unfold Kk;rw[O];exact⟨_,rfl,rfl,rfl,rfl,rfl,rfl⟩
 obtain⟨c,ab,c1,c2,c3,c4,c5⟩:=S;have ad:=(h.ex i).sc c c1 c2 c3 c4 c5;have ae:Inv i ((s.CO c).CH i {r.1 with begun:=rm}):=by
  refine E6 ad (i:=i) (x:=x) O _ ?_ ?_ (fun hm=>absurd hm f4) (fun hm=>absurd hm f3) (fun k z m P=>?_) ⟨t1.congr t1.wd rfl rfl rfl rfl,fun _=>.inr rfl⟩
  ·dsimp only;rw[t2,hw];unfold D4.Dm;omega
  ·dsimp only;rw[t2,t3,t4,f1,f2];simp
  ·obtain⟨-,rfl⟩:=h.Xb hy m hg P
   dsimp only;omega
 have v:core ((s.CO c).CH i {r.1 with begun:=rm})={core s with gs:=(core s).gs.set i {gc x with begun:=rm}}:=by rw[Et];simp[core,St.CO,Db,gc,t2,t3,t4,c1,c2,c3,c4,c5]
 obtain⟨T,aj⟩:=ae.M2 (j:=j) (y:=y) hy {y with used:=wrap64 (y.used+1)} rfl;have w:core (((s.CO c).CH i {r.1 with begun:=rm}).CM j {y with used:=wrap64 (y.used+1)})=core ((s.CO c).CH i {r.1 with begun:=rm}):=by
  have e:(s.ms.map mc).set j (mc y)=s.ms.map mc:=by apply List.ext_getElem?;grind
  rw[DR,show mc {y with used:=wrap64 (y.used+1)}=mc y from rfl];simp[core,St.CO,St.CH,e]
 generalize g:(((s.CO c).CH i {r.1 with begun:=rm}).CM j {y with used:=wrap64 (y.used+1)})=d at*
 have A:d.ms[j]?=Z {y with used:=wrap64 (y.used+1)}:=by rw[←g];exact Aj (Af.1 hy).1
 have f:d.sc=c:=by rw[←g];rfl
 have af:d.rings=s.rings:=by rw[←g];rfl
 have h4: ∃a b,(if wrap64 (y.used+1)=20 then GH d j else Z d)=Z {d with asked:=a,box:=b}∧a.map (·.Eg)=d.asked.map (·.Eg)∧b.length=d.box.length:=by
  split
  ·refine IX T.toBs A (.inr ?_)
   have hM:=h.base.mp j _ (CE hy);simp only[N5,mc]at hM;obtain⟨p,a1,a2,-⟩:=hM.2.2.2.2.1 (by clear hM;omega) (by clear hM;omega);exact⟨p,a1,by rw[af];exact a2⟩
  ·exact⟨d.asked,d.box,rfl,rfl,rfl⟩
 obtain⟨a,b,h4,h5,h6⟩:=h4;obtain⟨l,ak⟩:=Eu T h5 h6;have B:core {d with asked:=a,box:=b}={core s with gs:=(core s).gs.set i {gc x with begun:=rm}}:=by rw[←v,←w];simp[core,Db,h5]
 have C:C5 s j L=(if r.1.done then(if c.CD=y.g then G1 {d with asked:=a,box:=b} j else Z {d with asked:=a,box:=b}).bind (fun u=>(Gf u j).map fun q=>q.2.mv q.1 6)else Z {d with asked:=a,box:=b}):=by unfold C5;rw[hy];dsimp only;rw[Ai (by omega),show(y.g-1).toNat=i by omega,O];dsimp only;rw[t];dsimp only[Option.bind_some];rw[hr];dsimp only[Option.bind_some];rw[ab];dsimp only[Option.bind_some];rw[g,h4];dsimp only[Option.bind_some];rw[f]
 cases D:r.1.done with
 |false=>
  rw[D]at C;refine⟨{d with asked:=a,box:=b},O,t,hw,C,⟨⟨l.base,l.DI,fun k z m=>⟨(l.th k z m).1,fun V=>?_⟩,l.box⟩,l.link⟩,fun _ _ _=>⟨B,by dsimp only;rw[f,c2],by rw[←g];rfl⟩,fun n=>⟨by dsimp only;rw[f,c1];exact n,fun k z m _=>?_⟩⟩
  ·rcases(l.th k z m).2 V with h7|rfl
   ·exact .inl h7
   ·have:d.gs[k]?=Z {r.1 with begun:=rm}:=by rw[←g];exact Aj hi
    rw[this]at m;cases m;exact tf V D
  ·have E:d.ms[k]?=Z z:=m
   by_cases o:j=k
   ·subst o
    rw[A]at E;cases E;exact⟨y,hy,rfl⟩
   ·rw[←g]at E
    exact⟨z,by simpa[St.CM,St.CH,St.CO,Ao o]using E,rfl⟩
 |true=>
  rw[D,Ai rfl]at C;have ag: ¬(ins.op≠14∧ins.op≠8∧ins.op≠9):=by have:=t6 D;omega
  have W:({d with asked:=a,box:=b}:St).ms[j]?=Z {y with used:=wrap64 (y.used+1)}:=A;have key: ∃(u:St)(Q:M1),(if c.CD=y.g then G1 {d with asked:=a,box:=b} j else Z {d with asked:=a,box:=b})=Z u∧Inv i u∧u.ms[j]?=Z Q∧mc Q=mc y∧u.sc.CD≠y.g∧(s.sc.Cy=rm→u={d with asked:=a,box:=b}):=by
   split
   ·rename_i hh
    obtain⟨u,a1,a2,⟨Q,a3,a4⟩,a5⟩:=N8 l W K hg (by dsimp only;rw[f];exact hh);refine⟨u,Q,a1,a2,a3,a4,by rw[a5];dsimp only;omega,fun n=>?_⟩;have:s.sc.CD=0:=(h.link.go n).1;rw[c2]at hh;omega
   ·rename_i hh
    exact⟨_,_,rfl,l,W,rfl,by dsimp only;rw[f];exact hh,fun _=>rfl⟩
  obtain⟨u,Q,k1,k2,k3,k4,k5,k6⟩:=key;have kp:Q.phase=2:=(Aq MC.phase k4).trans K;have kg:Q.g=y.g:=Aq MC.g k4;obtain⟨F,H,X,m1,m2,m3,m4,m5,m6,m7,m8⟩:=Ky k2 k3 (.inl ⟨kp,fun _=>by rw[kg];exact k5⟩);have:F=i:=by omega
  subst this;have aa:X.mv F 6=X.CH F {H with word:=Hn H.word 6}:=by simp[St.mv,m3.at_]
  have R:Hn H.word 6=6:=by rw[m7 kp];decide+kernel
  have ah:Inv F (X.CH F {H with word:=Hn H.word 6}):=by
   refine E6 m2 m3.at_ _ ?_ ?_ (fun hm=>absurd hm m3.qs) (fun hm=>absurd hm m3.ws) (fun k z m P=>absurd P (m3.ms k z m)) ⟨(m2.th F H m3.at_).1.congr ?_ rfl rfl rfl rfl,fun _=>.inr rfl⟩
   ·dsimp only;rw[R];unfold D4.Dm;omega
   ·dsimp only;rw[m3.fl.1,m3.fl.2];simp
   ·dsimp only;rw[R];unfold D4.Dm;omega
  have ai:F<X.gs.length:=(Af.1 m3.at_).1;refine⟨X.mv F 6,O,t,hw,?_,?_,fun h1 h2 h3=>absurd ⟨h1,h2,h3⟩ ag,fun n=>?_⟩
  ·rw[C,k1]
   dsimp only[Option.bind_some];rw[m1];rfl
  ·rw[aa]
   exact ah.oT (x:={H with word:=Hn H.word 6}) (by simp only[St.CH];exact Aj ai) R
  ·have e5:=k6 n
   rw[aa,m6,e5];refine⟨by simp only[St.CH,St.CM];rw[f,c1];exact n,fun k z m hz=>?_⟩;simp only[St.CH,St.CM]at m;by_cases o:j=k
   ·subst o
    rw[Aj (Af.1 A).1]at m;cases m;simp at hz
   ·rw[Ao o,←g]at m
    exact⟨z,by simpa[St.CM,St.CH,St.CO,Ao o]using m,rfl⟩
end
end
section
variable {p j pj:Nat}
theorem Dj.aO{c:Cr}(h:Dj c){a w:Int}(F:p<c.n)(g:c.stat[p]?=Z (a,w))(G:a=0∨a=1)(r:a=1→ ∃(j:Nat)(y:MC),w=j∧c.ms[j]?=Z y∧y.phase≠5):Dj {c with stat:=c.stat.set p (3,w),ip:=c.ip.erase p}:=
 {h with
  ns:=by simp;exact h.ns,
  sl:=by simp;exact h.sl,
  mp:=fun k z s=>by
   have A:p<c.stat.length:=(Af.1 g).1;obtain⟨B,a2,a3,a4,a5,C,D⟩:=h.mp k z s;refine⟨B,a2,a3,a4,fun u v=>?_,C,fun u=>?_⟩
   ·obtain⟨q,i,m,n⟩:=a5 u v
    refine⟨q,i,m,?_⟩;by_cases d:p=q
    ·subst d
     rw[g]at n;have e:w=k:=by grind
     right;rw[Aj A,e]
    ·simpa[As,d]using n
   ·rcases D u with b|⟨q,i,m,n⟩
    ·exact .inl b
    ·have d:p≠q:=by
      rintro rfl;rw[g]at n;obtain⟨j,y,c1,t,c3⟩:=r (by grind);have:j=k:=by grind
      subst this;rw[s]at t;cases t;exact c3 u
     exact .inr ⟨q,i,m,by simpa[As,d]using n⟩,
  sp:=fun q a' v d f=>by
   by_cases o:p=q
   ·subst o
    have:=h.sp p a w d g;rw[Aj (Af.1 g).1]at f;cases f;rcases this with⟨x,-⟩|⟨-,-,E⟩
    ·exact .inl ⟨x,.inr rfl⟩
    ·exact .inr ⟨by omega,by omega,E⟩
   ·exact h.sp q a' v d (by simpa[As,o]using f),
  sd:=fun q r x=>by have:=h.sd q r;grind,
  N6:=h.N6.erase _,
  J0:=fun q d=>by
   obtain⟨l,rfl,i,m⟩:=h.J0 q (Ck d);have:p≠l:=by rintro rfl;exact h.N6.not_mem_erase d
   exact⟨l,rfl,i,by simpa[As,this]using m⟩}
theorem Dj.j5{c:Cr}(h:Dj c){k:Nat}{y:MC}(G:p<c.n)(B:c.stat[p]?=Z (2,(k:Int)))(m:c.ms[k]?=Z y)(hy:y.p=p)(n:y.phase=5):Dj {c with ms:=c.ms.set k ⟨-1,y.g,5⟩,stat:=c.stat.set p (3,-1),ip:=c.ip.erase p}:=
 {h with
  ns:=by simp;exact h.ns,
  sl:=by simp;exact h.sl,
  m1:=by simp;exact h.m1,
  m2:=by simp;exact h.m2,
  mp:=fun l z t=>by
   by_cases C:l=k
   ·have:z=⟨-1,y.g,5⟩:=by grind
    subst this;obtain⟨w,a2,a3,a4,a5,o,x⟩:=h.mp k y m;exact⟨by simp,by simp,by simp,by simp,by simp,fun _=>by have:=o (by omega);simpa[n]using this,fun _=>.inl rfl⟩
   ·obtain⟨w,a2,a3,a4,a5,o,x⟩:=h.mp l z (by grind)
    exact⟨w,a2,a3,a4,fun u v=>by
     obtain⟨q,d,e,r⟩:=a5 u v;have:p≠q:=by rintro rfl;grind
     exact⟨q,d,e,by simpa[As,this]using r⟩,o,fun u=>by
     rcases x u with b|⟨q,d,e,r⟩
     ·exact .inl b
     ·have:p≠q:=by rintro rfl;grind
      exact .inr ⟨q,d,e,by simpa[As,this]using r⟩⟩,
  mu:=fun a b z z' H K=>by have:=h.mu a b;grind,
  sp:=fun q a v j f=>by
   by_cases g:p=q
   ·subst g
    rw[Aj (Af.1 B).1]at f;cases f;exact .inl ⟨rfl,.inr rfl⟩
   ·rcases h.sp q a v j (by simpa[As,g]using f)with i|⟨i,A,l,z,D,s,E,F⟩
    ·exact .inl i
    ·have:k≠l:=by rintro rfl;rw[m]at s;cases s;omega
     exact .inr ⟨i,A,l,z,D,by simpa[As,this]using s,E,F⟩,
  sd:=fun q i A=>by have:=h.sd q i;grind,
  N6:=h.N6.erase _,
  J0:=fun q j=>by
   obtain⟨l,rfl,d,e⟩:=h.J0 q (Ck j);have:p≠l:=by rintro rfl;exact h.N6.not_mem_erase j
   exact⟨l,rfl,d,by simpa[As,this]using e⟩,
  JR:=fun l t=>by
   obtain⟨q,z,rfl,d,e⟩:=h.JR l t;have:k≠q:=by rintro rfl;rw[m]at d;cases d;omega
   exact⟨q,z,rfl,by simpa[As,this]using d,e⟩}
theorem Ra{l:List Pr}(a:p<l.length)(v:Pr):runN ((l.set p v).take (p+1))=runN (l.take p)+(if v.1=1 then 1 else 0):=by
 have e:(l.set p v).take (p+1)=l.take p++[v]:=by apply BC;intro k;simp only[Co,As,List.getElem?_append,AN,List.getElem?_singleton];grind
 rw[e];unfold runN;rw[Zaj];simp[List.countP_cons]
theorem Xc{l:List Pr}{v:Pr}(a:l[p]?=Z v):runN (l.take (p+1))=runN (l.take p)+(if v.1=1 then 1 else 0):=by
 have b:=(Af.1 a).1;have e:l.set p v=l:=by apply List.ext_getElem?;grind
 have:=Ra b v;rwa [e]at this
theorem fS{c:Cr}(h:Dj c):runN (c.stat.take c.n)=runN c.stat:=by
 have e:c.stat=c.stat.take c.n++c.stat.drop c.n:=(Bm _ _).symm;have f:runN (c.stat.drop c.n)=0:=Zac.2 fun x b=>by obtain⟨i,a⟩:=Za6 b;rw[Zai]at a;have d:=(Af.1 a).1;rw[h.sd _ (by omega) d]at a;cases a;simp
 have g:runN c.stat=runN (c.stat.take c.n)+runN (c.stat.drop c.n):=by unfold runN;rw[←Zaj,Bm]
 omega
structure Ss (s:St) (j pj p:Nat) (g:Int):Prop where
 Dy:Bs 1000 s
 st:s.sc.Cy=rq
 Io:s.sc.CD=0
 p4: ∀(k:Nat)(z:MC),(core s).ms[k]?=Z z→z.phase≠4
 bars: ∀b,b∈(core s).bars→b=rm
 my: ∃z:M1,s.ms[j]?=Z z∧mc z=⟨(pj:Int),g,3⟩
 F0:s.owner=g
 pn:pj<s.rings.length
 Kc: ∀(q:Nat)(a w:Int),q<p→s.stat[q]?=Z (a,w)→a=1∨a=3
 FH: ∀(q:Nat)(a w:Int),p≤q→q<s.rings.length→s.stat[q]?=Z (a,w)→a≠3
 j6: ∀(q:Nat)(w:Int),s.stat[q]?=Z (3,w)→w= -1∨w=j
 s1:pj<p→s.stat[pj]?=Z (3,(j:Int))
 s2:p≤pj→s.stat[pj]?=Z (1,(j:Int))
 ip: ∀x,x∈s.CB→(p:Int)≤x
 wt:s.sc.wait=runN (s.stat.take p)
theorem Ts{g:Int}: ∀(n p:Nat)(s:St),Ss s j pj p g→p+n=s.rings.length→ ∃d,EW j n p s=Z d∧Ss d j pj s.rings.length g∧d.rings.length=s.rings.length:=by
 intro n;induction n with
 |zero=>
      intro p s h hp;have:p=s.rings.length:=by omega
      subst this;exact⟨s,rfl,h,rfl⟩
 |succ n V=>
  intro p s h hp;have A:p<s.rings.length:=by omega
  have W:p<s.stat.length:=Am A h.Dy.base.ns;obtain⟨a,w,g1,g2,g3⟩:=Jb h.Dy A;have L:=h.Dy.base.sp p a w A g1;have aj:=h.FH p a w (Al _) A g1;obtain⟨z,C,o⟩:=h.my;have zp:z.p=pj:=Aq MC.p o;have ak:z.phase=3:=Aq MC.phase o;have tab: ∀(v:Int)(d:St),d.stat=s.stat.set p (3,v)→(v= -1∧p≠pj∨v=j∧p=pj)→(∀x,x∈d.CB→x∈s.CB∧x≠p)→d.rings=s.rings→d.sc=s.sc→d.owner=s.owner→d.asked=s.asked→(∃z:M1,d.ms[j]?=Z z∧mc z=⟨(pj:Int),g,3⟩)→(∀(k:Nat)(z:MC),(core d).ms[k]?=Z z→z.phase≠4)→Bs 1000 d→Ss d j pj (p+1) g:=by
   intro v d H X aa e2 e3 e4 e5 ab h4 D;refine⟨D,by rw[e3];exact h.st,by rw[e3];exact h.Io,h4,by simp only[core,e5];exact h.bars,ab,by rw[e4];exact h.F0,by rw[e2];exact h.pn,fun q a' B E i=>?_,fun q a' B E M i=>?_,fun q B i=>?_,fun E=>?_,fun E=>?_,fun x r=>?_,?_⟩
   ·rw[H]at i
    by_cases f:p=q
    ·subst f;rw[Aj W]at i;cases i;exact .inr rfl
    ·rw[Ao f]at i;exact h.Kc q a' B (by omega) i
   ·rw[H,Ao (by omega)]at i
    exact h.FH q a' B (by omega) (by rw[e2]at M;exact M) i
   ·rw[H]at i
    by_cases f:p=q
    ·subst f;rw[Aj W]at i;cases i;rcases X with m|m;exact .inl m.1;exact .inr m.1
    ·rw[Ao f]at i;exact h.j6 q B i
   ·rw[H]
    by_cases f:p=pj
    ·subst f
     rw[Aj W];rcases X with m|m
     ·exact absurd rfl m.2
     ·rw[m.1]
    ·rw[Ao f];exact h.s1 (by omega)
   ·rw[H,Ao (by omega)];exact h.s2 (by omega)
   ·obtain⟨m,h6⟩:=aa x r
    have:=h.ip x m;omega
   ·rw[e3,H,Ra W,h.wt];simp
  unfold EW;rw[g2];dsimp only;by_cases a2:a=2
  ·subst a2
   rw[Ai rfl];rcases O3 h.Dy A g1 with⟨-,-,m⟩|⟨k,y,rfl,m,hy,h7,h8,-⟩
   ·omega
   ·rw[m]
    dsimp only;rw[hy];dsimp only;have O:y.phase=5:=by
     have K:=h.Dy.base.mp k _ (CE hy);simp only[N5,mc]at K;have m2:=K.2.1;refine Za8 fun ao=>?_;obtain⟨q,b1,-,P⟩:=K.2.2.2.2.1 (by clear K;omega) (by clear K;omega);have:q=p:=by clear K;omega
     subst this;rw[show(core s).stat[q]?=s.stat[q]? from rfl,g1]at P;rcases P with P|P<;>simp at P
    have ad:k≠j:=by rintro rfl;rw[C]at hy;cases hy;omega
    have t:E8 (s.CM k {y with p:= -1}) p={s with ms:=s.ms.set k {y with p:= -1},stat:=s.stat.set p (3,-1)}:=by unfold E8 St.CM;dsimp only;rw[IW g1 (.inr (.inr rfl)),Ai rfl]
    rw[t];have D:Bs 1000 {s with ms:=s.ms.set k {y with p:= -1},stat:=s.stat.set p (3,-1),CB:=s.CB.erase p}:=by refine⟨?_,h.Dy.DI,h.Dy.th,h.Dy.box⟩;have:=h.Dy.base.j5 (p:=p) (k:=k) (y:=mc y) A g1 (CE hy) h7 O;refine cast ?_ this;simp[core,Db,mc,O]
    obtain⟨d,c1,F,c3⟩:=V (p+1) _ (tab (-1) {s with ms:=s.ms.set k {y with p:= -1},stat:=s.stat.set p (3,-1),CB:=s.CB.erase p} rfl (.inl ⟨rfl,fun e=>by
      have:=h.s2 (by omega);rw[←e,g1]at this;simp at this⟩) (fun x r=>⟨List.mem_of_mem_erase r,fun e=>by subst e;exact h.Dy.base.N6.not_mem_erase r⟩) rfl rfl rfl rfl ⟨z,by dsimp only;rw[List.getElem?_set_ne ad];exact C,o⟩ (fun l v X=>by
      obtain⟨u,hu,rfl⟩:=DG X;dsimp only at hu;by_cases Q:k=l
      ·subst Q;rw[Aj (Af.1 hy).1]at hu;cases hu;simp only[mc];omega
      ·rw[List.getElem?_set_ne Q]at hu;exact h.p4 l _ (CE hu)) D) (by dsimp only;omega)
    exact⟨d,c1,F,c3⟩
  ·rw[Ah a2]
   by_cases a0:a=0
   ·subst a0
    rw[Ai rfl];have hw:w= -1:=by rcases L with h1|h1<;>omega
    subst hw;have t:E8 s p={s with stat:=s.stat.set p (3,-1)}:=by unfold E8;rw[IW g1 (.inl rfl),Ah (by omega)]
    rw[t];have D:Bs 1000 {s with stat:=s.stat.set p (3,-1),CB:=s.CB.erase p}:=⟨h.Dy.base.aO (p:=p) (a:=0) (w:= -1) A g1 (.inl rfl) (fun e=>by omega),h.Dy.DI,h.Dy.th,h.Dy.box⟩;obtain⟨d,c1,F,c3⟩:=V (p+1) _ (tab (-1) {s with stat:=s.stat.set p (3,-1),CB:=s.CB.erase p} rfl (.inl ⟨rfl,fun e=>by have:=h.s2 (by omega);rw[←e,g1]at this;simp at this⟩) (fun x r=>⟨List.mem_of_mem_erase r,fun e=>by subst e;exact h.Dy.base.N6.not_mem_erase r⟩) rfl rfl rfl rfl ⟨z,C,o⟩ h.p4 D) (by dsimp only;omega);exact⟨d,c1,F,c3⟩
   ·rw[Ah a0]
    have a1:a=1:=by rcases L with h1|h1<;>omega
    subst a1;rw[Ai rfl,C];dsimp only;by_cases R:(p:Int)=z.p
    ·have ae:p=pj:=by omega
     subst ae;rw[Ai R];have G:=h.s2 (Al _);have t:E8 s p={s with stat:=s.stat.set p (3,(j:Int))}:=by unfold E8;rw[IW G (.inr (.inl rfl)),Ah (by omega)]
     rw[t];have S:(p:Int)∉s.CB:=fun hm=>by
      obtain⟨l,h1,h2,h3⟩:=h.Dy.base.J0 _ hm;have:p=l:=by omega
      subst this;rw[show(core s).stat[p]?=s.stat[p]? from rfl,G]at h3;simp at h3
     have D:Bs 1000 {s with stat:=s.stat.set p (3,(j:Int))}:=by have:=h.Dy.base.aO (p:=p) (a:=1) (w:=(j:Int)) A G (.inr rfl) (fun _=>⟨j,_,rfl,CE C,by simp only[mc];omega⟩);rw[show(core s).ip.erase (p:Int)=s.CB from Zan S]at this;exact⟨this,h.Dy.DI,h.Dy.th,h.Dy.box⟩
     obtain⟨d,c1,F,c3⟩:=V (p+1) _ (tab j {s with stat:=s.stat.set p (3,(j:Int))} rfl (.inr ⟨rfl,rfl⟩) (fun x r=>⟨r,fun e=>by subst e;exact S r⟩) rfl rfl rfl rfl ⟨z,C,o⟩ h.p4 D) (by dsimp only;omega);exact⟨d,c1,F,c3⟩
    ·rw[Ah R]
     rcases O3 h.Dy A g1 with⟨-,-,m⟩|⟨k,y,rfl,m,hy,h7,h8,-⟩
     ·omega
     ·rw[m]
      dsimp only;have aq:runN (s.stat.take p)≤(s.stat.take p).length:=Zal;have ar:(s.stat.take p).length≤256:=by have:=h.Dy.base.sl;simp only[core]at this;simp;omega
      have af:wrap64 (s.sc.wait+1)=s.sc.wait+1:=Mb (by rw[h.wt];omega) (by rw[h.wt];omega);rw[af];have ag:Bs 1000 (s.CO {s.sc with wait:=s.sc.wait+1}):=⟨{h.Dy.base with},h.Dy.DI,h.Dy.th,h.Dy.box⟩;obtain⟨c,b,h9,ah,ai⟩:=IX ag (j:=k) (y:=y) hy (.inr ⟨p,h7,A⟩);rw[h9];dsimp only[Option.bind_some];have hS:Ss {s.CO {s.sc with wait:=s.sc.wait+1}with asked:=c,box:=b} j pj (p+1) g:=by
       have hc:core ({s.CO {s.sc with wait:=s.sc.wait+1}with asked:=c,box:=b}:St)={core s with wt:=s.sc.wait+1}:=by simp[core,St.CO,Db,ah]
       refine⟨⟨by rw[hc];exact{h.Dy.base with},h.Dy.DI,h.Dy.th,by rw[←h.Dy.box];exact ai⟩,h.st,h.Io,by rw[hc];exact h.p4,by rw[hc];exact h.bars,⟨z,C,o⟩,h.F0,h.pn,fun q a' B E i=>?_,fun q a' B E=>h.FH q a' B (by omega),h.j6,fun E=>h.s1 (by omega),fun E=>h.s2 (by omega),fun x r=>?_,?_⟩
       ·by_cases f:p=q
        ·subst f;rw[show s.stat[p]?=Z (a',B)from i]at g1;cases g1;exact .inl rfl
        ·exact h.Kc q a' B (by omega) i
       ·have au:=h.ip x r
        obtain⟨l,av,aw,T⟩:=h.Dy.base.J0 x r;have:l≠p:=by rintro rfl;rw[show(core s).stat[l]?=s.stat[l]? from rfl,g1]at T;simp at T
        omega
       ·show s.sc.wait+1=(runN (s.stat.take (p+1)):Int)
        rw[Xc g1,h.wt];simp
      obtain⟨d,c1,F,c3⟩:=V (p+1) _ hS (by simp only[St.CO];omega);exact⟨d,c1,F,c3⟩
theorem Ss.done{s:St}{g:Int}(h:Ss s j pj s.rings.length g):Inv 1000 s:=by
 obtain⟨z,d,b⟩:=h.my;have f:=fS h.Dy.base;refine⟨h.Dy,fun e=>tf h.st e,fun _=>h.bars,fun k z i m=>absurd m (h.p4 k z i),fun _=>⟨?_,fun q a w n o=>h.Kc q a w n o,⟨h.wt.trans ?_,fun p=>absurd h.Io p⟩,h.p4,j,_,pj,CE d,?_,.inl ⟨Aq MC.phase b,h.Io⟩,Aq MC.p b,h.s1 h.pn,h.j6⟩⟩
 ·cases c:s.CB with
  |nil=>simp[core,c]
  |cons x r=>have u:=h.ip x (by rw[c];simp);obtain⟨l,v,t,-⟩:=h.Dy.base.J0 x (by simp[core,c]);have:l<s.rings.length:=t;omega
 ·rw[←f];rfl
 ·exact h.F0.trans (Aq MC.g b).symm
end
theorem Xd{j:Nat}: ∀(n p:Nat)(s:St),Inv 1000 s→p+n=s.rings.length→(∃z:M1,s.ms[j]?=Z z∧z.phase=4)→(∀(q:Nat)(b:Bool),p≤q→(core s).bars[q]?=Z b→b=rm)→ ∃E,IE j n p s=Z E∧Inv 1000 E:=by
 intro n;induction n with
 |zero=>intro p s h _ _ _;exact⟨s,rfl,h⟩
 |succ n F=>
  intro p s h T f m;obtain⟨z,f,e⟩:=f;have o:p<s.rings.length:=by omega
  have r:p<s.asked.length:=by have:=h.base.nb;simp[core]at this;omega
  have i:s.asked[p]?=Z s.asked[p]:=Ae r;generalize s.asked[p]=a at i;have u:a.Eg=false:=m p a.Eg (Al _) (by simp[core,i]);obtain⟨t,w,g1,g2,g3⟩:=Jb h.toBs o;unfold IE;rw[f,i,g2];dsimp only;split
  ·have hm:(s.asked.set p ⟨a.pre,a.Eg,wrap64 (a.count+1)⟩).map (·.Eg)=s.asked.map (·.Eg):=by apply BC;intro k;simp only[Bu];grind
   obtain⟨K,V⟩:=Eu (b:=s.box) h hm rfl;exact F (p+1) _ K (by dsimp only;omega) ⟨z,f,e⟩ (fun q b L d=>m q b (by omega) (by simp only[core]at*;rw[hm]at d;exact d))
  ·rename_i x
   have t1:t=1:=by omega
   subst t1;rcases O3 h.toBs o g1 with⟨-,-,G⟩|⟨k,y,rfl,G,hy,M,W,-⟩
   ·omega
   ·rw[G]
    dsimp only;have hw:(core s).wt=GR (core s).bars:=h.link.bars j _ (CE f) e;have A:s.sc.Cy=false:=by
     cases O:s.sc.Cy with
     |false=>rfl
     |true=>exact absurd e ((h.link.stop O).2.2.2.1 j _ (CE f))
    have P:=UF (core s).bars;have Q:=h.base.nb;have R:=h.base.aI;have B:wrap64 (s.sc.wait+1)=s.sc.wait+1:=by have:s.sc.wait=GR (core s).bars:=hw;exact Mb (by omega) (by omega)
    rw[B];have x:core {s with asked:=s.asked.set p ⟨a.pre,rq,a.count⟩,sc:={s.sc with wait:=s.sc.wait+1}}={core s with bars:=(core s).bars.set p rq,wt:=(core s).wt+1}:=by simp[core,Db]
    have H:Inv 1000 {s with asked:=s.asked.set p ⟨a.pre,rq,a.count⟩,sc:={s.sc with wait:=s.sc.wait+1}}:=by refine⟨⟨by rw[x];exact{h.base with nb:=by simp;exact h.base.nb},h.DI,h.th,h.box⟩,?_⟩;rw[x];refine⟨h.link.go,fun C=>absurd e (C j _ (CE f)),fun l v P X=>?_,fun C=>tf (C:s.sc.Cy=rq) A⟩;have:=WZ (l:=(core s).bars) (p:=p) (by simp[core,i,u]);dsimp only;omega
    obtain⟨c,b,S,g,D⟩:=IX H.toBs (j:=k) (y:=y) hy (.inr ⟨p,M,o⟩);rw[S];dsimp only[Option.bind_some];refine F (p+1) _ (Eu H g D).1 (by dsimp only;omega) ⟨z,f,e⟩ (fun q b L d=>m q b (by omega) ?_);simp only[core]at*
    rw[g]at d;simp only[Bu]at d;rwa [Ao (by omega)]at d
theorem Dj.own{c:Cr}(h:Dj c)(o:Int)(d:0≤o)(e:o≤c.gs.length)(a: ∀(k:Nat)(z:MC),c.ms[k]?=Z z→z.phase≠3∧z.phase≠4):Dj {c with F0:=o}:=
 {h with
  KY:=d,
  Ji:=e,
  mp:=fun k z b=>by have:=a k z b;obtain⟨f,a2,a3,a4,a5,g,j⟩:=h.mp k z b;exact⟨f,a2,a3,a4,a5,fun l=>by obtain⟨i,x,m,n,p,q,t⟩:=g l;exact⟨i,x,m,n,p,q,fun r=>(r.elim this.1 this.2).elim⟩,j⟩}
section
variable {s:St}
theorem Xe(h:Inv 1000 s){j i:Nat}{y:M1}(hy:s.ms[j]?=Z y)(T:y.phase=2)(V:y.g=(i:Int)+1)(ad:s.sc.CD≠y.g)(op:Int): ∃s',Hp s j op=Z s'∧Inv 1000 s':=by
 obtain⟨x,Q,hw,hd,f1,f2,f3,f4⟩:=h.run hy (.inl T) V;have hi:i<s.gs.length:=(Af.1 Q).1;have L:j<s.ms.length:=(Af.1 hy).1;have ba:s.waits.length≤64:=by have:=I9 (core s).gs.length s.waits h.base.wn (fun x Q=>by obtain⟨k,z,rfl,M,-⟩:=h.base.ww x Q;have:=(Af.1 M).1;omega);exact AE this h.base.g2
 obtain⟨pj,ae,af,ag⟩:=h.one hy (.inr (.inr ⟨T,ad⟩));unfold Hp;rw[hy];dsimp only;rw[Ai (by omega),show(y.g-1).toNat=i by omega,Q];dsimp only;have B: ¬y.g<1:=by omega
 by_cases ho:s.owner=0∨s.owner=y.g
 ·have e1:Dc.Ni s.owner y.g=true:=by unfold Dc.Ni;rw[Ah B];split;rfl;simp;omega
  have e2:Dc.OD s.owner y.g=y.g:=by unfold Dc.OD;rw[Ah B];split;rfl;omega
  have e3:Dc.OE s.owner s.waits y.g=s.waits:=by unfold Dc.OE;rw[Ah B];split;rfl;rw[Ai (by omega)]
  rw[e1,e2,e3,Ai rfl];have a7:(core s).F0=s.owner:=rfl;have u:s.sc.Cy=false:=by
   cases R:s.sc.Cy with
   |false=>rfl
   |true=>obtain⟨l1,l2,l3,l4,k,z,q,b1,b2,b3,b4,b5,b6⟩:=h.link.stop R;obtain⟨y0,aq,rfl⟩:=DG b1;have K:=h.base.mp k _ b1;obtain⟨i2,x2,c1,-⟩:=K.2.2.2.2.2.1 (by clear K;omega);clear K;have ar:y0.g=(i2:Int)+1:=c1;have au:s.owner=y0.g:=b2;obtain⟨-,rfl⟩:=h.Xb hy aq V (by omega);have hd:(core s).Io=s.sc.CD:=rfl;simp only[mc]at b3;omega
  have O: ∀(k:Nat)(z:MC),(core s).ms[k]?=Z z→z.phase≠3∧z.phase≠4:=fun k z f=>by refine⟨(h.link.go u).2.2 k z f,fun h4=>?_⟩;obtain⟨v,r,rfl⟩:=DG f;have K:=h.base.mp k _ f;obtain⟨i2,x2,c1,-,-,-,c2⟩:=K.2.2.2.2.2.1 (by clear K;omega);have c3:=(c2 (.inr h4)).2;clear K;have ar:v.g=(i2:Int)+1:=c1;have au:s.owner=v.g:=c3;obtain⟨-,e⟩:=h.Xb hy r V (by omega);have h5:v.phase=4:=h4;rw[e]at h5;omega
  have A:=h.link.Eg (fun k z f=>(O k z f).2);have ah: ∃c,Kk {s with owner:=y.g,waits:=s.waits} 1 i 0=Z (({s with owner:=y.g,waits:=s.waits}:St).CO c)∧c.Cy=s.sc.Cy∧c.CD=s.sc.CD∧c.cg=s.sc.cg∧c.Ga=s.sc.Ga:=by unfold Kk;rw[show({s with owner:=y.g,waits:=s.waits}:St).gs[i]?=s.gs[i]? from rfl,Q];exact⟨_,rfl,rfl,rfl,rfl,rfl⟩
  obtain⟨c,av,c1,c2,c4,c5⟩:=ah;rw[av];dsimp only[Option.bind_some];generalize g:((({s with owner:=y.g,waits:=s.waits}:St).CO c).CH i {x with begun:=rq}).CO {(({s with owner:=y.g,waits:=s.waits}:St).CO c).sc with wait:=0}=d;have n:core d={core s with F0:=y.g,wt:=0,gs:=(core s).gs.set i {gc x with begun:=rq}}:=by rw[←g];simp[core,St.CO,St.CH,Db,gc,c1,c2,c4,c5]
  have m:d.ms=s.ms:=by rw[←g];rfl
  have P:d.ms[j]?=Z y:=by rw[m];exact hy
  have ai:d.gs=s.gs.set i {x with begun:=rq}:=by rw[←g];rfl
  have D:d.sc.Cy=rm∧d.sc.CD=s.sc.CD:=by rw[←g];exact⟨c1.trans u,c2⟩
  have E:d.stat=s.stat:=by rw[←g];rfl
  have S:d.rings=s.rings:=by rw[←g];rfl
  have o:Bs 1000 d:=by
   refine⟨?_,by rw[←g];exact h.DI,fun k z f=>?_,by rw[←g];exact h.box⟩
   ·rw[n]
    have C:=(h.base.own y.g (by omega) (by simp[core];omega) O).CH (i:=i) (x':={gc x with begun:=rq}) (CT Q) ⟨by simp[gc,hw,D4.Dm],by simp[gc,f1],by simp[gc,f2]⟩ (fun hm=>absurd hm f4) (fun hm=>absurd hm f3) (fun k z f W=>by obtain⟨v,r,rfl⟩:=DG f;obtain⟨-,rfl⟩:=h.Xb hy r V W;simp only[mc,gc];omega);exact{C with}
   ·rw[ai]at f
    have ht:=h.th i x Q;by_cases e:i=k
    ·subst e
     rw[Aj hi]at f;cases f;exact⟨by rw[←g];exact ht.1.congr ht.1.wd rfl rfl rfl rfl,ht.2⟩
    ·rw[Ao e]at f
     rw[←g];exact h.th k z f
  have X:d.owner=y.g:=by rw[←g];rfl
  have K: ∀ph:Int,ph=3∨ph=4→Dj (core (d.CM j {y with phase:=ph})):=fun ph a8=>by
   rw[DR];refine o.base.Nr (CE P) ?_ (.inl rfl) rfl (by simp only[mc];omega) (fun hm=>?_)
   ·refine⟨by simp only[mc];omega,by simp only[mc];omega,fun h0=>?_,fun h0=>?_,fun _ _=>⟨pj,ae,by rw[n];exact af,.inl (by rw[n];exact ag)⟩,fun _=>⟨i,{gc x with begun:=rq},V,by rw[n];simp[core,hi],fun _=>hw,fun h0=>?_,fun _=>⟨rfl,by rw[n];rfl⟩⟩,fun h0=>?_⟩
    all_goals(simp only[mc]at h0;omega)
   ·obtain⟨k,z,e,M,h2⟩:=o.base.JR _ hm
    have:j=k:=by omega
    subst this;rw[CE P]at M;cases M;simp only[mc]at h2;omega
  split
  ·unfold NI
   rw[P];dsimp only;have hz:(d.CM j {y with phase:=4}).ms[j]?=Z {y with phase:=4}:=by simp only[St.CM];exact Aj (by rw[m];exact L)
   have aj:(core (d.CM j {y with phase:=4})).bars=(core s).bars:=by rw[DR,n]
   refine Xd _ 0 _ ⟨⟨K 4 (.inr rfl),o.DI,o.th,o.box⟩,?_⟩ (by simp[St.CM]) ⟨_,hz,rfl⟩ (fun q b _ C=>?_)
   ·refine⟨fun _=>⟨?_,fun p a w hp R=>?_,fun k z f=>?_⟩,fun h4=>absurd rfl (h4 j _ (CE hz)),fun k z f h4=>?_,fun e=>tf (e:d.sc.Cy=rq) D.1⟩
    ·exact D.2.trans (h.link.go u).1
    ·rw[DR,n]at hp R
     exact(h.link.go u).2.1 p a w hp R
    ·obtain⟨v,r,rfl⟩:=DG f
     simp only[St.CM]at r;by_cases F:j=k
     ·subst F;rw[Aj (by rw[m];exact L)]at r;cases r;simp[mc]
     ·rw[Ao F,m]at r
      exact(O k _ (CE r)).1
    ·rw[aj,DR,n]
     dsimp only;have:GR (core s).bars=0:=Zac.2 fun b C=>by simp[A b C]
     omega
   ·rw[aj]at C
    exact A b (A7 C)
  ·unfold KU
   rw[P];dsimp only;have hz:((d.CO {d.sc with Cy:=rq}).CM j {y with phase:=3}).ms[j]?=Z {y with phase:=3}:=by simp only[St.CM,St.CO];exact Aj (by rw[m];exact L)
   have G:core ((d.CO {d.sc with Cy:=rq}).CM j {y with phase:=3})={core (d.CM j {y with phase:=3})with st:=rq}:=by simp[core,St.CM,St.CO,Db]
   have hS:Ss ((d.CO {d.sc with Cy:=rq}).CM j {y with phase:=3}) j pj 0 y.g:=by
    refine⟨⟨?_,o.DI,o.th,o.box⟩,rfl,?_,fun k z f=>?_,fun b C=>?_,⟨_,hz,by simp[mc,ae]⟩,X,?_,fun q a w H=>absurd H (by omega),fun q a w _ H R=>?_,fun q w R=>?_,fun H=>absurd H (by omega),fun _=>?_,fun q H=>?_,?_⟩
    ·rw[G];exact{K 3 (.inl rfl)with}
    ·exact D.2.trans (h.link.go u).1
    ·obtain⟨v,r,rfl⟩:=DG f
     simp only[St.CM,St.CO]at r;by_cases F:j=k
     ·subst F;rw[Aj (by rw[m];exact L)]at r;cases r;simp[mc]
     ·rw[Ao F,m]at r
      exact(O k _ (CE r)).2
    ·rw[G,DR,n]at C
     exact A b C
    ·show pj<d.rings.length
     rw[S];exact af
    ·have aw:q<s.rings.length:=by rw[←S];exact H
     exact(h.link.go u).2.1 q a w aw (by show s.stat[q]?=_;rw[←E];exact R)
    ·have aa:s.stat[q]?=Z (3,w):=by rw[←E];exact R
     have ax:=(Af.1 aa).1;rcases AY q s.rings.length with H|H
     ·exact absurd rfl ((h.link.go u).2.1 q 3 w H aa)
     ·have:=h.base.sd q H ax
      rw[show(core s).stat[q]?=s.stat[q]? from rfl,aa]at this;cases this
    ·show d.stat[pj]?=_
     rw[E];exact ag
    ·have M:(core d).ip=d.CB:=rfl
     obtain⟨l,h2,-⟩:=o.base.J0 q H;omega
    ·have:d.sc.wait=0:=by rw[←g];rfl
     show d.sc.wait=_;rw[this];simp[runN]
   obtain⟨s',r1,r2,r3⟩:=Ts d.rings.length 0 _ hS (by simp[St.CM,St.CO]);refine⟨s',r1,?_⟩;have ay:Ss s' j pj s'.rings.length y.g:=by rw[r3];exact r2
   exact ay.done
 ·have e1:Dc.Ni s.owner y.g=false:=by unfold Dc.Ni;rw[Ah B,Ah (by omega)];simp;omega
  have e2:Dc.OD s.owner y.g=s.owner:=by unfold Dc.OD;rw[Ah B,Ah (by omega)]
  have e3:Dc.OE s.owner s.waits y.g=s.waits++[y.g]:=by unfold Dc.OE;rw[Ah B,Ah (by omega),Ah (by omega),Ah (by rw[V];exact f3)]
  rw[e1,e2,e3,Ah (by simp)];obtain⟨t,x1,s1,m1,m2,m3,m4,m5,m6,m7,m8⟩:=Ky h hy (.inl ⟨T,fun _=>ad⟩);have:t=i:=by omega
  subst this;rw[Q]at m5;cases m5;have ak:Gf (({s with owner:=s.owner,waits:=s.waits++[y.g]}:St).CH t {x with CA:=rq}) j=Z (t,({s1 with waits:=s.waits++[y.g]}:St).CH t {x with CA:=rq}):=by unfold Gf;rw[show(({s with owner:=s.owner,waits:=s.waits++[y.g]}:St).CH t {x with CA:=rq}).ms[j]?=Z y from hy];dsimp only;rw[Ai (by omega),show(y.g-1).toNat=t by omega,m6];rfl
  rw[ak];refine⟨_,rfl,?_⟩;have ab:t<s1.gs.length:=(Af.1 m3.at_).1;have e4:Hn x.word 4=4:=by rw[hw];decide+kernel
  have ao:(({s1 with waits:=s.waits++[y.g]}:St).CH t {x with CA:=rq}).mv t 4=({s1 with waits:=s.waits++[y.g]}:St).CH t {x with CA:=rq,word:=4}:=by unfold St.mv St.CH;dsimp only;rw[Aj ab];dsimp only;rw[List.set_set,e4]
  dsimp only;rw[ao];have az:s1.waits=s.waits:=by rw[m6];rfl
  have G:core (({s1 with waits:=s.waits++[y.g]}:St).CH t {x with CA:=rq,word:=4})={core s1 with ws:=(core s1).ws++[y.g],gs:=(core s1).gs.set t ⟨4,rq,x.blocked,x.begun⟩}:=by simp[core,St.CH,Db,gc,az]
  refine⟨⟨?_,m2.DI,fun k z f=>?_,m2.box⟩,?_⟩
  ·rw[G]
   have C:=m2.base.CH (i:=t) (x':=⟨4,rq,x.blocked,x.begun⟩) (CT m3.at_) ⟨by simp[D4.Dm],by simp[f1],by simp⟩ (fun hm=>absurd hm m3.qs) (fun hm=>rfl) (fun k z f W=>by obtain⟨v,r,rfl⟩:=DG f;exact absurd W (m3.ms k v r));exact{C with
    wn:=Cb.2 ⟨C.wn,by simp,fun a ha b a1=>by
     have:b=y.g:=by simpa using a1
     rintro rfl;exact m3.ws (by rw[←V,←this];exact ha)⟩,
    ww:=fun id hid=>by
     rcases BU.1 hid with M|M
     ·exact C.ww id M
     ·have:id=y.g:=by simpa using M
      exact⟨t,⟨4,rq,x.blocked,x.begun⟩,by omega,by simp[core,ab],rfl⟩}
  ·have ht:=m2.th t x m3.at_
   simp only[St.CH]at f;by_cases e:t=k
   ·subst e
    rw[Aj ab]at f;cases f;exact⟨ht.1.congr (by simp[D4.Dm]) rfl rfl rfl rfl,fun a6=>tf a6 hd⟩
   ·rw[Ao e]at f
    exact m2.th k z f
  ·rw[G];exact⟨m2.link.go,m2.link.Eg,m2.link.bars,m2.link.stop⟩
end
end Go.Proofs.YtgadhchejmlfjaaGreatDoor.CX
