/- A part of the proof. -/
import Derived.Test.YtgadhchejmlfjaaGreatDoorC6
set_option linter.unusedVariables false
set_option maxRecDepth 20000
set_option maxHeartbeats 16000000
open Go.Value renaming int→I,pointer→J,slice→Y
open Go.IntKind renaming i64→U
open Option renaming none→N,some→Z
open Bool renaming false→rm,true→rq
open Go renaming Calls→re,World→oZ
open Go.Ending renaming returned→rC
open Go.Obj renaming cells→rD
open Go.RowKit renaming Below→qZ
open Go.RowKit.Below renaming drew→rk,refl→rf
open Go.Value renaming agg→rE,bool→ry,tuple→rG
open List renaming replicate→rj
namespace Go.Proofs.YtgadhchejmlfjaaGreatDoor.CX
open Go.RowKit Go.CL
open Cw (Pr pz)
open Vm (CN)
section
section
variable {s:St}
variable {i j:Nat} {y:M1}
theorem Tx{x:G}{a:Int}{k:Nat}(h:tgt s x a=Z k):k<s.gs.length:=by
 unfold tgt at h;split at h
 ·cases h;omega
 ·cases h
theorem Rf(h:Inv 1000 s){x:G}(l:s.gs[i]?=Z x)(hy:s.ms[j]?=Z y)(b:y.phase=2)(m:y.g=(i:Int)+1)(ins:CN): ∃n,Gl s j ins (decide (s.sc.CD=y.g))=Z n∧Inv 1000 n:=by
 have o: ∀a,∃n,C5 s j a=Z n∧Inv 1000 n:=fun a=>by obtain⟨-,-,s1,-,-,-,k4,k5,-⟩:=DW h hy b m a;exact⟨s1,k4,k5⟩
 obtain⟨D,p,hw,E,f1,f2,f3,f4⟩:=h.run hy (.inl b) m;rw[l]at p;cases p;have d:=h.th i x l;unfold Gl;rw[hy];dsimp only;rw[Ai (by omega),show(y.g-1).toNat=i by omega,l];dsimp only;split
 ·obtain⟨c,A,c1,B,c3,c4,c5⟩: ∃c,Kk s 1 i 0=Z (s.CO c)∧c.Cy=s.sc.Cy∧c.CD=s.sc.CD∧c.wait=s.sc.wait∧c.cg=s.sc.cg∧c.Ga=s.sc.Ga:=by unfold Kk;rw[l];exact⟨_,rfl,rfl,rfl,rfl,rfl,rfl⟩
  rw[A];refine⟨_,rfl,E6 (h.sc c c1 B c3 c4 c5) (i:=i) (x:=x) l _ d.1.wd ⟨by simp[f1],by simp[f2]⟩ (fun hm=>absurd hm f4) (fun hm=>absurd hm f3) (fun k z r t=>?_) ⟨d.1.congr d.1.wd rfl rfl rfl rfl,d.2⟩⟩;obtain⟨-,rfl⟩:=h.Xb hy r m t;exact⟨fun _=>hw,fun F=>by omega,fun _=>rfl⟩
 ·cases C:tgt s x ins.a with
  |none=>exact o _
  |some k=>
   have r:=Tx C;have q:s.gs[k]?=Z s.gs[k]:=Ae r;generalize s.gs[k]=z at q;dsimp only;split
   ·rw[q]
    exact Rb (h.UE q {z with C9:=y.g} rfl ⟨rfl,rfl,rfl,rfl,rfl⟩).1 k
   ·split
    ·rename_i g
     refine IV h hy (.inl ⟨b,fun _ e=>?_⟩);rw[m]at e;simp only[D1,Ib,e,decide_true]at g;split at g
     ·cases g
     ·split at g
      ·cases g
      ·(repeat' split at g)<;>cases g
    ·split
     ·rename_i f
      have u:z.word=1∨z.word=3∨z.word=4∨z.word=5:=by
       have e:G2 s k=z.word:=by simp[G2,q]
       simp only[D1,Ib,e]at f;split at f
       ·cases f
       ·split at f
        ·split at f<;>cases f
        ·split at f
         ·assumption
         ·split at f<;>cases f
      obtain⟨s1,k1,k2,k3⟩:=aQ h q u;rw[k1];obtain⟨H,v,w⟩:=k3.ms j y hy (by omega);obtain⟨-,-,s2,-,-,-,k4,k5,-⟩:=DW k2 v ((Aq MC.phase w).trans b) ((Aq MC.g w).trans m) 1;exact⟨s2,k4,k5⟩
     ·exact o _
theorem Ty(h:Inv 1000 s){x:G}{ins:CN}(o:s.gs[i]?=Z x)(hy:s.ms[j]?=Z y)(a:y.phase=2)(w:y.g=(i:Int)+1)(g:E9 s x=Z ins): ∃n b,Km s j i ins=Z (n,b)∧Inv 1000 b∧ ∃f:M1,b.ms[j]?=Z f∧f.phase=2∧f.g=y.g:=by
 obtain⟨K,l,hw,C,f1,f2,f3,f4⟩:=h.run hy (.inl a) w;rw[o]at l;cases l;have q:y.p= -1∨(0≤y.p∧y.p<s.rings.length):=by obtain⟨-,-,-,-,a5,-⟩:=h.base.mp j _ (CE hy);obtain⟨p,e,D,-⟩:=a5 (by simp only[mc];omega) (by simp only[mc];omega);simp only[mc]at e;have:p<s.rings.length:=D;clear a5;omega
 have E: ∀b:St,Kp s b→ ∃f:M1,b.ms[j]?=Z f∧f.phase=2∧f.g=y.g:=fun b k=>by obtain⟨m,c,d⟩:=k.ms j y hy (by omega);exact⟨m,c,(Aq MC.phase d).trans a,Aq MC.g d⟩
 unfold Km;rw[hy,o];dsimp only;split
 ·rename_i r
  split
  ·exact⟨_,_,rfl,h,y,hy,a,rfl⟩
  ·have t:=h.base.cg
   have z:s.gs.length<64:=by simp only[core]at t;omega
   rw[Ai z];obtain⟨A,B,-,-,-,u,-⟩:=Tm h.DI rfl (h.th i x o).1 C 0;rw[g]at B;cases B;obtain⟨F,H⟩:=aP h z ins.n (rg x ins.a.toNat) (u r);obtain⟨b,k1,k2,k3⟩:=Fm F H y.p q rq;rw[k1];obtain⟨m,c,d⟩:=k3.ms j y hy (by omega);exact⟨_,_,rfl,k2,m,c,(Aq MC.phase d).trans a,Aq MC.g d⟩
 ·split
  ·obtain⟨n,b,k1,k2,k3⟩:=Xf h y.p q (tgt s x ins.a) (fun k v=>Tx v)
   exact⟨n,b,k1,k2,E b k3⟩
  ·split
   ·obtain⟨n,b,k1,k2,k3⟩:=Tt h y.p q (tgt s x ins.a) (fun k v=>Tx v)
    obtain⟨m,c,d⟩:=k3 j y hy (by omega);exact⟨n,b,k1,k2,m,c,(Aq MC.phase d).trans a,Aq MC.g d⟩
   ·split
    ·exact Tv h hy a w _
    ·split<;>exact⟨_,_,rfl,h,y,hy,a,rfl⟩
theorem Tz(h:Inv 1000 s){x:G}{ins:CN}(f:s.gs[i]?=Z x)(hy:s.ms[j]?=Z y)(a:y.phase=2)(c:y.g=(i:Int)+1)(b:E9 s x=Z ins): ∃g,XB s j ins=Z g∧Inv 1000 g:=by
 have l: ∃g,C5 s j 0=Z g∧Inv 1000 g:=by obtain⟨-,-,s1,-,-,-,k4,k5,-⟩:=DW h hy a c 0;exact⟨s1,k4,k5⟩
 have d:ins.op≠14→ins.op≠8→ins.op≠9→ ∃s1 e,C5 s j 0=Z s1∧Inv 1000 s1∧s1.ms[j]?=Z e∧e.phase=2∧e.g=y.g∧s1.sc.CD=s.sc.CD:=fun q r t=>by obtain⟨v,o,s1,k1,k2,k3,k4,k5,k6,-⟩:=DW h hy a c 0;rw[f]at k1;cases k1;rw[b]at k2;cases k2;obtain⟨c1,u,c3⟩:=k6 q r t;obtain⟨⟨e,m,p⟩,-⟩:=after f hy c1;exact⟨s1,e,k4,k5,m,(Aq MC.phase p).trans a,Aq MC.g p,u⟩
 unfold XB;rw[hy];dsimp only;split
 ·split
  ·exact l
  ·rename_i k
   exact Xe h hy a c (by simpa using k) _
 split
 ·obtain⟨s1,e,k1,k2,k3,k4,k5,k6⟩:=d (by omega) (by omega) (by omega)
  rw[k1];dsimp only[Option.bind_some];split
  ·rename_i k
   obtain⟨s2,k7,k8,-⟩:=N8 k2 (i:=i) k3 k4 (by omega) (by rw[k6,k5];simpa using k);exact⟨s2,k7,k8⟩
  ·exact⟨s1,rfl,k2⟩
 split
 ·obtain⟨s1,e,k1,k2,k3,k4,k5,k6⟩:=d (by omega) (by omega) (by omega)
  rw[k1];dsimp only[Option.bind_some];split
  ·exact⟨s1,rfl,k2⟩
  ·rename_i k
   exact IV k2 k3 (.inl ⟨k4,fun _=>by rw[k6,k5];simpa using k⟩)
 split
 ·exact Xg h f hy a c b (by assumption)
 split
 ·exact fV h f hy a c b (by assumption)
 split
 ·exact Rf h f hy a c ins
 ·rw[Ai (by omega),show(y.g-1).toNat=i by omega]
  obtain⟨n,s1,k1,k2,e,k3,k4,k5⟩:=Ty h f hy a c b;rw[k1];obtain⟨-,-,s2,-,-,-,k6,k7,-⟩:=DW k2 k3 k4 (k5.trans c) n;exact⟨s2,k6,k7⟩
theorem Ld(h:Inv 1000 s){p:Nat}(hy:s.ms[j]?=Z y)(m:p<s.rings.length): ∃c f,Hr s j p=Z c∧Inv 1000 c∧c.ms[j]?=Z f∧mc f=mc y∧c.sc=s.sc:=by
 have d:p<s.asked.length:=by have:=h.base.nb;simp[core]at this;omega
 have e:=(Af.1 hy).1;have g:s.asked[p]?=Z s.asked[p]:=Ae d;generalize s.asked[p]=a at g;obtain⟨i,-⟩:=h.M2 hy {y with CR:=rm} rfl;have hm:(s.asked.set p ⟨rm,a.Eg,a.count⟩).map (·.Eg)=s.asked.map (·.Eg):=by apply BC;intro k;simp only[Bu];grind
 obtain⟨l,-⟩:=Eu (a:=s.asked.set p ⟨rm,a.Eg,a.count⟩) (b:=s.box) i hm rfl;refine⟨_,{y with CR:=rm},by unfold Hr;rw[hy,Int.toNat_natCast,g];dsimp only;rw[if_pos (by omega)];rfl,l,by dsimp only;exact List.getElem?_set_self e,rfl,rfl⟩
theorem TA{n:Nat}{l:List Bool}{pc:Int}{a p b st c sp:Bool}(h:FO.IZ n l pc a p b st c sp=1):b=true:=by
 unfold FO.IZ FO.J6 at h
 (repeat' split at h)<;>first|assumption|cases h
theorem fX(h:Inv 1000 s)(hy:s.ms[j]?=Z y)(n:y.phase=2): ∃R,OM s j=Z R∧Inv 1000 R:=by
 obtain⟨i,C⟩: ∃i:Nat,y.g=(i:Int)+1:=by obtain⟨-,-,-,-,-,S,-⟩:=h.base.mp j _ (CE hy);obtain⟨i,z,T,-⟩:=S (by simp only[mc];omega);exact⟨i,T⟩
 obtain⟨x,B,hw,D,f1,f2,f3,f4⟩:=h.run hy (.inl n) C;obtain⟨ins,d,-,-,E,-⟩:=Tm h.DI rfl (h.th i x B).1 D 0;have w:YS s x=Z ins:=by unfold YS;rw[d];exact Ai E
 have F:=(Af.1 hy).1;unfold OM;rw[hy];dsimp only;rw[Ai (by omega),show(y.g-1).toNat=i by omega,B];dsimp only;rw[w];dsimp only[Option.bind_some];split
 ·exact Tz h B hy n C d
 rename_i V;obtain⟨l,s1,W,X,m,c,G,H,hsc,aa,K⟩: ∃(l:M1)(s1:St),(if x.begun=rq then{y with used:=min y.used 19}else y)=l∧(if x.begun=rq then s.CM j (if x.begun=rq then{y with used:=min y.used 19}else y)else s)=s1∧Inv 1000 s1∧s1.ms[j]?=Z l∧mc l=mc y∧s1.gs=s.gs∧s1.sc=s.sc∧s1.rings=s.rings∧s1.funcs=s.funcs:=by
  cases x.begun with
  |true=>exact⟨_,_,rfl,rfl,(h.M2 hy {y with used:=min y.used 19} rfl).1,by rw[Ai rfl,Ai rfl];exact Aj F,rfl,rfl,rfl,rfl,rfl⟩
  |false=>exact⟨_,_,rfl,rfl,h,hy,rfl,rfl,rfl,rfl,rfl⟩
 rw[X,W];have o:l.g=(i:Int)+1:=(Aq MC.g G).trans C;have b:l.phase=2:=(Aq MC.phase G).trans n;have q:s1.gs[i]?=Z x:=by rw[H];exact B
 have r:s1.sc.CD≠l.g:=by rw[hsc,show l.g=y.g from Aq MC.g G];exact V
 have e:E9 s1 x=Z ins:=by unfold E9;rw[K];exact d
 obtain⟨p,hp,L,hs⟩:=m.one c (.inr (.inr ⟨b,r⟩));have M:p<s1.asked.length:=by have:=m.base.nb;simp[core]at this;omega
 have O:s1.asked[p]?=Z s1.asked[p]:=Ae M;generalize s1.asked[p]=a at O;obtain⟨-,-,f,hf,-⟩:=(m.th i x q).1.at_;rw[hp,Ai (by omega),An,O,hf];dsimp only;split
 ·rename_i hc
  exact Lb m O (TA hc)
 split
 ·split
  ·exact Tz m q c b o e
  ·obtain⟨s2,t,k1,k2,k3,k4,k5⟩:=Ld m c L
   rw[k1];dsimp only[Option.bind_some];have ab:t.g=(i:Int)+1:=(Aq MC.g k4).trans o;have g:t.phase=2:=(Aq MC.phase k4).trans b;obtain⟨u,z,P,m1,m2,m3,m4,m5,m6,m7,-⟩:=Ky k2 k3 (.inl ⟨g,fun _=>by rw[k5,show t.g=l.g from Aq MC.g k4];exact r⟩);have:u=i:=by omega
   subst this;rw[m1];dsimp only[Option.bind_some];have e5:Hn z.word 5=5:=by rw[m7 g];decide+kernel
   have e6:P.mv u 5=P.CH u {z with word:=5}:=by simp[St.mv,m3.at_,e5]
   rw[e6];have A:=m2.th u z m3.at_;have hI:Inv 1000 (P.CH u {z with word:=5}):=E6 m2 m3.at_ _ (by dsimp only;unfold D4.Dm;omega) ⟨by simp[m3.fl],by simp[m3.fl]⟩ (fun hm=>absurd hm m3.qs) (fun hm=>absurd hm m3.ws) (fun k v hk Q=>absurd Q (m3.ms k v hk)) ⟨A.1.congr (by dsimp only;unfold D4.Dm;omega) rfl rfl rfl rfl,fun D=>by have:=A.2 D;have:=m7 g;have:=m2.mR m3.at_;omega⟩;obtain⟨s4,k6,k7,-⟩:=La hI u;exact⟨s4,k6,k7⟩
 split
 ·obtain⟨s2,t,k1,k2,k3,k4,k5⟩:=Ld m c L
  rw[k1];exact IV k2 k3 (.inl ⟨(Aq MC.phase k4).trans b,fun _=>by rw[k5,show t.g=l.g from Aq MC.g k4];exact r⟩)
 split
 ·obtain⟨s2,t,k1,k2,-⟩:=Ld m c L
  exact⟨s2,k1,k2⟩
 ·exact Tz m q c b o e
theorem fY{i n:Int}(h:1≤n):0≤D3 i n∧D3 i n<n:=by unfold D3;rw[Ah (by omega)];exact⟨Zbd _ (by omega),Zaw _ (by omega)⟩
theorem Rh(h:Inv 1000 s)(pick Ey draw:Int): ∃l,IF s pick Ey draw=Z l∧Inv 1000 l:=by
 unfold IF;have d:=h.sc {s.sc with now:=wrap64 (s.sc.now+1),pick:=pick,Ey:=Ey,draw:=draw,kind:=0,eg:=0,JW:=0,JX:=0,en:=0,seen:=rm} rfl rfl rfl rfl rfl;dsimp only;generalize s.CO {s.sc with now:=wrap64 (s.sc.now+1),pick:=pick,Ey:=Ey,draw:=draw,kind:=0,eg:=0,JW:=0,JX:=0,en:=0,seen:=rm}=s1 at d;have hm:=d.base.m1;have g:=d.base.m2;simp only[core,Bg]at hm g;have p:=fY (i:=pick) (n:=s1.ms.length) (by omega);generalize m:(D3 pick s1.ms.length).toNat=j;have e:j<s1.ms.length:=by omega
 have hy:s1.ms[j]?=Z s1.ms[j]:=Ae e;generalize s1.ms[j]=y at hy;rw[hy];dsimp only;split
 ·exact⟨s1,rfl,d⟩
 rw[Ai (by omega)];have k:(Ki s1.box j s1.sc.now).length=s1.box.length:=by unfold Ki;split<;>simp
 obtain⟨o,-⟩:=d.M2 hy {y with CR:=Ih s1.box j s1.sc.now||y.CR} rfl;obtain⟨f,-⟩:=Eu (a:=s1.asked) (b:=Ki s1.box j s1.sc.now) o rfl k;have c:({s1.CM j {y with CR:=Ih s1.box j s1.sc.now||y.CR}with asked:=s1.asked,box:=Ki s1.box j s1.sc.now}:St).ms[j]?=Z {y with CR:=Ih s1.box j s1.sc.now||y.CR}:=Aj e;split
 ·exact aN f c (by assumption)
 split
 ·exact fX f c (by assumption)
 split
 ·exact aT f c (by assumption)
 split
 ·exact fW f c (by assumption)
 split
 ·exact aS f c (by assumption)
 ·exact⟨s1,rfl,d⟩
end
end
theorem fZ{o:List Fn}(s:WW o){g cg cm:Int}(G:1≤g∧g≤256)(v:1≤cg∧cg≤64)(A:1≤cm∧cm≤64):Inv 1000 (JH o g cg cm):=by
 obtain⟨n,rfl⟩: ∃n:Nat,g=((n+1:Nat):Int):=⟨(g-1).toNat,by omega⟩;have l: ∀(p:Nat)(a w:Int),p<n+1→((1,0)::rj n ((0,-1):Pr))[p]?=Z (a,w)→p=0∧a=1∧w=0∨1≤p∧a=0∧w= -1:=fun p a w f d=>by
  cases p with
  |zero=>simp at d;exact .inl ⟨rfl,d.1.symm,d.2.symm⟩
  |succ p=>simp[BE]at d;exact .inr ⟨by omega,d.2.1.symm,d.2.2.symm⟩
 have c: ∀(j:Nat)(y:MC),([⟨0,0,1⟩]:List MC)[j]?=Z y→j=0∧y=⟨0,0,1⟩:=fun j y hy=>by
  cases j with
  |zero=>simp at hy;exact⟨rfl,hy.symm⟩
  |succ j=>simp at hy
 have q: ∀(j:Nat)(y:GC),([⟨1,rm,rm,rm⟩]:List GC)[j]?=Z y→j=0∧y=⟨1,rm,rm,rm⟩:=fun j y hy=>by
  cases j with
  |zero=>simp at hy;exact⟨rfl,hy.symm⟩
  |succ j=>simp at hy
 have t:core (JH o ((n+1:Nat):Int) cg cm)=⟨n+1,[1],0::rj n 0,(1,0)::rj n (0,-1),[⟨1,rm,rm,rm⟩],[⟨0,0,1⟩],rj (n+1) rm,(List.range n).map fun(i:Nat)=>(i:Int)+1,[],0,[],rm,0,0,cg,cm⟩:=by simp[core,JH,Db,gc,mc,p0,r0];simp[Ring.C3]
 refine⟨⟨?_,s,fun i x m=>?_,by simp[JH]⟩,?_⟩
 ·rw[t]
  refine{mL:=by simp,aI:=by dsimp only;omega,nb:=by simp,oQ:=by simp,ns:=by simp,sl:=by simp;omega,g1:=by simp,g2:=by simp,m1:=by simp,m2:=by simp,cg:=v.2,Ga:=A.2,qn:=by simp,qw:=fun id hid=>?_,rn:=fun a B=>?_,mp:=fun j y hy=>?_,mu:=fun j k y z C D _ _=>?_,sp:=fun p a w f d=>?_,sd:=fun p f r=>?_,N6:=?_,J0:=fun p f=>?_,j3:=by simp,JR:=by simp,KY:=by simp,Ji:=by simp,wn:=by simp,ww:=by simp,gw:=fun i x m=>?_}
  ·simp at hid;exact⟨0,_,by simpa using hid,rfl,.inl rfl⟩
  ·simp at B;omega
  ·obtain⟨rfl,rfl⟩:=c j y hy
   exact⟨by simp,by simp,by simp,by simp,fun _ _=>⟨0,rfl,by simp,.inl rfl⟩,by simp,by simp⟩
  ·rw[(c j y C).1,(c k z D).1]
  ·rcases l p a w f d with⟨rfl,rfl,rfl⟩|⟨u,rfl,rfl⟩
   ·exact .inr ⟨by omega,by omega,0,_,rfl,rfl,rfl,by simp⟩
   ·exact .inl ⟨rfl,.inl rfl⟩
  ·simp at f r;omega
  ·exact List.pairwise_map.2 (List.nodup_range.imp fun h e=>h (by omega))
  ·simp only[B8,BN]at f
   obtain⟨i,E,rfl⟩:=f;exact⟨i+1,by simp,by dsimp only;omega,by simp[E]⟩
  ·obtain⟨rfl,rfl⟩:=q i x m
   simp[D4.Dm]
 ·have:i=0∧x=⟨1,0,0,[0,0,0,0,0,0,0,0],rm,rm,rm,rm,rm,0,[]⟩:=by
   cases i with
   |zero=>simp[JH]at m;exact⟨rfl,m.symm⟩
   |succ i=>simp[JH]at m
  obtain⟨rfl,rfl⟩:=this;exact⟨⟨rfl,.inr (.inl rfl),s.first,by simp,by simp⟩,by simp⟩
 ·rw[t]
  refine⟨fun _=>⟨rfl,fun p a w f d=>?_,fun j y hy=>?_⟩,fun _ b F=>?_,fun j y hy u=>?_,fun h=>by cases h⟩
  ·rcases l p a w f d with⟨-,rfl,-⟩|⟨-,rfl,-⟩<;>decide
  ·obtain⟨-,rfl⟩:=c j y hy;decide
  ·exact Zas F
  ·obtain⟨-,rfl⟩:=c j y hy;cases u
variable {s s' a:St} {p n:Int} {j i:Nat}
def Hd(s s':St):Prop:=(s.sc.seen=rq→s'.sc.seen=rq)∧(s'.sc.CD=0∨s'.sc.CD=s.sc.CD∨s'.sc.seen=rq)
theorem Hd.refl(s:St):Hd s s:=⟨id,.inr (.inl rfl)⟩
theorem Hd.of(h:s'.sc=s.sc):Hd s s':=by unfold Hd;rw[h];exact⟨id,.inr (.inl rfl)⟩
theorem KA(s:St)(i:Nat)(t:Int):(s.mv i t).sc=s.sc:=by unfold St.mv St.CH;split<;>rfl
theorem M7(h:Ho s p=Z s'):Hd s s':=by unfold Ho at h;unfold Hd;grind
theorem KB(h:GH s j=Z s'):s'.sc=s.sc:=by unfold GH at h;grind
theorem gd(h:Jp s p j=Z s'):s'.sc=s.sc:=by unfold Jp at h;grind
theorem Ri{b:Bool}(h:FJ s p=Z (b,s')):s'.sc=s.sc:=by
 unfold FJ at h
 (repeat' split at h)<;>first|(cases h;rfl)|cases h|(simp only[Ax]at h;obtain⟨a,c,d⟩:=h;cases d;have:=gd c;exact this)
theorem O7(h:Gc s j=Z s'):s'.sc=s.sc:=by unfold Gc at h;grind
theorem O8(h:G9 s=Z s'):s'.sc=s.sc:=by
 unfold G9 at h
 (repeat' split at h)<;>grind [Ri]
theorem KC{b:Bool}(h:D6 s p i b=Z s'):s'.sc=s.sc:=by
 unfold D6 at h
 (repeat' split at h)<;>first|cases h|(have:=O8 h;simpa[St.put,KA]using this)
theorem N9(id:Int): ∀(n k:Nat)(s s':St),Ge id n k s=Z s'→s'.sc=s.sc:=by
 intro n;induction n with
 |zero=>intro k s s' h;cases h;rfl
 |succ n b=>intro k s s' h;unfold Ge at h;(repeat' split at h)<;>first|cases h|exact b _ _ _ h|(have:=b _ _ _ h;simpa[St.CH]using this)|(simp only[Av]at h;obtain⟨a,c,d⟩:=h;have:=(b _ _ _ d).trans (KC c);simpa[St.CH]using this)
theorem Le{q:Nat×St}(h:Gf s j=Z q):q.2.sc=s.sc:=by unfold Gf at h;grind [St.CM]
theorem KD(h:Gg s j=Z s'):s'.sc=s.sc:=by unfold Gg at h;simp only[Av]at h;obtain⟨q,a,b⟩:=h;exact(KC b).trans (Le a)
theorem TB(h:Gh s j i=Z s'):s'.sc=s.sc:=by
 unfold Gh at h
 (repeat' split at h)<;>first|cases h;rfl|cases h|(have:=N9 _ _ _ _ _ h;simpa[KA]using this)|(have:=O8 h;simpa[St.CM,KA]using this)
theorem aU(p:Nat): ∀(l:List Int)(s s':St)(n:Int),EV p l s=Z (n,s')→s'.sc=s.sc:=by
 intro l;induction l with
 |nil=>intro s s' n h;cases h;rfl
 |cons q r a=>
  intro s s' n h;unfold EV at h;split at h
  ·dsimp only at h
   split at h
   ·have:=a _ _ _ h;exact this
   ·cases h;rfl
  ·cases h
theorem Xi{p:Nat}{a:Int}(h:GZ s p a=Z (n,s')):s'.sc=s.sc:=by
 unfold GZ at h;split at h
 ·cases h;rfl
 ·dsimp only at h
  split at h
  ·cases h;rfl
  ·have:=aU _ _ _ _ _ h;exact this
theorem Rj(h:G0 s j=Z (n,s')):s'.sc=s.sc:=by
 unfold G0 at h
 (repeat' split at h)<;>first|cases h;rfl|cases h|(have:=Xi h;exact this)
theorem gh(h:Kj s j=Z s'):Hd s s':=by
 unfold Kj at h
 (repeat' split at h)<;>first|cases h|exact M7 h|(have:=O7 h;unfold Hd;rw[this];exact⟨id,.inr (.inl rfl)⟩)|skip
 ·rename_i a _;have:=O7 h;have k:=Rj a;exact .of (this.trans k)
 ·rename_i a _ _;have:=TB h;have k:=Rj a;exact .of (this.trans k)
theorem Oa(j:Nat): ∀(n k:Nat)(s s':St),Gi j n k s=Z s'→s'.sc=s.sc:=by
 intro n;induction n with
 |zero=>intro k s s' h;cases h;rfl
 |succ n b=>intro k s s' h;unfold Gi at h;(repeat' split at h)<;>first|cases h|exact b _ _ _ h|(simp only[Av]at h;obtain⟨a,c,d⟩:=h;exact(b _ _ _ d).trans (KB c))
theorem Hd.sc{b c:St}(h:Hd b c)(d:b.sc.CD=a.sc.CD)(e:b.sc.seen=a.sc.seen):Hd a c:=by unfold Hd at*;rw[d,e]at h;exact h
theorem Xj(j:Nat): ∀(n k:Nat)(s s':St),EW j n k s=Z s'→Hd s s':=by
 intro n;induction n with
 |zero=>intro k s s' h;cases h;exact .refl _
 |succ n b=>
  intro k s s' h;unfold EW at h;dsimp only at h
  (repeat' split at h)<;>first|cases h|(have:=b _ _ _ h;exact this.sc rfl rfl)|(obtain⟨a,c,d⟩:=Av.1 h;have e:=KB c;exact(b _ _ _ d).sc (by rw[e];rfl) (by rw[e];rfl))
theorem aV(j:Nat): ∀(n k:Nat)(s s':St),IE j n k s=Z s'→Hd s s':=by
 intro n;induction n with
 |zero=>intro k s s' h;cases h;exact .refl _
 |succ n b=>
  intro k s s' h;unfold IE at h
  (repeat' split at h)<;>first|cases h|(have:=b _ _ _ h;exact this.sc rfl rfl)|(obtain⟨a,c,d⟩:=Av.1 h;have e:=KB c;exact(b _ _ _ d).sc (by rw[e]) (by rw[e]))
theorem TC{k:Int}(h:Kk s k i n=Z s'):s'.sc.seen=true:=by unfold Kk at h;grind [St.CO]
theorem Hd.seen(h:s'.sc.seen=rq):Hd s s':=⟨fun _=>h,.inr (.inr h)⟩
theorem aW{op:Int}(h:Hp s j op=Z s'):Hd s s':=by
 unfold Hp at h;split at h
 ·cases h
 split at h
 ·split at h
  ·cases h
  dsimp only at h;split at h
  ·obtain⟨a,c,b⟩:=Av.1 h
   have d:=TC c;refine .seen ?_;split at b
   ·unfold NI at b
    split at b
    ·cases b
    ·exact(aV _ _ _ _ _ b).1 d
   ·unfold KU at b
    split at b
    ·cases b
    ·exact(Xj _ _ _ _ _ b).1 d
  ·obtain⟨q,c,rfl⟩:=Ax.1 h
   have:=Le c;exact .of ((KA _ _ _).trans this)
 ·cases h
theorem Ob(h:EI s i=Z s'):s'.sc=s.sc:=by
 unfold EI at h;dsimp only at h
 (repeat' split at h)<;>first|cases h;rfl|cases h|(have:=KC h;exact this)
theorem j8: ∀(l:List Int)(s s':St),dS l s=Z s'→s'.sc=s.sc:=by
 intro l;induction l with
 |nil=>intro s s' h;cases h;rfl
 |cons p r c=>intro s s' h;unfold dS at h;simp only[Av]at h;obtain⟨⟨b,a⟩,d,e⟩:=h;have k:=Ri d;exact(c _ _ e).trans k
theorem aX: ∀(l:List Int)(s s':St),Jq l s=Z s'→s'.sc=s.sc:=by
 intro l;induction l with
 |nil=>intro s s' h;cases h;rfl
 |cons p r a=>intro s s' h;unfold Jq at h;split at h;have:=a _ _ h;exact this;cases h
theorem Rk(h:G1 s j=Z s'):Hd s s':=by
 unfold G1 at h;dsimp only at h
 (repeat' split at h)<;>first|cases h|skip
 simp only[Av]at h;obtain⟨a,d,b,e,h⟩:=h;have f:=(aX _ _ _ e).trans (j8 _ _ _ d);split at h
 ·cases h
 ·simp only[Av]at h
  obtain⟨c,g,i⟩:=h;have k:=(O8 i).trans (Ob g);have l:s'.sc={s.sc with CD:=0,Cy:=rm}:=k.trans f;unfold Hd;rw[l];exact⟨id,.inl rfl⟩
theorem Fo(h:C5 s j n=Z s'):s'.sc.seen=true:=by
 unfold C5 at h;split at h
 ·cases h
 split at h
 ·dsimp only at h
  split at h
  ·cases h
  obtain⟨ins,-,h⟩:=Av.1 h;obtain⟨r,-,h⟩:=Av.1 h;obtain⟨s1,e,h⟩:=Av.1 h;obtain⟨f,a,h⟩:=Av.1 h;have d:=TC e;have b:f.sc.seen=true:=by
   split at a
   ·rw[KB a];exact d
   ·cases a;exact d
  split at h
  ·obtain⟨i,c,h⟩:=Av.1 h
   obtain⟨q,g,rfl⟩:=Ax.1 h;rw[KA,Le g];split at c
   ·exact(Rk c).1 b
   ·cases c;exact b
  ·cases h;exact b
 ·cases h
theorem F4(h:C5 a j n=Z s'):Hd s s':=.seen (Fo h)
theorem Rl(g:Int): ∀(n k:Nat)(s s':St),El g n k s=Z s'→s'.sc=s.sc:=by
 intro n;induction n with
 |zero=>intro k s s' h;cases h;rfl
 |succ n b=>intro k s s' h;unfold El at h;(repeat' split at h)<;>first|cases h|exact b _ _ _ h|(simp only[Av]at h;obtain⟨a,c,d⟩:=h;exact(b _ _ _ d).trans (KB c))
theorem aY{ins:CN}(h:XB s j ins=Z s'):Hd s s':=by
 unfold XB at h;split at h
 ·cases h
 dsimp only at h;split at h
 ·split at h
  ·exact F4 h
  ·exact aW h
 split at h
 ·obtain⟨a,b,h⟩:=Av.1 h
  have c:=Fo b;split at h
  ·exact .seen ((Rk h).1 c)
  ·cases h;exact .seen c
 split at h
 ·obtain⟨a,b,h⟩:=Av.1 h
  have c:=Fo b;split at h
  ·cases h;exact .seen c
  ·exact .seen (by rw[KD h];exact c)
 split at h
 ·unfold JG at h
  split at h
  ·cases h
  split at h
  ·obtain⟨a,b,h⟩:=Av.1 h
   have c:=Fo b;split at h
   ·cases h;exact .seen c
   ·split at h
    ·cases h
    split at h
    ·cases h;exact .seen c
    ·obtain⟨q,d,rfl⟩:=Ax.1 h
     exact .seen (by rw[KA,Le d];exact c)
  ·cases h
 split at h
 ·unfold Sw at h
  split at h
  ·cases h
  split at h
  ·exact F4 h
  split at h
  ·split at h
   ·split at h
    ·exact M7 h
    split at h
    ·exact .of (KD h)
    ·obtain⟨a,b,h⟩:=Av.1 h
     have c:=Fo b;split at h
     ·cases h
     split at h
     ·cases h;exact .seen (by simp only[St.CM,KA];exact c)
     ·cases h
   ·cases h
  ·cases h
 split at h
 ·unfold Gl at h
  split at h
  ·cases h
  split at h
  ·dsimp only at h
   split at h
   ·cases h
   split at h
   ·obtain⟨q,b,rfl⟩:=Ax.1 h
    have:=TC b;exact .seen this
   ·split at h
    ·exact F4 h
    split at h
    ·split at h
     ·have:=Rl _ _ _ _ _ h;exact .of this
     ·cases h
    split at h
    ·exact .of (KD h)
    split at h
    ·obtain⟨q,b,h⟩:=Av.1 h
     exact F4 h
    ·exact F4 h
  ·cases h
 split at h
 ·obtain⟨q,b,h⟩:=Av.1 h
  exact F4 h
 ·cases h
theorem M8(h:Hr s j p=Z s'):s'.sc=s.sc:=by unfold Hr at h;grind
theorem j9(h:OM s j=Z s'):Hd s s':=by
 unfold OM at h;split at h
 ·cases h
 rename_i c _;split at h
 ·split at h
  ·cases h
  rename_i x _;obtain⟨ins,-,h⟩:=Av.1 h;split at h
  ·exact aY h
  dsimp only at h;generalize hy:(if x.begun=rq then({c with used:=min c.used 19}:M1)else c)=y at h
  have e:(if x.begun=rq then s.CM j y else s).sc=s.sc:=by split<;>rfl
  generalize(if x.begun=rq then s.CM j y else s)=s1 at h e
  refine Hd.sc (b:=s1) ?_ (by rw[e]) (by rw[e]);split at h
  ·split at h
   ·split at h
    ·exact M7 h
    split at h
    ·split at h
     ·exact aY h
     ·obtain⟨a,d,h⟩:=Av.1 h
      obtain⟨q,f,h⟩:=Av.1 h;have:=N9 _ _ _ _ _ h;exact .of (this.trans ((KA _ _ _).trans ((Le f).trans (M8 d))))
    split at h
    ·obtain⟨a,d,h⟩:=Av.1 h
     exact .of ((KD h).trans (M8 d))
    split at h
    ·exact .of (M8 h)
    ·exact aY h
   ·cases h
  ·cases h
 ·cases h
theorem Rm{g:Int}(h:call2 s j g=Z s'):s'.sc=s.sc:=by
 unfold call2 at h;split at h
 ·cases h
 split at h
 ·exact KD h
 ·dsimp only at h
  split at h
  ·cases h;exact KA _ _ _
  ·cases h
theorem gi(h:Kn s j=Z s'):s'.sc=s.sc:=by
 unfold Kn at h;split at h
 ·cases h
 split at h
 ·cases h;rfl
 split at h
 ·split at h
  ·have:=Rm h;exact this
  split at h
  ·have:=Rm h;exact this
  ·obtain⟨q,b,h⟩:=Av.1 h
   obtain⟨a,c,h⟩:=Av.1 h;exact(KC h).trans ((O7 c).trans (Le b))
 ·cases h
theorem gj{pick Ey draw:Int}(h:IF s pick Ey draw=Z s')(c:s.sc.CD=0)(d:s'.sc.CD≠0):s'.sc.seen=true:=by
 have key: ∀a:St,a.sc.CD=0→Hd a s'→s'.sc.seen=true:=fun a e k=>by
  rcases k.2 with b|b|b
  ·exact absurd b d
  ·rw[e]at b;exact absurd b d
  ·exact b
 unfold IF at h;dsimp only at h;split at h
 ·cases h
 split at h
 ·cases h;exact absurd c d
 split at h
 ·split at h
  ·exact key _ (by exact c) (gh h)
  split at h
  ·exact key _ (by exact c) (j9 h)
  split at h
  ·unfold Lx at h
   split at h
   ·cases h
   split at h
   ·exact key _ (by exact c) (.of (Oa _ _ _ _ _ h))
   ·exact Fo h
  split at h
  ·unfold Qg at h
   split at h
   ·cases h
   split at h
   ·exact key _ (by exact c) (.of (Oa _ _ _ _ _ h))
   split at h
   ·obtain⟨a,b,h⟩:=Av.1 h
    rw[Ob h];exact Fo b
   ·cases h
  split at h
  ·exact key _ (by exact c) (.of (gi h))
  ·cases h;exact absurd c d
 ·cases h
end Go.Proofs.YtgadhchejmlfjaaGreatDoor.CX
namespace Go.Proofs.YtgadhchejmlfjaaGreatDoor.EO
open Go.Proofs.Tryz Go.RowKit Go.CL
open Vm (CN)
section
open DX (row rows Laid)
theorem Xk{op:Int}(h:0≤op∧op<24):op=0∨op=1∨op=2∨op=3∨op=4∨op=5∨op=6∨op=7∨op=8∨op=9∨op=10∨op=11∨op=12∨op=13∨op=14∨op=15∨op=16∨op=17∨op=18∨op=19∨op=20∨op=21∨op=22∨op=23:=by omega
theorem Xl(w:oZ):re prog 315 #[] w fun e b=>(∃a,e=rC (.slice a 24 24))∧qZ w.heap.size w b:=by go_enter func315,ntmps315;go_wp2;go_ret;exact⟨⟨_,rfl⟩,Ct (rf _ _) _⟩
theorem gm(op:Int)(w:oZ):re prog 264 #[I U op] w fun e c=>e=rC (ry (decide (0≤op∧op<24)))∧qZ w.heap.size w c:=by
 have f:=Aa (fun W=>Xl W);by_cases g:0≤op
 ·have e:decide (0≤op∧op<24)=decide (op<24):=by simp[g]
  rw[e];generalize h:decide (op<24)=d;go_enter func264,ntmps264;go_wp2_with(go_at_call 315;refine(f.out _).mono ?_;rintro e j⟨⟨a,rfl⟩,b⟩;have i:=Aa b;clear b);go_ret;exact⟨by rw[←h];rfl,i.out⟩
 ·have e:decide (0≤op∧op<24)=false:=by simp;omega
  rw[e];go_enter func264,ntmps264;go_wp2;go_ret;exact⟨rfl,rf _ _⟩
theorem Xm(op:Int)(w:oZ)(h:0≤op∧op<24):re prog 265 #[I U op] w fun e a=>e=rC (I U (row op).CS)∧a=w:=by
 rcases Xk h with rfl|rfl|rfl|rfl|rfl|rfl|rfl|rfl|rfl|rfl|rfl|rfl|rfl|rfl|rfl|rfl|rfl|rfl|rfl|rfl|rfl|rfl|rfl|rfl
 all_goals
  go_enter func265,ntmps265;go_wp2;go_ret;exact⟨rfl,rfl⟩
theorem Ro(op:Int)(w:oZ)(h:0≤op∧op<24):re prog 266 #[I U op] w fun e a=>e=rC (I U (row op).target)∧a=w:=by
 rcases Xk h with rfl|rfl|rfl|rfl|rfl|rfl|rfl|rfl|rfl|rfl|rfl|rfl|rfl|rfl|rfl|rfl|rfl|rfl|rfl|rfl|rfl|rfl|rfl|rfl
 all_goals
  go_enter func266,ntmps266;go_wp2;go_ret;exact⟨rfl,rfl⟩
theorem TD(op:Int)(w:oZ)(h:0≤op∧op<24):re prog 200 #[I U op] w fun e a=>e=rC (ry (row op).waits)∧a=w:=by
 rcases Xk h with rfl|rfl|rfl|rfl|rfl|rfl|rfl|rfl|rfl|rfl|rfl|rfl|rfl|rfl|rfl|rfl|rfl|rfl|rfl|rfl|rfl|rfl|rfl|rfl
 all_goals
  go_enter func200,ntmps200;go_wp2;go_ret;exact⟨rfl,rfl⟩
theorem Xn(op:Int)(w:oZ)(h:0≤op∧op<24):re prog 202 #[I U op] w fun e a=>e=rC (ry (row op).ends)∧a=w:=by
 rcases Xk h with rfl|rfl|rfl|rfl|rfl|rfl|rfl|rfl|rfl|rfl|rfl|rfl|rfl|rfl|rfl|rfl|rfl|rfl|rfl|rfl|rfl|rfl|rfl|rfl
 all_goals
  go_enter func202,ntmps202;go_wp2;go_ret;exact⟨rfl,rfl⟩
theorem Xo(f sv:Value)(l:List Bool)(pc:Int)(w:oZ)(g:FO.Bs w sv l):re prog 201 #[rE #[f,sv],I U pc] w fun e i=>e=rC (ry (FO.H6 l pc))∧qZ w.heap.size w i:=by
 obtain⟨b,off,cap,rfl,m,a⟩:=g;unfold FO.H6;by_cases h:0≤pc
 ·rw[Ai h]
  obtain⟨k,rfl⟩: ∃k:Nat,pc=k:=⟨pc.toNat,by omega⟩;rw[An];by_cases c:k<l.length
  ·have n:=a k c
   have d:decide ((k:Int)<(l.length:Int))=true:=by simpa using c
   have j: ¬b=w.heap.size:=by omega
   generalize l[k]?.getD rm=x at*
   clear a;go_enter func201,ntmps201;go_wp2;go_ret;exact⟨rfl,Ct (rf _ _) _⟩
  ·have d:decide (k<l.length)=false:=by simpa using c
   rw[A9 (by omega)];clear a;go_enter func201,ntmps201;go_wp2;go_ret;exact⟨rfl,Ct (rf _ _) _⟩
 ·rw[Ah h]
  have d:decide (pc<0)=true:=by simp;omega
  clear a;go_enter func201,ntmps201;go_wp2;go_ret;exact⟨rfl,Ct (rf _ _) _⟩
end
section
open DX (row rows Laid)
variable {a b c rr r k n:Int}
theorem Rp: ∀op:Int,(!(row op).name.isEmpty)=decide (0≤op∧op<24):=fun op=>by
 by_cases h:0≤op∧op<24
 ·rw[AZ h]
  rcases Xk h with rfl|rfl|rfl|rfl|rfl|rfl|rfl|rfl|rfl|rfl|rfl|rfl|rfl|rfl|rfl|rfl|rfl|rfl|rfl|rfl|rfl|rfl|rfl|rfl<;>rfl
 ·rw[Bb h]
  unfold row;by_cases a:0≤op
  ·rw[Ai a,A9 (by show 24≤_;omega)];rfl
  ·rw[Ah a];rfl
theorem gn{op:Int}(h:0≤op∧op<24):((row op).CS=0∨(row op).CS=1∨(row op).CS=3)∧((row op).target=0∨(row op).target=1∨(row op).target=2)∧((row op).target=0→(row op).number=decide (op=1)):=by rcases Xk h with rfl|rfl|rfl|rfl|rfl|rfl|rfl|rfl|rfl|rfl|rfl|rfl|rfl|rfl|rfl|rfl|rfl|rfl|rfl|rfl|rfl|rfl|rfl|rfl<;>decide
def Jj(a b c:Int)(k:Nat):Int:=if k=0 then a else if k=1 then b else c
theorem UI{k:Nat}(d:k<3)(h:Ef (Jj a b c k) k rr=rm):(Ef a 0 rr&&(Ef b 1 rr&&Ef c 2 rr))=false:=by
 have:k=0∨k=1∨k=2:=by omega
 rcases this with rfl|rfl|rfl
 ·rw[show Ef a 0 rr=rm from h];rfl
 ·rw[show Ef b 1 rr=rm from h];simp
 ·rw[show Ef c 2 rr=rm from h];simp
theorem aZ(h: ∀k:Nat,k<3→Ef (Jj a b c k) k rr=rq):(Ef a 0 rr&&(Ef b 1 rr&&Ef c 2 rr))=true:=by rw[show Ef a 0 rr=rq from h 0 (by decide),show Ef b 1 rr=rq from h 1 (by decide),show Ef c 2 rr=rq from h 2 (by decide)];rfl
theorem gq(a:k<n)(h:0≤r∧r<8):Ef r k n=true:=by unfold Ef;rw[Ai a];simpa using h
theorem be(a:k<n)(h: ¬(0≤r∧r<8)):Ef r k n=false:=by unfold Ef;rw[Ai a];simpa using h
theorem TE(op a b c n places funcs:Int)(w:oZ)(hp:places≤9223372036854775807)(hf:funcs≤9223372036854775807)(hn:0≤n→n≤9223372036854775807):re prog 199 #[rE #[I U op,I U a,I U b,I U c,I U n],I U places,I U funcs] w fun e w'=>(∃f,e=rC (I U f)∧(f=0↔Jw op a b c n places funcs=rq))∧qZ w.heap.size w w':=by
 have Q:=Aa (fun W=>gm op W);obtain⟨ok,d⟩: ∃ok,Jw op a b c n places funcs=ok:=⟨_,rfl⟩;rw[d];unfold Jw at d;rw[Rp]at d;by_cases E:0≤op∧op<24
 ·rw[AZ E]at Q d
  have HR:=Aa (fun W=>Xm op W E);have B:=Aa (fun W=>Ro op W E);obtain⟨r1,r2,r3⟩:=gn E;generalize(row op).CS=rr at*
  generalize(row op).target=rt at*
  generalize(row op).number=rn at*
  have h0:qZ w.heap.size w (w.alloc (rD #[I U op,I U a,I U b,I U c,I U n] 84)):=Ct (rf _ _) _;have b0:Cx (w.alloc (rD #[I U op,I U a,I U b,I U c,I U n] 84)) w.heap.size #[I U op,I U a,I U b,I U c,I U n] 84:=Cx.new w _ 84;have F:=Aa (Ab h0 b0);have r:=Aa d;have s:=Aa r3;clear h0 b0 E d r3;go_enter func199,ntmps199;go_wp2_with(first|(go_at_call 264;refine(Q.out _).mono ?_;rintro e z⟨rfl,L⟩;have G:=F.out.2.below L F.out.2.lt;have R:=G.cell 0;have q1:=G.cell 1;have q2:=G.cell 2;have q3:=G.cell 3;have S:=G.cell 4;simp only[Ad,Ac,Ag]at R q1 q2 q3 S;have hL:=G.lt;have T:=Aa (F.out.1.trans (L.mono F.out.1.size));clear L G)|(go_at_call 265;refine(HR.out _).mono ?_;rintro e w2⟨rfl,rfl⟩));have p:=Cx.new z #[I U a,I U b,I U c] 3;have V:Hid (∀k,k<3→(z.alloc (rD #[I U a,I U b,I U c] 3)).cell? ⟨z.heap.size,k,N⟩=Z (I U (Jj a b c k))):=fun k X=>by
   rw[p.cell];have:k=0∨k=1∨k=2:=by omega
   rcases this with rfl|rfl|rfl<;>rfl
  have h:=Aa (T.out.alloc T.out.size (rD #[I U a,I U b,I U c] 3));have ag:(z.alloc (rD #[I U a,I U b,I U c] 3)).cell? ⟨w.heap.size,0,N⟩=Z (I U op):=(AH (Cn z _ _ hL)).trans R;have ah:(z.alloc (rD #[I U a,I U b,I U c] 3)).cell? ⟨w.heap.size,4,N⟩=Z (I U n):=(AH (Cn z _ _ hL)).trans S;clear p R q1 q2 q3 S T F;generalize z.alloc (rD #[I U a,I U b,I U c] 3)=W at*
  generalize z.heap.size=L7 at*
  generalize O:w.heap.size=L3 at*
  have i:=Aa O;clear O;go_loop [9] (fun t9=> ∃k:Nat,k≤3∧(k:Int)≤rr∧t9=I U k∧ ∀j:Nat,j<k→Ef (Jj a b c j) j rr=rq) (fun t=>3-(intOf t).toNat)
  case atStart=>exact⟨0,by omega,by omega,rfl,fun j hj=>by omega⟩
  case round=>
   obtain⟨k,aa,ab,rfl,o⟩:=hrel;by_cases H:(k:Int)<rr
   ·have X:k<3:=by omega
    have M:=V.out k X;have ai:(k:Int)<3:=by omega
    have q:=Aa o;by_cases u:0≤Jj a b c k∧Jj a b c k<8
    ·have HV:=Aa (gq H u)
     obtain⟨v1,v2⟩:=u;clear o;generalize Jj a b c k=v at M v1 v2;go_wp2;go_round
     case rel=>exact⟨k+1,by omega,by omega,by go_num,fun j hj=>by
      by_cases e:j=k
      ·subst e;exact HV.out
      ·exact q.out j (by omega)⟩
     case measure=>simp[intOf];omega
    ·have K:=Aa (UI X (be H u))
     have x:ok=false:=by rw[←r.out,K.out];simp
     subst x;clear o r;by_cases v1:Jj a b c k<0
     ·generalize Jj a b c k=v at M v1 u
      go_wp2;go_ret;exact⟨⟨2,rfl,by simp⟩,by rw[i.out];exact h.out⟩
     ·have v2:8≤Jj a b c k:=by omega
      generalize Jj a b c k=v at M v1 v2 u;go_wp2;go_ret;exact⟨⟨2,rfl,by simp⟩,by rw[i.out];exact h.out⟩
   ·obtain rfl:(k:Int)=rr:=by omega
    have q:=Aa o;clear o H ab;go_wp2;go_loop [10] (fun t10=> ∃m:Nat,k≤m∧m≤3∧t10=I U m∧ ∀j:Nat,k≤j→j<m→Ef (Jj a b c j) j k=rq) (fun t=>3-(intOf t).toNat)
    case atStart=>exact⟨k,Al _,aa,rfl,fun j A C=>by omega⟩
    case round=>
     obtain⟨m,ad,ae,rfl,l⟩:=hrel;by_cases hm:m<3
     ·have M:=V.out m hm
      have aj:(m:Int)<3:=by omega
      have P:=Aa l;clear l;by_cases u:Jj a b c m=0
      ·have HV:Hid (Ef (Jj a b c m) m k=rq):=by show _=_;unfold Ef;rw[Ah (by omega)];simpa using u
       rw[u]at M;clear u;go_wp2;go_round
       case rel=>exact⟨m+1,by omega,by omega,by go_num,fun j A C=>by
        by_cases e:j=m
        ·subst e;exact HV.out
        ·exact P.out j A (by omega)⟩
       case measure=>simp[intOf];omega
      ·have K:=Aa (UI (rr:=k) (a:=a) (b:=b) (c:=c) hm (by unfold Ef;rw[Ah (by omega)];simpa using u))
       have x:ok=false:=by rw[←r.out,K.out];simp
       subst x;have af:(Jj a b c m !=0)=true:=by simpa using u
       clear u r;generalize Jj a b c m=v at M af;go_wp2;go_ret;exact⟨⟨9,rfl,by simp⟩,by rw[i.out];exact h.out⟩
     ·obtain rfl:m=3:=by omega
      have y:(Ef a 0 k&&(Ef b 1 k&&Ef c 2 k))=true:=aZ fun j hj=>by
       by_cases e:j<k
       ·exact q.out j e
       ·exact l j (by omega) hj
      have d:=r.out;rw[y]at d;simp only[Bool.and_true,Zcb]at d;have g:=Aa d;clear l y d r V hm ad ae q;rcases r2 with rfl|rfl|rfl
      ·have d:=g.out
       rw[Ai rfl,s.out rfl]at d;by_cases A:op=1
       ·subst A
        obtain rfl:ok=true:=by rw[←d];simp
        clear d g s;go_wp2_with(go_at_call 266;refine(B.out _).mono ?_;rintro e D⟨rfl,rfl⟩);go_ret;exact⟨rfl,by rw[i.out];exact h.out⟩
       ·have d1:(op !=1)=true:=by simpa using A
        by_cases C:n=0
        ·subst C
         obtain rfl:ok=true:=by rw[←d];simp
         clear d g s A;go_wp2_with(go_at_call 266;refine(B.out _).mono ?_;rintro e D⟨rfl,rfl⟩);go_ret;exact⟨rfl,by rw[i.out];exact h.out⟩
        ·have d2:(n !=0)=true:=by simpa using C
         obtain rfl:ok=false:=by rw[←d];simp[A,C]
         clear d g s A C;go_wp2_with(go_at_call 266;refine(B.out _).mono ?_;rintro e D⟨rfl,rfl⟩);go_ret;exact⟨⟨9,rfl,by simp⟩,by rw[i.out];exact h.out⟩
      ·have d:=g.out
       rw[Ah (by decide),Ah (by decide)]at d;clear g s;by_cases A:n<0
       ·obtain rfl:ok=false:=by rw[←d];simp;omega
        clear d;go_wp2_with(go_at_call 266;refine(B.out _).mono ?_;rintro e D⟨rfl,rfl⟩);go_ret;exact⟨⟨2,rfl,by simp⟩,by rw[i.out];exact h.out⟩
       ·by_cases C:places≤n
        ·obtain rfl:ok=false:=by rw[←d];simp;omega
         clear d;go_wp2_with(go_at_call 266;refine(B.out _).mono ?_;rintro e D⟨rfl,rfl⟩);go_ret;exact⟨⟨2,rfl,by simp⟩,by rw[i.out];exact h.out⟩
        ·obtain rfl:ok=true:=by rw[←d];simp;omega
         clear d;go_wp2_with(go_at_call 266;refine(B.out _).mono ?_;rintro e D⟨rfl,rfl⟩);go_ret;exact⟨rfl,by rw[i.out];exact h.out⟩
      ·have d:=g.out
       rw[Ah (by decide),Ai rfl]at d;clear g s;by_cases A:n<0
       ·obtain rfl:ok=false:=by rw[←d];simp;omega
        clear d;go_wp2_with(go_at_call 266;refine(B.out _).mono ?_;rintro e D⟨rfl,rfl⟩);go_ret;exact⟨⟨2,rfl,by simp⟩,by rw[i.out];exact h.out⟩
       ·by_cases C:funcs≤n
        ·obtain rfl:ok=false:=by rw[←d];simp;omega
         clear d;go_wp2_with(go_at_call 266;refine(B.out _).mono ?_;rintro e D⟨rfl,rfl⟩);go_ret;exact⟨⟨2,rfl,by simp⟩,by rw[i.out];exact h.out⟩
        ·obtain rfl:ok=true:=by rw[←d];simp;omega
         clear d;go_wp2_with(go_at_call 266;refine(B.out _).mono ?_;rintro e D⟨rfl,rfl⟩);go_ret;exact⟨rfl,by rw[i.out];exact h.out⟩
 ·rw[Bb E]at Q d
  have d:ok=false:=by rw[←d];rfl
  subst d;clear E;go_enter func199,ntmps199;go_wp2_with(go_at_call 264;refine(Q.out _).mono ?_;rintro e z⟨rfl,L⟩;have F:=Aa ((Ct (rf w.heap.size w) (rD #[I U op,I U a,I U b,I U c,I U n] 84)).trans (L.mono (by simp)));clear L);go_ret;exact⟨⟨1,rfl,by simp⟩,F.out⟩
end
section
open DX (row rows Laid)
variable {l:List CN} {sf:List Bool} {funcs:Int}
structure kd (w:oZ) (ca sa:Option Addr) (cc sc:Nat) (l:List CN) (sf:List Bool):Prop where
 code:l.length=0∨ ∃cb co,ca=Z ⟨cb,co,N⟩∧Fh w cb co l
 safe:sf.length=0∨ ∃sb so,sa=Z ⟨sb,so,N⟩∧FO.Bs w (Y (Z ⟨sb,so,N⟩) sf.length sc) sf
 n: ∀i∈l,i.n≤9223372036854775807
theorem kd.below{w w':oZ}{a b:Option Addr}{c sc:Nat}(h:kd w a b c sc l sf)(d:qZ w.heap.size w w'):kd w' a b c sc l sf:=⟨h.code.imp id (fun⟨f,co,e,g⟩=>⟨f,co,e,g.below d⟩),h.safe.imp id (fun⟨i,j,e,k⟩=>⟨i,j,e,k.below d⟩),h.n⟩
theorem gu(h: ¬(0<l.length∧l.length≤64∧sf.length=l.length)):PC l sf funcs=false:=by unfold PC;rw[Bb h];rfl
theorem O9{k:Nat}(a:k<l.length)(h:Fi l sf funcs k=rm):PC l sf funcs=false:=by unfold PC;have:(List.range l.length).all (Fi l sf funcs)=false:=List.all_eq_false.2 ⟨k,BN.2 a,by rw[h];decide⟩;rw[this];simp
theorem gx(h:0<l.length∧l.length≤64∧sf.length=l.length)(a: ∀k,k<l.length→Fi l sf funcs k=rq) (b: ∀i∈l,i.n≤9223372036854775807):PC l sf funcs=(row (l[l.length-1]?.getD ⟨0,0,0,0,0⟩).op).ends:=by unfold PC;have c:(List.range l.length).all (Fi l sf funcs)=true:=Be.2 fun k d=>a k (BN.1 d);have e:l.all (fun i=>decide (i.n≤9223372036854775807))=true:=Be.2 fun i f=>AZ (b i f);rw[AZ h,c,e];simp
theorem Oc{k:Nat}{i:CN}(a:l[k]?=Z i):Fi l sf funcs k=(Jw i.op i.a i.b i.c i.n l.length funcs&&(!(row i.op).waits||(FO.H6 sf k&&FO.H6 sf (k+1)))):=by unfold Fi;rw[a]
theorem UJ{op a b c n p f:Int}(h:Jw op a b c n p f=rq):0≤op∧op<24:=by unfold Jw at h;rw[Rp]at h;simp only[AP,Bc]at h;exact h.1.1
theorem bA(ca sa:Option Addr)(O sc:Nat)(l:List CN)(sf:List Bool)(funcs:Int)(w:oZ)(h:kd w ca sa O sc l sf)(hf:funcs≤100000):re prog 127 #[rE #[.slice ca l.length O,.slice sa sf.length sc],I U funcs] w fun e w'=>(∃a f,e=rC (rG #[I U a,I U f])∧(f=0↔PC l sf funcs=rq))∧qZ w.heap.size w w':=by
 have b0:Cx (w.alloc (rD #[.slice ca l.length O,.slice sa sf.length sc] 87)) w.heap.size #[.slice ca l.length O,.slice sa sf.length sc] 87:=Cx.new w _ 87;have r:=Aa (Ab (Ct (rf w.heap.size w) (rD #[.slice ca l.length O,.slice sa sf.length sc] 87)) b0);have HH:=Aa h;clear b0;by_cases P:0<l.length∧l.length≤64∧sf.length=l.length
 ·obtain⟨ok,T⟩: ∃ok,PC l sf funcs=ok:=⟨_,rfl⟩
  rw[T];have s:=Aa T;have HL:=Aa P;obtain⟨d,co,rfl,hC⟩:=h.code.resolve_left (by omega);obtain⟨sb,so,rfl,hS⟩:=h.safe.resolve_left (by omega);have HK:Hid (∀W,qZ w.heap.size w W→Fh W d co l∧FO.Bs W (Y (Z ⟨sb,so,N⟩) sf.length sc) sf):=fun W y=>⟨hC.below y,hS.below y⟩;have aq:=hC.1;rw[P.2.2]at r HK⊢;obtain⟨g,V⟩: ∃g,l.length=g:=⟨_,rfl⟩;have c:=Aa V;rw[V]at r HK P⊢;have e0:((g:Int)==0)=false:=by simp;omega
  have ai: ¬(64:Int)<(g:Int):=by omega
  have X:=Aa P;clear h hC hS T P V;go_enter func127,ntmps127;go_wp2;generalize w.alloc (rD #[Y (Z ⟨d,co,N⟩) g O,Y (Z ⟨sb,so,N⟩) g sc] 87)=W0 at*
  go_loopw [6] (fun t wr=> ∃k:Nat,k≤g∧t=I U k∧qZ W0.heap.size W0 wr∧ ∀j,j<k→Fi l sf funcs j=rq) (fun t _=>g-(intOf t).toNat)
  case atStart=>exact⟨0,Ap _,rfl,rf _ _,fun j hj=>by omega⟩
  case round=>
   obtain⟨k,hk,rfl,hB,R⟩:=hrel;have A:=Cu r.out.1 hB;have h3:=r.out.2.below hB r.out.2.lt;have q0:=h3.cell 0;have q1:=h3.cell 1;simp only[Ad,Ac,Ag]at q0 q1;have B:d<wr.heap.size:=Am aq A.size;have u:=Aa R;clear R;by_cases x:k<g
   ·have av:(k:Int)<(g:Int):=by omega
    have z: ∃i,l[k]?=Z i:=⟨_,Ae (by rw[c.out];exact x)⟩;obtain⟨i,z⟩:=z;have hc:=(HK.out wr A).1.2 k (by rw[c.out];exact x);rw[z]at hc;simp only[AQ]at hc;obtain⟨c0,c1,c2,c3,c4⟩:=hc;have C:=Oc (sf:=sf) (funcs:=funcs) z;rw[c.out]at C;have hn:=HH.out.n i (A7 z);have ar:=Aa (fun W=>TE i.op i.a i.b i.c i.n g funcs W (by have:=X.out.2.1;omega) (by omega) (fun _=>hn));have D:Hid (∀W,qZ wr.heap.size wr W→W.cell? ⟨w.heap.size,0,N⟩=Z (Y (Z ⟨d,co,N⟩) g O)∧W.cell? ⟨w.heap.size,1,N⟩=Z (Y (Z ⟨sb,so,N⟩) g sc)∧W.cell? ⟨d,co+k*5,N⟩=Z (I U i.op)∧W.cell? ⟨d,co+k*5+1,N⟩=Z (I U i.a)∧W.cell? ⟨d,co+k*5+2,N⟩=Z (I U i.b)∧W.cell? ⟨d,co+k*5+3,N⟩=Z (I U i.c)∧W.cell? ⟨d,co+k*5+4,N⟩=Z (I U i.n)):=fun W y=>⟨(y.cell (p:=⟨w.heap.size,0,N⟩) h3.lt).trans q0,(y.cell (p:=⟨w.heap.size,1,N⟩) h3.lt).trans q1,(y.cell (p:=⟨d,_,N⟩) B).trans c0,(y.cell (p:=⟨d,_,N⟩) B).trans c1,(y.cell (p:=⟨d,_,N⟩) B).trans c2,(y.cell (p:=⟨d,_,N⟩) B).trans c3,(y.cell (p:=⟨d,_,N⟩) B).trans c4⟩;have n:=Aa hB;have HP:=Aa C;have HI:=Aa z;clear C z hn hB A h3;go_wp2;go_region_held3(fun W=>W.cell? ⟨w.heap.size,0,N⟩=Z (Y (Z ⟨d,co,N⟩) g O)∧W.cell? ⟨d,co+k*5,N⟩=Z (I U i.op)∧W.cell? ⟨d,co+k*5+1,N⟩=Z (I U i.a)∧W.cell? ⟨d,co+k*5+2,N⟩=Z (I U i.b)∧W.cell? ⟨d,co+k*5+3,N⟩=Z (I U i.c)∧W.cell? ⟨d,co+k*5+4,N⟩=Z (I U i.n)) (go_keep) (first|(go_at_call 199;refine(ar.out _).mono ?_;rintro e w1⟨⟨f,rfl,aj⟩,ak⟩;have aa:qZ wr.heap.size wr w1:=Cu (by(repeat(first|exact rf _ _|refine rk ?_))) ak;obtain⟨q0,q1,c0,c1,c2,c3,c4⟩:=D.out w1 aa;have o:=Aa aa;have HF:=Aa aj;clear ak aa aj));by_cases E:f=0
    ·subst E
     have v:=HF.out.1 rfl;have ab:=UJ v;have F:=Aa (fun W=>TD i.op W ab);have C:=HP.out;rw[v,Zcb]at C;have G:Hid (∀(pc:Int)(W:oZ),qZ wr.heap.size wr W→re prog 201 #[rE #[Y (Z ⟨d,co,N⟩) g O,Y (Z ⟨sb,so,N⟩) g sc],I U pc] W fun e w'=>e=rC (ry (FO.H6 sf pc))∧qZ W.heap.size W w'):=fun pc W y=>by have:=Xo (Y (Z ⟨d,co,N⟩) g O) _ sf pc W (HK.out W (Cu (Cu r.out.1 n.out) y)).2;exact this
     obtain⟨wt,ad⟩: ∃wt,(row i.op).waits=wt:=⟨_,rfl⟩;rw[ad]at C F;cases wt with
     |false=>
      have H:=Aa C;clear C ad v ab;go_wp2_with(go_at_call 200;refine(F.out _).mono ?_;rintro e w2⟨rfl,rfl⟩);go_roundw
      case rel=>exact⟨k+1,by omega,by go_num,Cu n.out o.out,fun j hj=>by
       by_cases e:j=k
       ·subst e;exact H.out
       ·exact u.out j (by omega)⟩
      case measure=>simp[intOf];omega
     |true=>
      obtain⟨s1,S⟩: ∃s1,FO.H6 sf k=s1:=⟨_,rfl⟩;obtain⟨s2,h2⟩: ∃s2,FO.H6 sf ((k:Int)+1)=s2:=⟨_,rfl⟩;rw[S,h2]at C;have ae:=Aa S;have ao:=Aa h2;have H:=Aa C;clear C ad v ab S h2;cases s1<;>cases s2
      case true.true=>
       go_wp2_with(first|(go_at_call 200;refine(F.out _).mono ?_;rintro e w2⟨rfl,rfl⟩)|(go_at_call 201;first|(have hh:=K.out;refine(G.out _ _ hh).mono ?_;rintro e w4⟨rfl,L⟩;rw[ao.out];have af:=Aa (Cu hh L);clear L hh)|(refine(G.out _ _ o.out).mono ?_;rintro e w3⟨rfl,q⟩;rw[ae.out];obtain⟨q0,q1,c0,c1,c2,c3,c4⟩:=D.out w3 (Cu o.out q);have K:=Aa (Cu o.out q);clear q)));go_roundw
       case rel=>exact⟨k+1,by omega,by go_num,Cu n.out af.out,fun j hj=>by
        by_cases e:j=k
        ·subst e;exact H.out
        ·exact u.out j (by omega)⟩
       case measure=>simp[intOf];omega
      case true.false=>have b:=O9 (k:=k) (by rw[c.out];exact x) H.out;obtain rfl:ok=false:=s.out.symm.trans b;clear b s;go_wp2_with(first|(go_at_call 200;refine(F.out _).mono ?_;rintro e w2⟨rfl,rfl⟩)|(go_at_call 201;first|(have hh:=K.out;refine(G.out _ _ hh).mono ?_;rintro e w4⟨rfl,L⟩;rw[ao.out];have af:=Aa (Cu hh L);clear L hh)|(refine(G.out _ _ o.out).mono ?_;rintro e w3⟨rfl,q⟩;rw[ae.out];obtain⟨q0,q1,c0,c1,c2,c3,c4⟩:=D.out w3 (Cu o.out q);have K:=Aa (Cu o.out q);clear q)));go_ret2;exact⟨⟨_,_,rfl,by simp⟩,Cu (Cu r.out.1 n.out) af.out⟩
      all_goals
       have b:=O9 (k:=k) (by rw[c.out];exact x) H.out;obtain rfl:ok=false:=s.out.symm.trans b;clear b s;go_wp2_with(first|(go_at_call 200;refine(F.out _).mono ?_;rintro e w2⟨rfl,rfl⟩)|(go_at_call 201;refine(G.out _ _ o.out).mono ?_;rintro e w3⟨rfl,q⟩;rw[ae.out];have K:=Aa (Cu o.out q);clear q));go_ret2;exact⟨⟨_,_,rfl,by simp⟩,Cu (Cu r.out.1 n.out) K.out⟩
    ·have b:Fi l sf funcs k=false:=by
      rw[HP.out];cases hq:Jw i.op i.a i.b i.c i.n g funcs with
      |false=>rfl
      |true=>exact absurd (HF.out.2 hq) E
     have b:=O9 (k:=k) (by rw[c.out];exact x) b;obtain rfl:ok=false:=s.out.symm.trans b;have aw:(f !=0)=true:=by simpa using E
     have au:=Aa E;clear b s E HF;go_wp2;go_ret2;exact⟨⟨_,_,rfl,by simp[au.out]⟩,Cu (Cu r.out.1 n.out) o.out⟩
   ·obtain rfl:k=g:=by omega
    obtain⟨m,hm⟩: ∃m,k-1=m:=⟨_,rfl⟩;have ax:(k:Int)-1=(m:Int):=by have:=X.out.1;omega
    have ag:m<k:=by have:=X.out.1;omega
    have ay:(m:Int)<(k:Int):=by omega
    obtain⟨i,z⟩: ∃i,l[m]?=Z i:=⟨_,Ae (by rw[c.out];exact ag)⟩;have hc:=((HK.out wr A).1.2 m (by rw[c.out];exact ag)).1;rw[z]at hc;simp only[AQ]at hc;have Q:=u.out m ag;rw[Oc z,c.out]at Q;simp only[AP]at Q;have ah:=Aa (fun W=>Xn i.op W (UJ Q.1));have M:=gx HL.out (fun j hj=>u.out j (by rw[←c.out];exact hj)) HH.out.n;rw[c.out,hm,z]at M;simp only[AQ]at M;rw[s.out]at M;rw[←M]at ah;have n:=Aa hB;clear Q M z hB A h3 x hk hm;cases ok with
    |true=>
     go_wp2_with(go_at_call 202;refine(ah.out _).mono ?_;rintro e w2⟨rfl,rfl⟩);go_ret2
     first
      |exact⟨⟨_,_,rfl,by simp⟩,Cu r.out.1 n.out⟩
      |exact⟨⟨_,rfl⟩,Cu r.out.1 n.out⟩
    |false=>go_wp2_with(go_at_call 202;refine(ah.out _).mono ?_;rintro e w2⟨rfl,rfl⟩);go_ret2;exact⟨⟨_,_,rfl,by simp⟩,Cu r.out.1 n.out⟩
 ·rw[gu P]
  by_cases S:l.length=0
  ·have e0:((l.length:Int)==0)=true:=by simp[S]
   generalize l.length=g at*
   clear h P S;go_enter func127,ntmps127;go_wp2;go_ret2;exact⟨⟨_,_,rfl,by simp⟩,r.out.1⟩
  ·have e0:((l.length:Int)==0)=false:=by rw[Au];omega
   by_cases h2:l.length≤64
   ·have ai: ¬(64:Int)<(l.length:Int):=by omega
    have en:((sf.length:Int) !=(l.length:Int))=true:=by rw[bne_iff_ne];omega
    generalize l.length=g at*
    generalize sf.length=ns at*
    clear h P S;go_enter func127,ntmps127;go_wp2;go_ret2;exact⟨⟨_,_,rfl,by simp⟩,r.out.1⟩
   ·have ai:(64:Int)<(l.length:Int):=by omega
    generalize l.length=g at*
    clear h P S h2;go_enter func127,ntmps127;go_wp2;go_ret2;exact⟨⟨_,_,rfl,by simp⟩,r.out.1⟩
end
section
open DX (row rows Laid)
variable {w w':oZ}
def ke(w:oZ)(a o:Nat)(f:List CN×List Bool):Prop:= ∃b c d sc,w.cell? ⟨a,o,N⟩=Z (.slice b f.1.length c)∧w.cell? ⟨a,o+1,N⟩=Z (.slice d f.2.length sc)∧kd w b d c sc f.1 f.2
def Xp(w:oZ)(a:Option Addr)(p:List (List CN×List Bool)):Prop:=p.length=0∨ ∃b c,a=Z ⟨b,c,N⟩∧b<w.heap.size∧ ∀k,k<p.length→ke w b (c+k*2) (p[k]?.getD ([],[]))
theorem ke.below{a o:Nat}{f:List CN×List Bool}(h:ke w a o f)(c:a<w.heap.size)(b:qZ w.heap.size w w'):ke w' a o f:=by obtain⟨d,e,g,sc,i,j,k⟩:=h;exact⟨d,e,g,sc,(b.cell (p:=⟨a,o,N⟩) c).trans i,(b.cell (p:=⟨a,o+1,N⟩) c).trans j,k.below b⟩
theorem Xp.below{a:Option Addr}{p:List (List CN×List Bool)}(h:Xp w a p)(c:qZ w.heap.size w w'):Xp w' a p:=h.imp id fun⟨f,g,e,d,i⟩=>⟨f,g,e,Am d c.size,fun k b=>(i k b).below d c⟩
theorem Rq(a:Option Addr)(pc:Nat)(p:List (List CN×List Bool))(w:oZ)(h:Xp w a p):re prog 63 #[rE #[.slice a p.length pc]] w fun e w'=>(∃x y f,e=rC (rG #[I U x,I U y,I U f])∧(f=0↔RS p=rq))∧qZ w.heap.size w w':=by
 obtain⟨ok,c⟩: ∃ok,RS p=ok:=⟨_,rfl⟩;rw[c];unfold RS at c;have b0:Cx (w.alloc (rD #[.slice a p.length pc] 26)) w.heap.size #[.slice a p.length pc] 26:=Cx.new w _ 26;have l:=Aa (Ab (Ct (rf w.heap.size w) (rD #[.slice a p.length pc] 26)) b0);clear b0;by_cases u:0<p.length∧p.length≤16
 ·rw[AZ u,Zcb]at c
  have m:=Aa c;obtain⟨d,q,rfl,D,hC⟩:=h.resolve_left (by omega);have HC:=Aa hC;have HK:Hid (∀k W,k<p.length→qZ w.heap.size w W→ke W d (q+k*2) (p[k]?.getD ([],[]))):=fun k W hk v=>(HC.out k hk).below D v;obtain⟨b,z⟩: ∃b,p.length=b:=⟨_,rfl⟩;have g:=Aa z;rw[z]at l u⊢;have e0:((b:Int)==0)=false:=by rw[Au];omega
  have V: ¬(16:Int)<(b:Int):=by omega
  have X:=Aa u;clear h hC c u z;go_enter func63,ntmps63;go_wp2;generalize w.alloc (rD #[Y (Z ⟨d,q,N⟩) b pc] 26)=W0 at*
  go_loopw [5] (fun t wr=> ∃k:Nat,k≤b∧t=I U k∧qZ W0.heap.size W0 wr∧ ∀j,j<k→PC (p[j]?.getD ([],[])).1 (p[j]?.getD ([],[])).2 p.length=rq) (fun t _=>b-(intOf t).toNat)
  case atStart=>exact⟨0,Ap _,rfl,rf _ _,fun j O=>by omega⟩
  case round=>
   obtain⟨k,hk,rfl,E,r⟩:=hrel;have n:=Cu l.out.1 E;have P:=l.out.2.below E l.out.2.lt;have q0:=P.cell 0;simp only[Ad,Ac]at q0;have F:d<wr.heap.size:=Am D n.size;have s:=Aa r;have o:=Aa E;clear r;by_cases A:k<b
   ·have ad:(k:Int)<(b:Int):=by omega
    obtain⟨Q,R,S,sc,c0,c1,hF⟩:=HK.out k wr (by rw[g.out];exact A) n;have G:Hid (∀W,qZ wr.heap.size wr W→re prog 127 #[rE #[.slice Q (p[k]?.getD ([],[])).1.length R,.slice S (p[k]?.getD ([],[])).2.length sc],I U b] W fun e w'=>(∃a f,e=rC (rG #[I U a,I U f])∧(f=0↔PC (p[k]?.getD ([],[])).1 (p[k]?.getD ([],[])).2 p.length=rq))∧qZ W.heap.size W w'):=fun W v=>by rw[g.out];exact bA Q S R sc _ _ b W (hF.below v) (by have:=X.out.2;omega)
    have H:Hid (∀W,qZ wr.heap.size wr W→W.cell? ⟨w.heap.size,0,N⟩=Z (Y (Z ⟨d,q,N⟩) b pc)∧W.cell? ⟨d,q+k*2,N⟩=Z (.slice Q (p[k]?.getD ([],[])).1.length R)∧W.cell? ⟨d,q+k*2+1,N⟩=Z (.slice S (p[k]?.getD ([],[])).2.length sc)):=fun W v=>⟨(v.cell (p:=⟨w.heap.size,0,N⟩) P.lt).trans q0,(v.cell (p:=⟨d,_,N⟩) F).trans c0,(v.cell (p:=⟨d,_,N⟩) F).trans c1⟩;clear E n P hF;generalize(p[k]?.getD ([],[])).1.length=n1 at*
    generalize(p[k]?.getD ([],[])).2.length=n2 at*
    go_wp2;go_region_held3(fun W=>W.cell? ⟨w.heap.size,0,N⟩=Z (Y (Z ⟨d,q,N⟩) b pc)∧W.cell? ⟨d,q+k*2,N⟩=Z (.slice Q n1 R)∧W.cell? ⟨d,q+k*2+1,N⟩=Z (.slice S n2 sc)) (go_keep) (first|(go_at_call 127;refine(G.out _ (by repeat(first|exact rf _ _|refine rk ?_))).mono ?_;rintro e w1⟨⟨x,f,rfl,T⟩,K⟩;have B:qZ wr.heap.size wr w1:=Cu (by repeat(first|exact rf _ _|refine rk ?_)) K;obtain⟨q0,c0,c1⟩:=H.out w1 B;have L:=Aa B;have HF:=Aa T;clear K B T));by_cases i:f=0
    ·subst i
     have aa:=Aa (HF.out.1 rfl);go_wp2;go_roundw
     case rel=>exact⟨k+1,by omega,by go_num,Cu o.out L.out,fun j O=>by
      by_cases e:j=k
      ·subst e;exact aa.out
      ·exact s.out j (by omega)⟩
     case measure=>simp[intOf];omega
    ·have M:ok=false:=by rw[←m.out];refine List.all_eq_false.2 ⟨p[k]'(by rw[g.out];exact A),BI _,fun hq=>i (HF.out.2 ?_)⟩;rw[Ae (by rw[g.out];exact A)];exact hq
     subst M;have ae:(f !=0)=true:=by simpa using i
     have ab:=Aa i;clear m i HF;go_wp2;go_ret3
     exact⟨⟨_,_,_,rfl,by simp[ab.out]⟩,Cu (Cu l.out.1 o.out) L.out⟩
   ·obtain rfl:k=b:=by omega
    have C:ok=true:=by rw[←m.out];refine Be.2 fun f T=>?_;obtain⟨j,O,e⟩:=List.getElem_of_mem T;have:=s.out j (by rw[←g.out];exact O);rw[Ae O,e]at this;exact this
    subst C;clear m E n P;go_wp2;go_ret3
    first
     |exact⟨⟨_,_,_,rfl,by simp⟩,Cu l.out.1 o.out⟩
     |exact⟨⟨_,_,rfl⟩,Cu l.out.1 o.out⟩
 ·rw[Bb u,Bool.false_and]at c
  subst c;by_cases h1:p.length=0
  ·have e0:((p.length:Int)==0)=true:=by simp[h1]
   generalize p.length=b at*
   clear h u h1;go_enter func63,ntmps63;go_wp2;go_ret3
   exact⟨⟨_,_,_,rfl,by simp⟩,l.out.1⟩
  ·have e0:((p.length:Int)==0)=false:=by rw[Au];omega
   have V:(16:Int)<(p.length:Int):=by omega
   generalize p.length=b at*
   clear h u h1;go_enter func63,ntmps63;go_wp2;go_ret3
   exact⟨⟨_,_,_,rfl,by simp⟩,l.out.1⟩
end
def iw(w:oZ)(e:Ending)(w':oZ):Prop:=(∃b:Bool,e=rC (ry b))∧qZ w.heap.size w w'
theorem TF(a:Option Addr)(pc:Nat)(p:List (List CN×List Bool))(w:oZ)(h:Xp w a p):re prog 62 #[rE #[.slice a p.length pc]] w (iw w):=by
 have j:Cx (w.alloc (rD #[.slice a p.length pc] 26)) w.heap.size #[.slice a p.length pc] 26:=Cx.new w _ 26;have q:=Ct (rf w.heap.size w) (rD #[.slice a p.length pc] 26);have r:Hid (∀k W,k<p.length→qZ w.heap.size w W→ ∃n o,a=Z ⟨n,o,N⟩∧ke W n (o+k*2) (p[k]?.getD ([],[]))):=fun k W v z=>by obtain⟨n,o,e,s,A⟩:=h.resolve_left (by omega);exact⟨n,o,e,(A k v).below s z⟩
 obtain⟨b,f⟩: ∃b,p.length=b:=⟨_,rfl⟩;rw[f]at j q r⊢;by_cases g:20<b
 ·have d:(20:Int)<(b:Int):=by omega
  have i:=Aa q;clear h f g r;go_enter func62,ntmps62;go_wp2;have c0:=j.cell 0;simp only[Ad,Ac]at c0;clear j;go_wp2;go_ret;exact⟨⟨_,rfl⟩,i.out⟩
 ·have d: ¬(20:Int)<(b:Int):=by omega
  have i:=Aa (Ab q j);have c0:=j.cell 0;simp only[Ad,Ac]at c0;have B:=Aa g;clear h f g j q;go_enter func62,ntmps62;go_wp2;clear d c0;generalize w.alloc (rD #[.slice a b pc] 26)=x at*
  go_loopw [3] (fun t wr=> ∃k:Nat,k≤b∧t=I U k∧qZ x.heap.size x wr) (fun t _=>b-(intOf t).toNat)
  case atStart=>exact⟨0,Ap _,rfl,rf _ _⟩
  case round=>
   obtain⟨k,v,rfl,l⟩:=hrel;have C:=(i.out.2.below l i.out.2.lt).cell 0;simp only[Ad,Ac]at C;by_cases u:k<b
   ·obtain⟨n,o,rfl,D,E,F,sc,f1,f2,_⟩:=r.out k wr u (Cu i.out.1 l)
    have c:=Aa l;generalize(p[k]?.getD ([],[])).1.length=G at*
    generalize(p[k]?.getD ([],[])).2.length=H at*
    have y:(k:Int)<(b:Int):=by omega
    clear l;have K:=B.out;go_wp2
    case roundEnd=>
     go_roundw
     case rel=>exact⟨k+1,by omega,by go_num,c.out⟩
     case measure=>simp[intOf];omega
    all_goals
     go_ret;exact⟨⟨_,rfl⟩,Cu i.out.1 c.out⟩
   ·obtain rfl:k=b:=by omega
    have c:=Aa l;clear l;go_wp2;go_ret;exact⟨⟨_,rfl⟩,Cu i.out.1 c.out⟩
def KE(a b c:Int):Bool:=decide ((1≤a∧a≤256)∧(1≤b∧b≤64)∧(1≤c∧c≤64))
theorem Xq(a b c:Int)(w:oZ):re prog 64 #[rE #[I U a,I U b,I U c]] w fun e h=>(∃f,e=rC (I U f)∧(f=0↔KE a b c=rq))∧qZ w.heap.size w h:=by
 have i:=Aa (Ct (rf w.heap.size w) (rD #[I U a,I U b,I U c] 34));obtain⟨ok,d⟩: ∃ok,KE a b c=ok:=⟨_,rfl⟩;rw[d];have g:=Aa d;clear d;go_enter func64,ntmps64;go_wp2
 all_goals go_ret
 all_goals refine⟨⟨_,rfl,?_⟩,i.out⟩
 all_goals rw[←g.out,KE,decide_eq_true_iff];omega
theorem Xr(a v:Option Addr)(pc f lc:Nat)(x y z:Int)(p:List (List CN×List Bool))(w:oZ)(h:Xp w a p):re prog 13 #[rE #[.slice a p.length pc],rE #[I U x,I U y,I U z],.slice v f lc] w (iw w):=by
 have A:=Aa h;clear h;have m:=Ct (Ct (rf w.heap.size w) (rD #[.slice a p.length pc] 26)) (rD #[I U x,I U y,I U z] 34);have i:Cx ((w.alloc (rD #[.slice a p.length pc] 26)).alloc (rD #[I U x,I U y,I U z] 34)) w.heap.size #[.slice a p.length pc] 26:=(Cx.new w _ 26).below (Ct (rf _ _) _) (by simp);have j:Cx ((w.alloc (rD #[.slice a p.length pc] 26)).alloc (rD #[I U x,I U y,I U z] 34)) (w.heap.size+1) #[I U x,I U y,I U z] 34:=by have k:=Cx.new (w.alloc (rD #[.slice a p.length pc] 26)) #[I U x,I U y,I U z] 34;simpa using k
 obtain⟨c,n⟩: ∃c,(w.alloc (rD #[.slice a p.length pc] 26)).alloc (rD #[I U x,I U y,I U z] 34)=c:=⟨_,rfl⟩;rw[n]at m i j;have o:=Aa m;have r:Hid (∀W,qZ c.heap.size c W→W.cell? ⟨w.heap.size,0,N⟩=Z (.slice a p.length pc)∧W.cell? ⟨w.heap.size+1,0,N⟩=Z (I U x)∧W.cell? ⟨w.heap.size+1,1,N⟩=Z (I U y)):=fun W s=>by have k2:=i.below s i.lt;have k3:=j.below s j.lt;exact⟨k2.cell 0,k3.cell 0,k3.cell 1⟩
 clear m i j;rcases(show(¬(f:Int)≤3000)∨((f:Int)≤3000∧ ¬x≤20)∨((f:Int)≤3000∧x≤20∧y≤10)∨((f:Int)≤3000∧x≤20∧ ¬y≤10∧64<y)∨((f:Int)≤3000∧x≤20∧ ¬y≤10∧ ¬64<y) by omega)with l|⟨l,q⟩|⟨l,q,t⟩|⟨l,q,t,B⟩|⟨l,q,t,B⟩
 all_goals
  obtain⟨C,D,E⟩:=r.out c (rf _ _);go_enter func13,ntmps13;go_wp2_with(go_at_call 62;refine(TF a pc p _ (A.out.below (by first|exact o.out|exact rk o.out))).mono ?_;rintro e u⟨⟨b,rfl⟩,d⟩;have g:Hid (qZ c.heap.size c u):=Aa (by first|exact d|exact Below.trans (rk (rf _ _)) d);obtain⟨C,D,E⟩:=r.out u g.out;clear d;cases b)
  all_goals go_ret
  all_goals exact⟨⟨_,rfl⟩,Cu o.out g.out⟩
end Go.Proofs.YtgadhchejmlfjaaGreatDoor.EO
