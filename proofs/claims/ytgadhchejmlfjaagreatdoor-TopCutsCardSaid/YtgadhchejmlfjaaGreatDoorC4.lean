/- A part of the proof. -/
import Derived.Test.YtgadhchejmlfjaaGreatDoorB0
set_option linter.unusedVariables false
set_option maxRecDepth 20000
set_option maxHeartbeats 16000000
open Go.Value renaming int→I,pointer→J,slice→Y
open Go.IntKind renaming i64→U
open Option renaming none→N,some→Z
open Bool renaming false→rm,true→rq
namespace Go.Proofs.YtgadhchejmlfjaaGreatDoor.CX
open Go.RowKit Go.CL
open Cw (Pr pz)
open Vm (CN)
section
variable {j i:Nat} {l r:List Int}
def ir(f:Fn)(nf:Nat)(i:CN):Prop:=0≤i.op∧i.op≤23∧Fa i.a∧Fa i.b∧Fa i.c∧(i.op=6∨i.op=7→0≤i.n∧i.n<f.code.length)∧(i.op=8∨i.op=10→0≤i.n∧i.n<nf)
structure mK (nf:Nat) (f:Fn):Prop where
 len:1≤f.code.length∧f.code.length≤64
 safe:f.safe.length=f.code.length
 ins: ∀(i:Nat)(x:CN),f.code[i]?=Z x→ir f nf x∧(x.op=6∨x.op=9∨x.op=14∨i+1<f.code.length)
structure WW (fs:List Fn):Prop where
 len:1≤fs.length
 fn: ∀(k:Nat)(f:Fn),fs[k]?=Z f→mK fs.length f
def kJ(a:List Fn)(fn pc:Int):Prop:=0≤fn∧0≤pc∧ ∃f,a[fn.toNat]?=Z f∧pc<f.code.length
structure OY (fs:List Fn) (x:G):Prop where
 CS:x.CS.length=8
 wd:D4.Dm x.word
 at_:kJ fs x.fn x.Dt
 deep:x.stack.length≤16
 K9: ∀r,r∈x.stack→kJ fs r.1 r.2
theorem WW.first{a:List Fn}(h:WW a):kJ a 0 0:=by refine⟨by omega,by omega,?_⟩;have b:=h.len;refine⟨a[0],by simp,?_⟩;have:=(h.fn 0 a[0] (by simp)).len.1;omega
theorem wrap_small{x:Int}(h:0≤x)(a:x≤1000000):wrap64 x=x:=by unfold wrap64;omega
theorem Tm{c:List Fn}(k:WW c){s:St}(z:s.funcs=c){x:G}(a:OY c x)(hd:x.done=rm)(g:Int): ∃ins,E9 s x=Z ins∧0≤ins.op∧ins.op≤23∧Fa ins.a∧(ins.op=10→kJ c ins.n 0)∧ ∃r,bY x ins g=Z r∧OY c r.1∧r.1.word=x.word∧r.1.CA=x.CA∧r.1.blocked=x.blocked∧r.1.begun=x.begun∧(r.1.done=rq→ins.op=14∨ins.op=8∨ins.op=9):=by
 obtain⟨m,A,f,b,B⟩:=a.at_;have w:=k.fn _ _ b;have n:=Ae (l:=f.code) (i:=x.Dt.toNat) (by omega);generalize f.code[x.Dt.toNat]=ins at n;obtain⟨⟨i1,i2,i3,i4,i5,i6,i7⟩,i8⟩:=w.ins _ _ n;refine⟨ins,by simp[E9,m,A,z,b,n],i1,i2,i3,fun o=>?_,_,by unfold bY;rw[Ai ⟨hd,i3,i4,i5⟩],?_⟩
 ·have p:=i7 (.inr o)
  refine⟨p.1,by omega,c[ins.n.toNat]'(by omega),Ae _,?_⟩;have:=(k.fn ins.n.toNat _ (Ae (by omega))).len.1;omega
 ·have d:(FQ x ins g).length=8:=by unfold FQ;(repeat' split)<;>simp[a.CS]
  have hw:wrap64 (x.Dt+1)=x.Dt+1:=wrap_small (by omega) (by have:=w.len.2;omega);by_cases he:Gj x ins=rq
  ·rw[Ai he]
   refine⟨⟨rfl,a.wd,k.first,by simp[Lw],by simp[Lw]⟩,rfl,rfl,rfl,rfl,fun _=>?_⟩;simp[Gj]at he;omega
  ·rw[Ah he]
   simp only[Gj,Bc]at he;have y:kJ c x.fn (x.Dt+1)∨ins.op=6∨ins.op=9∨ins.op=14:=by
    rcases i8 with h|h|h|h
    ·exact .inr (.inl h)
    ·exact .inr (.inr (.inl h))
    ·exact .inr (.inr (.inr h))
    ·exact .inl ⟨m,by omega,f,b,by omega⟩
   dsimp only[Gk];by_cases q:ins.op=8
   ·rw[Ai q]
    have p:=i7 (.inl q);refine⟨⟨d,a.wd,⟨p.1,by dsimp only;omega,c[ins.n.toNat]'(by omega),List.getElem?_eq_getElem _,?_⟩,?_,?_⟩,rfl,rfl,rfl,rfl,fun h=>by rw[hd]at h;cases h⟩
    ·have:=(k.fn ins.n.toNat _ (Ae (by omega))).len.1
     dsimp only;omega
    ·have:=a.deep
     simp;omega
    ·intro r e
     simp only[BU,Zb7]at e;rcases e with e|rfl
     ·exact a.K9 r e
     ·rw[hw];rcases y with h|h|h|h
      ·exact h
      all_goals omega
   ·rw[Ah q]
    by_cases t:ins.op=9
    ·rw[Ai t]
     have j:x.stack≠[]:=fun h=>he (.inr (.inr ⟨t,h⟩));refine⟨⟨d,a.wd,?_,?_,?_⟩,rfl,rfl,rfl,rfl,fun h=>by rw[hd]at h;cases h⟩
     ·rw[List.getLast?_eq_some_getLast j]
      exact a.K9 _ (List.getLast_mem j)
     ·have:=a.deep
      simp;omega
     ·intro r e
      exact a.K9 r (List.dropLast_subset _ e)
    ·rw[Ah t]
     refine⟨⟨d,a.wd,?_,a.deep,a.K9⟩,rfl,rfl,rfl,rfl,fun h=>by rw[hd]at h;cases h⟩;dsimp only[Vm.Vd];rw[hw];by_cases u:ins.op=6
     ·rw[Ai u]
      have:=i6 (.inl u);exact⟨m,this.1,f,b,this.2⟩
     ·rw[Ah u]
      by_cases v:ins.op=7∧rg x ins.a.toNat≠0
      ·rw[Ai v]
       have:=i6 (.inr v.1);exact⟨m,this.1,f,b,this.2⟩
      ·rw[Ah v]
       rcases y with h|h|h|h
       ·exact h
       ·omega
       ·omega
       ·exact absurd (.inl h) he
structure GC where
 word:Int
 CA:Bool
 blocked:Bool
 begun:Bool
variable {x:GC}
structure MC where
 p:Int
 g:Int
 phase:Int
structure Cr where
 n:Nat
 qs:List Int
 CG:List Int
 stat:List Pr
 gs:List GC
 ms:List MC
 bars:List Bool
 ip:List Int
 Im:List Int
 F0:Int
 ws:List Int
 st:Bool
 Io:Int
 wt:Int
 cg:Int
 Ga:Int
def Db(s:St):List Int:=s.all++s.rings.flatMap fun r=>Ring.C3 r.CG r.row
def gc(x:G):GC:=⟨x.word,x.CA,x.blocked,x.begun⟩
def mc(y:M1):MC:=⟨y.p,y.g,y.phase⟩
def core(s:St):Cr:=⟨s.rings.length,Db s,s.rings.map (·.CG),s.stat,s.gs.map gc,s.ms.map mc,s.asked.map (·.Eg),s.CB,s.CK,s.owner,s.waits,s.sc.Cy,s.sc.CD,s.sc.wait,s.sc.cg,s.sc.Ga⟩
def N5(n:Nat)(stat:List Pr)(gs:List GC)(ow:Int)(j:Nat)(y:MC):Prop:=
 0≤y.phase∧y.phase≤5∧(y.phase=0→y.g=0)∧(y.phase=1→y.g=0)∧
 (1≤y.phase→y.phase≤4→ ∃p:Nat,y.p=p∧p<n∧(stat[p]?=Z (1,(j:Int))∨stat[p]?=Z (3,(j:Int))))∧
 (2≤y.phase→ ∃(i:Nat)(x:GC),y.g=(i:Int)+1∧gs[i]?=Z x∧(y.phase≤4→x.word=2)∧(y.phase=5→x.word=3∨x.word=11)∧(y.phase=3∨y.phase=4→x.begun=rq∧ow=y.g))∧
 (y.phase=5→y.p= -1∨ ∃p:Nat,y.p=p∧p<n∧(stat[p]?=Z (2,(j:Int))∨stat[p]?=Z (1,(j:Int))))
structure Dj (c:Cr):Prop where
 mL:1≤c.n
 aI:c.n≤256
 nb:c.bars.length=c.n
 oQ:c.CG.length=c.n
 ns:c.n≤c.stat.length
 sl:c.stat.length≤256
 g1:1≤c.gs.length
 g2:c.gs.length≤64
 m1:1≤c.ms.length
 m2:c.ms.length≤64
 cg:c.cg≤64
 Ga:c.Ga≤64
 qn:c.qs.Nodup
 qw: ∀id,id∈c.qs→ ∃(i:Nat)(x:GC),id=(i:Int)+1∧c.gs[i]?=Z x∧(x.word=1∨x.word=9)
 rn: ∀a,a∈c.CG→0≤a
 mp: ∀(j:Nat)(y:MC),c.ms[j]?=Z y→N5 c.n c.stat c.gs c.F0 j y
 mu: ∀(j k:Nat)(y z:MC),c.ms[j]?=Z y→c.ms[k]?=Z z→y.g=z.g→1≤y.g→j=k
 sp: ∀(p:Nat)(a w:Int),p<c.n→c.stat[p]?=Z (a,w)→(w= -1∧(a=0∨a=3))∨(1≤a∧a≤3∧ ∃(j:Nat)(y:MC),w=j∧c.ms[j]?=Z y∧y.p=p∧1≤y.phase)
 sd: ∀p:Nat,c.n≤p→p<c.stat.length→c.stat[p]?=Z (4,-1)
 N6:c.ip.Nodup
 J0: ∀p,p∈c.ip→ ∃q:Nat,p=q∧q<c.n∧c.stat[q]?=Z (0,-1)
 j3:c.Im.Nodup
 JR: ∀j,j∈c.Im→ ∃(k:Nat)(y:MC),j=k∧c.ms[k]?=Z y∧y.phase=0
 KY:0≤c.F0
 Ji:c.F0≤c.gs.length
 wn:c.ws.Nodup
 ww: ∀id,id∈c.ws→ ∃(i:Nat)(x:GC),id=(i:Int)+1∧c.gs[i]?=Z x∧x.CA=rq
 gw: ∀(i:Nat)(x:GC),c.gs[i]?=Z x→D4.Dm x.word∧(x.blocked=rq→(x.word=4∨x.word=12)∧x.CA=rm)∧(x.CA=rq→x.word=4∨x.word=12)
def GR(l:List Bool):Nat:=l.countP id
def runN(l:List Pr):Nat:=l.countP fun x=>x.1==1
structure Nq (c:Cr):Prop where
 go:c.st=rm→c.Io=0∧(∀(p:Nat)(a w:Int),p<c.n→c.stat[p]?=Z (a,w)→a≠3)∧(∀(j:Nat)(y:MC),c.ms[j]?=Z y→y.phase≠3)
 Eg:(∀(j:Nat)(y:MC),c.ms[j]?=Z y→y.phase≠4)→ ∀b,b∈c.bars→b=rm
 bars: ∀(j:Nat)(y:MC),c.ms[j]?=Z y→y.phase=4→c.wt=GR c.bars
 stop:c.st=rq→c.ip=[]∧(∀(p:Nat)(a w:Int),p<c.n→c.stat[p]?=Z (a,w)→a=1∨a=3)∧(c.wt=runN c.stat∧(c.Io≠0→c.wt=0))∧(∀(j:Nat)(y:MC),c.ms[j]?=Z y→y.phase≠4)∧
  ∃(j:Nat)(y:MC)(q:Nat),c.ms[j]?=Z y∧c.F0=y.g∧(y.phase=3∧c.Io=0∨y.phase=2∧c.Io=y.g)∧y.p=q∧c.stat[q]?=Z (3,(j:Int))∧ ∀(p:Nat)(w:Int),c.stat[p]?=Z (3,w)→w= -1∨w=j
section
variable {c:Cr}
theorem Dj.Nr(h:Dj c){y y':MC}(f:c.ms[j]?=Z y)(g:N5 c.n c.stat c.gs c.F0 j y')(i:y'.g=y.g∨y'.g<1∨ ∀(k:Nat)(z:MC),c.ms[k]?=Z z→z.g≠y'.g) (m:y'.p=y.p) (n:1≤y'.phase) (o:(j:Int)∈c.Im→y'.phase=0):Dj {c with ms:=c.ms.set j y'}:={h with m1:=by simp;exact h.m1,m2:=by simp;exact h.m2,mp:=fun k z b=>by have:=h.mp;grind,mu:=fun k l z z' b q=>by have:=h.mu;grind,sp:=fun p a w d e=>by have:=h.sp p a w d e;grind,JR:=fun k b=>by have:=h.JR k b;grind}
theorem Dj.CH(h:Dj c){x':GC}(g:c.gs[i]?=Z x)(hw:D4.Dm x'.word∧(x'.blocked=rq→(x'.word=4∨x'.word=12)∧x'.CA=rm)∧(x'.CA=rq→x'.word=4∨x'.word=12))(m:(i:Int)+1∈c.qs→x'.word=1∨x'.word=9)(n:(i:Int)+1∈c.ws→x'.CA=rq)(hm: ∀(j:Nat)(y:MC),c.ms[j]?=Z y→y.g=(i:Int)+1→(y.phase≤4→x'.word=2)∧(y.phase=5→x'.word=3∨x'.word=11)∧(y.phase=3∨y.phase=4→x'.begun=rq)):Dj {c with gs:=c.gs.set i x'}:={h with g1:=by simp;exact h.g1,g2:=by simp;exact h.g2,Ji:=by simp;exact h.Ji,qw:=fun id hid=>by have:=h.qw id hid;grind,mp:=fun k z a=>by obtain⟨b,a2,a3,a4,a5,d,e⟩:=h.mp k z a;exact⟨b,a2,a3,a4,a5,fun f=>by obtain⟨l,v,p,q,r⟩:=d f;have:=hm k z a;grind,e⟩,ww:=fun id hid=>by have:=h.ww id hid;grind,gw:=fun k z a=>by have:=h.gw k z;grind}
theorem Dj.JS(h:Dj c)(a:c.gs[i]?=Z x)(hw:x.word≠1∧x.word≠9):(i:Int)+1∉c.qs:=fun hm=>by have:=h.qw _ hm;grind
theorem Dj.MZ(h:Dj c)(b:c.gs[i]?=Z x)(hw:x.word≠2∧x.word≠3∧x.word≠11){y:MC}(a:c.ms[j]?=Z y):y.g≠(i:Int)+1:=fun hm=>by have:=h.mp _ _ a;unfold N5 at this;grind
theorem Dj.perm(h:Dj c)(b:l.Perm c.qs)(nx:List Int)(d:nx.length=c.n)(e: ∀a,a∈nx→0≤a):Dj {c with qs:=l,CG:=nx}:={h with qn:=b.nodup_iff.2 h.qn,qw:=fun id hid=>h.qw id (b.mem_iff.1 hid),oQ:=d,rn:=e}
theorem Dj.less(h:Dj c)(b:(r++l).Perm c.qs)(nx:List Int)(d:nx.length=c.n)(e: ∀a,a∈nx→0≤a):Dj {c with qs:=l,CG:=nx}:={h with qn:=(Cb.1 (b.nodup_iff.2 h.qn)).2.1,qw:=fun id hid=>h.qw id (b.mem_iff.1 (AX _ hid)),oQ:=d,rn:=e}
theorem Dj.more(h:Dj c)(g:c.gs[i]?=Z x)(hw:x.word=1∨x.word=9)(d:(i:Int)+1∉c.qs)(b:l.Perm (((i:Int)+1)::c.qs))(nx:List Int)(e:nx.length=c.n)(f: ∀a,a∈nx→0≤a):Dj {c with qs:=l,CG:=nx}:={h with qn:=b.nodup_iff.2 (BB.2 ⟨d,h.qn⟩),qw:=fun id hid=>by have:=b.mem_iff.1 hid;have:=h.qw id;grind,oQ:=e,rn:=f}
theorem Dj.JH(h:Dj c)(e:c.ms.length<64)(p:Int):Dj {c with ms:=c.ms++[⟨p,0,0⟩]}:=
 {h with
  m1:=by simp,
  m2:=by simp;omega,
  mp:=fun k z b=>by
   by_cases f:k<c.ms.length
   ·exact h.mp k z (by grind)
   ·have:z=⟨p,0,0⟩:=by grind
    subst this;unfold N5;grind,
  mu:=fun k l z z' b e=>by have:=h.mu;grind,
  sp:=fun q a w d g=>by have:=h.sp q a w d;grind,
  JR:=fun k b=>by have:=h.JR k b;grind}
theorem Dj.mM(h:Dj c){j:Int}(a:c.Im=j::r):Dj {c with Im:=r}∧j∉r∧ ∃(k:Nat)(y:MC),j=k∧c.ms[k]?=Z y∧y.phase=0:=by have b:=h.j3;rw[a]at b;have d:=BB.1 b;have e:=h.JR j (by rw[a];simp);exact⟨{h with j3:=d.2,JR:=fun k f=>h.JR k (by rw[a];exact A6 _ f)},d.1,e⟩
theorem Dj.fN(h:Dj c)(p:Int):Dj {c with ip:=c.ip.erase p}:={h with N6:=h.N6.erase p,J0:=fun q a=>h.J0 q (Ck a)}
theorem Dj.Qj(h:Dj c){p:Nat}{y:MC}(A:c.ms[j]?=Z y)(B:y.phase=0)(C:p<c.n)(m:c.stat[p]?=Z (0,-1))(n:(j:Int)∉c.Im)(D:(p:Int)∉c.ip):Dj {c with ms:=c.ms.set j ⟨p,0,1⟩,stat:=c.stat.set p (1,(j:Int))}:=
 {h with
  ns:=by simp;exact h.ns,
  sl:=by simp;exact h.sl,
  m1:=by simp;exact h.m1,
  m2:=by simp;exact h.m2,
  mp:=fun k z d=>by
   by_cases o:k=j
   ·have:z=⟨p,0,1⟩:=by grind
    subst this;unfold N5;grind
   ·obtain⟨r,a2,a3,a4,a5,s,t⟩:=h.mp k z (by grind)
    exact⟨r,a2,a3,a4,fun u v=>by
     obtain⟨q,e,f,g⟩:=a5 u v;have:p≠q:=by rintro rfl;grind
     exact⟨q,e,f,by simpa[As,this]using g⟩,s,fun u=>by
     rcases t u with b|⟨q,e,f,g⟩
     ·exact .inl b
     ·have:p≠q:=by rintro rfl;grind
      exact .inr ⟨q,e,f,by simpa[As,this]using g⟩⟩,
  mu:=fun k l z z' d E=>by have:=h.mu k l z z';grind,
  sp:=fun q a w i m=>by have:=h.sp q a w i;grind,
  sd:=fun q x F=>by have:=h.sd q x;grind,
  J0:=fun q d=>by have:=h.J0 q d;grind,
  JR:=fun k d=>by
   obtain⟨l,z,rfl,e,f⟩:=h.JR k d;have:j≠l:=by rintro rfl;exact n d
   exact⟨l,z,rfl,by simpa[As,this]using e,f⟩}
end
end
section
variable {j i p:Nat}
theorem I9(n:Nat): ∀l:List Int,l.Nodup→(∀x,x∈l→1≤x∧x≤n)→l.length≤n:=by
 induction n with
 |zero=>intro l _ h;cases l with
  |nil=>simp
  |cons x l=>have:=h x (by simp);omega
 |succ n c=>
  intro l b h;by_cases hm:((n:Int)+1)∈l
  ·have d:=c (l.erase ((n:Int)+1)) (b.erase _) (fun x a=>by
    have f:=h x (Ck a);have g:x≠(n:Int)+1:=fun e=>by subst e;exact(List.Nodup.not_mem_erase b) a
    omega)
   rw[List.length_erase_of_mem hm]at d;omega
  ·have d:=c l b (fun x a=>by
    have f:=h x a;have g:x≠(n:Int)+1:=fun e=>by subst e;exact hm a
    omega)
   omega
theorem right_id{l:List Int}(h: ∀x,x∈l→1≤x):CY.right l=l:=List.filter_eq_self.2 fun x a=>AZ (h x a)
theorem IU(f:Rs→List Int): ∀(l:List Rs)(p:Nat)(r:Rs),l[p]?=Z r→ ∃rest,(l.flatMap f).Perm (f r++rest)∧ ∀r',((l.set p r').flatMap f).Perm (f r'++rest):=by
 intro l;induction l with
 |nil=>intro p r h;simp at h
 |cons x l a=>
  intro p r h;cases p with
  |zero=>simp at h;subst h;exact⟨l.flatMap f,by simp,fun r'=>by simp⟩
  |succ p=>
   obtain⟨rest,b,c⟩:=a p r (by simpa using h);refine⟨f x++rest,?_,fun r'=>?_⟩
   ·simp only[BD]
    exact(Za0 _ b).trans (by rw[←AR,←AR];exact Zbk _ Cm)
   ·simp only[BZ,BD]
    exact(Za0 _ (c r')).trans (by rw[←AR,←AR];exact Zbk _ Cm)
theorem LI(n:Nat)(row:List Int)(x:Int):(Ring.I4 n row x++Ring.FW n row x).Perm (x::row):=by
 unfold Ring.I4 Ring.FW;split
 ·simp
 ·refine List.perm_append_comm.trans ?_
  rw[AR];refine(Za0 _ (Cm (l₁:=[x]))).trans ?_;rw[←AR,Bm];exact Cm (l₁:=row) (l₂:=[x])
theorem aJ(nx:Int)(row:List Int)(g:Int)(first:Bool)(e:0≤nx)(f:1≤g):(Ring.C3 (Ring.Ng nx g first) (Ring.Ov 256 nx row g first)++Ring.Mt 256 nx row g first).Perm (g::Ring.C3 nx row):=by
 have a: ¬g<1:=by omega
 have b:0<g:=by omega
 unfold Ring.C3 Ring.Ng Ring.Ov Ring.Mt;simp only[Ah a];by_cases d:first=rq
 ·simp only[d,BM]
  rw[Ai b];by_cases c:nx=0
  ·subst c;simp
  ·rw[Ah c,Ah c,Ai (by omega)]
   simp only[Bo,Bq];exact List.Perm.cons _ (LI 256 row nx)
 ·simp only[d]
  simp only[B6,BH];rw[AR];refine(Za0 _ (LI 256 row g)).trans ?_;exact List.perm_middle
theorem aK(nx:Int)(row:List Int)(b:0≤nx)(h:Ring.KQ nx row=rq):(Ring.C3 nx row).Perm (Ring.R6 nx row::Ring.C3 0 (Ring.FA nx row)):=by
 unfold Ring.KQ at h;unfold Ring.C3 Ring.R6 Ring.FA;by_cases a:0<nx
 ·simp[a]
 ·simp only[a,BH]at*
  cases row with
  |nil=>simp at h
  |cons x r=>simp
theorem get_none(nx:Int)(row:List Int)(h:Ring.KQ nx row=rm):Ring.C3 nx row=[]∧Ring.C3 0 (Ring.FA nx row)=[]:=by
 unfold Ring.KQ at h;unfold Ring.C3 Ring.FA;by_cases a:0<nx
 ·simp[a]at h
 ·simp only[a,BH]at*
  cases row with
  |nil=>simp
  |cons x r=>simp at h
theorem WX(nx:Int)(row:List Int):(Ring.IA nx row++Ring.C3 (Ring.Ex nx row) (Ring.EM row)).Perm (Ring.C3 nx row):=by
 unfold Ring.IA Ring.Ex Ring.EM Ring.C3;by_cases h:row=[]
 ·subst h;simp
 ·simp only[h,BH]
  rw[←AR];refine(Zbk _ Cm).trans ?_;rw[AR,Bm]
theorem WY(row l:List Int)(h: ∀x,x∈l→1≤x):(Ring.Jo 256 row l++Ring.Ia 256 row l).Perm (l++row):=by
 have a:l.any (fun x=>decide (x<1))=false:=by rw[List.any_eq_false];intro x b;have:=h x b;simp;omega
 unfold Ring.Jo Ring.Ia;rw[a];simp only[B6,BH];rw[AR,Bm];exact Cm
structure Bs (e:Nat) (s:St):Prop where
 base:Dj (core s)
 DI:WW s.funcs
 th: ∀(i:Nat)(x:G),s.gs[i]?=Z x→OY s.funcs x∧(x.done=rq→x.word=6∨i=e)
 box:s.box.length=64
structure Inv (e:Nat) (s:St):Prop extends Bs e s where
 link:Nq (core s)
structure Kp (s s':St):Prop where
 sc:s'.sc=s.sc
 DI:s'.funcs=s.funcs
 nr:s'.rings.length=s.rings.length
 gl:s'.gs.length=s.gs.length
 gs: ∀(k:Nat)(x:G),s.gs[k]?=Z x→ ∃x':G,s'.gs[k]?=Z x'∧x'.fn=x.fn∧x'.Dt=x.Dt∧x'.CS=x.CS∧x'.stack=x.stack∧x'.done=x.done∧x'.begun=x.begun∧(8≤x.word→8≤x'.word)
 ms: ∀(j:Nat)(y:M1),s.ms[j]?=Z y→y.phase≠0→ ∃y':M1,s'.ms[j]?=Z y'∧mc y'=mc y
theorem Kp.refl(s:St):Kp s s:=⟨rfl,rfl,rfl,rfl,fun k x h=>⟨x,h,rfl,rfl,rfl,rfl,rfl,rfl,id⟩,fun _ y h _=>⟨y,h,rfl⟩⟩
theorem Kp.trans{a b c:St}(h:Kp a b)(k:Kp b c):Kp a c:=
 ⟨k.sc.trans h.sc,k.DI.trans h.DI,k.nr.trans h.nr,k.gl.trans h.gl,fun i x l=>by
  obtain⟨m,d,e⟩:=h.gs i x l;obtain⟨n,f,g⟩:=k.gs i m d;exact⟨n,f,by grind⟩,fun j y hy o=>by
  obtain⟨p,d,e⟩:=h.ms j y hy o;obtain⟨q,f,g⟩:=k.ms j p d (by have:=Aq MC.phase e;simp only[mc]at this;omega);exact⟨q,f,g.trans e⟩⟩
section
variable {e:Nat} {s:St}
theorem CE{y:M1}(h:s.ms[j]?=Z y):(core s).ms[j]?=Z (mc y):=by simp[core,h]
theorem CT{x:G}(h:s.gs[i]?=Z x):(core s).gs[i]?=Z (gc x):=by simp[core,h]
theorem DG{z:MC}(h:(core s).ms[j]?=Z z): ∃y:M1,s.ms[j]?=Z y∧mc y=z:=by simpa[core]using h
theorem Hw{z:GC}(h:(core s).gs[i]?=Z z): ∃x:G,s.gs[i]?=Z x∧gc x=z:=by simpa[core]using h
theorem DR(j:Nat)(y:M1):core (s.CM j y)={core s with ms:=(core s).ms.set j (mc y)}:=by simp[core,St.CM,Db]
theorem Et(i:Nat)(x:G):core (s.CH i x)={core s with gs:=(core s).gs.set i (gc x)}:=by simp[core,St.CH,Db]
theorem take_set{l:List Pr}(a:l[p]?=Z (0,-1))(b:j<64):Cw.LS l p j (fun _ _=>(1,(j:Int))) (fun s _=>s==0)=l.set p (1,(j:Int)):=by have c:p<l.length:=(Af.1 a).1;unfold Cw.LS Cw.Di;rw[Ah (by unfold Cw.Jv;omega),Ai (by omega)];simp[a]
theorem Bs.Hy(h:Bs e s):s.all.length≤64:=by have a:=h.base.qn;have b:s.all.Nodup:=(Cb.1 a).1;have c:=I9 (core s).gs.length s.all b (fun x d=>by obtain⟨i,y,rfl,f,-⟩:=h.base.qw x (Bl _ d);have:=(Af.1 f).1;omega);exact AE c h.base.g2
theorem Q4(h:Bs e s)(n:p<s.rings.length)(f:s.stat[p]?=Z (0,-1)):FJ s p=Z (rm,s)∨ ∃(b:St)(j:Nat),FJ s p=Z (rq,b)∧Bs e {b with CB:=s.CB.erase p}∧b={s with stat:=s.stat.set p (1,(j:Int)),ms:=b.ms,CK:=b.CK}∧
   (∀(k:Nat)(y:M1),s.ms[k]?=Z y→y.phase≠0→b.ms[k]?=Z y)∧(∀(k:Nat)(y:M1),b.ms[k]?=Z y→s.ms[k]?=Z y∨y.phase≤1):=by
 have o:=h.base.fN p;have q:(p:Int)∉s.CB.erase p:=h.base.N6.not_mem_erase;unfold FJ;cases c:s.CK with
 |nil=>
  dsimp only;by_cases t:s.sc.Ga≤s.ms.length
  ·rw[Ai t];exact .inl rfl
  ·rw[Ah t]
   have hm:=h.base.Ga;have d:s.ms.length<64:=by simp[core]at hm;omega
   rw[Ai d];have i:=o.JH (by simpa[core]using d) 0;have l:=i.Qj (j:=s.ms.length) (p:=p) (y:=⟨0,0,0⟩) (by simp[core]) rfl n f (by simp[core,c]) q;refine .inr ⟨{s with stat:=s.stat.set p (1,(s.ms.length:Int)),ms:=s.ms++[⟨p,0,1,rm,0,0,0⟩]},s.ms.length,?_,⟨?_,h.DI,h.th,h.box⟩,by simp[c],fun k y a _=>?_,fun k y a=>?_⟩
   ·simp[Jp,m0,take_set f d,c]
   ·refine cast ?_ l
    simp[core,Db,c,mc]
   ·have:=(Af.1 a).1
    rw[AD this];exact a
   ·grind
 |cons id r=>
  obtain⟨i,l,j,z,w,u,v⟩:=o.mM (j:=id) (r:=r) (by simp[core,c]);subst w;obtain⟨y,m,rfl⟩:=DG u;have d:j<64:=by have:=(Af.1 m).1;have:=h.base.m2;simp[core]at this;omega
  have x:=i.Qj (j:=j) (p:=p) u v n f l q;refine .inr ⟨{s with stat:=s.stat.set p (1,(j:Int)),ms:=s.ms.set j {y with p:=p,g:=0,phase:=1},CK:=r},j,?_,⟨?_,h.DI,h.th,h.box⟩,rfl,fun k z a A=>?_,fun k z a=>?_⟩
  ·dsimp only
   rw[Ai (by omega),An];simp[Jp,m,take_set f d]
  ·refine cast ?_ x
   simp[core,Db,mc]
  ·have:j≠k:=by rintro rfl;rw[m]at a;cases a;exact A v
   simpa[As,this]using a
  ·grind
end
end
section
theorem Nq.look{c:Cr}(l:Nq c)(b:c.st=rm){mN:List MC}{GS:List Pr}{j4 nG:List Int}(f: ∀(p:Nat)(a w:Int),p<c.n→GS[p]?=Z (a,w)→a≠3) (hm: ∀(j:Nat)(y:MC),mN[j]?=Z y→(y.phase≠3∧y.phase≠4)∨c.ms[j]?=Z y) (g: ∀(j:Nat)(y:MC),c.ms[j]?=Z y→y.phase=4→mN[j]?=Z y):Nq {c with ms:=mN,stat:=GS,ip:=j4,Im:=nG}:=⟨fun h=>⟨(l.go h).1,f,fun j y d=>by have:=(l.go h).2.2 j y;have:=hm j y d;grind⟩,fun h=>l.Eg fun j y d e=>h j y (g j y d e) e,fun j y d e=>l.bars j y (by have:=hm j y d;grind) e,fun h=>by rw[show c.st=rq from h]at b;cases b⟩
section
variable {e:Nat} {s:St}
theorem M0(h:Inv e s): ∃d,G9 s=Z d∧Inv e d∧Kp s d:=by
 have H:=h.Hy;unfold G9;by_cases b:s.sc.Cy=rq
 ·rw[Ai b];exact⟨s,rfl,h,Kp.refl s⟩
 ·rw[Ah b,Ah (by omega)]
  cases u:s.CB with
  |nil=>exact⟨s,rfl,h,Kp.refl s⟩
  |cons p r=>
   dsimp only;split
   ·obtain⟨q,rfl,v,m⟩:=h.base.J0 p (by simp[core,u])
    rcases Q4 h.toBs (p:=q) v m with f|⟨d,j,f,A,he,n,hm⟩
    ·rw[f];exact⟨s,rfl,h,Kp.refl s⟩
    ·rw[f]
     have o:d.CB=s.CB:=by rw[he]
     refine⟨_,rfl,⟨by rw[o];exact A,?_⟩,by rw[he],by rw[he],by rw[he],by rw[he],fun k x B=>⟨x,by rw[he];exact B,rfl,rfl,rfl,rfl,rfl,rfl,id⟩,fun k y hy g=>⟨y,n k y hy g,rfl⟩⟩
     have C:=h.link.look (c:=core s) (by simpa[core]using b) (mN:=d.ms.map mc) (GS:=s.stat.set q (1,(j:Int))) (j4:=s.CB.erase q) (nG:=d.CK)
      (fun p a w g m=>by have:=((h.link.go (by simpa[core]using b)).2.1 p a w g);simp[core]at*;grind)
      (fun k z l=>by
       obtain⟨y,hy,rfl⟩: ∃y,d.ms[k]?=Z y∧mc y=z:=by simpa using l
       rcases hm k y hy with t|t
       ·exact .inr (CE t)
       ·left;simp[mc];omega)
      (fun k z l G=>by obtain⟨y,hy,rfl⟩:=DG l;have:=n k y hy (by simp[mc]at G;omega);simp[this])
     rw[o];refine cast ?_ C;rw[he];simp[core,Db]
   ·exact⟨s,rfl,h,Kp.refl s⟩
theorem fO{x:Int}(h:x=1∨x=2∨x=3∨x=4∨x=5∨x=9∨x=11∨x=12∨x=13):Hn x 1=1∨Hn x 1=9:=by rcases h with rfl|rfl|rfl|rfl|rfl|rfl|rfl|rfl|rfl<;>decide+kernel
theorem mO{x:Int}(h:8≤x):8≤Hn x 1:=by
 unfold Hn D4.Lt D4.NC;repeat' split
 all_goals omega
theorem Ja(s:St)(a:List Int)(r:List Rs)(b:r.length=s.rings.length):core {s with all:=a,rings:=r}={core s with qs:=Db {s with all:=a,rings:=r},CG:=r.map (·.CG)}:=by simp[core,b]
theorem aL{p:Nat}{r:Rs}(d:s.rings[p]?=Z r)(g:Int)(first:Bool)(e:0≤r.CG)(b:1≤g)(f: ∀x,x∈Db s→1≤x):(Db {s with all:=s.all++CY.right (Ring.Mt 256 r.CG r.row g first),rings:=s.rings.set p ⟨Ring.Ng r.CG g first,Ring.Ov 256 r.CG r.row g first⟩}).Perm (g::Db s):=by
 have c:=aJ r.CG r.row g first e b;obtain⟨rest,f1,f2⟩:=IU (fun r=>Ring.C3 r.CG r.row) s.rings p r d;have h:CY.right (Ring.Mt 256 r.CG r.row g first)=Ring.Mt 256 r.CG r.row g first:=right_id fun x i=>by
  have:=c.mem_iff.1 (AX _ i);rcases Bv.1 this with rfl|j
  ·exact b
  ·exact f x (AX _ (f1.mem_iff.2 (Bl _ j)))
 rw[h];rw[Bz];intro a;have c1:=c.count_eq a;have k:=f1.count_eq a;have c3:=(f2 ⟨Ring.Ng r.CG g first,Ring.Ov 256 r.CG r.row g first⟩).count_eq a;simp only[Db,BL,Zaz]at*
 omega
theorem Bs.OZ(h:Bs e s): ∀x,x∈Db s→1≤x:=fun x a=>by obtain⟨i,y,rfl,-⟩:=h.base.qw x a;omega
theorem Bs.Kx(h:Bs e s){r:Rs}(a:r∈s.rings):0≤r.CG:=h.base.rn _ (B8.2 ⟨r,a,rfl⟩)
structure Q5 (s:St) (i:Nat) (x:G):Prop where
 at_:s.gs[i]?=Z x
 qs:(i:Int)+1∉Db s
 ms: ∀(j:Nat)(y:M1),s.ms[j]?=Z y→y.g≠(i:Int)+1
 ws:(i:Int)+1∉s.waits
 wd:x.word=1∨x.word=2∨x.word=3∨x.word=4∨x.word=5∨x.word=9∨x.word=11∨x.word=12∨x.word=13
 fl:x.blocked=rm∧x.CA=rm
theorem Fm(h:Inv e s){i:Nat}{x:G}(b:Q5 s i x)(p:Int)(F:p= -1∨(0≤p∧p<s.rings.length))(first:Bool): ∃d,D6 s p i first=Z d∧Inv e d∧Kp s d:=by
 have u:i<s.gs.length:=(Af.1 b.at_).1;have V:=h.Hy;have hw:=fO b.wd;have c:(s.mv i 1)=s.CH i {x with word:=Hn x.word 1}:=by simp[St.mv,b.at_]
 have n:Bs e (s.mv i 1):=by
  rw[c];refine⟨?_,h.DI,fun k z f=>?_,h.box⟩
  ·rw[Et]
   refine h.base.CH (CT b.at_) ⟨?_,?_,?_⟩ (fun g=>absurd g b.qs) (fun g=>absurd g b.ws) (fun j z o L=>?_)
   ·simp only[gc];rcases hw with e|e<;>rw[e]<;>unfold D4.Dm<;>omega
   ·simp[gc,b.fl]
   ·simp[gc,b.fl]
   ·obtain⟨y,hy,rfl⟩:=DG o
    exact absurd L (b.ms j y hy)
  ·have A:=h.th k
   have m:=h.th i x b.at_;simp only[St.CH]at f;by_cases e:i=k
   ·subst e
    rw[Aj u]at f;cases f;refine⟨⟨m.1.CS,by rcases hw with e|e<;>dsimp only<;>rw[e]<;>unfold D4.Dm<;>omega,m.1.at_,m.1.deep,m.1.K9⟩,fun M=>?_⟩;have:=m.2 M;have:=b.wd;omega
   ·rw[Ao e]at f
    exact A z f
 have v:Nq (core (s.mv i 1)):=by rw[c,Et];exact⟨h.link.go,h.link.Eg,h.link.bars,h.link.stop⟩
 have O:Kp s (s.mv i 1):=by
  rw[c];refine⟨rfl,rfl,rfl,by simp[St.CH],fun k z f=>?_,fun _ y hy _=>⟨y,hy,rfl⟩⟩;by_cases e:i=k
  ·subst e
   rw[b.at_]at f;cases f;exact⟨_,Aj u,rfl,rfl,rfl,rfl,rfl,rfl,mO⟩
  ·exact⟨z,by simp only[St.CH];rw[Ao e];exact f,rfl,rfl,rfl,rfl,rfl,rfl,id⟩
 have B:(core (s.mv i 1)).gs[i]?=Z (gc {x with word:=Hn x.word 1}):=CT (by rw[c];exact Aj u);have C:(i:Int)+1∉(core (s.mv i 1)).qs:=by rw[c,Et];exact b.qs
 unfold D6;rw[Ai ⟨u,by omega⟩];have fin: ∀(a:List Int)(r:List Rs),r.length=(s.mv i 1).rings.length→(∀z,z∈r→0≤z.CG)→(Db {s.mv i 1 with all:=a,rings:=r}).Perm (((i:Int)+1)::Db (s.mv i 1))→ ∃d,G9 {s.mv i 1 with all:=a,rings:=r}=Z d∧Inv e d∧Kp s d:=by
  intro a r w P F;have Q:Inv e {s.mv i 1 with all:=a,rings:=r}:=by
   refine⟨⟨?_,n.DI,n.th,n.box⟩,?_⟩
   ·rw[Ja _ _ _ w]
    exact n.base.more B hw C F _ (by simpa[core]using w) (by simpa using P)
   ·rw[Ja _ _ _ w]
    exact⟨v.go,v.Eg,v.bars,v.stop⟩
  obtain⟨d,A,m,R⟩:=M0 Q;have D:Kp (s.mv i 1) {s.mv i 1 with all:=a,rings:=r}:=⟨rfl,rfl,w,rfl,fun k x b=>⟨x,b,rfl,rfl,rfl,rfl,rfl,rfl,id⟩,fun _ y hy _=>⟨y,hy,rfl⟩⟩;exact⟨d,A,m,(O.trans D).trans R⟩
 have E:(s.mv i 1).rings=s.rings∧(s.mv i 1).all=s.all:=by rw[c];exact⟨rfl,rfl⟩
 by_cases t:p= -1
 ·rw[Ai t]
  refine fin _ _ rfl (fun z o=>n.Kx o) ?_;rw[Bz];intro a;rw[right_id (l:=[(i:Int)+1]) (by simp;omega)];simp only[Db,BL,Zaz,Zak];omega
 ·rw[Ah t,Ai (by omega)]
  obtain⟨q,rfl⟩: ∃q:Nat,p=q:=⟨p.toNat,by omega⟩;have g:q<s.rings.length:=by omega
  have H:s.rings[q]?=Z s.rings[q]:=Ae g;have S:D5 s (q:Int).toNat=s.rings[q]:=by simp[D5,H]
  rw[S,An];have K:=aL (s:=s.mv i 1) (p:=q) (r:=s.rings[q]) (by rw[E.1];exact H) ((i:Int)+1) first (h.Kx (BI g)) (by omega) n.OZ;rw[E.1]at K;refine fin _ _ (by simp[E.1]) (fun z o=>?_) K;rcases Zao o with T|rfl
  ·exact h.Kx T
  ·have:=h.Kx (BI g)
   dsimp only[Ring.Ng];split
   ·exact this
   ·split
    ·omega
    ·exact this
end
end
section
section
variable {e:Nat} {s:St}
variable {i j:Nat}
theorem OY.congr{a:List Fn}{x x':G}(h:OY a x)(hw:D4.Dm x'.word)(c:x'.fn=x.fn)(d:x'.Dt=x.Dt)(e:x'.CS=x.CS)(b:x'.stack=x.stack):OY a x':=⟨by rw[e];exact h.CS,hw,by rw[c,d];exact h.at_,by rw[b];exact h.deep,by rw[b];exact h.K9⟩
theorem Inv.UE(h:Inv e s){x:G}(b:s.gs[i]?=Z x)(x':G)(c:gc x'=gc x)(p:x'.fn=x.fn∧x'.Dt=x.Dt∧x'.CS=x.CS∧x'.stack=x.stack∧x'.done=x.done):Inv e (s.CH i x')∧Kp s (s.CH i x'):=by
 have f:i<s.gs.length:=(Af.1 b).1;have g:core (s.CH i x')=core s:=by
  have e:(s.gs.map gc).set i (gc x)=s.gs.map gc:=by apply List.ext_getElem?;grind
  rw[Et,c];simp[core,e]
 have hw:x'.word=x.word:=Aq GC.word c;have q:x'.begun=x.begun:=Aq GC.begun c;obtain⟨j,l,m,n,o⟩:=p;refine⟨⟨⟨by rw[g];exact h.base,h.DI,fun k z a=>?_,h.box⟩,by rw[g];exact h.link⟩,rfl,rfl,rfl,by simp[St.CH],fun k z a=>?_,fun _ y hy _=>⟨y,hy,rfl⟩⟩
 ·have d:=h.th i x b
  by_cases e:i=k
  ·subst e
   simp only[St.CH,Aj f]at a;cases a;exact⟨d.1.congr (by rw[hw];exact d.1.wd) j l m n,by rw[o,hw];exact d.2⟩
  ·simp only[St.CH,Ao e]at a
   exact h.th k z a
 ·by_cases e:i=k
  ·subst e
   rw[b]at a;cases a;exact⟨x',by simp[St.CH,f],j,l,m,n,o,q,by rw[hw];exact id⟩
  ·exact⟨z,by simp only[St.CH];rw[Ao e];exact a,rfl,rfl,rfl,rfl,rfl,rfl,id⟩
theorem Inv.M2(h:Inv e s){y:M1}(hy:s.ms[j]?=Z y)(y':M1)(hm:mc y'=mc y):Inv e (s.CM j y')∧Kp s (s.CM j y'):=by
 have c:j<s.ms.length:=(Af.1 hy).1;have b:core (s.CM j y')=core s:=by
  have e:(s.ms.map mc).set j (mc y)=s.ms.map mc:=by apply List.ext_getElem?;grind
  rw[DR,hm];simp[core,e]
 refine⟨⟨⟨by rw[b];exact h.base,h.DI,h.th,h.box⟩,by rw[b];exact h.link⟩,rfl,rfl,rfl,rfl,fun k z a=>⟨z,a,rfl,rfl,rfl,rfl,rfl,rfl,id⟩,fun k z a _=>?_⟩;by_cases e:j=k
 ·subst e
  rw[hy]at a;cases a;exact⟨y',by simp[St.CM,c],hm⟩
 ·exact⟨z,by simp only[St.CM];rw[Ao e];exact a,rfl⟩
theorem Inv.loose(h:Inv e s){x:G}(a:s.gs[i]?=Z x)(hw:x.word=4∨x.word=5∨x.word=12∨x.word=13)(b:x.blocked=rm∧x.CA=rm):Q5 s i x:=
 ⟨a,h.base.JS (CT a) (by simp only[gc];omega),fun j y hy=>h.base.MZ (CT a) (by simp only[gc];omega) (CE hy),(fun hm=>by
  obtain⟨k,z,e,c,d⟩:=h.base.ww _ hm;have:k=i:=by omega
  subst this;rw[CT a]at c;cases c;rw[show(gc x).CA=x.CA from rfl,b.2]at d;cases d),by omega,b⟩
theorem Tn(id:Int): ∀(n k:Nat)(s:St),Inv e s→k+n=s.gs.length→ ∃a,Ge id n k s=Z a∧Inv e a∧Kp s a:=by
 intro n;induction n with
 |zero=>intro k s h _;exact⟨s,rfl,h,Kp.refl s⟩
 |succ n d=>
  intro k s h t;have f:s.gs[k]?=Z s.gs[k]:=Ae (by omega);unfold Ge;rw[f];dsimp only;split
  ·obtain⟨g,b⟩:=h.UE f {s.gs[k]with C9:=0} rfl ⟨rfl,rfl,rfl,rfl,rfl⟩
   split
   ·rename_i c
    have o:=h.base.gw k _ (CT f);obtain⟨a,q,r,p⟩:=Fm g (i:=k) (x:={s.gs[k]with C9:=0}) (g.loose (by simp only[St.CH];exact List.getElem?_set_self (by omega)) (by dsimp only;omega) ⟨by
     cases j:s.gs[k].blocked with
     |false=>rfl
     |true=>have:=o.2.1 j;simp only[gc]at this;omega,by
     cases j:s.gs[k].CA with
     |false=>rfl
     |true=>have:=o.2.2 j;simp only[gc]at this;omega⟩) (-1) (.inl rfl) rm
    rw[q];obtain⟨s2,l,c,m⟩:=d (k+1) a r (by rw[p.gl,b.gl];omega);exact⟨s2,l,c,(b.trans p).trans m⟩
   ·obtain⟨s2,l,c,m⟩:=d (k+1) _ g (by rw[b.gl];omega)
    exact⟨s2,l,c,b.trans m⟩
  ·exact d (k+1) s h (by omega)
theorem La(h:Inv e s)(i:Nat): ∃a,KS s i=Z a∧Inv e a∧Kp s a:=Tn _ _ 0 s h (by omega)
theorem Nq.Nr{c:Cr}(l:Nq c){y y':MC}(e:c.ms[j]?=Z y)(p:y.phase≠3∧y.phase≠4)(r:y'.phase≠3∧y'.phase≠4)(hd:c.st=rq→c.Io≠y.g∨y.phase≠2):Nq {c with ms:=c.ms.set j y'}:=
 ⟨fun h=>by have:=l.go h;grind,fun h=>l.Eg fun k z f d=>by have:=h k z;grind,fun k z f d=>l.bars k z (by grind) d,fun h=>by
  obtain⟨g,a2,a3,a4,k,z,q,a,i,m,n,o,b6⟩:=l.stop h;have b:j≠k:=by rintro rfl;rw[e]at a;cases a;have:=hd h;grind
  exact⟨g,a2,a3,fun l z s=>by grind,k,z,q,by simpa[List.getElem?_set,b]using a,i,m,n,o,b6⟩⟩
theorem Ky(h:Inv e s){y:M1}(hy:s.ms[j]?=Z y)(c:y.phase=2∧(s.sc.Cy=rq→s.sc.CD≠y.g)∨y.phase=5∧ ∃p:Nat,y.p=p∧p<s.rings.length∧s.stat[p]?=Z (1,(j:Int))): ∃(i:Nat)(x:G)(s1:St),Gf s j=Z (i,s1)∧Inv e s1∧Q5 s1 i x∧y.g=(i:Int)+1∧s.gs[i]?=Z x∧s1=s.CM j {y with g:=0,phase:=1}∧(y.phase=2→x.word=2)∧(y.phase=5→x.word=3∨x.word=11):=by
 have C:j<s.ms.length:=(Af.1 hy).1;have t:=h.base.mp j _ (CE hy);simp only[N5,mc]at t;have u:y.phase=2∨y.phase=5:=by rcases c with a|a<;>simp[a.1]
 obtain⟨-,-,-,-,a5,b,-⟩:=t;obtain⟨i,z,v,D,w,A,-⟩:=b (by clear a5 b c;omega);obtain⟨x,l,rfl⟩:=Hw D;simp only[gc]at w A;have hw:x.word=2∨x.word=3∨x.word=11:=by clear a5 b c;omega
 have n:=h.base.gw i _ (CT l);simp only[gc]at n;have B:x.CA=false:=by
  cases o:x.CA with
  |false=>rfl
  |true=>have:=n.2.2 o;omega
 have q:x.blocked=false:=by
  cases o:x.blocked with
  |false=>rfl
  |true=>have:=n.2.1 o;omega
 have E:Dj (core (s.CM j {y with g:=0,phase:=1})):=by
  rw[DR];refine h.base.Nr (CE hy) ?_ (.inr (.inl (by simp[mc]))) rfl (by simp[mc]) (fun hm=>?_)
  ·refine⟨by simp[mc],by simp[mc],by simp[mc],by simp[mc],fun _ _=>?_,by simp[mc],by simp[mc]⟩
   rcases c with a|⟨a,p,f,F,H⟩
   ·exact a5 (by clear a5 b;omega) (by clear a5 b;omega)
   ·exact⟨p,f,F,.inl H⟩
  ·obtain⟨k,z,e,a,f⟩:=h.base.JR _ hm
   have:j=k:=by omega
   subst this;rw[CE hy]at a;cases a;simp only[mc]at f;clear a5 b c;omega
 have K:Nq (core (s.CM j {y with g:=0,phase:=1})):=by rw[DR];exact h.link.Nr (CE hy) (by simp only[mc];clear a5 b c;omega) (by simp[mc]) (fun r=>by rcases c with a|a;exact .inl (a.2 r);exact .inr (by simp only[mc];clear a5 b;omega))
 refine⟨i,x,s.CM j {y with g:=0,phase:=1},?_,⟨⟨E,h.DI,h.th,h.box⟩,K⟩,⟨l,?_,fun k z m=>?_,fun hm=>?_,by omega,q,B⟩,v,l,rfl,fun e=>w (by rw[e];decide),A⟩
 ·unfold Gf;rw[hy];dsimp only;rw[if_pos (by clear a5 b c;omega),v];simp
 ·exact h.base.JS (CT l) (by simp only[gc];omega)
 ·intro e
  by_cases d:j=k
  ·subst d
   simp only[St.CM,Aj C]at m;cases m;simp at e;omega
  ·simp only[St.CM,Ao d]at m
   exact d (h.base.mu j k _ _ (CE hy) (CE m) (by simp only[mc];omega) (by simp only[mc];omega))
 ·obtain⟨k,z,e,a,f⟩:=h.base.ww _ hm
  have:k=i:=by omega
  subst this;rw[CT l]at a;cases a;rw[show(gc x).CA=x.CA from rfl,B]at f;cases f
theorem IV(h:Inv e s){y:M1}(hy:s.ms[j]?=Z y)(b:y.phase=2∧(s.sc.Cy=rq→s.sc.CD≠y.g)∨y.phase=5∧ ∃p:Nat,y.p=p∧p<s.rings.length∧s.stat[p]?=Z (1,(j:Int))): ∃a,Gg s j=Z a∧Inv e a:=by obtain⟨i,x,s1,c,d,f,-⟩:=Ky h hy b;obtain⟨a,g,k,-⟩:=Fm d f (-1) (.inl rfl) rm;exact⟨a,by unfold Gg;rw[c];exact g,k⟩
end
end
section
variable {l:List Pr} {p j:Nat} {a w:Int}
theorem Mb{x:Int}(h: -1000000≤x)(a:x≤1000000):wrap64 x=x:=by unfold wrap64;omega
theorem aM{l:List Bool}(h:l[p]?=Z rq):GR (l.set p rm)+1=GR l:=by
 have a:p<l.length:=(Af.1 h).1;have b:l[p]=true:=by rw[Ae a]at h;simpa using h
 have c:0<GR l:=Zb0.2 ⟨rq,by rw[←b];exact BI a,rfl⟩;unfold GR at*
 rw[List.countP_set a];simp[b];omega
theorem WZ{l:List Bool}(h:l[p]?=Z rm):GR (l.set p rq)=GR l+1:=by
 have a:p<l.length:=(Af.1 h).1;have b:l[p]=false:=by rw[Ae a]at h;simpa using h
 unfold GR at*
 rw[List.countP_set a];simp[b]
theorem UF(l:List Bool):GR l≤l.length:=Zal
theorem run_set{b v:Int}(h:l[p]?=Z (a,w)):(runN (l.set p (b,v)):Int)=runN l-(if a=1 then 1 else 0)+(if b=1 then 1 else 0):=by
 have c:p<l.length:=(Af.1 h).1;have f:l[p]=(a,w):=by rw[Ae c]at h;simpa using h
 have g:a=1→0<runN l:=fun e=>Zb0.2 ⟨l[p],BI c,by rw[f];simp[e]⟩;have i:runN (l.set p (b,v))=runN l-(if a==1 then 1 else 0)+(if b==1 then 1 else 0):=by unfold runN;rw[List.countP_set c,f]
 rw[i];by_cases d:a=1
 ·have:=g d
  simp only[d,beq_self_eq_true,BM,Za2];split<;>omega
 ·simp only[Za2,Ah d]
  split<;>omega
theorem tf{b:Bool}{P:Prop}(h:b=rq)(e:b=rm):P:=by rw[h]at e;cases e
theorem O1(h:l[p]?=Z (1,w)):0<runN l:=Zb0.2 ⟨(1,w),A7 h,rfl⟩
section
variable {e:Nat} {s:St}
theorem Lb(h:Inv e s){a:Pc}(g:s.asked[p]?=Z a)(m:a.Eg=rq): ∃i,Ho s p=Z i∧Inv e i:=by
 refine⟨_,by unfold Ho;rw[Ai (by omega),An,g],?_⟩;have l:(core s).bars[p]?=Z true:=by simp[core,g,m]
 have hm:rq∈(core s).bars:=A7 l;have c: ∃(j:Nat)(y:MC),(core s).ms[j]?=Z y∧y.phase=4:=by refine Za8 fun d=>?_;have:=h.link.Eg (fun j y hy c=>d ⟨j,y,hy,c⟩) rq hm;cases this
 obtain⟨j,y,hy,c⟩:=c;have hw:=h.link.bars j y hy c;have r:=UF (core s).bars;have d:=h.base.nb;have n:=h.base.aI;have t:=aM l;have f:(core s).st=false:=by
  cases e:(core s).st with
  |false=>rfl
  |true=>exact absurd c ((h.link.stop e).2.2.2.1 j y hy)
 have o:wrap64 (s.sc.wait-1)=s.sc.wait-1:=by have:s.sc.wait=GR (core s).bars:=hw;exact Mb (by omega) (by omega)
 have b:core {s with asked:=s.asked.set p ⟨a.pre,rm,wrap64 (a.count+1)⟩,sc:={s.sc with wait:=wrap64 (s.sc.wait-1)}}={core s with bars:=(core s).bars.set p rm,wt:=(core s).wt-1}:=by rw[o];simp[core,Db]
 refine⟨⟨?_,h.DI,h.th,h.box⟩,?_⟩
 ·rw[b];exact{h.base with nb:=by simp;exact d}
 ·rw[b]
  refine⟨h.link.go,fun q=>absurd c (q j y hy),fun k z u v=>?_,fun e=>?_⟩
  ·dsimp only;omega
  ·exact tf e f
theorem Dj.VU{c:Cr}(h:Dj c){y:MC}(x:c.ms[j]?=Z y)(V:y.p=p)(G:p<c.n)(H:c.stat[p]?=Z (1,(j:Int)))(A:y.phase≠0)(a:Int)(K:a=0∨a=3)(j4:List Int)(o:j4=c.ip∨j4=(p:Int)::c.ip∧a=0):Dj {c with ms:=c.ms.set j ⟨-1,0,0⟩,stat:=c.stat.set p (a,-1),Im:=(j:Int)::c.Im,ip:=j4}:=by
 have r:(j:Int)∉c.Im:=fun hm=>by obtain⟨k,z,e,f,g⟩:=h.JR _ hm;have:j=k:=by omega
                                 subst this;rw[x]at f;cases f;exact A g
 have s:(p:Int)∉c.ip:=fun hm=>by obtain⟨k,e,f,g⟩:=h.J0 _ hm;have:p=k:=by omega
                                 subst this;rw[H]at g;simp at g
 exact{h with
  ns:=by simp;exact h.ns,
  sl:=by simp;exact h.sl,
  m1:=by simp;exact h.m1,
  m2:=by simp;exact h.m2,
  mp:=fun k z d=>by
   by_cases L:k=j
   ·have:z=⟨-1,0,0⟩:=by grind
    subst this;unfold N5;simp
   ·obtain⟨M,a2,a3,a4,a5,O,P⟩:=h.mp k z (by grind)
    exact⟨M,a2,a3,a4,fun u v=>by
     obtain⟨q,i,m,B⟩:=a5 u v;have:p≠q:=by rintro rfl;grind
     exact⟨q,i,m,by simpa[As,this]using B⟩,O,fun u=>by
     rcases P u with b|⟨q,i,m,B⟩
     ·exact .inl b
     ·have:p≠q:=by rintro rfl;grind
      exact .inr ⟨q,i,m,by simpa[As,this]using B⟩⟩,
  mu:=fun k l z z' d W=>by have:=h.mu k l z z';grind,
  sp:=fun q b w C n=>by
   by_cases t:p=q
   ·subst t
    rw[Aj (by have:=h.ns;omega)]at n;cases n;exact .inl ⟨rfl,K⟩
   ·rcases h.sp q b w C (by simpa[As,t]using n)with f|⟨f,g,k,z,Q,D,R,S⟩
    ·exact .inl f
    ·have:j≠k:=by rintro rfl;rw[x]at D;cases D;omega
     exact .inr ⟨f,g,k,z,Q,by simpa[As,this]using D,R,S⟩,
  sd:=fun q f g=>by have:=h.sd q f;grind,
  N6:=by rcases o with e|⟨e,-⟩<;>rw[e];exact h.N6;exact BB.2 ⟨s,h.N6⟩,
  J0:=fun q d=>by
   have E:q∈c.ip∨q=p∧a=0:=by rcases o with e|⟨e,T⟩<;>simp only[e]at d;exact .inl d;rcases Bv.1 d with F|F;exact .inr ⟨F,T⟩;exact .inl F
   rcases E with d|⟨rfl,rfl⟩
   ·obtain⟨l,rfl,i,m⟩:=h.J0 q d
    have:p≠l:=by rintro rfl;exact s d
    exact⟨l,rfl,i,by simpa[As,this]using m⟩
   ·exact⟨p,rfl,G,Aj (by have:=h.ns;omega)⟩,
  j3:=BB.2 ⟨r,h.j3⟩,
  JR:=fun k d=>by
   rcases Bv.1 d with rfl|d
   ·exact⟨j,⟨-1,0,0⟩,rfl,by have:=(Af.1 x).1;simp[this],rfl⟩
   ·obtain⟨l,z,rfl,i,m⟩:=h.JR k d
    have:j≠l:=by rintro rfl;exact r d
    exact⟨l,z,rfl,by simpa[As,this]using i,m⟩}
theorem UG(a:l[p]?=Z (1,w)):Cw.Di l p (fun _ _=>(0,-1)) (fun s _=>s==1)=l.set p (0,-1):=by have b:p<l.length:=(Af.1 a).1;unfold Cw.Di;rw[Ai (by omega)];simp[a]
theorem IW(b:l[p]?=Z (a,w))(c:a=0∨a=1∨a=2):Cw.Di l p Cw.H5 (fun s _=>Cw.FN s)=l.set p (3,if a=2 then-1 else w):=by have d:p<l.length:=(Af.1 b).1;unfold Cw.Di;rw[Ai (by omega)];simp only[An,b,AQ];rcases c with rfl|rfl|rfl<;>simp[Cw.H5,Cw.FN]
theorem To(a:l[p]?=Z (3,w)):Cw.Di l p (fun _ b=>Cw.cJ b) (fun s _=>s==3)=l.set p (if w= -1 then(0,-1)else(1,w)):=by have c:p<l.length:=(Af.1 a).1;unfold Cw.Di;rw[Ai (by omega)];simp[a,Cw.cJ]
theorem Kz{m:Nat}{l:List Int}(h:(j:Int)∉l)(a:j<m):Idle.Ig m l j=(j:Int)::l:=by unfold Idle.Ig;rw[Ah (by simp[h];omega)]
theorem Q6(h:Inv e s){y:M1}(hy:s.ms[j]?=Z y)(O:y.p=p)(P:p<s.rings.length)(d:s.stat[p]?=Z (1,(j:Int)))(V:y.phase=1):(s.sc.Cy=rm→ ∃f,Gc {DM s p with CB:=Idle.Ig 256 (DM s p).CB p} j=Z f∧Inv e f)∧
  (s.sc.Cy=rq→ ∃f,Gc ((E8 (DM s p) p).CO {(E8 (DM s p) p).sc with wait:=wrap64 (s.sc.wait-1)}) j=Z f∧Inv e f):=by
 have Q:j<64:=by have:=(Af.1 hy).1;have:=h.base.m2;simp[core]at this;omega
 have x:p<256:=by have:=h.base.aI;simp[core]at this;omega
 have i:(j:Int)∉s.CK:=fun hm=>by
  obtain⟨k,z,e,A,r⟩:=h.base.JR _ hm;have:j=k:=by omega
  subst this;rw[CE hy]at A;cases A;simp only[mc]at r;omega
 have B:(p:Int)∉s.CB:=fun hm=>by
  obtain⟨k,e,A,r⟩:=h.base.J0 _ hm;have:p=k:=by omega
  subst this;rw[show(core s).stat[p]?=s.stat[p]? from rfl,d]at r;simp at r
 have C:p<s.stat.length:=(Af.1 d).1;constructor
 ·intro c
  refine⟨_,by simp[Gc,DM,hy];rfl,?_⟩;have n:core {s with stat:=s.stat.set p (0,-1),CB:=(p:Int)::s.CB,ms:=s.ms.set j {y with p:= -1,g:=0,phase:=0,CR:=rm},CK:=(j:Int)::s.CK}={core s with ms:=(core s).ms.set j ⟨-1,0,0⟩,stat:=(core s).stat.set p (0,-1),Im:=(j:Int)::(core s).Im,ip:=(p:Int)::(core s).ip}:=by simp[core,Db,mc]
  have D:({DM s p with CB:=Idle.Ig 256 (DM s p).CB p,ms:=s.ms.set j {y with p:= -1,g:=0,phase:=0,CR:=rm},CK:=Idle.Ig 64 s.CK j}:St)={s with stat:=s.stat.set p (0,-1),CB:=(p:Int)::s.CB,ms:=s.ms.set j {y with p:= -1,g:=0,phase:=0,CR:=rm},CK:=(j:Int)::s.CK}:=by simp only[DM];rw[UG d,Kz i Q,Kz (m:=256) B x]
  refine cast (Aq (Inv e) D.symm) ?_;refine⟨⟨?_,h.DI,h.th,h.box⟩,?_⟩
  ·rw[n];exact h.base.VU (CE hy) O P d (by simp only[mc];omega) 0 (.inl rfl) _ (.inr ⟨rfl,rfl⟩)
  ·rw[n]
   refine h.link.look c (fun q a w W d=>?_) (fun k z t=>?_) (fun k z t u=>?_)
   ·have:=(h.link.go c).2.1 q a w W;grind
   ·grind
   ·have:j≠k:=by rintro rfl;rw[CE hy]at t;cases t;simp only[mc]at u;omega
    simpa[As,this]using t
 ·intro c
  obtain⟨X,l2,o,R,k,z,q,E,b2,S,b4,F,b6⟩:=h.link.stop c;have aa:runN s.stat≤s.stat.length:=Zal;have D:Cw.Di (Cw.Di s.stat p (fun _ _=>(0,-1)) (fun s _=>s==1)) p Cw.H5 (fun s _=>Cw.FN s)=s.stat.set p (3,-1):=by rw[UG d,IW (a:=0) (w:= -1) (by simp[C]) (.inl rfl)];simp
  have hw:wrap64 (s.sc.wait-1)=s.sc.wait-1:=Mb (by have:s.sc.wait=runN s.stat:=o.1;omega) (by have:s.sc.wait=runN s.stat:=o.1;have:=h.base.sl;simp only[core]at this;omega);have G:(Gc ((E8 (DM s p) p).CO {(E8 (DM s p) p).sc with wait:=wrap64 (s.sc.wait-1)}) j)=Z {s with stat:=s.stat.set p (3,-1),sc:={s.sc with wait:=s.sc.wait-1},ms:=s.ms.set j {y with p:= -1,g:=0,phase:=0,CR:=rm},CK:=(j:Int)::s.CK}:=by simp only[Gc,DM,E8,St.CO,hy];rw[D,hw,Kz i Q]
  refine⟨_,G,?_⟩;have n:core {s with stat:=s.stat.set p (3,-1),sc:={s.sc with wait:=s.sc.wait-1},ms:=s.ms.set j {y with p:= -1,g:=0,phase:=0,CR:=rm},CK:=(j:Int)::s.CK}={core s with ms:=(core s).ms.set j ⟨-1,0,0⟩,stat:=(core s).stat.set p (3,-1),Im:=(j:Int)::(core s).Im,wt:=(core s).wt-1}:=by simp[core,Db,mc]
  have hB:=h.base.VU (CE hy) O P d (by simp only[mc];omega) 3 (.inr rfl) _ (.inl rfl);have H:j≠k:=by rintro rfl;rw[CE hy]at E;cases E;simp only[mc]at S;omega
  have K:p≠q:=by rintro rfl;rw[show(core s).stat[p]?=s.stat[p]? from rfl,d]at F;simp at F
  have u: ∀(l:Nat)(v:MC),((core s).ms.set j ⟨-1,0,0⟩)[l]?=Z v→v.phase≠4:=fun l v T=>by have:=R l v;grind
  refine⟨⟨?_,h.DI,h.th,h.box⟩,?_⟩
  ·rw[n];exact{hB with}
  ·rw[n]
   refine⟨fun e=>tf c e,fun _=>h.link.Eg R,fun l v T h5=>absurd h5 (u l v T),fun _=>⟨X,fun l a w hl L=>?_,⟨?_,fun h0=>?_⟩,u,k,z,q,by simpa[As,H]using E,b2,S,b4,by simpa[As,K]using F,fun l w L=>?_⟩⟩
   ·have:=l2 l a w hl;grind
   ·have:=run_set (b:=3) (v:= -1) d
    have M:(core s).wt=runN s.stat:=o.1;simp only[core]at*
    rw[this,M];simp
   ·have h6:=o.2 h0
    have h7:=O1 d;have h8:(core s).wt=runN s.stat:=o.1;omega
   ·have:=b6 l w;grind
end
end
section
variable {p:Nat}
theorem W6(n:Nat)(self draw:Int): ∀q,q∈EH n self draw→0≤q∧q<n:=by
 intro q a;unfold EH at a;have a:=(List.mem_filter.1 a).1;unfold FI at a;split at a
 ·simp at a
 ·rename_i b
  unfold H3 at a;split at a
  ·simp at a
  ·obtain⟨k,-,rfl⟩:=B8.1 a
   have:(0:Int)<n:=by unfold DJ at b;omega
   exact⟨Zbd _ (by omega),Zaw _ this⟩
section
variable {e:Nat} {s:St}
structure Out (e:Nat) (s:St) (id:Int) (s1:St):Prop where
 inv:Inv e s1
 fP:Kp s s1
 stat:s1.stat=s.stat
 iu:id=0∨ ∃(i:Nat)(x:G),id=(i:Int)+1∧s1.gs[i]?=Z x∧(x.word=1∨x.word=9)∧id∉Db s1
theorem Out.trans{s1 s2:St}{id:Int}(h:Kp s s1)(a:s1.stat=s.stat)(k:Out e s1 id s2):Out e s id s2:=⟨k.inv,h.trans k.fP,k.stat.trans a,k.iu⟩
theorem M3(h:Inv e s){a:List Int}{r:List Rs}(b:r.length=s.rings.length)(f: ∀z,z∈r→0≤z.CG) {L:List Int} (c:(L++Db {s with all:=a,rings:=r}).Perm (Db s)):
  Inv e {s with all:=a,rings:=r}∧Kp s {s with all:=a,rings:=r}∧ ∀id,id∈L→ ∃(i:Nat)(x:G),id=(i:Int)+1∧s.gs[i]?=Z x∧(x.word=1∨x.word=9)∧id∉Db {s with all:=a,rings:=r}:=by
 refine⟨⟨⟨?_,h.DI,h.th,h.box⟩,?_⟩,⟨rfl,rfl,b,rfl,fun k x d=>⟨x,d,rfl,rfl,rfl,rfl,rfl,rfl,id⟩,fun _ y hy _=>⟨y,hy,rfl⟩⟩,fun id hid=>?_⟩
 ·rw[Ja _ _ _ b];exact h.base.less c _ (by simpa[core]using b) (by simpa using f)
 ·rw[Ja _ _ _ b];exact⟨h.link.go,h.link.Eg,h.link.bars,h.link.stop⟩
 ·obtain⟨i,z,rfl,g,j⟩:=h.base.qw id (c.mem_iff.1 (Bl _ hid))
  obtain⟨x,d,rfl⟩:=Hw g;refine⟨i,x,rfl,d,j,fun hm=>?_⟩;exact(Cb.1 (c.nodup_iff.2 h.base.qn)).2.2 _ hid _ hm rfl
theorem Mc(h:Inv e s){a:List Int}{r:List Rs}(b:r.length=s.rings.length)(c: ∀z,z∈r→0≤z.CG) {id:Int} (d:([id]++Db {s with all:=a,rings:=r}).Perm (Db s)):Out e s id {s with all:=a,rings:=r}:=by obtain⟨f,g,i⟩:=M3 h b c d;exact⟨f,g,rfl,.inr (i id (by simp))⟩
theorem Bs.JT(h:Bs e s){r:Rs}(a:0≤r.CG): ∀z,z∈s.rings.set p r→0≤z.CG:=fun z b=>by
 rcases Zao b with c|rfl
 ·exact h.Kx c
 ·exact a
theorem M4{r:Rs}(f:s.rings[p]?=Z r)(D l:List Int)(b: ∀x,x∈l→1≤x) (c: ∀x,x∈Db s→1≤x):(Db {s with all:=D++CY.right (Ring.Ia 256 r.row l),rings:=s.rings.set p ⟨r.CG,Ring.Jo 256 r.row l⟩}).Perm (l++(D++s.rings.flatMap fun r=>Ring.C3 r.CG r.row)):=by
 obtain⟨rest,f1,f2⟩:=IU (fun r=>Ring.C3 r.CG r.row) s.rings p r f;have e:=WY r.row l b;rw[right_id (l:=Ring.Ia 256 r.row l) (fun x g=>by
  rcases BU.1 (e.mem_iff.1 (AX _ g))with d|d
  ·exact b x d
  ·exact c x (AX _ (f1.mem_iff.2 (Bl _ (AX _ d)))))]
 rw[Bz];intro a;have c1:=e.count_eq a;have h:=f1.count_eq a;have c3:=(f2 ⟨r.CG,Ring.Jo 256 r.row l⟩).count_eq a;simp only[Db,Ring.C3,BL]at*
 omega
theorem M5(h:p<s.rings.length):D5 s p=s.rings[p]:=by simp[D5,h]
theorem Tp(p:Nat): ∀(l:List Int)(s:St),Inv e s→p<s.rings.length→(∀q,q∈l→0≤q∧q<s.rings.length)→ ∃id s1,EV p l s=Z (id,s1)∧Out e s id s1:=by
 intro l;induction l with
 |nil=>intro s h t u;exact⟨0,s,rfl,h,Kp.refl s,rfl,.inl rfl⟩
 |cons q l D=>
  intro s h t u;have v:=u q (by simp);obtain⟨q,rfl⟩: ∃k:Nat,q=k:=⟨q.toNat,by omega⟩;have g:q<s.rings.length:=by omega
  unfold EV;rw[Ai v,An,M5 g];have w:s.rings[q]?=Z s.rings[q]:=Ae g;generalize s.rings[q]=r at w;have E:0≤r.CG:=h.Kx (A7 w);have b:0≤Ring.Ex r.CG r.row:=by unfold Ring.Ex;split<;>omega
  have n:=WX r.CG r.row;obtain⟨rest,f1,f2⟩:=IU (fun r=>Ring.C3 r.CG r.row) s.rings q r w;dsimp only;cases y:Ring.IA r.CG r.row with
  |nil=>
   dsimp only;have F:([]++Db {s with all:=s.all,rings:=s.rings.set q ⟨Ring.Ex r.CG r.row,Ring.EM r.row⟩}).Perm (Db s):=by
    rw[Bz];intro a;have c1:=n.count_eq a;have G:=f1.count_eq a;have c3:=(f2 ⟨Ring.Ex r.CG r.row,Ring.EM r.row⟩).count_eq a;rw[y]at c1;simp only[Db,BL,Zak]at*
    omega
   obtain⟨c,i,-⟩:=M3 h (by simp) (h.JT b) F;obtain⟨id,s1,H,K⟩:=D _ c (by simpa using t) (fun q v=>by have:=u q (A6 _ v);simpa using this);exact⟨id,s1,H,K.trans i rfl⟩
  |cons x o=>
   dsimp only;refine⟨_,_,rfl,?_⟩;have j:p<(s.rings.set q ⟨Ring.Ex r.CG r.row,Ring.EM r.row⟩).length:=by simpa using t
   unfold NH;rw[M5 (s:={s with rings:=s.rings.set q ⟨Ring.Ex r.CG r.row,Ring.EM r.row⟩}) j];have d:(s.rings.set q ⟨Ring.Ex r.CG r.row,Ring.EM r.row⟩)[p]?=Z (s.rings.set q ⟨Ring.Ex r.CG r.row,Ring.EM r.row⟩)[p]:=Ae j;dsimp only;generalize(s.rings.set q ⟨Ring.Ex r.CG r.row,Ring.EM r.row⟩)[p]=m at d;have A: ∀z,z∈(x::o)→1≤z:=fun z f=>h.OZ z (AX _ (f1.mem_iff.2 (Bl _ (n.mem_iff.1 (Bl _ (by rw[y];exact f))))));have B: ∀z,z∈Db {s with rings:=s.rings.set q ⟨Ring.Ex r.CG r.row,Ring.EM r.row⟩}→1≤z:=fun z f=>by
    rcases BU.1 f with c|c
    ·exact h.OZ z (Bl _ c)
    ·refine h.OZ z (AX _ (f1.mem_iff.2 ?_))
     rcases BU.1 ((f2 _).mem_iff.1 c)with i|i
     ·exact Bl _ (n.mem_iff.1 (AX _ i))
     ·exact AX _ i
   have L:=M4 (s:={s with rings:=s.rings.set q ⟨Ring.Ex r.CG r.row,Ring.EM r.row⟩}) d s.all o (fun z f=>A z (A6 _ f)) B;have C:0≤m.CG:=h.JT (p:=q) (r:=⟨Ring.Ex r.CG r.row,Ring.EM r.row⟩) b m (A7 d);refine Mc h (a:=s.all++CY.right (Ring.Ia 256 m.row o)) (r:=(s.rings.set q ⟨Ring.Ex r.CG r.row,Ring.EM r.row⟩).set p ⟨m.CG,Ring.Jo 256 m.row o⟩) (by simp) (fun z f=>?_) ?_
   ·rcases Zao f with c|rfl
    ·exact h.JT (p:=q) (r:=⟨Ring.Ex r.CG r.row,Ring.EM r.row⟩) b z c
    ·exact C
   ·rw[Bz];intro a
    have c0:=L.count_eq a;have c1:=n.count_eq a;have G:=f1.count_eq a;have c3:=(f2 ⟨Ring.Ex r.CG r.row,Ring.EM r.row⟩).count_eq a;rw[y]at c1;simp only[Db,BL,Zak,Zaz]at*
    omega
theorem Tq(h:Inv e s)(g:p<s.rings.length)(t:Int): ∃id s1,GZ s p t=Z (id,s1)∧Out e s id s1:=by
 unfold GZ;rw[M5 g];have i:s.rings[p]?=Z s.rings[p]:=Ae g;generalize s.rings[p]=r at i;have j:0≤r.CG:=h.Kx (A7 i);obtain⟨rest,f1,f2⟩:=IU (fun r=>Ring.C3 r.CG r.row) s.rings p r i;have f3:=f2 ⟨0,Ring.FA r.CG r.row⟩;cases u:Ring.KQ r.CG r.row with
 |true=>
  rw[Ai rfl];refine⟨_,_,rfl,Mc h (a:=s.all) (by simp) (h.JT (by simp)) ?_⟩;have y:=aK r.CG r.row j u;rw[Bz];intro a;have c1:=y.count_eq a;have v:=f1.count_eq a;have c3:=f3.count_eq a;simp only[Db,BL,Zak,Zaz]at*
  omega
 |false=>
  rw[Ah (by simp)];obtain⟨A,B⟩:=get_none r.CG r.row u;dsimp only at f1 f3;rw[A]at f1;rw[B]at f3;dsimp only;have c:=f3.trans f1.symm;generalize JF _=n;have b:s.all.take n++s.all.drop n=s.all:=Bm n s.all;generalize s.all.drop n=D at b;cases w:s.all.take n with
  |nil=>
   rw[w]at b;dsimp only;have C:([]++Db {s with all:=D,rings:=s.rings.set p ⟨0,Ring.FA r.CG r.row⟩}).Perm (Db s):=by
    rw[Bz];intro a;have c1:=c.count_eq a;have v:=Aq (List.count a) b;simp only[Db,BL,Zak]at*
    omega
   obtain⟨d,E,-⟩:=M3 h (by simp) (h.JT (by simp)) C;obtain⟨id,s1,F,G⟩:=Tp p (EH (s.rings.set p ⟨0,Ring.FA r.CG r.row⟩).length t s.sc.draw) _ d (by simpa using g) (W6 _ _ _);exact⟨id,s1,F,G.trans E rfl⟩
  |cons x o=>
   rw[w]at b;dsimp only;refine⟨_,_,rfl,?_⟩;have k:p<(s.rings.set p ⟨0,Ring.FA r.CG r.row⟩).length:=by simpa using g
   unfold NH;rw[M5 (s:={s with rings:=s.rings.set p ⟨0,Ring.FA r.CG r.row⟩,all:=D}) k];have l:(s.rings.set p ⟨0,Ring.FA r.CG r.row⟩)[p]?=Z ⟨0,Ring.FA r.CG r.row⟩:=by simp[g]
   rw[show(s.rings.set p ⟨0,Ring.FA r.CG r.row⟩)[p]=⟨0,Ring.FA r.CG r.row⟩ by simp];have m: ∀z,z∈(x::o)→1≤z:=fun z f=>h.OZ z (Bl _ (by rw[←b];exact Bl _ f));have q: ∀z,z∈Db {s with rings:=s.rings.set p ⟨0,Ring.FA r.CG r.row⟩,all:=D}→1≤z:=fun z f=>by
    rcases BU.1 f with d|d
    ·exact h.OZ z (Bl _ (by rw[←b];exact AX _ d))
    ·exact h.OZ z (AX _ (c.mem_iff.1 d))
   have H:=M4 (s:={s with rings:=s.rings.set p ⟨0,Ring.FA r.CG r.row⟩,all:=D}) l D o (fun z f=>m z (A6 _ f)) q;refine Mc h (a:=D++CY.right (Ring.Ia 256 (Ring.FA r.CG r.row) o)) (r:=(s.rings.set p ⟨0,Ring.FA r.CG r.row⟩).set p ⟨0,Ring.Jo 256 (Ring.FA r.CG r.row) o⟩) (by simp) (fun z f=>?_) ?_
   ·rcases Zao f with d|rfl
    ·exact h.JT (p:=p) (r:=⟨0,Ring.FA r.CG r.row⟩) (by simp) z d
    ·simp
   ·rw[Bz];intro a
    have c0:=H.count_eq a;have c1:=c.count_eq a;have v:=Aq (List.count a) b;simp only[Db,BL,Zak,Zaz]at*
    omega
theorem W8(h:Inv e s){j:Nat}{y:M1}(hy:s.ms[j]?=Z y)(b:y.p=p)(k:p<s.rings.length): ∃id s1,G0 s j=Z (id,s1)∧Out e s id s1:=by
 have n:=h.Hy;obtain⟨c,d⟩:=h.M2 hy {y with looks:=wrap64 (y.looks+1)} rfl;unfold G0;rw[hy];dsimp only;rw[Ai (by omega)];split
 ·rename_i f
  cases g:s.all with
  |nil=>rw[g]at f;simp at f
  |cons x r=>refine⟨_,_,rfl,Out.trans d rfl (Mc c (a:=r) (r:=s.rings) rfl (fun z l=>h.Kx l) ?_)⟩;have:(s.CM j {y with looks:=wrap64 (y.looks+1)}).all=x::r:=g;simp only[Db,this];exact List.Perm.refl _
 ·obtain⟨id,s1,i,m⟩:=Tq c (p:=p) k y.p
  rw[b,An];rw[b]at i;exact⟨id,s1,i,m.trans d rfl⟩
end
end
section
variable {e:Nat} {s:St}
variable {i j:Nat}
theorem E6(h:Inv e s){x:G}(b:s.gs[i]?=Z x)(x':G)(hw:D4.Dm x'.word)(c:(x'.blocked=rq→(x'.word=4∨x'.word=12)∧x'.CA=rm)∧(x'.CA=rq→x'.word=4∨x'.word=12))(d:(i:Int)+1∈Db s→x'.word=1∨x'.word=9)(f:(i:Int)+1∈s.waits→x'.CA=rq)(hm: ∀(j:Nat)(y:M1),s.ms[j]?=Z y→y.g=(i:Int)+1→(y.phase≤4→x'.word=2)∧(y.phase=5→x'.word=3∨x'.word=11)∧(y.phase=3∨y.phase=4→x'.begun=rq)) (g:OY s.funcs x'∧(x'.done=rq→x'.word=6∨i=e)):Inv e (s.CH i x'):=by
 have l:i<s.gs.length:=(Af.1 b).1;refine⟨⟨?_,h.DI,fun k z a=>?_,h.box⟩,by rw[Et];exact⟨h.link.go,h.link.Eg,h.link.bars,h.link.stop⟩⟩
 ·rw[Et]
  exact h.base.CH (CT b) ⟨hw,c⟩ d f (fun j z m n=>by obtain⟨y,hy,rfl⟩:=DG m;exact hm j y hy n)
 ·by_cases e:i=k
  ·subst e
   simp only[St.CH,Aj l]at a;cases a;exact g
  ·simp only[St.CH,Ao e]at a
   exact h.th k z a
theorem Bs.flags(h:Bs e s){x:G}(c:s.gs[i]?=Z x)(hw:x.word≠4∧x.word≠12):x.blocked=rm∧x.CA=rm∧(i:Int)+1∉s.waits:=by
 have a:=h.base.gw i _ (CT c);simp only[gc]at a;have d:x.CA=false:=by
  cases b:x.CA with
  |false=>rfl
  |true=>have:=a.2.2 b;omega
 refine⟨?_,d,fun hm=>?_⟩
 ·cases b:x.blocked with
  |false=>rfl
  |true=>have:=a.2.1 b;omega
 ·obtain⟨k,z,e,f,g⟩:=h.base.ww _ hm
  have:k=i:=by omega
  subst this;rw[CT c]at f;cases f;exact tf g d
theorem Q7(h:Inv e s){p:Nat}{y:M1}(hy:s.ms[j]?=Z y)(H:y.p=p)(K:p<s.rings.length)(L:s.stat[p]?=Z (1,(j:Int)))(M:y.phase=1)(r:s.sc.Cy=rm){x:G}(b:s.gs[i]?=Z x)(hw:x.word=1∨x.word=9)(A:(i:Int)+1∉Db s): ∃m,Gh s j i=Z m∧Inv e m:=by
 have O:i<s.gs.length:=(Af.1 b).1;have S:j<s.ms.length:=(Af.1 hy).1;obtain⟨f1,f2,f3⟩:=h.flags b (by omega);have B:=h.th i x b;have hm: ∀(k:Nat)(z:M1),s.ms[k]?=Z z→z.g≠(i:Int)+1:=fun k z n=>h.base.MZ (CT b) (by simp only[gc];omega) (CE n);have C:=h.Hy;unfold Gh;rw[b,hy];dsimp only;by_cases D:8≤x.word
 ·rw[Ai D,Ai (by omega)]
  refine⟨_,rfl,⟨?_,h.DI,h.th,h.box⟩,?_⟩
  ·unfold St.put
   rw[Ja s (s.all++CY.right [(i:Int)+1]) s.rings rfl];refine h.base.more (CT b) hw A ?_ _ (by simp[core]) (fun a C=>h.base.rn a C);rw[right_id (l:=[(i:Int)+1]) (by simp;omega)];rw[Bz];intro a;simp only[Db,core,BL,Zaz,Zak];omega
  ·unfold St.put
   rw[Ja s (s.all++CY.right [(i:Int)+1]) s.rings rfl];exact⟨h.link.go,h.link.Eg,h.link.bars,h.link.stop⟩
 ·have o:x.word=1:=by omega
  have d: ∀t,s.mv i t=s.CH i {x with word:=Hn x.word t}:=fun t=>by simp[St.mv,b]
  have E: ∀t,Hn x.word t=5∨Hn x.word t=2→Inv e (s.mv i t):=fun t e=>by
   rw[d];refine E6 h b _ ?_ (by simp[f1,f2]) (fun f=>absurd f A) (fun f=>absurd f f3) (fun k z n P=>absurd P (hm k z n)) ⟨B.1.congr ?_ rfl rfl rfl rfl,fun Q=>?_⟩
   ·dsimp only;unfold D4.Dm;omega
   ·dsimp only;unfold D4.Dm;omega
   ·have:=B.2 Q;omega
  rw[Ah D];split
  ·obtain⟨m,f,c,-⟩:=La (E 5 (by rw[o];decide+kernel)) i
   exact⟨m,f,c⟩
  ·have F:Hn x.word 2=2:=by rw[o];decide+kernel
   have c:=E 2 (.inr F);rw[d]at c;have u:Inv e ((s.mv i 2).CM j {y with g:=(i:Int)+1,phase:=2,used:=0}):=by
    rw[d];refine⟨⟨?_,c.DI,c.th,c.box⟩,?_⟩
    ·rw[DR]
     refine c.base.Nr (CE hy) ?_ (.inr (.inr fun k z n=>?_)) rfl (by simp[mc]) (fun f=>?_)
     ·refine⟨by simp[mc],by simp[mc],by simp[mc],by simp[mc],fun _ _=>⟨p,H,K,.inl L⟩,fun _=>⟨i,gc {x with word:=Hn x.word 2},rfl,CT (by simp only[St.CH];exact Aj O),fun _=>F,by simp[mc],by simp[mc]⟩,by simp[mc]⟩
     ·obtain⟨v,R,rfl⟩:=DG n
      exact hm k v R
     ·obtain⟨k,z,e,q,w⟩:=h.base.JR _ f
      have:j=k:=by omega
      subst this;rw[CE hy]at q;cases q;simp only[mc]at w;omega
    ·rw[DR]
     exact c.link.Nr (CE hy) (by simp only[mc];omega) (by simp[mc]) (fun e=>tf e r)
   obtain⟨m,q,w,-⟩:=M0 u;exact⟨m,q,w⟩
theorem Inv.one(h:Inv e s){y:M1}(hy:s.ms[j]?=Z y)(n:y.phase=1∨y.phase=4∨y.phase=2∧s.sc.CD≠y.g): ∃p:Nat,y.p=p∧p<s.rings.length∧s.stat[p]?=Z (1,(j:Int)):=by
 have a:=h.base.mp j _ (CE hy);simp only[N5,mc]at a;obtain⟨p,g,a2,a3⟩:=a.2.2.2.2.1 (by clear a;omega) (by clear a;omega);clear a;refine⟨p,g,a2,?_⟩;rcases a3 with a3|a3
 ·exact a3
 ·exfalso
  cases b:s.sc.Cy with
  |false=>exact(h.link.go b).2.1 p _ _ a2 a3 rfl
  |true=>
   obtain⟨o,i,l,m,k,z,q,c,r,d,t,u,b6⟩:=h.link.stop b;have:j=k:=by have:=b6 p _ a3;omega
   subst this;rw[CE hy]at c;cases c;simp only[mc]at d;have f:(core s).Io=s.sc.CD:=rfl;rw[f]at d;clear f a3 i l m b6 h;omega
theorem aN(h:Inv e s){y:M1}(hy:s.ms[j]?=Z y)(f:y.phase=1): ∃d,Kj s j=Z d∧Inv e d:=by
 obtain⟨p,g,t,v⟩:=h.one hy (.inl f);have k:p<s.asked.length:=by have:=h.base.nb;simp[core]at this;omega
 unfold Kj;rw[hy];dsimp only;rw[Ai (by omega),g,An,Ae k];dsimp only;split
 ·rename_i B
  exact Lb h (Ae k) B
 ·split
  ·rename_i c
   obtain⟨d,u,a⟩:=(Q6 h hy g t v f).2 c;exact⟨d,u,a⟩
  ·rename_i c
   have l:s.sc.Cy=false:=by simpa using c
   obtain⟨id,s1,u,a⟩:=W8 h hy g t;rw[u];dsimp only;obtain⟨w,m,z⟩:=a.fP.ms j y hy (by omega);have A:w.p=y.p:=Aq MC.p z;have C:w.phase=y.phase:=Aq MC.phase z;have n:p<s1.rings.length:=by rw[a.fP.nr];exact t
   have o:s1.stat[p]?=Z (1,(j:Int)):=by rw[a.stat];exact v
   have b:s1.sc.Cy=false:=by rw[a.fP.sc];exact l
   split
   ·obtain⟨d,q,r⟩:=(Q6 a.inv m (A.trans g) n o (by omega)).1 b
    exact⟨d,q,r⟩
   ·rename_i D
    rcases a.iu with q|⟨i,x,q,r,E,F⟩
    ·exact absurd q D
    ·subst q
     have G:i<s1.gs.length:=(Af.1 r).1;rw[Ai (by omega),show((i:Int)+1-1).toNat=i by omega];exact Q7 a.inv m (A.trans g) n o (by omega) b r E F
end
end Go.Proofs.YtgadhchejmlfjaaGreatDoor.CX
