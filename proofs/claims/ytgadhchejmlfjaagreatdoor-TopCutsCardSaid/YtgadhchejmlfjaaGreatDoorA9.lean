/- A part of the proof. -/
import Derived.Test.YtgadhchejmlfjaaGreatDoorA4
import Derived.Test.YtgadhchejmlfjaaGreatDoorA7
import Derived.Test.YtgadhchejmlfjaaGreatDoorA8
set_option linter.unusedVariables false
set_option maxRecDepth 20000
set_option maxHeartbeats 16000000
open Go.Value renaming int→I,pointer→J,slice→Y
open Go.IntKind renaming i64→U
open Option renaming none→N,some→Z
open Bool renaming false→rm
open Go renaming Calls→re,Ending→rB,Value→qY,World→oZ
open Go.Ending renaming returned→rC
open Go.Value renaming bool→ry,tuple→rG
namespace Go.Proofs.YtgadhchejmlfjaaGreatDoor.Vm
open Go.Proofs.Tryz Go.RowKit Go.CL
section
variable (op a b c n fn pc:Int) (r:List Int) (sv:qY) (l:List (Int×Int)) (tb lo:Nat) (w:oZ) (h:Cx w tb (tv fn pc r sv rm) 50) (hS:Gz w lo 227 2 sv l.length (Lq l)) (Nb:H4 (fun j=>j=tb) sv)
include h hS Nb
theorem Su(x:Int)(hl:l.length<16)(mZ:lo≤w.heap.size):re prog 314 #[J (Z ⟨tb,0,N⟩),.agg #[I U 8,I U a,I U b,I U c,I U n]] w (RQ tb lo sv (mv 8 n x fn pc l) r w):=by
 have m:mv 8 n x fn pc l=Z (n,0,l++[(fn,pc)]):=by simp[mv];omega
 rw[m];obtain⟨o,sc,rfl⟩:=Eo hS;have c1:w.cell? ⟨tb,10,N⟩=Z (.slice o l.length sc):=h.cell 10;have F:w.cell? ⟨tb,0,N⟩=Z (I U fn):=h.cell 0;have c3:w.cell? ⟨tb,1,N⟩=Z (I U pc):=h.cell 1;have f0:=h.free 0;have f1:=h.free 1;have f2:=h.free 10;have A:=h.lt;have G: ¬tb=w.heap.size:=by omega
 have d: ¬((l.length:Int)=16):=by omega
 have q:((l.length:Int)==16)=false:=by simpa using d
 have f:=Aa (Ab h (Ab hS Nb));have B:=Aa hl;have s:Hid (lo≤w.heap.size):=mZ;clear h hS Nb m hl x d mZ;go_enter func314,ntmps314;go_wp2;go_region_law(refine J2 underlying48 TT rfl (by decide) (by decide) lo _ rfl (.tmp 41) (.tmp 51) rfl (.slice o l.length sc) l.length (Lq l) ⟨w.heap.size+1,0,N⟩ 1 [I U fn,I U pc] (by simp[Act.eval]) (by simp[Act.eval]) (f.out.2.1.below (by(repeat(first|exact Below.refl _ _|refine Below.drew ?_|refine Ct ?_ _)))) rfl (X4 (t:=227) (by first|exact TU _ _ _ _|exact(TU _ _ _ _).drew)) (by simp[Value.oneCell']) (by have:=s.out;simp;omega) (by have:=B.out;omega) ?_;intro H g i;obtain⟨v,y,rfl⟩:=i.some;have p:=Aa (Cx.kept (by first|exact f.out.1.alloc _ |>.drew |>.alloc _|exact((f.out.1.alloc _).alloc _).drew:Cx _ tb (tv fn pc r (.slice o l.length sc) rm) 50) i.2.1 (fun e=>f.out.2.2 tb e.symm rfl));have z0:g.cell? ⟨tb,0,N⟩=Z (I U fn):=p.out.cell 0;have K:g.cell? ⟨tb,1,N⟩=Z (I U pc):=p.out.cell 1;have z2:g.cell? ⟨tb,10,N⟩=Z (.slice o l.length sc):=p.out.cell 10;have L:=p.out.free;have M:g.cell? ⟨w.heap.size,4,N⟩=Z (I U n):=(Cx.kept (by first|exact(Cx.new w _ _).alloc _ |>.drew|exact((Cx.new w _ _).alloc _):Cx _ w.heap.size #[I U 8,I U a,I U b,I U c,I U n] 84) i.2.1 (fun e=>by have:=(f.out.2.1.lt _ e.symm).2;omega)).cell 4;have C:Hid (Cv (fun j=>(Value.slice o l.length sc).ownBlock=Z j) w g):=Cv.grown (by first|exact((Cv.refl _ w).alloc _ |>.alloc _).drew|exact((Cv.refl _ w).alloc _).alloc _) i.2.1 (fun k hk=>.inr hk);have z:=Aa i;clear i)
 all_goals
  go_wp2;go_ret;refine⟨rfl,(((C.out.mono (fun j _ e=>.inr e)).set (.inr (.inl rfl)) _ _).set (.inr (.inl rfl)) _ _).set (.inr (.inl rfl)) _ _,fun x D=>?_⟩;cases D;have E:Gz g lo 227 2 (Y (Z ⟨v,0,N⟩) (l.length+1) y) (l++[(fn,pc)]).length (Lq (l++[(fn,pc)])):=by rw[TS,Aw];exact .inl z.out.1
  exact⟨Y (Z ⟨v,0,N⟩) (l.length+1) y,((p.out.set 10 _).set 0 _).set 1 _,(KK E).only ((((Cv.refl (fun j=>j=tb) _).set (.inr rfl) _ _).set (.inr rfl) _ _).set (.inr rfl) _ _) (fun k hk e=>by
   rcases z.out.2.2 k hk with u|u
   ·exact f.out.2.2 k u e
   ·simp at u;omega)⟩
omit h hS Nb in
theorem G7(x:Int)(h:Cx w tb (tv fn pc r sv rm) 50)(hS:Gz w lo 227 2 sv l.length (Lq l))(Nb:H4 (fun j=>j=tb) sv) (k:Nat) (hk:k<8) (ha:a=k) (hr:r_ r k=x) (hl:l.length≤16) (mZ:lo≤w.heap.size):re prog 314 #[J (Z ⟨tb,0,N⟩),.agg #[I U op,I U a,I U b,I U c,I U n]] w (RQ tb lo sv (mv op n x fn pc l) r w):=by
 by_cases he:op=14∨(op=8∧l.length=16)∨(op=9∧l=[])
 ·exact Ve op a b c n fn pc r sv l tb lo w h hS Nb x he
 by_cases e6:op=6
 ·subst e6;exact RR a b c n fn pc r sv l tb lo w h hS Nb x
 by_cases e7:op=7
 ·subst e7;exact X7 a b c n fn pc r sv l tb lo w h hS Nb k x hk ha hr
 by_cases e8:op=8
 ·subst e8;exact Su a b c n fn pc r sv l tb lo w h hS Nb x (by omega) mZ
 by_cases e9:op=9
 ·subst e9;exact Vf a b c n fn pc r sv l tb lo w h hS Nb x (fun e=>he (.inr (.inr ⟨rfl,e⟩))) hl
 have pR:op≠14:=fun e=>he (.inl e);exact X6 op a b c n fn pc r sv l tb lo w h hS Nb (by simpa using e6) (by simpa using e7) (by simpa using e8) (by simpa using e9) (by simpa using pR) x
end
end Go.Proofs.YtgadhchejmlfjaaGreatDoor.Vm
namespace Go.Proofs.YtgadhchejmlfjaaGreatDoor.CX
open Go.Proofs.Tryz Go.RowKit Go.CL
open Cw (Pr pz)
section
open Vm (CN)
variable {S:Nat→Prop} {w w':oZ} {t y x mb i:Nat} {own C6:Nat→Nat}
structure Fn where
 code:List CN
 safe:List Bool
structure G where
 word:Int
 fn:Int
 Dt:Int
 CS:List Int
 done:Bool
 blocked:Bool
 token:Bool
 CA:Bool
 begun:Bool
 C9:Int
 stack:List (Int×Int)
structure M1 where
 p:Int
 g:Int
 phase:Int
 CR:Bool
 used:Int
 left:Int
 looks:Int
structure Pc where
 pre:Bool
 Eg:Bool
 count:Int
structure Rs where
 CG:Int
 row:List Int
structure Sc where
 nT:Int
 cg:Int
 Ga:Int
 pick:Int
 Ey:Int
 draw:Int
 now:Int
 Cy:Bool
 wait:Int
 CD:Int
 kind:Int
 eg:Int
 JW:Int
 JX:Int
 en:Int
 seen:Bool
structure St where
 funcs:List Fn
 sc:Sc
 gs:List G
 ms:List M1
 asked:List Pc
 rings:List Rs
 stat:List Pr
 all:List Int
 CK:List Int
 CB:List Int
 owner:Int
 waits:List Int
 box:List (Option Int)
variable {s:St}
def g0:G:=⟨0,0,0,[],rm,rm,rm,rm,rm,0,[]⟩
def m0:M1:=⟨0,0,0,rm,0,0,0⟩
def p0:Pc:=⟨rm,rm,0⟩
def r0:Rs:=⟨0,[]⟩
def pd:Fn:=⟨[],[]⟩
def i0:CN:=⟨0,0,0,0,0⟩
structure Vr where
 procs:Nat
 stat:Nat
 all:Nat
 GG:Nat
 FC:Nat
 CA:Nat
 box:Nat
 Lu:qY
 Mz:qY
 ED:qY
 Gb:qY
 CP:Nat→Nat
 DP:Nat→Nat
 Gw:Nat→Nat
variable {A B C V:Vr}
@[reducible] def ptr(b:Nat):Value:=J (Z ⟨b,0,N⟩)
@[reducible] def Eb(gb:Nat→Nat)(id:Int):Value:=if id=0 then J N else J (Z ⟨gb (id-1).toNat,0,N⟩)
def Dz(V:Vr)(c:Sc):Array Value:=#[ptr V.procs,V.Gb,I U c.nT,I U c.cg,I U c.Ga,V.Lu,V.Mz,V.ED,ptr V.stat,ptr V.all,ptr V.GG,ptr V.FC,ptr V.CA,ptr V.box,I U c.pick,I U c.Ey,I U c.draw,I U c.now,ry c.Cy,I U c.wait,Eb V.CP c.CD,I U c.kind,I U c.eg,I U c.JW,I U c.JX,I U c.en,ry c.seen]
def C8(gb:Nat→Nat)(j:Nat)(y:M1):Array Value:=#[I U j,I U y.p,Eb gb y.g,I U y.phase,ry y.CR,I U y.used,I U y.left,I U y.looks]
def rg(x:G)(k:Nat):Int:=x.CS[k]?.getD 0
def Du(i:Nat)(sv:qY)(x:G):Array Value:=#[I U ((i:Int)+1),I U x.word,I U x.fn,I U x.Dt,I U (rg x 0),I U (rg x 1),I U (rg x 2),I U (rg x 3),I U (rg x 4),I U (rg x 5),I U (rg x 6),I U (rg x 7),sv,ry x.done,ry x.blocked,ry x.token,ry x.CA,ry x.begun,I U x.C9]
def EN:List Pc→List qY
 | []=>[]
 |x::l=>[ry x.pre,ry x.Eg,I U x.count]++EN l
theorem MA(l:List Pc):(EN l).length=l.length*3:=by
 induction l with
 |nil=>rfl
 |cons x l a=>simp[EN,a];omega
theorem OH(l:List Pc): ∀i,i<l.length→(EN l)[i*3]?=Z (ry (l[i]?.getD p0).pre)∧(EN l)[i*3+1]?=Z (ry (l[i]?.getD p0).Eg)∧(EN l)[i*3+2]?=Z (I U (l[i]?.getD p0).count):=by
 induction l with
 |nil=>intro i a;simp at a
 |cons x l b=>
  intro i a;cases i with
  |zero=>simp[EN]
  |succ i=>have:=b i (by simpa using a);rw[show(i+1)*3=(i*3)+1+1+1 by omega];simpa[EN]using this
def G8(w:oZ)(v:qY)(l:List Pc):Prop:= ∃g cap cs,v=Y (Z ⟨g,0,N⟩) l.length cap∧Cx w g cs 139∧l.length≤cap∧cap*3≤cs.size∧cap≤maxLen∧(cap*3=cs.size∨cap=l.length)∧cs.toList.take (l.length*3)=EN l
theorem G8.only{v:qY}{l:List Pc}(h:G8 w v l)(o:Cv S w w')(a:H4 S v):G8 w' v l:=by obtain⟨g,cap,cs,rfl,b,r⟩:=h;exact⟨g,cap,cs,rfl,b.only o (a g rfl),r⟩
def GY(n:Nat)(f:Nat→Nat):List Value:=(List.range n).map fun i=>ptr (f i)
theorem Uc(n:Nat)(f:Nat→Nat)(i:Nat)(h:i<n):(GY n f)[i]?.getD undef=ptr (f i):=by simp[GY,h]
theorem Ke(n:Nat)(f:Nat→Nat):(GY n f).length=n:=by simp[GY]
theorem ND(n:Nat)(f:Nat→Nat):GY (n+1) f=GY n f++[ptr (f n)]:=by simp[GY,B7]
theorem MB(n:Nat){f g:Nat→Nat}(h: ∀i,i<n→f i=g i):GY n f=GY n g:=by unfold GY;exact Zab fun i a=>by rw[h i (BN.1 a)]
def kind(t:Nat):Nat:=if t<20 then t else if(t-20)%5≤1 then 12 else if(t-20)%5=2 then 13 else 5
theorem Hl(h:t<20):kind t=t:=by unfold kind;rw[Ai h]
theorem OI(i:Nat):kind (20+5*i)=12:=by unfold kind;rw[Ah (by omega),Ai (by omega)]
theorem OJ(i:Nat):kind (22+5*i)=13:=by unfold kind;rw[Ah (by omega),Ah (by omega),Ai (by omega)]
theorem OK(i:Nat):kind (23+5*i)=5:=by unfold kind;rw[Ah (by omega),Ah (by omega),Ah (by omega)]
theorem OL(i:Nat):kind (24+5*i)=5:=by unfold kind;rw[Ah (by omega),Ah (by omega),Ah (by omega)]
structure nU (own:Nat→Nat) (w:oZ) (pb po k:Nat) (f:Fn):Prop where
 at_: ∃cb co cc sb so sc,w.cell? ⟨pb,po+k*2,N⟩=Z (Y (Z ⟨cb,co,N⟩) f.code.length cc)∧w.cell? ⟨pb,po+k*2+1,N⟩=Z (Y (Z ⟨sb,so,N⟩) f.safe.length sc)∧
  cb<w.heap.size∧sb<w.heap.size∧own cb=14∧own sb=14∧
  (∀i,i<f.code.length→w.cell? ⟨cb,co+i*5,N⟩=Z (I U (f.code[i]?.getD i0).op)∧w.cell? ⟨cb,co+i*5+1,N⟩=Z (I U (f.code[i]?.getD i0).a)∧w.cell? ⟨cb,co+i*5+2,N⟩=Z (I U (f.code[i]?.getD i0).b)∧w.cell? ⟨cb,co+i*5+3,N⟩=Z (I U (f.code[i]?.getD i0).c)∧w.cell? ⟨cb,co+i*5+4,N⟩=Z (I U (f.code[i]?.getD i0).n))∧
  (∀i,i<f.safe.length→w.cell? ⟨sb,so+i,N⟩=Z (ry (f.safe[i]?.getD rm)))
def Pg(own:Nat→Nat)(w:oZ)(pv:qY)(l:List Fn):Prop:= ∃a b c,pv=Y (Z ⟨a,b,N⟩) l.length c∧a<w.heap.size∧own a=14∧ ∀k,k<l.length→nU own w a b k (l[k]?.getD pd)
structure Qa (own ri:Nat→Nat) (w:oZ) (p:Nat) (rv:qY) (R:Nat→CV.Rn) (l:List Rs):Prop where
 E7:CV.Hh w p rv l.length R
 is: ∀i,i<l.length→(R i).CG=(l[i]?.getD r0).CG∧(R i).row=(l[i]?.getD r0).row
 op:own p=5
 kB: ∀j,rv.ownBlock=Z j→own j=5
 ob: ∀i,i<l.length→own (R i).b=23+5*ri i
 og: ∀i,i<l.length→own (R i).g=24+5*ri i
 ub: ∀i,i<l.length→ ∀b,own b=23+5*ri i→b=(R i).b
def nd(own:Nat→Nat)(w:oZ)(b:Nat)(l:List (Option Int)):Prop:= ∃v n m q,LK.Hx b v (fun k=>(l[k]?).join) n m q w∧n≤m∧n≤64∧l.length=64∧(∀j,LK.Bf b v j→own j=11)
def Hk(own:Nat→Nat)(w:oZ)(l:List (Int×Int))(sv:qY):Prop:=l.length≤16∧Vm.Hk w 0 sv l∧(l≠[]→ ∀j,sv.ownBlock=Z j→own j=14)
theorem Hk.turn{l:List (Int×Int)}{sv:qY}(h:Hk own w l sv)(o:Cv S w w')(k: ∀j,S j→own j≠14) (he: ∀j,j<w.heap.size→C6 j=own j):Hk C6 w' l sv:=by
 obtain⟨f,a,i⟩:=h;by_cases c:l=[]
 ·subst c
  refine⟨f,?_,fun h=>absurd rfl h⟩;rcases a with a|⟨g,cap,d,-,e,m,-⟩
  ·exact .inl a
  ·exact .inr ⟨g,cap,d,Ap _,Am e o.size,m,fun j u b=>by simp[Vm.Lq]at b⟩
 ·refine⟨f,a.only o (fun j b n=>k j n (i c j b)),fun _ j b=>?_⟩
  rcases a with⟨-,a⟩|⟨g,cap,d,-,e,-⟩
  ·exact absurd a c
  ·rw[d]at b;cases b;rw[he g e];exact i c g (by rw[d];rfl)
structure nh (own:Nat→Nat) (w:oZ) (b i:Nat) (x:G):Prop where
 len:x.CS.length=8
 wd:D4.Dm x.word
 Dp: ∃sv,Cx w b (Du i sv x) 130∧Hk own w x.stack sv
structure DY (x:Nat) (mb:Nat) (V:Vr) (own:Nat→Nat) (w:oZ) (s:St):Prop where
 fresh: ∀j,w.heap.size≤j→own j=0
 om:own mb=1
 prog:Pg own w V.Gb s.funcs
 laid:DX.Laid w∧own 0=14
 hold:0≤s.sc.CD∧s.sc.CD≤s.gs.length
 LN:x≠2→Gz w 0 119 1 V.Lu s.gs.length (GY s.gs.length V.CP)∧ ∀j,V.Lu.ownBlock=Z j→own j=2
 LO:x≠3→Gz w 0 123 1 V.Mz s.ms.length (GY s.ms.length V.DP)∧ ∀j,V.Mz.ownBlock=Z j→own j=3
 EL:x≠4→G8 w V.ED s.asked∧ ∀j,V.ED.ownBlock=Z j→own j=4
 IC:x≠1→Cx w mb (Dz V s.sc) 121
 rings:x≠5→ ∃rv R,Qa own V.Gw w V.procs rv R s.rings
 stat:x≠6→ ∃tv,Cw.Tb w V.stat tv s.stat∧ ∀j,Cw.Tf V.stat tv j→own j=6
 all:x≠7→ ∃S,CY.Queue w V.all S s.all∧ ∀j,S j→own j=7
 GG:x≠8→ ∃g,Idle.St w V.GG g 64 s.CK∧ ∀j,Idle.GF V.GG g j→own j=8
 FC:x≠9→ ∃g,Idle.St w V.FC g 256 s.CB∧ ∀j,Idle.GF V.FC g j→own j=9
 CA:x≠10→ ∃v,Dc.Sm w V.CA s.owner v s.waits∧ ∀j,Dc.Sf V.CA v j→own j=10
 box:x≠11→nd own w V.box s.box
 gs:x≠12→ ∀i,i<s.gs.length→nh own w (V.CP i) i (s.gs[i]?.getD g0)
 ms:x≠13→ ∀j,j<s.ms.length→Cx w (V.DP j) (C8 V.CP j (s.ms[j]?.getD m0)) 125
 mg: ∀j,j<s.ms.length→0≤(s.ms[j]?.getD m0).g∧(s.ms[j]?.getD m0).g≤s.gs.length
 og: ∀i,i<s.gs.length→own (V.CP i)=20+5*i
 ug: ∀i,i<s.gs.length→ ∀b,own b=20+5*i→b=V.CP i
 ox: ∀j,j<s.ms.length→own (V.DP j)=22+5*j
 ux: ∀j,j<s.ms.length→ ∀b,own b=22+5*j→b=V.DP j
 lg: ∀b i,own b=20+5*i→i<s.gs.length
 lx: ∀b i,own b=22+5*i→i<s.ms.length
 Hm:s.gs.length≤64∧s.ms.length≤64∧s.rings.length≤256
abbrev CC:=DY 0
structure Ext (own:Nat→Nat) (w:oZ) (C6:Nat→Nat) (w':oZ):Prop where
 only:Cv (fun j=>own j≠0∧own j≠14) w w'
 same: ∀j,j<w.heap.size→C6 j=own j
theorem Ext.refl(own:Nat→Nat)(w:oZ):Ext own w own w:=⟨Cv.refl _ _,fun _ _=>rfl⟩
theorem Ext.trans{o1 o2 b:Nat→Nat}{w1 w2 c:oZ}(h:Ext o1 w1 o2 w2)(k:Ext o2 w2 b c):Ext o1 w1 b c:=⟨h.only.andThen k.only (fun j a d=>by rw[h.same j a]at d;exact d),fun j a=>(k.same j (Am a h.only.size)).trans (h.same j a)⟩
structure Fw (V V':Vr):Prop where
 procs:V'.procs=V.procs
 stat:V'.stat=V.stat
 all:V'.all=V.all
 GG:V'.GG=V.GG
 FC:V'.FC=V.FC
 CA:V'.CA=V.CA
 box:V'.box=V.box
 Gb:V'.Gb=V.Gb
theorem Fw.refl(V:Vr):Fw V V:=⟨rfl,rfl,rfl,rfl,rfl,rfl,rfl,rfl⟩
theorem Fw.trans(h:Fw A B)(k:Fw B C):Fw A C:=⟨k.procs.trans h.procs,k.stat.trans h.stat,k.all.trans h.all,k.GG.trans h.GG,k.FC.trans h.FC,k.CA.trans h.CA,k.box.trans h.box,k.Gb.trans h.Gb⟩
structure Fx (V V':Vr):Prop extends Fw V V' where
 Lu:V'.Lu=V.Lu
 CP:V'.CP=V.CP
theorem Fx.refl(V:Vr):Fx V V:=⟨Fw.refl V,rfl,rfl⟩
theorem Fx.trans(h:Fx A B)(k:Fx B C):Fx A C:=⟨h.toFw.trans k.toFw,k.Lu.trans h.Lu,k.CP.trans h.CP⟩
def FY(mb:Nat)(V:Vr)(own:Nat→Nat)(w:oZ)(r:qY)(s':St)(e:rB)(w':oZ):Prop:=e=rC r∧ ∃a C6,CC mb a C6 w' s'∧Ext own w C6 w'∧Fx V a
def YJ(mb:Nat)(V:Vr)(own:Nat→Nat)(w:oZ)(r:qY)(s':St)(e:rB)(w':oZ):Prop:=e=rC r∧ ∃a C6,CC mb a C6 w' s'∧Ext own w C6 w'∧Fw V a
def Da(mb:Nat)(V:Vr)(own:Nat→Nat)(w:oZ)(r:qY)(s':St)(e:rB)(w':oZ):Prop:=e=rC r∧ ∃C6,CC mb V C6 w' s'∧Ext own w C6 w'
theorem Pg.turn{pv:qY}{l:List Fn}(h:Pg own w pv l)(o:Cv S w w')(p: ∀j,S j→own j≠14) (he: ∀j,j<w.heap.size→C6 j=own j):Pg C6 w' pv l:=by obtain⟨a,q,r,s,c,e,t⟩:=h;have d: ∀b i,b<w.heap.size→own b=14→w'.cell? ⟨b,i,N⟩=w.cell? ⟨b,i,N⟩:=fun b i u v=>AH (o.block b u (fun x=>p b x v));refine⟨a,q,r,s,Am c o.size,by rw[he a c];exact e,fun k y=>?_⟩;obtain⟨f,co,z,g,A,sc,B,a2,a3,a4,a5,n,C,D⟩:=(t k y).at_;refine⟨f,co,z,g,A,sc,(d a _ c e).trans B,(d a _ c e).trans a2,Am a3 o.size,Am a4 o.size,by rw[he f a3];exact a5,by rw[he g a4];exact n,fun i m=>?_,fun i m=>(d g _ a4 n).trans (D i m)⟩;simp only[d f _ a3 a5];exact C i m
theorem Qa.turn{ri:Nat→Nat}{p:Nat}{e:qY}{R:Nat→CV.Rn}{l:List Rs}(h:Qa own ri w p e R l)(o:Cv S w w')(k: ∀j,S j→kind (own j)≠5) (he: ∀j,j<w.heap.size→C6 j=own j) (m: ∀j,w.heap.size≤j→kind (C6 j)≠5):Qa C6 ri w' p e R l:=by
 have n: ∀j,CV.Pf p e l.length R j→kind (own j)=5:=by
  rintro j(rfl|c|⟨i,d,c|c⟩)
  ·rw[h.op];rfl
  ·rw[h.kB j c];rfl
  ·rw[c,h.ob i d,OK]
  ·rw[c,h.og i d,OL]
 have a: ∀j,CV.Pf p e l.length R j→C6 j=own j:=fun j c=>he j (h.E7.lt c);refine⟨h.E7.only o (fun j c q=>k j q (n j c)),h.is,(a _ (.inl rfl)).trans h.op,fun j c=>(a j (.inr (.inl c))).trans (h.kB j c),fun i d=>(a _ (.inr (.inr ⟨i,d,.inl rfl⟩))).trans (h.ob i d),fun i d=>(a _ (.inr (.inr ⟨i,d,.inr rfl⟩))).trans (h.og i d),fun i d b f=>?_⟩;rcases AY b w.heap.size with a|g
 ·rw[he b a]at f;exact h.ub i d b f
 ·exact absurd (by rw[f,OK]:kind (C6 b)=5) (m b g)
theorem DY.turn(h:DY y mb V own w s)(D:y=0∨y=x)(o:Cv S w w')(C: ∀j,S j→kind (own j)=x) (L:x<14) (he: ∀j,j<w.heap.size→C6 j=own j) (B: ∀j,w.heap.size≤j→C6 j=0∨(1<C6 j∧C6 j<12∧C6 j=x)) (G: ∀j,w'.heap.size≤j→C6 j=0):DY x mb V C6 w' s:=by
 have hy: ∀t,x≠t→t≠0→y≠t:=fun t a A=>by rcases D with rfl|rfl;exact fun e=>A e.symm;exact a
 have E: ∀{j t:Nat},own j=t→t≠0→j<w.heap.size:=fun{j t} k d=>by
  rcases AY j w.heap.size with l|l
  ·exact l
  ·exact absurd ((h.fresh j l).symm.trans k).symm d
 have c: ∀{j t:Nat},own j=t→t≠0→C6 j=t:=fun{j t} k d=>(he j (E k d)).trans k;have g: ∀{j t:Nat},own j=t→kind t≠x→ ¬S j:=fun{j t} k d z=>d (by rw[←k];exact C j z);refine⟨G,c h.om (by decide),h.prog.turn o (fun j z e=>?_) he,⟨h.laid.1.only o (g h.laid.2 (by rw[Hl (by decide)];omega)),c h.laid.2 (by decide)⟩,h.hold,fun a=>?_,fun a=>?_,fun a=>?_,fun a=>?_,fun a=>?_,fun a=>?_,fun a=>?_,fun a=>?_,fun a=>?_,fun a=>?_,fun a=>?_,fun a=>?_,fun a=>?_,h.mg,fun i p=>c (h.og i p) (by omega),fun i p b r=>?_,fun i p=>c (h.ox i p) (by omega),fun i p b r=>?_,fun b i r=>?_,fun b i r=>?_,h.Hm⟩
 ·have:=C j z;rw[e,Hl (by decide)]at this;omega
 ·obtain⟨k,d⟩:=h.LN (hy 2 a (by decide))
  exact⟨k.off o (fun j f=>g (d j f) (fun e=>a e.symm)),fun j f=>c (d j f) (by decide)⟩
 ·obtain⟨k,d⟩:=h.LO (hy 3 a (by decide))
  exact⟨k.off o (fun j f=>g (d j f) (fun e=>a e.symm)),fun j f=>c (d j f) (by decide)⟩
 ·obtain⟨k,d⟩:=h.EL (hy 4 a (by decide))
  exact⟨k.only o (fun j f=>g (d j f) (fun e=>a e.symm)),fun j f=>c (d j f) (by decide)⟩
 ·exact(h.IC (hy 1 a (by decide))).only o (g h.om (fun e=>a e.symm))
 ·obtain⟨H,R,k⟩:=h.rings (hy 5 a (by decide))
  refine⟨H,R,k.turn o (fun j z=>by rw[C j z];exact a) he (fun j f=>?_)⟩;rcases B j f with A|⟨A,d,l⟩
  ·rw[A];decide
  ·rw[Hl (by omega),l];exact a
 ·obtain⟨tv,k,d⟩:=h.stat (hy 6 a (by decide))
  exact⟨tv,k.only o (fun j f=>g (d j f) (fun e=>a e.symm)),fun j f=>c (d j f) (by decide)⟩
 ·obtain⟨tv,k,d⟩:=h.all (hy 7 a (by decide))
  exact⟨tv,k.only o (fun j f=>g (d j f) (fun e=>a e.symm)),fun j f=>c (d j f) (by decide)⟩
 ·obtain⟨tv,k,d⟩:=h.GG (hy 8 a (by decide))
  exact⟨tv,k.only o (g (d _ (.inl rfl)) (fun e=>a e.symm)) (g (d _ (.inr rfl)) (fun e=>a e.symm)),fun j f=>c (d j f) (by decide)⟩
 ·obtain⟨tv,k,d⟩:=h.FC (hy 9 a (by decide))
  exact⟨tv,k.only o (g (d _ (.inl rfl)) (fun e=>a e.symm)) (g (d _ (.inr rfl)) (fun e=>a e.symm)),fun j f=>c (d j f) (by decide)⟩
 ·obtain⟨tv,k,d⟩:=h.CA (hy 10 a (by decide))
  exact⟨tv,k.only o (fun j f=>g (d j f) (fun e=>a e.symm)),fun j f=>c (d j f) (by decide)⟩
 ·obtain⟨v,n,m,q,k,d,l,u,F⟩:=h.box (hy 11 a (by decide))
  exact⟨v,n,m,q,k.only o (fun j f=>g (F j f) (fun e=>a e.symm)),d,l,u,fun j f=>c (F j f) (by decide)⟩
 ·intro i p
  obtain⟨k,A,K,d,l⟩:=h.gs (hy 12 a (by decide)) i p;exact⟨k,A,K,d.only o (g (h.og i p) (by rw[OI];exact fun e=>a e.symm)),l.turn o (fun j z e=>by have:=C j z;rw[e,Hl (by decide)]at this;omega) he⟩
 ·intro i p
  exact(h.ms (hy 13 a (by decide)) i p).only o (g (h.ox i p) (by rw[OJ];exact fun e=>a e.symm))
 ·rcases AY b w.heap.size with l|l
  ·rw[he b l]at r;exact h.ug i p b r
  ·rcases B b l with u|u<;>omega
 ·rcases AY b w.heap.size with l|l
  ·rw[he b l]at r;exact h.ux i p b r
  ·rcases B b l with u|u<;>omega
 ·rcases AY b w.heap.size with l|l
  ·rw[he b l]at r;exact h.lg b i r
  ·rcases B b l with u|u<;>omega
 ·rcases AY b w.heap.size with l|l
  ·rw[he b l]at r;exact h.lx b i r
  ·rcases B b l with u|u<;>omega
theorem DY.Kf(h:DY y mb V own w s)(a:y=0∨y=x)(o:Cv S w w')(c: ∀j,S j→kind (own j)=x) (d:x<14):DY x mb V own w' s:=h.turn a o c d (fun _ _=>rfl) (fun j b=>.inl (h.fresh j b)) (fun j b=>h.fresh j (AE o.size b))
theorem DY.loc(h:DY y mb V own w s)(o:Cv S w w')(l: ∀j,S j→own j=0):DY y mb V own w' s:=by
 have b: ∀{j t:Nat},own j=t→t≠0→ ¬S j:=fun{j t} d c g=>c (d.symm.trans (l j g));refine⟨fun j f=>h.fresh j (AE o.size f),h.om,h.prog.turn o (fun j g e=>by rw[l j g]at e;cases e) (fun _ _=>rfl),⟨h.laid.1.only o (b h.laid.2 (by decide)),h.laid.2⟩,h.hold,fun a=>?_,fun a=>?_,fun a=>?_,fun a=>?_,fun a=>?_,fun a=>?_,fun a=>?_,fun a=>?_,fun a=>?_,fun a=>?_,fun a=>?_,fun a=>?_,fun a=>?_,h.mg,h.og,h.ug,h.ox,h.ux,h.lg,h.lx,h.Hm⟩
 ·obtain⟨d,c⟩:=h.LN a
  exact⟨d.off o (fun j f=>b (c j f) (by decide)),c⟩
 ·obtain⟨d,c⟩:=h.LO a
  exact⟨d.off o (fun j f=>b (c j f) (by decide)),c⟩
 ·obtain⟨d,c⟩:=h.EL a
  exact⟨d.only o (fun j f=>b (c j f) (by decide)),c⟩
 ·exact(h.IC a).only o (b h.om (by decide))
 ·obtain⟨u,R,d⟩:=h.rings a
  refine⟨u,R,d.turn o (fun j g=>by rw[l j g];decide) (fun _ _=>rfl) (fun j f=>by rw[h.fresh j f];decide)⟩
 ·obtain⟨tv,d,c⟩:=h.stat a
  exact⟨tv,d.only o (fun j f=>b (c j f) (by decide)),c⟩
 ·obtain⟨tv,d,c⟩:=h.all a
  exact⟨tv,d.only o (fun j f=>b (c j f) (by decide)),c⟩
 ·obtain⟨tv,d,c⟩:=h.GG a
  exact⟨tv,d.only o (b (c _ (.inl rfl)) (by decide)) (b (c _ (.inr rfl)) (by decide)),c⟩
 ·obtain⟨tv,d,c⟩:=h.FC a
  exact⟨tv,d.only o (b (c _ (.inl rfl)) (by decide)) (b (c _ (.inr rfl)) (by decide)),c⟩
 ·obtain⟨tv,d,c⟩:=h.CA a
  exact⟨tv,d.only o (fun j f=>b (c j f) (by decide)),c⟩
 ·obtain⟨v,n,m,q,d,c,p,x,r⟩:=h.box a
  exact⟨v,n,m,q,d.only o (fun j f=>b (r j f) (by decide)),c,p,x,r⟩
 ·intro i k
  obtain⟨d,z,A,c,p⟩:=h.gs a i k;exact⟨d,z,A,c.only o (b (h.og i k) (by omega)),p.turn o (fun j g e=>by rw[l j g]at e;cases e) (fun _ _=>rfl)⟩
 ·intro i k
  exact(h.ms a i k).only o (b (h.ox i k) (by omega))
theorem DY.below(h:DY y mb V own w s)(a:Below w.heap.size w w'):DY y mb V own w' s:=h.loc (S:=fun _=>False) ((Cv.refl _ w).below a) (fun _ x=>x.elim)
theorem Ext.loc(o:Cv S w w')(a: ∀j,S j→j<w.heap.size→own j≠0∧own j≠14):Ext own w own w':=⟨o.mono (fun j b c=>a j c b),fun _ _=>rfl⟩
theorem Ext.below(a:Below w.heap.size w w'):Ext own w own w':=⟨(Cv.refl _ w).below a,fun _ _=>rfl⟩
theorem tagged{S':Nat→Prop}(c:w.heap.size≤w'.heap.size)(d: ∀j,w.heap.size≤j→own j=0) (b: ∀j,S' j→j<w'.heap.size) (hold: ∀j,S' j→j<w.heap.size→own j=t): ∃C6:Nat→Nat,(∀j,j<w.heap.size→C6 j=own j)∧(∀j,S' j→C6 j=t)∧(∀j,w.heap.size≤j→C6 j=0∨C6 j=t)∧(∀j,w'.heap.size≤j→C6 j=0):=by
 classical
 refine⟨fun j=>if j<w.heap.size then own j else if S' j then t else 0,fun j a=>Ai a,fun j a=>?_,fun j a=>?_,fun j a=>?_⟩
 ·dsimp only
  by_cases h:j<w.heap.size
  ·rw[Ai h];exact hold j a h
  ·rw[Ah h,Ai a]
 ·dsimp only
  rw[Ah (by omega)];by_cases h:S' j
  ·rw[Ai h];exact .inr rfl
  ·rw[Ah h];exact .inl rfl
 ·dsimp only
  rw[Ah (by omega),Ah (fun h=>by have:=b j h;omega)]
section
theorem DY.nV(h:DY 1 mb V own w s)(c:Sc)(a:0≤c.CD∧c.CD≤s.gs.length)(b:Cx w mb (Dz V c) 121):CC mb V own w {s with sc:=c}:=⟨h.fresh,h.om,h.prog,h.laid,a,fun _=>h.LN (by decide),fun _=>h.LO (by decide),fun _=>h.EL (by decide),fun _=>b,fun _=>h.rings (by decide),fun _=>h.stat (by decide),fun _=>h.all (by decide),fun _=>h.GG (by decide),fun _=>h.FC (by decide),fun _=>h.CA (by decide),fun _=>h.box (by decide),fun _=>h.gs (by decide),fun _=>h.ms (by decide),h.mg,h.og,h.ug,h.ox,h.ux,h.lg,h.lx,h.Hm⟩
theorem DY.JE(h:DY 4 mb V own w s)(l:List Pc)(a:G8 w V.ED l∧ ∀j,V.ED.ownBlock=Z j→own j=4):CC mb V own w {s with asked:=l}:=⟨h.fresh,h.om,h.prog,h.laid,h.hold,fun _=>h.LN (by decide),fun _=>h.LO (by decide),fun _=>a,fun _=>h.IC (by decide),fun _=>h.rings (by decide),fun _=>h.stat (by decide),fun _=>h.all (by decide),fun _=>h.GG (by decide),fun _=>h.FC (by decide),fun _=>h.CA (by decide),fun _=>h.box (by decide),fun _=>h.gs (by decide),fun _=>h.ms (by decide),h.mg,h.og,h.ug,h.ox,h.ux,h.lg,h.lx,h.Hm⟩
theorem DY.YK(h:DY 5 mb V own w s)(l:List Rs)(a:l.length≤256)(b: ∃c R,Qa own V.Gw w V.procs c R l):CC mb V own w {s with rings:=l}:=⟨h.fresh,h.om,h.prog,h.laid,h.hold,fun _=>h.LN (by decide),fun _=>h.LO (by decide),fun _=>h.EL (by decide),fun _=>h.IC (by decide),fun _=>b,fun _=>h.stat (by decide),fun _=>h.all (by decide),fun _=>h.GG (by decide),fun _=>h.FC (by decide),fun _=>h.CA (by decide),fun _=>h.box (by decide),fun _=>h.gs (by decide),fun _=>h.ms (by decide),h.mg,h.og,h.ug,h.ox,h.ux,h.lg,h.lx,⟨h.Hm.1,h.Hm.2.1,a⟩⟩
theorem DY.dN(h:DY 6 mb V own w s)(l:List Pr)(a: ∃tv,Cw.Tb w V.stat tv l∧ ∀j,Cw.Tf V.stat tv j→own j=6):CC mb V own w {s with stat:=l}:=⟨h.fresh,h.om,h.prog,h.laid,h.hold,fun _=>h.LN (by decide),fun _=>h.LO (by decide),fun _=>h.EL (by decide),fun _=>h.IC (by decide),fun _=>h.rings (by decide),fun _=>a,fun _=>h.all (by decide),fun _=>h.GG (by decide),fun _=>h.FC (by decide),fun _=>h.CA (by decide),fun _=>h.box (by decide),fun _=>h.gs (by decide),fun _=>h.ms (by decide),h.mg,h.og,h.ug,h.ox,h.ux,h.lg,h.lx,h.Hm⟩
theorem DY.YL(h:DY 7 mb V own w s)(l:List Int)(a: ∃S,CY.Queue w V.all S l∧ ∀j,S j→own j=7):CC mb V own w {s with all:=l}:=⟨h.fresh,h.om,h.prog,h.laid,h.hold,fun _=>h.LN (by decide),fun _=>h.LO (by decide),fun _=>h.EL (by decide),fun _=>h.IC (by decide),fun _=>h.rings (by decide),fun _=>h.stat (by decide),fun _=>a,fun _=>h.GG (by decide),fun _=>h.FC (by decide),fun _=>h.CA (by decide),fun _=>h.box (by decide),fun _=>h.gs (by decide),fun _=>h.ms (by decide),h.mg,h.og,h.ug,h.ox,h.ux,h.lg,h.lx,h.Hm⟩
theorem DY.YM(h:DY 8 mb V own w s)(l:List Int)(a: ∃g,Idle.St w V.GG g 64 l∧ ∀j,Idle.GF V.GG g j→own j=8):CC mb V own w {s with CK:=l}:=⟨h.fresh,h.om,h.prog,h.laid,h.hold,fun _=>h.LN (by decide),fun _=>h.LO (by decide),fun _=>h.EL (by decide),fun _=>h.IC (by decide),fun _=>h.rings (by decide),fun _=>h.stat (by decide),fun _=>h.all (by decide),fun _=>a,fun _=>h.FC (by decide),fun _=>h.CA (by decide),fun _=>h.box (by decide),fun _=>h.gs (by decide),fun _=>h.ms (by decide),h.mg,h.og,h.ug,h.ox,h.ux,h.lg,h.lx,h.Hm⟩
theorem DY.YN(h:DY 9 mb V own w s)(l:List Int)(a: ∃g,Idle.St w V.FC g 256 l∧ ∀j,Idle.GF V.FC g j→own j=9):CC mb V own w {s with CB:=l}:=⟨h.fresh,h.om,h.prog,h.laid,h.hold,fun _=>h.LN (by decide),fun _=>h.LO (by decide),fun _=>h.EL (by decide),fun _=>h.IC (by decide),fun _=>h.rings (by decide),fun _=>h.stat (by decide),fun _=>h.all (by decide),fun _=>h.GG (by decide),fun _=>a,fun _=>h.CA (by decide),fun _=>h.box (by decide),fun _=>h.gs (by decide),fun _=>h.ms (by decide),h.mg,h.og,h.ug,h.ox,h.ux,h.lg,h.lx,h.Hm⟩
theorem DY.dO(h:DY 10 mb V own w s)(ow:Int)(l:List Int)(a: ∃v,Dc.Sm w V.CA ow v l∧ ∀j,Dc.Sf V.CA v j→own j=10):CC mb V own w {s with owner:=ow,waits:=l}:=⟨h.fresh,h.om,h.prog,h.laid,h.hold,fun _=>h.LN (by decide),fun _=>h.LO (by decide),fun _=>h.EL (by decide),fun _=>h.IC (by decide),fun _=>h.rings (by decide),fun _=>h.stat (by decide),fun _=>h.all (by decide),fun _=>h.GG (by decide),fun _=>h.FC (by decide),fun _=>a,fun _=>h.box (by decide),fun _=>h.gs (by decide),fun _=>h.ms (by decide),h.mg,h.og,h.ug,h.ox,h.ux,h.lg,h.lx,h.Hm⟩
theorem DY.jb(h:DY 11 mb V own w s)(l:List (Option Int))(a:nd own w V.box l):CC mb V own w {s with box:=l}:=⟨h.fresh,h.om,h.prog,h.laid,h.hold,fun _=>h.LN (by decide),fun _=>h.LO (by decide),fun _=>h.EL (by decide),fun _=>h.IC (by decide),fun _=>h.rings (by decide),fun _=>h.stat (by decide),fun _=>h.all (by decide),fun _=>h.GG (by decide),fun _=>h.FC (by decide),fun _=>h.CA (by decide),fun _=>a,fun _=>h.gs (by decide),fun _=>h.ms (by decide),h.mg,h.og,h.ug,h.ox,h.ux,h.lg,h.lx,h.Hm⟩
end
theorem Kg{α:Type}(l:List α)(i j:Nat)(x d:α):(l.set i x)[j]?.getD d=if i=j∧j<l.length then x else l[j]?.getD d:=by
 rw[As];by_cases h:i=j
 ·subst h
  by_cases a:i<l.length
  ·simp[a]
  ·simp[a]
 ·simp[h]
theorem CC.VK(h:CC mb V own w s)(m:i<s.gs.length)(o:Cv (fun j=>j=V.CP i) w w') (x:G) (t:x.CS.length=8∧D4.Dm x.word∧ ∃f,Cx w' (V.CP i) (Du i f x) 130∧Hk own w x.stack f):CC mb V own w' {s with gs:=s.gs.set i x}:=by
 have g: ∀j,j=V.CP i→own j≠14:=fun j l e=>by rw[l,h.og i m]at e;omega
 have a:=h.Kf (x:=12) (.inl rfl) o (fun j l=>by rw[l,h.og i m,OI]) (by decide);have d:(s.gs.set i x).length=s.gs.length:=by simp
 refine⟨a.fresh,a.om,a.prog,a.laid,by rw[d];exact h.hold,fun _=>by rw[d];exact a.LN (by decide),fun _=>a.LO (by decide),fun _=>a.EL (by decide),fun _=>a.IC (by decide),fun _=>a.rings (by decide),fun _=>a.stat (by decide),fun _=>a.all (by decide),fun _=>a.GG (by decide),fun _=>a.FC (by decide),fun _=>a.CA (by decide),fun _=>a.box (by decide),fun _ k c=>?_,fun _=>a.ms (by decide),fun j l=>by rw[d];exact h.mg j l,fun k c=>h.og k (by rw[d]at c;exact c),fun k c=>h.ug k (by rw[d]at c;exact c),h.ox,h.ux,fun b k u=>by rw[d];exact h.lg b k u,h.lx,by rw[d];exact h.Hm⟩;rw[d]at c;show nh own w' (V.CP k) k ((s.gs.set i x)[k]?.getD g0);rw[Kg];by_cases e:i=k
 ·subst e;rw[Ai ⟨rfl,c⟩]
  obtain⟨n,p,f,q,r⟩:=t;exact⟨n,p,f,q,r.turn o g (fun _ _=>rfl)⟩
 ·rw[Ah (fun v=>e v.1)]
  obtain⟨n,p,f,q,r⟩:=h.gs (by decide) k c;refine⟨n,p,f,q.only o (fun y=>e ?_),r.turn o g (fun _ _=>rfl)⟩;have z:=h.og i m;have a2:=h.og k c;rw[show V.CP k=V.CP i from y]at a2;omega
theorem CC.lp(h:CC mb V own w s){b:Nat}(o:own b=0)(y:b<w.heap.size):CC mb V (fun j=>if j=b then 14 else own j) w s:=by
 have f: ∀{j t:Nat},own j=t→t≠0→(fun j=>if j=b then 14 else own j) j=t:=fun{j t} a g=>by
  show(if j=b then 14 else own j)=t
  rw[Ah (fun e=>by subst e;rw[o]at a;exact g a.symm)];exact a
 have p: ∀{j t:Nat},(fun j=>if j=b then 14 else own j) j=t→t≠14→own j=t:=fun{j t} a g=>by
  replace a:(if j=b then 14 else own j)=t:=a
  by_cases e:j=b
  ·rw[Ai e]at a;exact absurd a.symm g
  ·rw[Ah e]at a;exact a
 refine⟨fun j d=>?_,f h.om (by decide),?_,⟨h.laid.1,f h.laid.2 (by decide)⟩,h.hold,fun c=>⟨(h.LN c).1,fun j d=>f ((h.LN c).2 j d) (by decide)⟩,fun c=>⟨(h.LO c).1,fun j d=>f ((h.LO c).2 j d) (by decide)⟩,fun c=>⟨(h.EL c).1,fun j d=>f ((h.EL c).2 j d) (by decide)⟩,h.IC,fun c=>?_,fun c=>?_,fun c=>?_,fun c=>?_,fun c=>?_,fun c=>?_,fun c=>?_,fun c i l=>?_,h.ms,h.mg,fun i l=>f (h.og i l) (by omega),fun i l b o=>h.ug i l b (p o (by omega)),fun i l=>f (h.ox i l) (by omega),fun i l b o=>h.ux i l b (p o (by omega)),fun b i o=>h.lg b i (p o (by omega)),fun b i o=>h.lx b i (p o (by omega)),h.Hm⟩
 ·show(if j=b then 14 else own j)=0;rw[Ah (by omega)];exact h.fresh j d
 ·obtain⟨z,A,B,a,g,r,u⟩:=h.prog
  refine⟨z,A,B,a,g,f r (by decide),fun k C=>?_⟩;obtain⟨D,co,E,F,G,sc,H,a2,a3,a4,a5,K,L⟩:=(u k C).at_;exact⟨D,co,E,F,G,sc,H,a2,a3,a4,f a5 (by decide),f K (by decide),L⟩
 ·obtain⟨M,R,a⟩:=h.rings c
  exact⟨M,R,a.E7,a.is,f a.op (by decide),fun j d=>f (a.kB j d) (by decide),fun i l=>f (a.ob i l) (by omega),fun i l=>f (a.og i l) (by omega),fun i l b o=>a.ub i l b (p o (by omega))⟩
 ·obtain⟨tv,a,g⟩:=h.stat c;exact⟨tv,a,fun j d=>f (g j d) (by decide)⟩
 ·obtain⟨tv,a,g⟩:=h.all c;exact⟨tv,a,fun j d=>f (g j d) (by decide)⟩
 ·obtain⟨tv,a,g⟩:=h.GG c;exact⟨tv,a,fun j d=>f (g j d) (by decide)⟩
 ·obtain⟨tv,a,g⟩:=h.FC c;exact⟨tv,a,fun j d=>f (g j d) (by decide)⟩
 ·obtain⟨tv,a,g⟩:=h.CA c;exact⟨tv,a,fun j d=>f (g j d) (by decide)⟩
 ·obtain⟨v,n,m,q,a,g,r,u,x⟩:=h.box c;exact⟨v,n,m,q,a,g,r,u,fun j d=>f (x j d) (by decide)⟩
 ·obtain⟨a,O,P,g,r,u,x⟩:=h.gs c i l
  exact⟨a,O,P,g,r,u,fun Q j d=>f (x Q j d) (by decide)⟩
theorem CC.Nj(h:CC mb V own w s)(g:i<s.ms.length)(o:Cv (fun j=>j=V.DP i) w w') (x:M1) (l:0≤x.g∧x.g≤s.gs.length) (m:Cx w' (V.DP i) (C8 V.CP i x) 125):CC mb V own w' {s with ms:=s.ms.set i x}:=by
 have a:=h.Kf (x:=13) (.inl rfl) o (fun j n=>by rw[n,h.ox i g,OJ]) (by decide);have d:(s.ms.set i x).length=s.ms.length:=by simp
 refine⟨a.fresh,a.om,a.prog,a.laid,h.hold,fun _=>a.LN (by decide),fun _=>by rw[d];exact a.LO (by decide),fun _=>a.EL (by decide),fun _=>a.IC (by decide),fun _=>a.rings (by decide),fun _=>a.stat (by decide),fun _=>a.all (by decide),fun _=>a.GG (by decide),fun _=>a.FC (by decide),fun _=>a.CA (by decide),fun _=>a.box (by decide),fun _=>a.gs (by decide),fun _ k c=>?_,fun k c=>?_,h.og,h.ug,fun k c=>h.ox k (by rw[d]at c;exact c),fun k c=>h.ux k (by rw[d]at c;exact c),h.lg,fun b k p=>by rw[d];exact h.lx b k p,by rw[d];exact h.Hm⟩
 ·rw[d]at c
  show Cx w' (V.DP k) (C8 V.CP k ((s.ms.set i x)[k]?.getD m0)) 125;rw[Kg];by_cases e:i=k
  ·subst e;rw[Ai ⟨rfl,c⟩];exact m
  ·rw[Ah (fun f=>e f.1)]
   refine(h.ms (by decide) k c).only o (fun q=>e ?_);have r:=h.ox i g;have a2:=h.ox k c;rw[show V.DP k=V.DP i from q]at a2;omega
 ·rw[d]at c
  show 0≤((s.ms.set i x)[k]?.getD m0).g∧((s.ms.set i x)[k]?.getD m0).g≤s.gs.length;rw[Kg];by_cases e:i=k
  ·subst e;rw[Ai ⟨rfl,c⟩];exact l
  ·rw[Ah (fun f=>e f.1)];exact h.mg k c
end
section
variable {mb:Nat} {V:Vr} {own:Nat→Nat} {w:oZ} {s:St}
variable {w' w:oZ} {own ri:Nat→Nat} {p rb:Nat} {rv:qY} {R:Nat→CV.Rn} {l:List Rs} {row:List Int}
theorem CC.MD(h:CC mb V own w s){f:Int}{l:List Pr}{e:rB}{tv:qY}(c: ∀j,Cw.Tf V.stat tv j→own j=6) (m:Cw.Dk V.stat tv l f w e w'):Da mb V own w (I U f) {s with stat:=l} e w':=by obtain⟨rfl,d,i,g,n⟩:=m;obtain⟨b,k,a2,a3,a4⟩:=tagged (t:=6) g.size h.fresh (fun j a=>i.lt a) (fun j a o=>(n j a).elim (c j) (fun x=>by omega));exact⟨rfl,b,(h.turn (x:=6) (.inl rfl) g (fun j a=>by rw[c j a];rfl) (by decide) k (fun j a=>(a3 j a).imp id (fun e=>by rw[e];decide)) a4).dN l ⟨d,i,a2⟩,g.mono (fun j _ a=>by rw[c j a];decide),k⟩
theorem CC.enter(h:CC mb V own w s)(p:Int):re prog 301 #[ptr V.stat,I U p] w (Da mb V own w (I U (Cw.Ed s.stat p (fun s a=>s==1))) {s with stat:=Cw.Di s.stat p (fun s a=>(2,a)) (fun s a=>s==1)}):=by obtain⟨tv,b,c⟩:=h.stat (by decide);exact(Cw.U3 _ _ _ p w b).mono (fun e w' d=>h.MD c d)
theorem CC.Qb(h:CC mb V own w s)(p:Int):re prog 172 #[ptr V.stat,I U p] w (Da mb V own w (I U (Cw.Ed s.stat p (fun s a=>s==1))) {s with stat:=Cw.Di s.stat p (fun s a=>(0,-1)) (fun s a=>s==1)}):=by obtain⟨tv,b,c⟩:=h.stat (by decide);exact(Cw.Ir _ _ _ p w b).mono (fun e w' d=>h.MD c d)
theorem CC.Qc(h:CC mb V own w s)(p:Int):re prog 173 #[ptr V.stat,I U p] w (Da mb V own w (I U (Cw.Ed s.stat p (fun s a=>Cw.FN s))) {s with stat:=Cw.Di s.stat p Cw.H5 (fun s a=>Cw.FN s)}):=by obtain⟨tv,b,c⟩:=h.stat (by decide);exact(Cw.XT _ _ _ p w b).mono (fun e w' d=>h.MD c d)
theorem CC.ni(h:CC mb V own w s)(p:Int):re prog 299 #[ptr V.stat,I U p] w (Da mb V own w (I U (Cw.Ed s.stat p (fun s a=>s==3))) {s with stat:=Cw.Di s.stat p (fun s a=>Cw.cJ a) (fun s a=>s==3)}):=by obtain⟨tv,b,c⟩:=h.stat (by decide);exact(Cw.iD _ _ _ p w b).mono (fun e w' d=>h.MD c d)
theorem CC.Qd(h:CC mb V own w s)(p m:Int):re prog 49 #[ptr V.stat,I U p,I U m] w (Da mb V own w (I U (Cw.gK s.stat p m (fun s a=>s==0))) {s with stat:=Cw.LS s.stat p m (fun s a=>(1,m)) (fun s a=>s==0)}):=by obtain⟨tv,b,c⟩:=h.stat (by decide);exact(Cw.Is _ _ _ p m w b).mono (fun e w' d=>h.MD c d)
theorem CC.dP(h:CC mb V own w s)(p:Int):re prog 58 #[ptr V.stat,I U p] w fun e w'=>e=rC (I U (Cw.FG s.stat p))∧w=w':=by obtain⟨tv,a,b⟩:=h.stat (by decide);exact Cw.FU _ _ _ p w a
theorem CC.jc(h:CC mb V own w s)(p:Int):re prog 59 #[ptr V.stat,I U p] w fun e w'=>e=rC (I U (Cw.Ic s.stat p))∧w=w':=by obtain⟨tv,a,b⟩:=h.stat (by decide);exact Cw.cH _ _ _ p w a
theorem CC.dQ(h:CC mb V own w s){S S':Nat→Prop}{L:List Int}(c: ∀j,S j→own j=7) (f:CY.Queue w' V.all S' L) (d:Cv S w w') (i:CY.Gr S S' w): ∃a,CC mb V a w' {s with all:=L}∧Ext own w a w'∧ ∀j,S' j→a j=7:=by obtain⟨a,g,a2,a3,a4⟩:=tagged (t:=7) d.size h.fresh (fun j b=>f.lt b) (fun j b k=>(i j b).elim (c j) (fun x=>by omega));exact⟨a,(h.turn (x:=7) (.inl rfl) d (fun j b=>by rw[c j b];rfl) (by decide) g (fun j b=>(a3 j b).imp id (fun e=>by rw[e];decide)) a4).YL L ⟨S',f,a2⟩,⟨d.mono (fun j _ b=>by rw[c j b];decide),g⟩,a2⟩
theorem CC.VL(h:CC mb V own w s)(u:qY)(l:List Int)(hu:DB w u l)(f:l≠[]→ ∀j,u.ownBlock=Z j→own j≠7) (g:s.all.length+l.length<10000000):re prog 243 #[ptr V.all,u] w (Da mb V own w (I U ((s.all++CY.right l).length:Nat)) {s with all:=s.all++CY.right l}):=by obtain⟨S,i,d⟩:=h.all (by decide);refine(CY.Yi _ S _ u l w i hu (fun b j k m=>f b j k (d j m)) g).mono ?_;rintro e w'⟨rfl,r,c,n,o⟩;obtain⟨a,p,q,_⟩:=h.dQ d c n o;exact⟨rfl,a,p,q⟩
theorem CC.YO(h:CC mb V own w s)(x:Int)(k:s.all.length<1000000):re prog 243 #[ptr V.all,Y (Z ⟨w.heap.size,0,N⟩) 1 1] (w.alloc (.cells #[I U x] 3)) fun e w'=>(∃n,e=rC (I U n))∧ ∃a,CC mb V a w' {s with all:=s.all++CY.right [x]}∧Ext own w a w':=by obtain⟨S,c,d⟩:=h.all (by decide);refine(CY.dd w _ S _ x c (by omega)).mono ?_;rintro e w'⟨⟨n,rfl⟩,l,b,f,g⟩;obtain⟨a,i,j,_⟩:=h.dQ d b f g;exact⟨⟨n,rfl⟩,a,i,j⟩
theorem CC.lq(h:CC mb V own w s)(k:s.all.length<1000000):re prog 240 #[ptr V.all] w (Da mb V own w (rG #[I U (s.all.headD 0),ry (!s.all.isEmpty)]) {s with all:=s.all.tail}):=by obtain⟨S,c,d⟩:=h.all (by decide);refine(CY.FU _ S _ w c (by omega)).mono ?_;rintro e w'⟨rfl,l,b,f,g⟩;obtain⟨a,i,j,_⟩:=h.dQ d b f g;exact⟨rfl,a,i,j⟩
def ME(mb:Nat)(V:Vr)(own:Nat→Nat)(w:oZ)(l:List Int)(s':St)(e:rB)(w':oZ):Prop:= ∃v,e=rC v∧CF w' w.heap.size v l∧ ∃a,CC mb V a w' s'∧Ext own w a w'∧ ∀j,v.ownBlock=Z j→a j=0
theorem CC.jd(h:CC mb V own w s)(p m:Int)(y:s.all.length<1000000):re prog 242 #[ptr V.all,I U p,I U m] w (ME mb V own w (s.all.take (FP s.all.length p m).toNat) {s with all:=s.all.drop (FP s.all.length p m).toNat}):=by
 obtain⟨S,r,n⟩:=h.all (by decide);refine(CY.Vo _ S _ p m w r (by omega)).mono ?_;rintro e w'⟨v,g,rfl,o,b,i,t,d⟩;classical
 obtain⟨f,z,k,q⟩:=h.dQ n b i t;refine⟨v,rfl,o,?_⟩;refine⟨fun j=>if w.heap.size≤j∧ ¬g j then 0 else f j,?_,⟨k.only,fun j a=>?_⟩,fun j a=>Ai ⟨(o.lt j a).1,d j a⟩⟩
 rotate_left
 ·rw[Ah (by omega)];exact k.same j a
 have u:=i;refine(h.turn (x:=7) (.inl rfl) i (fun j a=>by rw[n j a];rfl) (by decide) (fun j a=>?_) (fun j a=>?_) (fun j a=>?_)).YL _ ⟨g,b,fun j a=>?_⟩
 ·rw[Ah (by omega)];exact k.same j a
 ·by_cases c:g j
  ·rw[Ah (fun l=>l.2 c),q j c];right;decide
  ·rw[Ai ⟨a,c⟩];exact .inl rfl
 ·by_cases c:g j
  ·have:=b.lt c;omega
  ·rw[Ai ⟨AE i.size a,c⟩]
 ·rw[Ah (fun l=>l.2 a)];exact q j a
theorem CC.nW(h:CC mb V own w s)(b:s.all.length<1000000):re prog 284 #[ptr V.all] w fun e w'=>e=rC (I U s.all.length)∧ ∃n,w'=w.drewN n:=by obtain⟨S,a,c⟩:=h.all (by decide);exact CY.DT _ S _ w a (by omega)
theorem CC.lr(h:CC mb V own w s)(b:s.all.length<1000000):re prog 61 #[ptr V.all] w (CY.D9 s.all w):=by obtain⟨S,a,c⟩:=h.all (by decide);exact CY.Kb _ S _ w a (by omega)
theorem CC.nX(h:CC mb V own w s)(id:Int):re prog 48 #[ptr V.GG,I U id] w (Da mb V own w (ry (Idle.Yw 64 s.CK id)) {s with CK:=Idle.Ig 64 s.CK id}):=by obtain⟨g,f,a⟩:=h.GG (by decide);refine(Idle.EG _ g 64 _ id w f).mono ?_;rintro e w'⟨rfl,b,d⟩;exact⟨rfl,own,(h.Kf (x:=8) (.inl rfl) d (fun j c=>by rw[a j c];rfl) (by decide)).YM _ ⟨g,b,a⟩,Ext.loc d (fun j c _=>by rw[a j c];decide)⟩
theorem CC.je(h:CC mb V own w s)(id:Int):re prog 48 #[ptr V.FC,I U id] w (Da mb V own w (ry (Idle.Yw 256 s.CB id)) {s with CB:=Idle.Ig 256 s.CB id}):=by obtain⟨g,f,a⟩:=h.FC (by decide);refine(Idle.EG _ g 256 _ id w f).mono ?_;rintro e w'⟨rfl,b,d⟩;exact⟨rfl,own,(h.Kf (x:=9) (.inl rfl) d (fun j c=>by rw[a j c];rfl) (by decide)).YN _ ⟨g,b,a⟩,Ext.loc d (fun j c _=>by rw[a j c];decide)⟩
theorem CC.Ud(h:CC mb V own w s)(id:Int):re prog 191 #[ptr V.FC,I U id] w (Da mb V own w (ry (decide (id∈s.CB))) {s with CB:=s.CB.erase id}):=by obtain⟨g,f,a⟩:=h.FC (by decide);refine(Idle.My _ g 256 _ id w f).mono ?_;rintro e w'⟨rfl,b,d⟩;exact⟨rfl,own,(h.Kf (x:=9) (.inl rfl) d (fun j c=>by rw[a j c];rfl) (by decide)).YN _ ⟨g,b,a⟩,Ext.loc d (fun j c _=>by rw[a j c];decide)⟩
theorem CC.nY(h:CC mb V own w s):re prog 334 #[ptr V.GG] w (Da mb V own w (rG #[I U (s.CK.headD 0),ry (!s.CK.isEmpty)]) {s with CK:=s.CK.tail}):=by obtain⟨g,f,a⟩:=h.GG (by decide);refine(Idle.FU _ g 64 _ w f).mono ?_;rintro e w'⟨rfl,b,d⟩;exact⟨rfl,own,(h.Kf (x:=8) (.inl rfl) d (fun j c=>by rw[a j c];rfl) (by decide)).YM _ ⟨g,b,a⟩,Ext.loc d (fun j c _=>by rw[a j c];decide)⟩
theorem CC.nZ(h:CC mb V own w s):re prog 262 #[ptr V.GG] w fun e w'=>e=rC (I U s.CK.length)∧w=w':=by obtain⟨g,a,b⟩:=h.GG (by decide);exact Idle.DT _ g 64 _ w a
theorem CC.oa(h:CC mb V own w s):re prog 262 #[ptr V.FC] w fun e w'=>e=rC (I U s.CB.length)∧w=w':=by obtain⟨g,a,b⟩:=h.FC (by decide);exact Idle.DT _ g 256 _ w a
theorem CC.gP(h:CC mb V own w s):re prog 189 #[ptr V.FC] w fun e w'=>e=rC (rG #[I U (s.CB.headD 0),ry (!s.CB.isEmpty)])∧w=w':=by
 obtain⟨g,b,d⟩:=h.FC (by decide);cases c:s.CB with
 |nil=>rw[c]at b;exact Idle.PU _ g 256 w b
 |cons a x=>rw[c]at b;exact Idle.NA _ g 256 a x w b
theorem CC.YP(h:CC mb V own w s){v:qY}{ow:Int}{l:List Int}(c: ∀j,Dc.Sf V.CA v j→own j=10) (k:Dc.Sp V.CA ow v l w w'): ∃a,CC mb V a w' {s with owner:=ow,waits:=l}∧Ext own w a w':=by
 obtain⟨g,d,f,m⟩:=k;obtain⟨a,i,a2,a3,a4⟩:=tagged (t:=10) (S':=Dc.Sf V.CA g) f.size h.fresh (fun j b=>by rcases b with rfl|b;exact d.Dp.lt;exact d.live j b) (fun j b n=>by
  rcases b with rfl|b
  ·exact c _ (.inl rfl)
  ·exact(m j b).elim (fun x=>c j (.inr x)) (fun x=>by omega))
 exact⟨a,(h.turn (x:=10) (.inl rfl) f (fun j b=>by rw[c j b];rfl) (by decide) i (fun j b=>(a3 j b).imp id (fun e=>by rw[e];decide)) a4).dO ow l ⟨g,d,a2⟩,f.mono (fun j _ b=>by rw[c j b];decide),i⟩
theorem CC.acquire(h:CC mb V own w s)(g:Int)(b:s.waits.length<1000000):re prog 294 #[ptr V.CA,I U g] w (Da mb V own w (rG #[ry (Dc.Ni s.owner g),I U (Dc.YH g)]) {s with owner:=Dc.OD s.owner g,waits:=Dc.OE s.owner s.waits g}):=by obtain⟨v,c,d⟩:=h.CA (by decide);refine(Dc.P4 _ _ v _ g w c b).mono ?_;rintro e w'⟨rfl,f⟩;obtain⟨a,i,j⟩:=h.YP d f;exact⟨rfl,a,i,j⟩
theorem CC.jf(h:CC mb V own w s)(g:Int)(b:s.waits.length<1000000):re prog 261 #[ptr V.CA,I U g] w (Da mb V own w (rG #[I U (Dc.P5 s.owner s.waits g),I U (Dc.dJ s.owner g)]) {s with owner:=Dc.P6 s.owner s.waits g,waits:=Dc.P7 s.owner s.waits g}):=by obtain⟨v,c,d⟩:=h.CA (by decide);refine(Dc.Ir _ _ v _ g w c b).mono ?_;rintro e w'⟨rfl,f⟩;obtain⟨a,i,j⟩:=h.YP d f;exact⟨rfl,a,i,j⟩
def bW(R:Nat→CV.Rn)(i:Nat)(nx:Int)(row:List Int):Nat→CV.Rn:=fun k=>if k=i then⟨(R i).b,(R i).g,nx,row⟩else R k
theorem Lv(R:Nat→CV.Rn)(i:Nat)(nx:Int)(row:List Int)(k:Nat):(bW R i nx row k).b=(R k).b:=by
 unfold bW;by_cases e:k=i
 ·rw[Ai e,e]
 ·rw[Ah e]
theorem NF(R:Nat→CV.Rn)(i:Nat)(nx:Int)(row:List Int)(k:Nat):(bW R i nx row k).g=(R k).g:=by
 unfold bW;by_cases e:k=i
 ·rw[Ai e,e]
 ·rw[Ah e]
theorem Qa.set(h:Qa own ri w p rv R l)(i:Nat)(g:i<l.length){nx:Int}(hw:Ring.Rw w' (R i).b (R i).g 256 nx row)(o:Cv (Ring.Sg (R i).b (R i).g) w w'):Qa own ri w' p rv (bW R i nx row) (l.set i ⟨nx,row⟩):=by
 have d:(l.set i (⟨nx,row⟩:Rs)).length=l.length:=by simp
 refine⟨⟨?_,?_,?_,?_,?_,?_,?_⟩,?_,h.op,h.kB,?_,?_,?_⟩
 ·exact h.E7.Dp.only o (h.E7.rp i g)
 ·rw[d]
  have:CV.IB l.length (bW R i nx row)=CV.IB l.length R:=by unfold CV.IB;exact Zab fun k _=>by rw[Lv]
  rw[this];exact h.E7.own.off o (h.E7.Mv i g)
 ·intro k c
  rw[d]at c;rw[Lv,NF];by_cases e:k=i
  ·subst e;simp only[bW,BM];exact hw
  ·simp only[bW,Ah e]
   exact(h.E7.ring k c).only o (fun j q=>h.E7.Oz k i c g e j q)
 ·exact h.E7.R7
 ·intro k c;rw[d]at c;rw[Lv,NF];exact h.E7.rp k c
 ·intro k c;rw[d]at c;rw[Lv,NF];exact h.E7.Mv k c
 ·intro a b n f m;rw[d]at n f;rw[Lv,NF,Lv,NF];exact h.E7.Oz a b n f m
 ·intro k c
  rw[d]at c;rw[Kg];by_cases e:k=i
  ·subst e;simp[c,bW]
  ·rw[Ah (fun r=>e r.1.symm)];simp only[bW,Ah e];exact h.is k c
 ·intro k c;rw[d]at c;rw[Lv];exact h.ob k c
 ·intro k c;rw[d]at c;rw[NF];exact h.og k c
 ·intro k c b f;rw[d]at c;rw[Lv];exact h.ub k c b f
theorem CC.ring(h:CC mb V own w s)(p:Nat)(c:p<s.rings.length):re prog 50 #[ptr V.procs,I U p] w fun e w'=>(∃b,e=rC (ptr b)∧own b=23+5*V.Gw p)∧w=w':=by obtain⟨rv,R,a⟩:=h.rings (by decide);refine(CV.PO _ rv _ R p w a.E7).mono ?_;rintro e w'⟨rfl,rfl⟩;refine⟨⟨(R p).b,?_,a.ob p c⟩,rfl⟩;unfold CV.T4;rw[Ai ⟨by omega,by omega⟩,An]
theorem CC.NG(h:CC mb V own w s):re prog 57 #[ptr V.procs] w fun e w'=>e=rC (I U s.rings.length)∧w=w':=by obtain⟨rv,R,a⟩:=h.rings (by decide);exact CV.DT _ rv _ R w a.E7
def Sv(l:List Rs):Nat→Nat
 |0=>0
 |n+1=>Sv l n+(Ring.C3 (l[n]?.getD r0).CG (l[n]?.getD r0).row).length
theorem Qa.PR(h:Qa own ri w p rv R l)(n:Nat)(b:n≤l.length):CV.PR R n=Sv l n:=by
 induction n with
 |zero=>rfl
 |succ n a=>simp only[CV.PR,Sv,a (by omega),CV.Vx,(h.is n (by omega)).1,(h.is n (by omega)).2]
theorem CC.total(h:CC mb V own w s):re prog 292 #[ptr V.procs] w fun e w'=>e=rC (I U (Sv s.rings s.rings.length))∧ ∃m,w'=w.drewN m:=by obtain⟨rv,R,a⟩:=h.rings (by decide);rw[←a.PR _ (Al _)];exact CV.Vy _ rv _ R w a.E7 h.Hm.2.2
def Ue(l:List Rs):List (List Int):=l.map fun r=>Ring.C3 r.CG r.row
theorem Qa.qs(h:Qa own ri w p rv R l):CV.qs R l.length=Ue l:=by
 unfold CV.qs Ue;apply Zbl
 ·simp
 ·intro i c b
  have a:i<l.length:=by simpa using b
  have:=h.is i a;simp only[Zbm,Zb8,this.1,this.2];rw[Ae a];rfl
theorem CC.YQ(h:CC mb V own w s):re prog 60 #[ptr V.procs] w (CV.Ys (Ue s.rings) w):=by obtain⟨rv,R,a⟩:=h.rings (by decide);rw[←a.qs];exact CV.R8 _ rv _ R w a.E7 h.Hm.2.2
def D5(s:St)(p:Nat):Rs:=s.rings[p]?.getD r0
theorem CC.gQ(h:CC mb V own w s)(a:Qa own V.Gw w V.procs rv R s.rings)(b:p<s.rings.length){nx:Int}(hw:Ring.Rw w' (R p).b (R p).g 256 nx row)(o:Cv (Ring.Sg (R p).b (R p).g) w w'):CC mb V own w' {s with rings:=s.rings.set p ⟨nx,row⟩}∧Ext own w own w':=by
 have d: ∀j,Ring.Sg (R p).b (R p).g j→kind (own j)=5∧own j≠0∧own j≠14:=by
  rintro j(rfl|rfl)
  ·rw[a.ob p b];exact⟨OK _,by omega⟩
  ·rw[a.og p b];exact⟨OL _,by omega⟩
 exact⟨(h.Kf (x:=5) (.inl rfl) o (fun j c=>(d j c).1) (by decide)).YK _ (by rw[AV];exact h.Hm.2.2) ⟨rv,_,a.set p b hw o⟩,Ext.loc o (fun j c _=>(d j c).2)⟩
theorem CC.dR(h:CC mb V own w s)(b:Qa own V.Gw w V.procs rv R s.rings)(c:p<s.rings.length){nx:Int}{out:List Int}{e:rB}(d:Ring.Fq (R p).b (R p).g 256 nx row out w e w'):ME mb V own w out {s with rings:=s.rings.set p ⟨nx,row⟩} e w':=by obtain⟨v,rfl,a,hw,o⟩:=d;obtain⟨f,g⟩:=h.gQ b c hw o;exact⟨v,rfl,a,own,f,g,fun j i=>h.fresh j (a.lt j i).1⟩
theorem CC.lu(h:CC mb V own w s)(b:p<s.rings.length)(d:own rb=23+5*V.Gw p)(x:Int)(a:Bool):re prog 51 #[ptr rb,I U x,ry a] w (ME mb V own w (Ring.Mt 256 (D5 s p).CG (D5 s p).row x a) {s with rings:=s.rings.set p ⟨Ring.Ng (D5 s p).CG x a,Ring.Ov 256 (D5 s p).CG (D5 s p).row x a⟩}):=by obtain⟨rv,R,c⟩:=h.rings (by decide);rw[c.ub p b rb d];have hw:=c.E7.ring p b;rw[(c.is p b).1,(c.is p b).2]at hw;exact(Ring.EG _ _ _ _ _ x a w hw).mono (fun e w' f=>h.dR c b f)
theorem CC.lv(h:CC mb V own w s)(a:p<s.rings.length)(c:own rb=23+5*V.Gw p):re prog 246 #[ptr rb] w (ME mb V own w (Ring.IA (D5 s p).CG (D5 s p).row) {s with rings:=s.rings.set p ⟨Ring.Ex (D5 s p).CG (D5 s p).row,Ring.EM (D5 s p).row⟩}):=by obtain⟨rv,R,b⟩:=h.rings (by decide);rw[b.ub p a rb c];have hw:=b.E7.ring p a;rw[(b.is p a).1,(b.is p a).2]at hw;exact(Ring.Ym _ _ _ _ _ w hw).mono (fun e w' d=>h.dR b a d)
theorem CC.jg(h:CC mb V own w s)(a:p<s.rings.length)(c:own rb=23+5*V.Gw p):re prog 300 #[ptr rb] w (ME mb V own w (Ring.C3 (D5 s p).CG (D5 s p).row) {s with rings:=s.rings.set p ⟨0,[]⟩}):=by obtain⟨rv,R,b⟩:=h.rings (by decide);rw[b.ub p a rb c];have hw:=b.E7.ring p a;rw[(b.is p a).1,(b.is p a).2]at hw;exact(Ring.Nz _ _ _ _ _ w hw).mono (fun e w' d=>h.dR b a d)
theorem CC.Uf(h:CC mb V own w s)(a:p<s.rings.length)(d:own rb=23+5*V.Gw p)(u:qY)(l:List Int)(hu:DB w u l)(f:l≠[]→ ∀j,u.ownBlock=Z j→own j=0) (m:l.length<1000000):re prog 244 #[ptr rb,u] w (ME mb V own w (Ring.Ia 256 (D5 s p).row l) {s with rings:=s.rings.set p ⟨(D5 s p).CG,Ring.Jo 256 (D5 s p).row l⟩}):=by
 obtain⟨rv,R,b⟩:=h.rings (by decide);rw[b.ub p a rb d];have hw:=b.E7.ring p a;rw[(b.is p a).1,(b.is p a).2]at hw;refine(Ring.Yo _ _ _ _ _ u l w hw hu (fun c j g i=>?_) (by omega)).mono (fun e w' k=>h.dR b a k);have:=f c j g;rcases i with rfl|rfl
 ·rw[b.ob p a]at this;omega
 ·rw[b.og p a]at this;omega
theorem CC.oc(h:CC mb V own w s)(a:p<s.rings.length)(c:own rb=23+5*V.Gw p):re prog 241 #[ptr rb] w (Da mb V own w (rG #[I U (Ring.R6 (D5 s p).CG (D5 s p).row),ry (Ring.KQ (D5 s p).CG (D5 s p).row)]) {s with rings:=s.rings.set p ⟨0,Ring.FA (D5 s p).CG (D5 s p).row⟩}):=by obtain⟨rv,R,b⟩:=h.rings (by decide);rw[b.ub p a rb c];have hw:=b.E7.ring p a;rw[(b.is p a).1,(b.is p a).2]at hw;refine(Ring.FU _ _ _ _ _ w hw).mono ?_;rintro e w'⟨rfl,hw',o⟩;obtain⟨d,f⟩:=h.gQ b a hw' o;exact⟨rfl,own,d,f⟩
def Kh(l:List (Option Int))(m:Nat)(due:Int):List (Option Int):=match l[m]?.getD N with
 |none=>l.set m (Z due)
 |some d=>if due<d then l.set m (Z due)else l
def Ih(l:List (Option Int))(m:Nat)(now:Int):Bool:=match l[m]?.getD N with
 |none=>rm
 |some d=>decide (d≤now)
def Ki(l:List (Option Int))(m:Nat)(now:Int):List (Option Int):=if Ih l m now then l.set m N else l
end
end Go.Proofs.YtgadhchejmlfjaaGreatDoor.CX
