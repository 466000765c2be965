/- A part of the proof. -/
import Derived.Test.YtgadhchejmlfjaaGreatDoorC1
set_option linter.unusedVariables false
set_option maxRecDepth 20000
set_option maxHeartbeats 16000000
open Go.Value renaming int→I,pointer→J,slice→Y
open Go.IntKind renaming i64→U
open Option renaming none→N,some→Z
open Bool renaming false→rm,true→rq
open Go renaming Calls→re,TypeId→rA,Value→qY,World→oZ
open Go.Ending renaming returned→rC
open Go.Obj renaming cells→rD
open Go.RowKit renaming Below→qZ
open Go.RowKit.Below renaming drew→rk,refl→rf
open Go.Value renaming agg→rE,bool→ry,string→rF,tuple→rG
namespace Go.Proofs.YtgadhchejmlfjaaGreatDoor.FM
open Go.Proofs.Tryz Go.RowKit Go.CL
open DX (row rows Laid Df)
open Vm (CN)
section
open Pm (K3 QR)
variable {w w0 w' W3 W5 Wa Wb W w3:oZ} {base size n j g pb ib:Nat} {e t:rA} {v cv sv S7 XE v':qY} {xs ys zs:List qY} {l:List CN} {sf:List Bool} {i:CN} {cs:Array qY}
def Ik(i:CN):List Value:=[I U i.op,I U i.a,I U i.b,I U i.c,I U i.n]
def GO(l:List CN):List Value:=l.flatMap Ik
def IP(l:List Bool):List Value:=l.map ry
theorem S8(l:List CN)(i:CN):GO (l++[i])=GO l++Ik i:=by simp[GO]
theorem S9(l:List Bool)(i:Bool):IP (l++[i])=IP l++[ry i]:=by simp[IP]
structure JZ (w0:oZ) (g:Nat) (cv sv:qY) (l:List CN) (sf:List Bool) (w:oZ):Prop where
 below:qZ w0.heap.size w0 w
 fn: ∃cur,Cx w g cur 87∧cur[0]?=Z cv∧cur[1]?=Z sv
 ge:w0.heap.size≤g
 code:w.ownsRow w0.heap.size 84 5 cv l.length (GO l)
 safe:w.ownsRow w0.heap.size 4 1 sv sf.length (IP sf)
theorem De(h:w.ownsRow base e size v n xs)(a:v.ownBlock=Z j): ∃cs,Cx w j cs e:=by
 obtain⟨_,⟨rfl,_⟩|⟨g,cap,cur,rfl,_,b,_⟩⟩:=h
 ·cases a
 ·cases a;exact⟨cur,b⟩
theorem C4{a b:Array qY}{s:rA}(d:Cx w j a s)(c:Cx w j b t):s=t:=by unfold Cx at d c;rw[d]at c;cases c;rfl
theorem JZ.go(h:JZ w0 g cv sv l sf w)(a:qZ w.heap.size w w'):JZ w0 g cv sv l sf w':=by obtain⟨cur,b,c,d⟩:=h.fn;exact⟨h.below.trans (a.mono h.below.size),⟨cur,b.below a b.lt,c,d⟩,h.ge,CJ h.code a,CJ h.safe a⟩
theorem JZ.cg(h:JZ w0 g cv sv l sf w):cv.ownBlock≠Z g:=fun e=>by obtain⟨cs,a⟩:=De h.code e;obtain⟨cur,b,_⟩:=h.fn;exact absurd (C4 a b) (by decide)
theorem JZ.sg(h:JZ w0 g cv sv l sf w):sv.ownBlock≠Z g:=fun e=>by obtain⟨cs,a⟩:=De h.safe e;obtain⟨cur,b,_⟩:=h.fn;exact absurd (C4 a b) (by decide)
theorem JZ.app{s:Bool}(h:JZ w0 g cv sv l sf w)(C:qZ w.heap.size w Wa)(f:Dn Wa w0.heap.size 84 5 cv l.length (GO l) (Ik i) S7 W3)(k:qZ W3.heap.size W3 Wb)(p:Dn Wb w0.heap.size 4 1 sv sf.length (IP sf) [ry s] XE W5):JZ w0 g S7 XE (l++[i]) (sf++[s]) ((W5.setCell ⟨g,0,N⟩ S7).setCell ⟨g,1,N⟩ XE):=by
 obtain⟨cur,G,H,K⟩:=h.fn;have b:=h.go C;obtain⟨a,k1,k2,k3⟩:=b.fn;have m:Cx W3 g a 87:=k1.kept f.2.1 (fun e=>b.cg e.symm);have d:Cx W5 g a 87:=(m.below k m.lt).kept p.2.1 (fun e=>b.sg e.symm);have n:W5.ownsRow w0.heap.size 84 5 S7 (l++[i]).length (GO (l++[i])):=by
  rw[S8,Aw];refine(CJ f.1 k).kept p.2.1 ?_;by_cases e:S7.ownBlock=N
  ·exact .inl e
  ·right
   intro r;obtain⟨j,c⟩:=Option.ne_none_iff_exists'.1 e;obtain⟨cs,D⟩:=De (CJ f.1 k) c;rw[c]at r;obtain⟨t,y⟩:=De b.safe r.symm;have z:Cx W3 j t 4:=y.kept f.2.1 (fun u=>by obtain⟨E,F⟩:=De b.code u.symm;exact absurd (C4 y F) (by decide));exact absurd (C4 D (z.below k z.lt)) (by decide)
 have o:W5.ownsRow w0.heap.size 4 1 XE (sf++[s]).length (IP (sf++[s])):=by rw[S9,Aw];exact p.1
 have v:S7.ownBlock≠Z g:=fun e=>by obtain⟨cs,q⟩:=De n e;exact absurd (C4 q d) (by decide)
 have x:XE.ownBlock≠Z g:=fun e=>by obtain⟨cs,q⟩:=De o e;exact absurd (C4 q d) (by decide)
 have A:Cv (fun j=>j=g) W5 ((W5.setCell ⟨g,0,N⟩ S7).setCell ⟨g,1,N⟩ XE):=(Cv.set (S:=fun j=>j=g) (Cv.refl _ _) (.inr rfl) _ _).set (.inr rfl) _ _;have L:2≤a.size:=by have:=(Bi.1 k3).1;omega
 refine⟨?_,⟨(a.setIfInBounds 0 S7).setIfInBounds 1 XE,(d.set 0 S7).set 1 XE,?_,?_⟩,h.ge,Dd n A (fun j c e=>v (by rw[c,show j=g from e])),Dd o A (fun j c e=>x (by rw[c,show j=g from e]))⟩
 ·have B:=CI (b.below) f.2.1 (fun j c=>(Az b.code j c).1)
  have r:=B.trans (k.mono B.size);have u:=CI r p.2.1 (fun j c=>(Az b.safe j c).1);exact(u.setCell h.ge _).setCell h.ge _
 ·simp[show 0<a.size by omega]
 ·simp[show 1<a.size by omega]
def ZY(w0:oZ)(i:CN)(s:Bool):Prop:= ∀W,qZ w0.heap.size w0 W→re prog 272 #[rF ⟨(Ew i s).toArray⟩] W fun e w'=>e=rC (rG #[rE #[I U i.op,I U i.a,I U i.b,I U i.c,I U i.n],ry s,ry rq])∧qZ W.heap.size W w'
def GP(l:List CN)(sf:List Bool)(k:Nat):List UInt8:=(List.range (l.length-k)).flatMap fun j=>Ew (l[k+j]?.getD ⟨0,0,0,0,0⟩) (sf[k+j]?.getD rm)++[10]
theorem JQ(l:List CN)(sf:List Bool)(k:Nat)(h:k<l.length):GP l sf k=Ew (l[k]?.getD ⟨0,0,0,0,0⟩) (sf[k]?.getD rm)++10::GP l sf (k+1):=by unfold GP;obtain⟨m,hm⟩: ∃m,l.length-k=m+1:=⟨l.length-k-1,by omega⟩;rw[hm,show l.length-(k+1)=m by omega,List.range_succ_eq_map,BD,List.flatMap_map];simp only[Zb3,AR,List.singleton_append];congr 2;congr 1;funext j;rw[show k+Nat.succ j=k+1+j by omega]
theorem NZ(l:List CN)(sf:List Bool)(h: ∀i∈l,Mp i=rq): ∀n k,l.length-k=n→(GP l sf k).length≤n*2101
 |0,k,e=>by unfold GP;rw[e];simp
 |n+1,k,e=>by
  have a:k<l.length:=by omega
  rw[JQ l sf k a,Aw,AB];have b:=NZ l sf h n (k+1) (by omega);have c:=KM (l[k]?.getD ⟨0,0,0,0,0⟩) (sf[k]?.getD rm) (by rw[Ae a];exact h _ (BI a));omega
theorem MV{α:Type}(l:List α)(k:Nat)(d:α)(h:k<l.length):l.take (k+1)=l.take k++[l[k]?.getD d]:=by rw[Ca,Ae h];rfl
theorem Ta(l:List CN)(sf:List Bool):GP l sf 0=EB l sf l.length:=by simp[GP,EB]
theorem WK(l:List CN)(sf:List Bool):GP l sf l.length=[]:=by simp[GP]
theorem QS(a b:List UInt8)(w:oZ)(h:(10:UInt8)∉a)(c:(a++10::b).length≤1000000)(hm:Mx w):re prog 271 #[rF ⟨(a++10::b).toArray⟩,rF ⟨#[10]⟩] w fun e w'=>e=rC (rG #[rF ⟨a.toArray⟩,rF ⟨b.toArray⟩,ry rq])∧qZ w.heap.size w w':=by obtain⟨m,hm⟩:=hm;refine(F2.cut ⟨(a++10::b).toArray⟩ ⟨#[10]⟩ m w (by show(a++10::b).toArray.size<_;simp only[Bd];omega) hm).mono ?_;rintro e w'⟨rfl,n,rfl⟩;rw[show(⟨(a++10::b).toArray⟩:ByteArray).data.toList=a++10::b by simp,show(⟨#[10]⟩:ByteArray).data.toList=[10]from rfl,TK 10 a b h];exact⟨rfl,BX (rf _ _) n⟩
theorem mE(w:oZ)(x y:qY)(t:rA): ∀(j:Nat)(u:qY),[x,y][j]?=Z u→(w.alloc (rD #[x,y] t)).cell? ((⟨w.heap.size,0,N⟩:Addr).add j)=Z u:=by have h:=Cx.new w #[x,y] t;intro j u hu;rw[show((⟨w.heap.size,0,N⟩:Addr).add j)=⟨w.heap.size,j,N⟩from by rw[Ay,AO]];rw[h.cell j,←hu];simp
theorem JZ.start(f:qZ w0.heap.size w0 W)(b:Dn W w0.heap.size 87 2 (Y N 0 0) 0 [] [Y N 0 0,Y N 0 0] v' w3): ∃g cap,v'=Y (Z ⟨g,0,N⟩) 1 cap∧JZ w0 g (Y N 0 0) (Y N 0 0) [] [] w3∧W.heap.size≤g:=by
 have h:=b.1;obtain⟨_,⟨_,i⟩|⟨g,cap,cur,rfl,c,k,n,hm,o,l⟩⟩:=h
 ·cases i
 ·have d:Cx w3 g cur 87:=k
  have a:cur.toList.take 2=[Y N 0 0,Y N 0 0]:=l;have p:2≤cur.toList.length:=by have:=Aq List.length a;rw[AN]at this;simp only[AB,AF]at this;omega
  refine⟨g,cap,rfl,⟨CI f b.2.1 (fun j m=>by cases m),⟨cur,d,?_,?_⟩,c,AL _ _ _ _,AL _ _ _ _⟩,?_⟩
  ·rw[←AW,←AK (show 0<2 by decide),a];rfl
  ·rw[←AW,←AK (show 1<2 by decide),a];rfl
  ·rcases b.2.2 g rfl with e|e
   ·cases e
   ·exact e
theorem JZ.cB(h:JZ w0 g cv sv l sf W)(a:Dn W w0.heap.size 84 5 cv l.length (GO l) ys S7 W3):W3.ownsRow w0.heap.size 4 1 sv sf.length (IP sf)∧ ∃cur,Cx W3 g cur 87∧cur[0]?=Z cv∧cur[1]?=Z sv:=by
 obtain⟨cur,d,f,i⟩:=h.fn;refine⟨h.safe.kept a.2.1 ?_,cur,d.kept a.2.1 (fun e=>h.cg e.symm),f,i⟩;by_cases e:sv.ownBlock=N
 ·exact .inl e
 ·right
  intro b;obtain⟨j,c⟩:=Option.ne_none_iff_exists'.1 e;obtain⟨cs,k⟩:=De h.safe c;rw[c]at b;obtain⟨m,n⟩:=De h.code b.symm;exact absurd (C4 k n) (by decide)
theorem JZ.mF(h:JZ w0 g cv sv l sf w)(i:Cx w pb cs 26)(j:qZ w.heap.size w Wa)(k:Dn Wa w0.heap.size 84 5 cv l.length (GO l) ys S7 W3)(f:qZ W3.heap.size W3 Wb)(m:Dn Wb w0.heap.size 4 1 sv sf.length (IP sf) zs XE W5):Cx ((W5.setCell ⟨g,0,N⟩ S7).setCell ⟨g,1,N⟩ XE) pb cs 26∧ ∃cur,Cx W5 g cur 87∧cur[0]?=Z cv∧cur[1]?=Z sv:=by
 have a:=h.go j;have p0:=i.below j i.lt;obtain⟨m1,cur,m2,m3,m4⟩:=a.cB k;have n:Cx W3 pb cs 26:=p0.kept k.2.1 (fun e=>by obtain⟨o,q⟩:=De a.code e.symm;exact absurd (C4 q p0) (by decide));have p4:=n.below f n.lt;have b:=CJ m1 f;have p:Cx W5 pb cs 26:=p4.kept m.2.1 (fun e=>by obtain⟨o,q⟩:=De b e.symm;exact absurd (C4 q p4) (by decide));have c:=m2.below f m2.lt;have m5:Cx W5 g cur 87:=c.kept m.2.1 (fun e=>by obtain⟨o,q⟩:=De b e.symm;exact absurd (C4 q c) (by decide));have d:pb≠g:=fun e=>by subst e;exact absurd (C4 p m5) (by decide)
 exact⟨(p.setOther d _).setOther d _,cur,m5,m3,m4⟩
theorem mG(a:Dn Wa base e size v n xs ys v' w3)(b:qZ W.heap.size W Wa):qZ W.heap.size W Wa∧Dn Wa base e size v n xs ys v' w3:=⟨b,a⟩
theorem JZ.VX(h:JZ w0 g cv sv l sf w)(a:Cx w pb cs 26)(b:w0.heap.size≤pb)(i:Nat)(u:qY):JZ w0 g cv sv l sf (w.setCell ⟨pb,i,N⟩ u):=by
 obtain⟨cur,f,k,m⟩:=h.fn;have o:Cv (fun j=>j=pb) w (w.setCell ⟨pb,i,N⟩ u):=Cv.set (S:=fun j=>j=pb) (Cv.refl _ _) (.inr rfl) _ _;have c:g≠pb:=fun e=>by subst e;exact absurd (C4 f a) (by decide)
 refine⟨h.below.setCell b _,⟨cur,f.setOther c _,k,m⟩,h.ge,Dd h.code o (fun j d e=>?_),Dd h.safe o (fun j d e=>?_)⟩
 ·obtain⟨n,q⟩:=De h.code d
  rw[show j=pb from e]at q;exact absurd (C4 q a) (by decide)
 ·obtain⟨n,q⟩:=De h.safe d
  rw[show j=pb from e]at q;exact absurd (C4 q a) (by decide)
theorem LG{b:Nat}(h:Cx W b ys.toArray t): ∀(j:Nat)(u:qY),ys[j]?=Z u→W.cell? ((⟨b,0,N⟩:Addr).add j)=Z u:=by intro j u hu;rw[show((⟨b,0,N⟩:Addr).add j)=⟨b,j,N⟩from by rw[Ay,AO],h.cell j];simpa using hu
theorem Cx.MK(w:oZ)(o:Obj)(cs:Array qY)(t:rA):Cx ((w.alloc o).alloc (rD cs t)) (w.heap.size+1) cs t:=by have:=Cx.new (w.alloc o) cs t;simpa using this
def N0(g ib:Nat)(cv sv:qY)(i:CN)(w:oZ):Prop:=w.cell? ⟨g,0,N⟩=Z cv∧w.cell? ⟨g,1,N⟩=Z sv∧w.cell? ⟨ib,0,N⟩=Z (I U i.op)∧w.cell? ⟨ib,1,N⟩=Z (I U i.a)∧w.cell? ⟨ib,2,N⟩=Z (I U i.b)∧w.cell? ⟨ib,3,N⟩=Z (I U i.c)∧w.cell? ⟨ib,4,N⟩=Z (I U i.n)
theorem N0.of{cur:Array qY}(b:Cx w g cur 87)(c:cur[0]?=Z cv)(d:cur[1]?=Z sv)(a:Cx w ib (Ik i).toArray 84):N0 g ib cv sv i w:=⟨(b.cell 0).trans c,(b.cell 1).trans d,a.cell 0,a.cell 1,a.cell 2,a.cell 3,a.cell 4⟩
theorem N0.below(h:N0 g ib cv sv i w)(m:g<w.heap.size)(l:ib<w.heap.size)(j:qZ w.heap.size w w'):N0 g ib cv sv i w':=by obtain⟨a,b,c,d,e,f,k⟩:=h;exact⟨(j.cell m).trans a,(j.cell m).trans b,(j.cell l).trans c,(j.cell l).trans d,(j.cell l).trans e,(j.cell l).trans f,(j.cell l).trans k⟩
theorem N0.cB(h:JZ w0 g cv sv l sf W)(b:Cx W ib (Ik i).toArray 84)(a: ∀j,cv.ownBlock=Z j→j<ib) (c:qZ W.heap.size W Wa) (d:Dn Wa w0.heap.size 84 5 cv l.length (GO l) ys S7 W3):N0 g ib cv sv i W3∧Cx W3 ib (Ik i).toArray 84∧g<W3.heap.size:=by obtain⟨m1,cur,m2,m3,m4⟩:=(h.go c).cB d;have f:Cx W3 ib (Ik i).toArray 84:=(b.below c b.lt).kept d.2.1 (fun e=>by have:=a _ e.symm;omega);exact⟨N0.of m2 m3 m4 f,f,m2.lt⟩
theorem N0.end(h:JZ w0 g cv sv l sf W)(n:Cx W pb cs 26)(o:Cx W ib (Ik i).toArray 84)(a: ∀j,cv.ownBlock=Z j→j<ib) (b:qZ W.heap.size W Wa) (c:Dn Wa w0.heap.size 84 5 cv l.length (GO l) ys S7 W3) (d:qZ W3.heap.size W3 Wb) (f:Dn Wb w0.heap.size 4 1 sv sf.length (IP sf) zs XE W5):N0 g ib cv sv i W5:=by obtain⟨_,cur,p,r,n3⟩:=h.mF n b c d f;obtain⟨_,k,_⟩:=N0.cB h o a b c;have m:=k.below d k.lt;have m1:=CJ ((h.go b).cB c).1 d;exact N0.of p r n3 (m.kept f.2.1 (fun e=>by obtain⟨s,q⟩:=De m1 e.symm;exact absurd (C4 q m) (by decide)))
def qu(w:oZ)(l:List CN)(sf:List Bool)(pb:Nat)(v0 v3:qY)(wr:oZ):Prop:=
 (v0=rF ⟨(Ix++EB l sf l.length).toArray⟩∧v3=I U 1∧Cx wr pb #[Y N 0 0] 26∧qZ w.heap.size w wr)∨
 ∃(k g cap:Nat)(cv sv:qY),k≤l.length∧v0=rF ⟨(GP l sf k).toArray⟩∧v3=I U ((k:Int)+2)∧Cx wr pb #[Y (Z ⟨g,0,N⟩) 1 cap] 26∧g≠pb∧JZ w g cv sv (l.take k) (sf.take k) wr
theorem Tc(l:List CN)(sf:List Bool)(w:oZ)(hlen:sf.length=l.length)(ad:l.length≤64)(hm:Mx w)(ae: ∀i∈l,Mp i=rq) (af: ∀k,k<l.length→ZY w (l[k]?.getD ⟨0,0,0,0,0⟩) (sf[k]?.getD rm)) (ag: ∀k,k<l.length→(10:UInt8)∉Ew (l[k]?.getD ⟨0,0,0,0,0⟩) (sf[k]?.getD rm)) (ah: ∀k,k<l.length→(Ew (l[k]?.getD ⟨0,0,0,0,0⟩) (sf[k]?.getD rm)== [102,117,110,99])=rm):re prog 207 #[rF ⟨(Ix++EB l sf l.length).toArray⟩] w fun e w'=> ∃g cap cv sv,e=rC (rG #[rE #[Y (Z ⟨g,0,N⟩) 1 cap],I U 0,I U 0])∧JZ w g cv sv l sf w':=by
 have p:=Aa (Ab hlen (Ab ad (Ab hm (Ab ae (Ab af (Ab ag ah))))));have hb:=Cx.new w #[Y N 0 0] 26;clear hlen ad hm ae af ag ah;go_enter func207,ntmps207;go_wp2;go_step3;go_wp2;go_step3;go_wp2;have a1:=Aa hb;clear hb;go_loopw [0,3] (fun v0 v3 wr=>qu w l sf w.heap.size v0 v3 wr) (fun _ t _=>l.length+2-(intOf t).toNat)
 case atStart=>exact .inl ⟨rfl,rfl,a1.out,Ct (rf _ _) _⟩
 case round=>
  rcases hrel with⟨rfl,rfl,A,q⟩|⟨k,g,cap,cv,sv,hk,rfl,rfl,A,B,z⟩
  ·have Q:=I1 l sf p.out.2.2.2.1 l.length (Al _)
   have h6:l.length*2101≤64*2101:=Cs _ p.out.2.1;have P:=Aa (QS [102,117,110,99] (EB l sf l.length) wr (by decide) (by simp only[Aw,AB,AF];omega) (p.out.2.2.1.below q));rw[show Ix++EB l sf l.length=[102,117,110,99]++10::EB l sf l.length from rfl];have C:=Aa (Ab A q);have R:Hid (GP l sf 0=EB l sf l.length):=Ta l sf;clear Q h6 A q;generalize EB l sf l.length=ct at*
   go_wp2_with(first|(go_at_call 271;refine P.out.mono ?_;rintro e S⟨rfl,m⟩;have o:=C.out.1.below m C.out.1.lt;have D:=Aa (Ab o (C.out.2.trans (m.mono C.out.2.size)));have q0:=o.cell 0;have a6:=o.lt;simp only[Ad,Ac]at q0;clear m o)|(at_builtin;refine Jg underlying24 Pm.OW rfl (by decide) (by decide) w.heap.size _ rfl _ _ rfl (Y N 0 0) 0 [] ⟨S.heap.size,0,N⟩ 1 [Y N 0 0,Y N 0 0] rfl rfl (.inl (AL _ _ _ _)) rfl (mE S _ _ 87) (by simp[Value.oneCell']) (by have:=D.out.2.size;simp;omega) (by decide) ?_;intro v' w3 u;obtain⟨g,cap,rfl,z,ai⟩:=JZ.start (Ct D.out.2 _) u;have h3:=(D.out.1.below (Ct (rf S.heap.size S) (rD #[Y N 0 0,Y N 0 0] 87)) D.out.1.lt).kept u.2.1 (by simp[Value.ownBlock]);have HF:=Aa (Ab z (Ab ai h3));have q1:=h3.cell 0;have f1:=h3.free 0;simp only[Ad,Ac]at q1;clear u z ai h3));refine⟨.inr ⟨0,g,cap,Y N 0 0,Y N 0 0,Ap _,by rw[R.out],by go_num,HF.out.2.2.set 0 _,?_,?_⟩,by simp[intOf]⟩
   ·have o:=HF.out.2.1
    have E:=a6;rw[show(S.alloc (rD #[Y N 0 0,Y N 0 0] 87)).heap.size=S.heap.size+1 by simp]at o;omega
   ·exact HF.out.1.VX HF.out.2.2 (Al _) 0 _
  ·by_cases b:k<l.length
   ·have Q:=I1 l sf p.out.2.2.2.1 l.length (Al _)
    have a7:(GP l sf k).length≤64*2101:=by have q1:=NZ l sf p.out.2.2.2.1 _ k rfl;have q2:=p.out.2.1;omega
    have P:=QS (Ew (l[k]?.getD ⟨0,0,0,0,0⟩) (sf[k]?.getD rm)) (GP l sf (k+1)) wr (p.out.2.2.2.2.2.1 k b) (by rw[←JQ l sf k b];omega) (p.out.2.2.1.below z.below);have r:=p.out.2.2.2.2.1 k b;have aj:=p.out.2.2.2.2.2.2 k b;rw[JQ l sf k b];obtain⟨i,hi⟩: ∃i,l[k]?.getD ⟨0,0,0,0,0⟩=i:=⟨_,rfl⟩;obtain⟨s,hs⟩: ∃s,sf[k]?.getD rm=s:=⟨_,rfl⟩;rw[hi,hs]at P r aj⊢;unfold ZY at r;obtain⟨L,hL⟩: ∃L,l.take k=L:=⟨_,rfl⟩;obtain⟨F,G⟩: ∃F,sf.take k=F:=⟨_,rfl⟩;rw[hL,G]at z;have HX:=Aa (Ab hi (Ab hs (Ab hL (Ab G b))));have ak:Hid (l.take (k+1)=L++[i]∧sf.take (k+1)=F++[s]):=by
     refine⟨?_,?_⟩
     ·rw[MV l k ⟨0,0,0,0,0⟩ b,hL,hi]
     ·rw[MV sf k rm (by rw[p.out.1];exact b),G,hs]
    have a8:=Aa B;obtain⟨rt,T⟩: ∃rt,rt=GP l sf (k+1):=⟨_,rfl⟩;rw[←T]at P⊢;have R:=Aa T;clear T;have P:=Aa P;have r:=Aa r;have d:=Aa (Ab z (Ab A B));have ao:Hid (k<64):=by have:=p.out.2.1;show k<64;omega
    generalize Ew i s=ln at*
    have ba:(ln++10::rt).isEmpty=false:=by cases ln<;>rfl
    clear Q a7 hi hs hL G z A B b hk;go_wp2_with(first|(go_at_call 271;refine P.out.mono ?_;rintro e S⟨rfl,m⟩;have o:=d.out.1.go m;have E:=d.out.2.1.below m d.out.2.1.lt;have n:=Aa (Ab o E);clear m o E)|(go_at_call 272;refine(r.out _ n.out.1.below).mono ?_;rintro e V⟨rfl,x⟩;have o:=(n.out.1.go x).go (Ct (rf V.heap.size V) (rD #[I U i.op,I U i.a,I U i.b,I U i.c,I U i.n] 84));have E:=(n.out.2.below x n.out.2.lt).below (Ct (rf V.heap.size V) (rD #[I U i.op,I U i.a,I U i.b,I U i.c,I U i.n] 84)) (n.out.2.below x n.out.2.lt).lt;have aq:=Aa (Ab o (Ab E (Ab (Cx.new V #[I U i.op,I U i.a,I U i.b,I U i.c,I U i.n] 84) (fun j hj=>(Az (n.out.1.go x).code j hj).2))));have q0:=E.cell 0;simp only[Ad,Ac]at q0;clear x o E));have bb:=aq.out;clear q0 aq;generalize(V.alloc (rD #[I U i.op,I U i.a,I U i.b,I U i.c,I U i.n] 84))=W at*
    generalize V.heap.size=ib at*
    obtain⟨H,ar,f,hIn⟩:=bb;obtain⟨a2,c2,rfl⟩:=DE H.code;obtain⟨a3,c3,rfl⟩:=DE H.safe;obtain⟨cur,hg,g0,g1⟩:=H.fn;have x0:=(hg.cell 0).trans g0;have x1:=(hg.cell 1).trans g1;have y0:=f.cell 0;have y1:=f.cell 1;have y2:=f.cell 2;have y3:=f.cell 3;have y4:=f.cell 4;simp only[Ad,Ac,Ag]at y0 y1 y2 y3 y4;have au:=hg.lt;have bc:=f.lt;have av:Hid (L.length≤64∧F.length≤64):=by have o:=HX.out.2.2.1;have E:=HX.out.2.2.2.1;have h3:=ao.out;show L.length≤64∧F.length≤64;rw[←o,←E,AN,AN];omega
    have d:=Aa (Ab H (Ab ar (Ab (fun j hj=>(Az H.code j hj).2) H.below.size)));have M:=Aa (Ab f hIn);clear H ar f hg g0 g1 hIn P r aj ba;have y:Hid (∀X,qZ W.heap.size W X→N0 g ib (.slice a2 L.length c2) (.slice a3 F.length c3) i X):=fun X q=>(N0.below ⟨x0,x1,y0,y1,y2,y3,y4⟩ au bc q);have c:Hid (N0 g ib (.slice a2 L.length c2) (.slice a3 F.length c3) i W.drew):=y.out _ (rf _ _).drew;refine GN 18 (N0 g ib (.slice a2 L.length c2) (.slice a3 F.length c3) i) (by kernel_rfl) ?_;refine tk 0 (v:=?_) rfl (by kernel_rfl) (fun _ _ _ h=>h) ?_ (fun _=>c.out) ?_;rotate_left
    ·intro w';go_simp;try(with_reducible rfl)
    refine tk 1 (v:=?_) rfl (by kernel_rfl) (fun _ _ _ h=>h) ?_ (fun _=>c.out) ?_;rotate_left
    ·intro w';go_simp;try(with_reducible rfl)
    refine tk 2 (v:=?_) rfl (by kernel_rfl) (fun _ _ _ h=>h) ?_ (fun _=>c.out) ?_;rotate_left
    ·intro w';go_simp;try(with_reducible rfl)
    refine tk 3 (v:=?_) rfl (by kernel_rfl) (fun _ _ _ h=>h) ?_ (fun _=>c.out) ?_;rotate_left
    ·intro w';go_simp;try(with_reducible rfl)
    refine tk 4 (v:=?_) rfl (by kernel_rfl) (fun _ _ _ h=>h) ?_ (fun _=>c.out) ?_;rotate_left
    ·intro w';go_simp;try(with_reducible rfl)
    refine DV (i:=5) (v:=?_) rfl rfl (by kernel_rfl) (by kernel_rfl) (by kernel_rfl) (by kernel_rfl) (by kernel_rfl) (fun _ _ _ h=>h) (Or.inl ⟨by kernel_rfl,?_⟩) c.out ?_;rotate_left
    ·intro w' hw';obtain⟨s0,s1,s2,s3,s4,s5,s6⟩:=hw';go_simp;try(with_reducible rfl)
    refine DV (i:=6) (v:=?_) rfl rfl (by kernel_rfl) (by kernel_rfl) (by kernel_rfl) (by kernel_rfl) (by kernel_rfl) (fun _ _ _ h=>h) (Or.inl ⟨by kernel_rfl,?_⟩) c.out ?_;rotate_left
    ·intro w' hw';obtain⟨s0,s1,s2,s3,s4,s5,s6⟩:=hw';go_simp;try(with_reducible rfl)
    refine tk 9 (v:=?_) rfl (by kernel_rfl) (fun _ _ _ h=>h) ?_ (fun _=>c.out) ?_;rotate_left
    ·intro w';go_simp;try(with_reducible rfl)
    refine tk 10 (v:=?_) rfl (by kernel_rfl) (fun _ _ _ h=>h) ?_ (fun _=>c.out) ?_;rotate_left
    ·intro w';go_simp;try(with_reducible rfl)
    refine tk 11 (v:=?_) rfl (by kernel_rfl) (fun _ _ _ h=>h) ?_ (fun _=>c.out) ?_;rotate_left
    ·intro w';go_simp;try(with_reducible rfl)
    refine DV (i:=12) (v:=?_) rfl rfl (by kernel_rfl) (by kernel_rfl) (by kernel_rfl) (by kernel_rfl) (by kernel_rfl) (fun _ _ _ h=>h) (Or.inl ⟨by kernel_rfl,?_⟩) c.out ?_;rotate_left
    ·intro w' hw';obtain⟨s0,s1,s2,s3,s4,s5,s6⟩:=hw';go_simp;try(with_reducible rfl)
    refine tk 13 (v:=?_) rfl (by kernel_rfl) (fun _ _ _ h=>h) ?_ (fun _=>c.out) ?_;rotate_left
    ·intro w';go_simp;try(with_reducible rfl)
    clear x0 x1 y0 y1 y2 y3 y4;refine Hv (rs:=[7,14]) (by kernel_rfl) (by simp) ?_;refine DF.cons rfl (fun K a=>?_) ?_;case' _=>go_simp;refine a _ _ ⟨fun _=>y.out _ (by(repeat(first|exact rf _ _|refine rk ?_|refine Ct ?_ _))),?_⟩;clear a K;refine Hv (rs:=[8,14]) (by kernel_rfl) (by simp) ?_;refine DF.cons rfl (fun K a=>?_) ?_
    rotate_left;case' _=>refine DF.cons rfl (fun K a=>?_) DF.nil;go_simp;refine a _ _ ⟨fun _=>y.out _ (by(repeat(first|exact rf _ _|refine rk ?_|refine Ct ?_ _))),?_⟩;clear a K;refine Ij 8 (by kernel_rfl) rfl fun K a=>?_
    rotate_left;case' _=>refine DF.cons rfl (fun K a=>?_) DF.nil;go_simp;refine a _ _ ⟨fun _=>y.out _ (by(repeat(first|exact rf _ _|refine rk ?_|refine Ct ?_ _))),?_⟩;clear a K;refine Ij 7 (by kernel_rfl) rfl fun K a=>?_;go_simp;refine a _ _ ⟨fun _=>y.out _ (by(repeat(first|exact rf _ _|refine rk ?_|refine Ct ?_ _))),?_⟩;clear a K;refine Ij 8 (by kernel_rfl) rfl fun K a=>?_
    all_goals
     (refine J2 underlying85 K3 rfl (by decide) (by decide) w.heap.size _ rfl (.tmp 66) (.tmp 68) rfl (.slice a2 L.length c2) L.length (GO L) _ 1 (Ik i) (by rfl) (by rfl) (.inl (d.out.1.go (by(repeat(first|exact rf _ _|refine rk ?_|refine Ct ?_ _)))).code) rfl (LG (by first|exact Cx.new _ _ _|exact(Cx.new _ _ _).drew|exact(Cx.new _ _ _).alloc _|exact((Cx.new _ _ _).alloc _).drew|exact Cx.MK _ _ _ _|exact(Cx.MK _ _ _ _).drew)) (by simp[Ik,Value.oneCell']) (by have:=d.out.2.2.2;simp;omega) (by have:=av.out;omega) ?_;intro S7 w3 u;obtain⟨g4,p4,rfl⟩:=u.some;obtain⟨m1,bd,m2,m3,m4⟩:=(d.out.1.go (by(repeat(first|exact rf _ _|refine rk ?_|refine Ct ?_ _)))).cB u;have x1:=(m2.cell 1).trans m4;have au:=m2.lt;have O:=Aa (mG (W:=W) u (by(repeat(first|exact rf _ _|refine rk ?_|refine Ct ?_ _))));have HM:=Aa m1;have aw:Hid (w.heap.size≤w3.heap.size):=AE d.out.2.2.2 (AE O.out.1.size u.2.1.size);(first|(have aa:Cx w3 W.heap.size #[ry s] 4:=Cx.kept (show Cx _ W.heap.size #[ry s] 4 from by first|exact(Cx.new _ _ _).alloc _|exact((Cx.new _ _ _).alloc _).drew) u.2.1 (fun e=>by have:=d.out.2.2.1 _ e.symm;omega))|(have aa:Cx w3 (W.heap.size+1) #[ry s] 4:=Cx.kept (show Cx _ (W.heap.size+1) #[ry s] 4 from by first|exact Cx.MK _ _ _ _|exact(Cx.MK _ _ _ _).drew) u.2.1 (fun e=>by have:=d.out.2.2.1 _ e.symm;omega))|skip);clear u m1 m2 m3 m4;have ax:Hid (∀X,qZ w3.heap.size w3 X→N0 g ib (.slice a2 L.length c2) (.slice a3 F.length c3) i X):=(fun X q=>(by obtain⟨q1,q2,q3⟩:=N0.cB d.out.1 M.out.1 M.out.2 O.out.1 O.out.2;exact q1.below q3 q2.lt q)))
     refine a _ _ ⟨fun _=>ax.out _ (rf _ _),?_⟩;clear a K
    rotate_left;case' _=>refine Ij 14 (by kernel_rfl) rfl fun K a=>?_;go_simp;refine a _ _ ⟨fun _=>ax.out _ (by(repeat(first|exact rf _ _|refine rk ?_|refine Ct ?_ _))),?_⟩;clear a K
    all_goals
     refine Ij 15 (by kernel_rfl) rfl fun K a=>?_
     (refine J2 underlying43 QR rfl (by decide) (by decide) w.heap.size _ rfl (.tmp 73) (.tmp 75) rfl (.slice a3 F.length c3) F.length (IP F) _ 1 [ry s] (by rfl) (by rfl) (.inl (CJ HM.out (by(repeat(first|exact rf _ _|refine rk ?_|refine Ct ?_ _))))) rfl (LG (by first|exact aa|exact aa.drew|exact Cx.new _ _ _|exact(Cx.new _ _ _).drew)) (by simp[Value.oneCell']) (by have:=aw.out;first|omega|(simp;omega)) (by have:=av.out;omega) ?_;intro XE w5 q;obtain⟨g5,c5,rfl⟩:=q.some;obtain⟨p5,bf,n1,n2,n3⟩:=d.out.1.mF d.out.2.1 O.out.1 O.out.2 (by(repeat(first|exact rf _ _|refine rk ?_|refine Ct ?_ _))) q;have ab:Hid (N0 g ib (.slice a2 L.length c2) (.slice a3 F.length c3) i w5):=N0.end d.out.1 d.out.2.1 M.out.1 M.out.2 O.out.1 O.out.2 (by(repeat(first|exact rf _ _|refine rk ?_|refine Ct ?_ _))) q;have HE:=Aa (Ab (d.out.1.app O.out.1 O.out.2 (by(repeat(first|exact rf _ _|refine rk ?_|refine Ct ?_ _))) q) p5);have z0:=(n1.cell 0).trans n2;have z1:=(n1.cell 1).trans n3;have u0:=n1.free 0;have u1:=n1.free 1;clear q p5 n1 n2 n3)
     refine a _ _ ⟨fun _=>ab.out,?_⟩;clear a K;refine tk 16 (v:=?_) rfl (by kernel_rfl) (fun _ _ _ h=>h) ?_ (fun _=>ab.out) ?_;rotate_left
     ·intro w';go_simp;try(with_reducible rfl)
     refine tk 17 (v:=?_) rfl (by kernel_rfl) (fun _ _ _ h=>h) ?_ (fun _=>ab.out) ?_;rotate_left
     ·intro w';go_simp;try(with_reducible rfl)
     refine Ij 18 (by kernel_rfl) rfl fun K a=>?_;go_simp;refine a _ _ ⟨(fun h=>absurd (h.symm.trans (show _=rq by kernel_rfl)) Cp),?_⟩;clear a K;refine fA 19 (v:=?_) rfl (by kernel_rfl) (fun _ _ _ h=>h) ?_ ?_;rotate_left
     ·intro w';go_simp;try(with_reducible rfl)
     refine fA 20 (v:=?_) rfl (by kernel_rfl) (fun _ _ _ h=>h) ?_ ?_;rotate_left
     ·intro w';go_simp;try(with_reducible rfl)
     refine Ij 21 (by kernel_rfl) rfl fun K a=>?_;go_simp;refine a _ _ ⟨(fun h=>absurd (h.symm.trans (show _=rq by kernel_rfl)) Cp),?_⟩;clear a K;refine GM (by kernel_rfl) ?_ _;go_wp2;have hE:=HE.out;have b:=HX.out.2.2.2.2;have hw:wrap64 ((k:Int)+2+1)=((k+1:Nat):Int)+2:=by have:=ao.out;unfold wrap64;omega
     rw[hw];refine⟨.inr ⟨k+1,g,cap,Y (Z ⟨g4,0,N⟩) (L.length+1) p4,Y (Z ⟨g5,0,N⟩) (F.length+1) c5,b,by rw[R.out],rfl,hE.2,a8.out,?_⟩,by simp[intOf];omega⟩;rw[ak.out.1,ak.out.2];exact hE.1
   ·obtain rfl:k=l.length:=by omega
    rw[WK];have ay:l.take l.length=l:=BJ;have az:sf.take l.length=sf:=by rw[←p.out.1];exact BJ
    rw[ay,az]at z;have q0:=A.cell 0;have f0:=A.free 0;simp only[Ad,Ac]at q0;have d:=Aa (Ab z A);clear ay az z A B b hk;go_wp2;rw[Bp];have H:=d.out.1.VX d.out.2 (Al _) 0 (Y (Z ⟨g,0,N⟩) 1 cap);have c0:=(d.out.2.set 0 (Y (Z ⟨g,0,N⟩) 1 cap)).cell 0;simp only[Ba,Bj,Ad,Ac]at c0;exact AG (v:=rG #[rE #[Y (Z ⟨g,0,N⟩) 1 cap],I U 0,I U 0]) (by simp[results,results207,go_sem,c0]) rfl ⟨g,cap,cv,sv,rfl,H⟩
end
variable {w0 w:oZ} {cv sv:qY}
def DD:List CN:=[⟨1,0,0,0,1⟩,⟨17,0,0,0,0⟩,⟨15,0,0,0,0⟩,⟨18,0,0,0,0⟩,⟨14,0,0,0,0⟩]
def DO:List Bool:=[rm,rq,rq,rm,rm]
theorem mH{P:Nat→Prop}(h:P 0∧P 1∧P 2∧P 3∧P 4): ∀k,k<5→P k:=by
 intro k a;rcases(show k=0∨k=1∨k=2∨k=3∨k=4 by omega)with rfl|rfl|rfl|rfl|rfl
 ·exact h.1
 ·exact h.2.1
 ·exact h.2.2.1
 ·exact h.2.2.2.1
 ·exact h.2.2.2.2
theorem QT: ∀i∈DD,Mp i=true:=Be.1 (show DD.all Mp=rq by kernel_rfl)
theorem fF: ∀k,k<5→(10:UInt8)∉Ew (DD[k]?.getD ⟨0,0,0,0,0⟩) (DO[k]?.getD rm):=by
 intro k a e;have h:((List.range 5).all fun k=>!(Ew (DD[k]?.getD ⟨0,0,0,0,0⟩) (DO[k]?.getD rm)).contains 10)=true:=by kernel_rfl
 have:=Be.1 h k (BN.2 a);simp only[Zap,List.contains_eq_mem,decide_eq_false_iff_not]at this;exact this e
theorem fG: ∀k,k<5→(Ew (DD[k]?.getD ⟨0,0,0,0,0⟩) (DO[k]?.getD rm)== [102,117,110,99])=false:=mH ⟨by kernel_rfl,by kernel_rfl,by kernel_rfl,by kernel_rfl,by kernel_rfl⟩
theorem fH(w:oZ)(b:Laid w)(hm:Mx w): ∀k,k<5→ZY w (DD[k]?.getD ⟨0,0,0,0,0⟩) (DO[k]?.getD rm):=by
 refine mH ⟨fun W a=>?_,fun W a=>?_,fun W a=>?_,fun W a=>?_,fun W a=>?_⟩
 ·have h:=cT 1 1 [99,111,110,115,116] [49] W (b.below (a.mono (Al _))) (hm.below a) (by decide) (by kernel_rfl) (by kernel_rfl) (by kernel_rfl) (by kernel_rfl) (by decide) (by decide) (by kernel_rfl) (by kernel_rfl) (by decide) (by decide)
  rw[show CZ 32 [[99,111,110,115,116],[114,48],[49]]=Ew (DD[0]?.getD ⟨0,0,0,0,0⟩) (DO[0]?.getD rm) by kernel_rfl]at h;exact h
 ·have h:=cS 17 0 [115,116,111,112] [48] W (b.below a) (hm.below a) (by decide) (by kernel_rfl) (by kernel_rfl) (by kernel_rfl) (by kernel_rfl) (by decide) (by decide) (by kernel_rfl) (by kernel_rfl) (by decide) (by decide)
  rw[show CZ 32 [[42],[115,116,111,112]]=Ew (DD[1]?.getD ⟨0,0,0,0,0⟩) (DO[1]?.getD rm) by kernel_rfl]at h;exact h
 ·have h:=cU 15 0 [101,109,105,116] [48] W (b.below a) (hm.below a) (by decide) (by kernel_rfl) (by kernel_rfl) (by kernel_rfl) (by kernel_rfl) (by decide) (by decide) (by kernel_rfl) (by kernel_rfl) (by decide) (by decide)
  rw[show CZ 32 [[42],[101,109,105,116],[114,48]]=Ew (DD[2]?.getD ⟨0,0,0,0,0⟩) (DO[2]?.getD rm) by kernel_rfl]at h;exact h
 ·have h:=TV 18 0 [115,116,97,114,116] [48] W (b.below a) (hm.below a) (by decide) (by kernel_rfl) (by kernel_rfl) (by kernel_rfl) (by kernel_rfl) (by decide) (by decide) (by kernel_rfl) (by kernel_rfl) (by decide) (by decide)
  rw[show CZ 32 [[115,116,97,114,116]]=Ew (DD[3]?.getD ⟨0,0,0,0,0⟩) (DO[3]?.getD rm) by kernel_rfl]at h;exact h
 ·have h:=TV 14 0 [101,120,105,116] [48] W (b.below a) (hm.below a) (by decide) (by kernel_rfl) (by kernel_rfl) (by kernel_rfl) (by kernel_rfl) (by decide) (by decide) (by kernel_rfl) (by kernel_rfl) (by decide) (by decide)
  rw[show CZ 32 [[101,120,105,116]]=Ew (DD[4]?.getD ⟨0,0,0,0,0⟩) (DO[4]?.getD rm) by kernel_rfl]at h;exact h
def Gp:List UInt8:=Ix++EB DD DO DD.length
theorem QU(w:oZ)(a:Laid w)(hm:Mx w):re prog 207 #[rF ⟨Gp.toArray⟩] w fun e b=> ∃g cap cv sv,e=rC (rG #[rE #[Y (Z ⟨g,0,N⟩) 1 cap],I U 0,I U 0])∧JZ w g cv sv DD DO b:=Tc DD DO w rfl (by decide) hm QT (fH w a hm) fF fG
theorem QV(a b pc:Nat)(w:oZ)(c:Laid w)(d:F2.Pow w)(f:EO.Gv w a b [(DD,DO)]):re prog 18 #[rE #[Y (Z ⟨a,b,N⟩) 1 pc]] w fun e g=>e=rC (rG #[rF ⟨Gp.toArray⟩,I U 0])∧qZ w.heap.size w g:=RT DD DO a b pc w c d f rfl (by decide) QT
theorem QW: ∀(l:List CN)(i r:Nat),i<l.length→r<5→(GO l)[i*5+r]?=(Ik (l[i]?.getD ⟨0,0,0,0,0⟩))[r]?
 | [],_,_,h,_=>absurd h (BV _)
 |x::l,0,r,_,a=>by show(Ik x++GO l)[0*5+r]?=_;rw[Zb2,AO,AD (by simpa[Ik]using a)];rfl
 |x::l,i+1,r,h,a=>by show(Ik x++GO l)[(i+1)*5+r]?=_;rw[AJ (by simp[Ik];omega),show(i+1)*5+r-(Ik x).length=i*5+r by simp[Ik];omega];exact QW l i r (by simpa using h) a
theorem JZ.iq{T:List rA}{wi:oZ}{g:Nat}{l:List CN}{sf:List Bool}(h:JZ w0 g cv sv l sf wi)(K:KT T wi w)(t1:87∉T)(t2:84∉T)(t3:4∉T)(t:0<l.length)(u:0<sf.length):EO.Gv w g 0 [(l,sf)]:=by
 obtain⟨cur,d,v,x⟩:=h.fn;have e:=K.keep d t1;obtain⟨n,y,o,rfl,z,p,f⟩:=FE (K.row h.code t2) t;obtain⟨q,sc,s,rfl,A,c,j⟩:=FE (K.row h.safe t3) u;refine⟨e.lt,fun k B=>?_⟩;obtain rfl:k=0:=by simp at B;omega
 refine⟨n,0,y,q,0,sc,(e.cell 0).trans v,(e.cell 1).trans x,⟨p.lt,fun i m=>?_⟩,⟨q,0,sc,rfl,c.lt,fun i m=>?_⟩⟩
 ·have a: ∀r,r<5→w.cell? ⟨n,i*5+r,N⟩=(Ik (l[i]?.getD ⟨0,0,0,0,0⟩))[r]?:=fun r C=>by have b:i<l.length:=m;rw[p.cell,←AW,←AK (show i*5+r<l.length*5 by omega),f];exact QW l i r b C
  simp only[AO];exact⟨a 0 (by decide),a 1 (by decide),a 2 (by decide),a 3 (by decide),a 4 (by decide)⟩
 ·have b:i<sf.length:=m
  rw[AO,c.cell,←AW,←AK (show i<sf.length*1 by omega),j];simp[IP,b]
theorem JZ.fI{g:Nat}{l:List CN}{sf:List Bool}(h:JZ w0 g cv sv l sf w)(a:0<l.length)(b:0<sf.length):EO.Gv w g 0 [(l,sf)]:=h.iq (KT.refl [] w) (by decide) (by decide) (by decide) a b
end Go.Proofs.YtgadhchejmlfjaaGreatDoor.FM
namespace Go.Proofs.YtgadhchejmlfjaaGreatDoor.CX
open Go.RowKit Go.CL
open Vm (CN)
open cN (es Dl)
open ZX (Ev e0 WI JP Em)
variable {w:oZ}
theorem UD: ∀(l:List (Int×Int×Int))(s:St)(o:List (Int×Int×Int×Int×Int)),KW l s=Z o→ ∃out a,FD l s=Z (out,a)∧out.map nj=o
 | [],s,o,h=>by unfold KW at h;simp only[Ak]at h;subst h;exact⟨[],s,rfl,rfl⟩
 |x::l,s,o,h=>by
  unfold KW at h;obtain⟨s1,c,h⟩:=bind_some h;cases b:KW l s1 with
  |none=>rw[b]at h;cases h
  |some d=>
   rw[b]at h;simp only[BA,Ak]at h;obtain⟨out,a,e,f⟩:=UD l s1 d b;refine⟨if s1.sc.seen then s1::out else out,a,?_,?_⟩
   ·unfold FD
    rw[c];simp only[Option.bind_some,e,BA]
   ·rw[←h]
    cases s1.sc.seen<;>simp[f]
theorem QX: ∀l:List St,l.flatMap mA=(l.map nj).flatMap fun x=>[I U x.1,I U x.2.1,I U x.2.2.1,I U x.2.2.2.1,I U x.2.2.2.2]
 | []=>rfl
 |x::l=>by rw[BD,List.map_cons,BD,QX l];rfl
theorem Ma{α:Type}(f:α→List qY)(k:Nat)(d:α)(a: ∀x,(f x).length=k): ∀(l:List α)(i r:Nat),i<l.length→r<k→(l.flatMap f)[i*k+r]?=(f (l[i]?.getD d))[r]?
 | [],_,_,h,_=>absurd h (BV _)
 |x::l,0,r,_,b=>by rw[BD,Zb2,AO,AD (by rw[a];exact b)];rfl
 |x::l,i+1,r,h,b=>by rw[BD,AJ (by rw[a,Nat.add_mul];omega),show(i+1)*k+r-(f x).length=i*k+r by rw[a,Nat.add_mul];omega];exact Ma f k d a l i r (by simpa using h) b
theorem OX{base:Nat}{v:qY}{l:List (Int×Int×Int)}(h:w.ownsRow base 36 3 v l.length (es l))(d:0<l.length): ∃g cap,v=Y (Z ⟨g,0,N⟩) l.length cap∧base≤g∧g<w.heap.size∧G5 w g 0 l:=by
 obtain⟨g,cap,cur,e,f,c,j⟩:=FE h d;have a: ∀i r,i<l.length→r<3→w.cell? ⟨g,i*3+r,N⟩=((fun x:Int×Int×Int=>[I U x.1,I U x.2.1,I U x.2.2]) (l[i]?.getD (0,0,0)))[r]?:=fun i r m n=>by rw[c.cell,←AW,←AK (show i*3+r<l.length*3 by omega),j];exact Ma _ 3 (0,0,0) (fun _=>rfl) l i r m n
 exact⟨g,cap,e,f,c.lt,fun k b=>by rw[AO];exact⟨a k 0 b (by decide),a k 1 b (by decide),a k 2 b (by decide)⟩⟩
theorem jW{base:Nat}{v:qY}{l:List Ev}(h:w.ownsRow base 38 5 v l.length (l.flatMap fun x=>[I U x.1,I U x.2.1,I U x.2.2.1,I U x.2.2.2.1,I U x.2.2.2.2])) (d:0<l.length): ∃g cap,v=Y (Z ⟨g,0,N⟩) l.length cap∧base≤g∧g<w.heap.size∧WI w g 0 l:=by
 obtain⟨g,cap,cur,e,f,c,j⟩:=FE h d;have a: ∀i r,i<l.length→r<5→w.cell? ⟨g,i*5+r,N⟩=((fun x:Ev=>[I U x.1,I U x.2.1,I U x.2.2.1,I U x.2.2.2.1,I U x.2.2.2.2]) (l[i]?.getD e0))[r]?:=fun i r m n=>by rw[c.cell,←AW,←AK (show i*5+r<l.length*5 by omega),j];exact Ma _ 5 e0 (fun _=>rfl) l i r m n
 exact⟨g,cap,e,f,c.lt,fun k b=>by rw[AO];exact⟨a k 0 b (by decide),a k 1 b (by decide),a k 2 b (by decide),a k 3 b (by decide),a k 4 b (by decide)⟩⟩
def Js(n:Nat):Nat→Nat:=fun j=>if j<n then 14 else 0
def Ea(p:List (List CN×List Bool)):List Fn:=p.map fun f=>⟨f.1,f.2⟩
theorem ZZ(p:List (List CN×List Bool))(k:Nat)(a:k<p.length):(Ea p)[k]?.getD pd=⟨(p[k]?.getD ([],[])).1,(p[k]?.getD ([],[])).2⟩:=by simp[Ea,a]
theorem Z0{w1:oZ}{g h pc:Nat}{p:List (List CN×List Bool)}(a:qZ w1.heap.size w1 w)(u:DX.Laid w1)(v:0<w1.heap.size)(l:EO.Gv w1 g h p):nA (Js w1.heap.size) w (Y (Z ⟨g,h,N⟩) p.length pc) (Ea p):=by
 have d: ∀j,j<w1.heap.size→Js w1.heap.size j=14:=fun j n=>Ai n;refine⟨fun j=>?_,fun j n=>Ah (Nat.not_lt.2 (AE a.size n)),⟨g,h,pc,by simp[Ea],Am l.1 a.size,d g l.1,fun k x=>?_⟩,u.below a,d 0 v⟩
 ·unfold Js;split
  ·exact .inr rfl
  ·exact .inl rfl
 ·have m:k<p.length:=by simpa[Ea]using x
  obtain⟨s,co,y,q,t,sc,z,a2,a3,a4⟩:=l.2 k m;obtain⟨b,o,c,e,f,A⟩:=a4;simp only[Ar,Ak,BF,and_true,true_and]at e;obtain⟨⟨rfl,rfl⟩,rfl⟩:=e;rw[ZZ p k m];refine⟨s,co,y,q,t,sc,(a.cell (p:=⟨g,h+k*2,N⟩) l.1).trans z,(a.cell (p:=⟨g,h+k*2+1,N⟩) l.1).trans a2,Am a3.1 a.size,Am f a.size,d s a3.1,d q f,fun i r=>(a3.below a).2 i r,fun i r=>?_⟩;exact(a.cell (p:=⟨q,t+i,N⟩) f).trans (A i r)
def Gq:List Ev:=[(2,1,0,0,0),(1,1,0,1,0),(2,1,0,1,0),(2,1,0,2,1),(2,1,0,3,0),(2,1,0,4,0)]
theorem QY: ∀x∈Gq,JP x:=by intro x a;simp only[Gq,Bv,Zbo,or_false]at a;rcases a with rfl|rfl|rfl|rfl|rfl|rfl<;>exact⟨⟨by simp,by decide,by decide,by decide⟩,by decide,by decide⟩
theorem N1: ∀x∈Dl 1500 0,FM.TM x:=by intro x a;obtain⟨i,b,rfl⟩:=B8.1 a;have:=BN.1 b;exact⟨⟨by simp only;omega,by simp only;omega⟩,⟨by simp only;omega,by simp only;omega⟩,⟨by simp only;omega,by simp only;omega⟩⟩
theorem Fl:(Dl 1500 0).length=1500:=by simp[Dl]
theorem WL:Ea [(FM.DD,FM.DO)]=IG:=by kernel_rfl
theorem WM:NY IG 1 1 1=JH IG 1 1 1:=by kernel_rfl
theorem Td: ∃out a,FD (Dl 1500 0) (NY IG 1 1 1)=Z (out,a)∧out.map nj=Gq:=by rw[WM];exact UD _ _ _ VM
end Go.Proofs.YtgadhchejmlfjaaGreatDoor.CX
namespace Go.Proofs.YtgadhchejmlfjaaGreatDoor.EO
open Go.Proofs.Tryz Go.RowKit Go.CL
open DX (row rows Laid)
open Vm (CN)
theorem Te(b c co a h k:Nat)(v1:qY)(op:Int)(w:oZ)(d:Cx w b #[Y (Z ⟨c,co,N⟩) a h,v1] 87)(o:w.cell? ⟨c,co+k*5,N⟩=Z (I U op))(p:k<a)(f:Laid w):re prog 103 #[I U k,J (Z ⟨b,0,N⟩)] w fun e i=>e=rC (ry (row op).waits)∧qZ w.heap.size w i:=by
 have j:=d.cell 0;simp only[Ad,Ac]at j;have l:(k:Int)<(a:Int):=by omega
 have m:=Aa (DX.KI op w f);clear d f;go_enter func103,ntmps103;go_wp2_with(go_at_call 104;refine m.out.mono ?_;rintro e q⟨rfl,g⟩;have n:=Aa g;clear g);go_ret;exact⟨rfl,n.out⟩
end Go.Proofs.YtgadhchejmlfjaaGreatDoor.EO
namespace Go.Proofs.YtgadhchejmlfjaaGreatDoor.Pm
open Go.Proofs.Tryz Go.RowKit Go.CL
section
variable {P:Program} {t e:rA} {size bytes:Nat} {z:qY} (ht:P.underlying t=Z (.slice e)) (DC:(P.info? e).map (fun i=>(i.zero,i.size,i.bytes))=Z (Z z,size,bytes)) (Xz:z.cells.size=size) (XA:0<size) (bU:bytes≤1000)
include ht DC Xz XA bU
theorem QZ(W:oZ){ops:Array Oper}{rest:List Oper}{o:Oper}{a:Act}{Q:Exit→Act→oZ→Prop}(n:o.guard=N)(s y:Operand)(D:o.op= .call {callee:=.builtin .append,args:=#[s,y],argTypes:=#[t,t]})(b:Addr)(p:Addr)(m c:Nat)(ys:List qY)(E:a.eval s=Y (Z b) 0 0)(hy:a.eval y=Y (Z p) m c)
  (hm:0<m) (q:ys.length=m*size) (d: ∀(j:Nat)(x:qY),ys[j]?=Z x→W.cell? (p.add j)=Z x) (hlen:m<100000000)
  (h: ∀k f,f.ownsRow W.heap.size e size k m ys→W.grownBy f N→wpList P ops Q rest (a.put o.dst k) f):
  wpList P ops Q (o::rest) a W:=by
 refine wpList_plain n fun K F=>?_;obtain⟨i0,r,v,w,A⟩: ∃i,P.info? e=Z i∧i.zero=Z z∧i.size=size∧i.bytes=bytes:=by obtain⟨i,r,l⟩:=Ax.1 DC;simp only[AM]at l;exact⟨i,r,l.1,l.2.1,l.2.2⟩
 have g:(0+m)*bytes≤140737488355328:=by have:=Nat.mul_le_mul (show 0+m≤100000000 by omega) bU;omega
 have B:0+m≤maxLen:=by unfold maxLen;omega
 obtain⟨k,f,G,C,H⟩:=Cq (P:=P) W t o.type e i0 z size bytes ht r v w A Xz XA b 0 0 [] (by simp) (fun j u L=>by simp at L) p m c ys q d (by omega) B g;rw[AO,Bq]at C;unfold Oper.wp;simp[execOp,D,resolve,invoke,builtin,E,hy,G,Result.andThen];exact F _ _ (h k f C H)
end
theorem D0(d h m c:Nat)(ys:List qY)(w:oZ)(hm:0<m)(s:m≤1000)(f:d<w.heap.size)(g:ys.length=m*5)(b: ∀(j:Nat)(x:qY),ys[j]?=Z x→w.cell? ⟨d,h+j,N⟩=Z x):re prog 102 #[Y (Z ⟨d,h,N⟩) m c] w fun e i=> ∃v,e=rC v∧i.ownsRow w.heap.size 84 5 v m ys∧qZ w.heap.size w i:=by have o:=fun(w:oZ)(a:Option Addr)(n c t u:Nat)=>Zam (P:=prog) w 85 84 a n c t u underlying85;have k:=Aa (Ab b (Ab g f));clear b g f;go_enter func102,ntmps102;go_wp2_with(at_builtin;refine QZ underlying85 K3 rfl (by decide) (by decide) _ rfl _ _ rfl ⟨w.heap.size,0,N⟩ ⟨d,h,N⟩ m c ys rfl rfl hm k.out.2.1 (fun j x l=>by rw[Ay];exact((Ct (rf w.heap.size w) _).cell (p:=⟨d,h+j,N⟩) k.out.2.2).trans (k.out.1 j x l)) (by omega) ?_;intro A i q r;have y:=Aa q;have z:=Aa r;clear q r);go_ret;exact⟨_,rfl,DZ y.out (by simp),CI (Ct (rf _ _) _) z.out (fun j l=>by cases l)⟩
end Go.Proofs.YtgadhchejmlfjaaGreatDoor.Pm
