/- A part of the proof. -/
import Derived.Test.YtgadhchejmlfjaaGreatDoorC2
set_option linter.unusedVariables false
set_option maxRecDepth 20000
set_option maxHeartbeats 16000000
open Go.Value renaming int→I,pointer→J,slice→Y
open Go.IntKind renaming i64→U
open Option renaming none→N,some→Z
open Bool renaming false→rm,true→rq
open Go renaming Calls→re,Ending→rB,TypeId→rA,Value→qY,World→oZ
open Go.Ending renaming returned→rC
open Go.Obj renaming cells→rD
open Go.RowKit renaming Below→qZ
open Go.RowKit.Below renaming drew→rk,refl→rf
open Go.Value renaming agg→rE,bool→ry,string→rF,tuple→rG
open Go.World renaming setCell→rh
open List renaming replicate→rj
namespace Go.Proofs.YtgadhchejmlfjaaGreatDoor.EO
open Go.Proofs.Tryz Go.RowKit Go.CL
open DX (row rows Laid)
open Vm (CN)
section
open Pm (K3 QR OW K5 D0)
variable {w:oZ}
theorem Z1{a b c:oZ}(h:qZ a.heap.size a b)(k:qZ b.heap.size b c):qZ a.heap.size a c:=h.trans (k.mono h.size)
theorem IQ{a b:Nat}{x y:Array qY}{s t:rA}(d:Cx w a x s)(f:Cx w b y t)(c:s≠t):a≠b:=fun e=>by subst e;exact c (C4 d f)
def i0:CN:=⟨0,0,0,0,0⟩
def MW(i:CN):List Value:=[I U i.op,I U i.a,I U i.b,I U i.c,I U i.n]
def FR(l:List CN):List Value:=l.flatMap MW
theorem N2(l:List CN):(FR l).length=l.length*5:=by
 induction l with
 |nil=>rfl
 |cons x l a=>simp only[FR,BD,Aw,MW,AB,AF]at a⊢;omega
theorem MX: ∀(l:List CN)(i r:Nat),i<l.length→r<5→(FR l)[i*5+r]?=(MW (l[i]?.getD i0))[r]?
 | [],_,_,h,_=>absurd h (BV _)
 |x::l,0,r,_,a=>by show(MW x++FR l)[0*5+r]?=_;rw[Zb2,AO,AD (by simpa[MW]using a)];rfl
 |x::l,i+1,r,h,a=>by show(MW x++FR l)[(i+1)*5+r]?=_;rw[AJ (by simp[MW];omega),show(i+1)*5+r-(MW x).length=i*5+r by simp[MW];omega];exact MX l i r (by simpa using h) a
theorem WN{b co:Nat}{l:List CN}(h:Fh w b co l): ∀(j:Nat)(x:qY),(FR l)[j]?=Z x→w.cell? ⟨b,co+j,N⟩=Z x:=by
 intro j x c;have g:j<l.length*5:=by rw[←N2];exact(Af.1 c).1
 have i:=Nat.div_add_mod j 5;have d:j/5<l.length:=by omega
 obtain⟨a0,f,a2,a3,a4⟩:=h.2 (j/5) d;have a:=MX l (j/5) (j%5) d (Zbn _ (by decide));rw[show j/5*5+j%5=j by omega,c]at a;rcases(show j%5=0∨j%5=1∨j%5=2∨j%5=3∨j%5=4 by omega)with e|e|e|e|e
 ·rw[e]at a;rw[show co+j=co+j/5*5 by omega,a0];exact a.symm
 ·rw[e]at a;rw[show co+j=co+j/5*5+1 by omega,f];exact a.symm
 ·rw[e]at a;rw[show co+j=co+j/5*5+2 by omega,a2];exact a.symm
 ·rw[e]at a;rw[show co+j=co+j/5*5+3 by omega,a3];exact a.symm
 ·rw[e]at a;rw[show co+j=co+j/5*5+4 by omega,a4];exact a.symm
def GQ(l:List CN)(sf:List Bool)(k:Nat):Bool:=sf[k]?.getD rm||(row (l[k]?.getD i0).op).waits||(decide (0<k)&&(row (l[k-1]?.getD i0).op).waits)
def He(l:List CN)(sf:List Bool):List Bool:=(List.range sf.length).map (GQ l sf)
def Jt(f:List CN×List Bool):List CN×List Bool:=(f.1,He f.1 f.2)
def Fb(l:List Bool):Array Value:=(l.map ry).toArray
structure nC (w:oZ) (base:Nat) (x y:qY) (l:List CN) (sf:List Bool):Prop where
 code: ∃cb cc cur,x=Y (Z ⟨cb,0,N⟩) l.length cc∧Cx w cb cur 84∧base≤cb∧cur.toList.take (l.length*5)=FR l
 safe: ∃sb,y=Y (Z ⟨sb,0,N⟩) sf.length sf.length∧Cx w sb (Fb sf) 4∧base≤sb
theorem nC.kt{T:List rA}{w':oZ}{base:Nat}{x y:qY}{l:List CN}{sf:List Bool}(h:nC w base x y l sf)(k:KT T w w')(a:84∉T)(b:4∉T):nC w' base x y l sf:=by obtain⟨⟨c,d,cur,e,f,g1,t1⟩,⟨g,i,j,g2⟩⟩:=h;exact⟨⟨c,d,cur,e,k.keep f a,g1,t1⟩,⟨g,i,k.keep j b,g2⟩⟩
def qy(a:oZ)(m:Nat)(l:List CN)(c:qY)(W:oZ):Prop:= ∃X S b d cur,c=J (Z ⟨X,0,N⟩)∧Cx W X #[Y (Z ⟨b,0,N⟩) m d,Y (Z ⟨S,0,N⟩) m m] 87∧Cx W S (madeCells #[ry rm] m) 4∧Cx W b cur 84∧cur.toList.take (m*5)=FR l∧qZ a.heap.size a W∧a.heap.size≤S∧a.heap.size≤b∧a.heap.size≤X
structure jX (w:oZ) (p:List (List CN×List Bool)) (k:Nat) (v:qY) (xs:List qY) (wr:oZ):Prop where
 below:qZ w.heap.size w wr
 out:Cx wr (w.heap.size+1) #[v] 26
 row:wr.ownsRow w.heap.size 87 2 v k xs
 fns: ∀i,i<k→nC wr w.heap.size (xs[i*2]?.getD undef) (xs[i*2+1]?.getD undef) (Jt (p[i]?.getD ([],[]))).1 (Jt (p[i]?.getD ([],[]))).2
theorem jX.set{wr:oZ}{p:List (List CN×List Bool)}{k:Nat}{v:qY}{xs:List qY}(h:jX w p k v xs wr):jX w p k v xs (wr.setCell ⟨w.heap.size+1,0,N⟩ v):=
 have K:KT [26] wr (wr.setCell ⟨w.heap.size+1,0,N⟩ v):=KT.set h.out (by decide) 0 v
 ⟨h.below.setCell (Bh _) _,h.out.set 0 v,K.row h.row (by decide),fun i a=>(h.fns i a).kt K (by decide) (by decide)⟩
theorem mI(W:oZ){ops:Array Oper}{rest:List Oper}{o:Oper}{a:Act}{Q:Exit→Act→oZ→Prop}(g:o.guard=N)(d s:Operand)(x:o.op= .call {callee:=.builtin .copy,args:=#[d,s],argTypes:=#[43,43]})
  (S m l n sc:Nat) (sf:List Bool) (hd:a.eval d=Y (Z ⟨S,0,N⟩) m m) (y:a.eval s=Y (Z ⟨l,n,N⟩) m sc) (u:Cx W S (madeCells #[ry rm] m) 4) (z:sf.length=m)
  (f: ∀i,i<m→W.cell? ⟨l,n+i,N⟩=Z (ry (sf[i]?.getD rm))) (h: ∀p,Cx p S (Fb sf) 4→Cv (fun j=>j=S) W p→wpList prog ops Q rest (a.put o.dst (I U m)) p):wpList prog ops Q (o::rest) a W:=by
 have c:(sf.map ry).length=m:=by rw[Bg,z]
 have q:(madeCells #[ry rm] m).toList.length=m:=by rw[Zbb,size_madeCells]
 refine wpList_copy_own g d s 43 43 x 4 underlying43 (by kernel_rfl) S 0 m m ⟨l,n,N⟩ m sc hd y (madeCells #[ry rm] m) 4 u (sf.map ry) ?_ ?_ ?_ ?_ ?_
 ·rw[c];exact(Nat.min_self m).symm
 ·intro j v w
  have r:j<sf.length:=by have:=(Af.1 w).1;simpa using this
  rw[Ay,f j (by omega),←w,Bn,Ae r];rfl
 ·rw[c,size_madeCells];omega
 ·intro v A
  obtain⟨b,_,rfl⟩:=B8.1 A;rfl
 ·rw[c]
  have e:((madeCells #[ry rm] m).toList.take 0++(sf.map ry++(madeCells #[ry rm] m).toList.drop (0+m))).toArray=Fb sf:=by rw[Zbj,Bq,AO,Zae (by rw[q];exact Al _),Cf];rfl
  rw[e];refine h _ (setRow_heap W S _ _ 4 (0,0) u) ⟨rfl,rfl,rfl,by simp[World.setRow],fun k B t=>setRow_other W S k _ t⟩
def Il(l:List CN)(sf:List Bool)(j:Nat):List Bool:=(He l sf).take j++sf.drop j
theorem Hf(l:List CN)(sf:List Bool):(He l sf).length=sf.length:=by simp[He]
theorem Z2(l:List CN)(sf:List Bool):Il l sf 0=sf:=by simp[Il]
theorem fJ(l:List CN)(sf:List Bool):Il l sf sf.length=He l sf:=by rw[Il,Zat,Cf,←Hf l sf,BJ]
theorem Q0(l:List CN)(sf:List Bool)(j:Nat)(h:j<sf.length):Il l sf (j+1)=(Il l sf j).set j (GQ l sf j):=by
 have a:(He l sf).take (j+1)=(He l sf).take j++[GQ l sf j]:=by rw[Ca];congr 1;simp[He,h]
 have b:sf.drop j=sf[j]::sf.drop (j+1):=A0 h;have c:((He l sf).take j).length=j:=by rw[AN,Hf];omega
 unfold Il;rw[a,b,List.set_append_right _ _ (by omega),c,Cg,Bj,AR];rfl
theorem Z3(l:List CN)(sf:List Bool)(j:Nat)(h:j<sf.length)(a:GQ l sf j=sf[j]?.getD rm):Il l sf (j+1)=Il l sf j:=by
 have b:sf.drop j=sf[j]::sf.drop (j+1):=A0 h;have c:((He l sf).take j).length=j:=by rw[AN,Hf];omega
 rw[Ae h]at a;rw[Q0 l sf j h,a];unfold Il;rw[b,List.set_append_right _ _ (by omega),c,Cg,Bj];rfl
theorem WO(L:List Bool)(j:Nat)(b:Bool):(Fb L).setIfInBounds j (ry b)=Fb (L.set j b):=by unfold Fb;rw[Ba,Bu]
theorem Z4(L:List Bool)(j:Nat)(h:j<L.length):(Fb L)[j]?=Z (ry (L[j]?.getD rm)):=by unfold Fb;rw[Ad,Bn,Ae h];rfl
theorem Z5(l:List CN)(sf:List Bool)(j:Nat)(h:j≤sf.length):(Il l sf j).length=sf.length:=by rw[Il,Aw,AN,Hf,BW];omega
theorem mJ(w:oZ)(x y:qY)(t:rA): ∀(j:Nat)(u:qY),[x,y][j]?=Z u→(w.alloc (rD #[x,y] t)).cell? ((⟨w.heap.size,0,N⟩:Addr).add j)=Z u:=by have h:=Cx.new w #[x,y] t;intro j u hu;rw[show((⟨w.heap.size,0,N⟩:Addr).add j)=⟨w.heap.size,j,N⟩from by rw[Ay,AO]];rw[h.cell j,←hu];simp
theorem Z6(pb po pc:Nat)(p:List (List CN×List Bool))(w:oZ)(hL:Laid w)(hP:Gv w pb po p)(hlen: ∀f∈p,f.2.length=f.1.length∧0<f.1.length∧f.1.length≤1000) (hn:p.length≤100):re prog 39 #[rE #[Y (Z ⟨pb,po,N⟩) p.length pc]] w fun e w'=> ∃v xs,e=rC (rE #[v])∧jX w p p.length v xs w':=by
 have H0:=Aa (Ab hL (Ab hP (Ab hlen hn)));clear hL hP hlen hn;go_enter func39,ntmps39;go_wp2;generalize bh:p.length=np at*
 have a7:=Aa bh;clear bh;go_loopw [11] (fun t wr=> ∃(k:Nat)(v:qY)(xs:List qY),k≤np∧t=I U k∧jX w p k v xs wr) (fun t _=>np-(intOf t).toNat)
 case atStart=>refine⟨0,Y N 0 0,[],Ap _,rfl,Ct (Ct (rf _ _) _) _,?_,AL _ _ _ _,fun i hi=>absurd hi (BV _)⟩;have:=Cx.new (w.alloc (rD #[Y (Z ⟨pb,po,N⟩) np pc] 26)) #[Y N 0 0] 26;simpa using this
 case round=>
  obtain⟨k,v,xs,hk,rfl,hS⟩:=hrel;obtain⟨s,rfl⟩: ∃s,s=wr:=⟨wr,rfl⟩;by_cases ag:k<np
  ·have cr:(k:Int)<(np:Int):=by omega
   obtain⟨cb,co,cc,sb,so,sc,a1,a2,a3,b,off,cap,e4,a5,a6⟩:=H0.out.2.1.2 k (by rw[a7.out];exact ag);cases e4;obtain⟨f,hf⟩: ∃f,p[k]?.getD ([],[])=f:=⟨_,rfl⟩;have bj:f∈p:=by
    have bk:k<p.length:=by rw[a7.out];exact ag
    rw[Ae bk]at hf;rw[←hf];exact BI bk
   have R:=H0.out.2.2.1 f bj;rw[hf]at a1 a2 a3 a6;obtain⟨l,d⟩:=f;simp only at a1 a2 a3 a6 R;obtain⟨m,hm⟩: ∃m,l.length=m:=⟨_,rfl⟩;rw[R.1,hm]at a2;rw[hm]at a1;have ah:=H0.out.2.1.1;have b4:pb<s.heap.size:=Am ah hS.below.size;have p0:=(hS.below.cell (p:=⟨pb,po+k*2,N⟩) ah).trans a1;have p1:=(hS.below.cell (p:=⟨pb,po+k*2+1,N⟩) ah).trans a2;obtain⟨g,a8⟩: ∃g,s.alloc (rD #[Y (Z ⟨cb,co,N⟩) m cc,Y (Z ⟨sb,so,N⟩) m sc] 87)=g:=⟨_,rfl⟩;have ai:qZ s.heap.size s g:=by rw[←a8];exact Ct (rf _ _) _
   have ad:Cx g s.heap.size #[Y (Z ⟨cb,co,N⟩) m cc,Y (Z ⟨sb,so,N⟩) m sc] 87:=by rw[←a8];exact Cx.new s _ 87
   have n:=Aa (Ab ai ad);have b0:=ad.cell 0;have b1:=ad.cell 1;have b5:=ad.lt;have b7: ¬g.heap.size=s.heap.size:=by omega
   have b8: ¬g.heap.size+1=s.heap.size:=by omega
   have b9: ¬s.heap.size=g.heap.size:=by omega
   have ca: ¬s.heap.size=g.heap.size+1:=by omega
   simp only[Ad,Ac,Ag]at b0 b1;have ax:Hid (∀W,qZ g.heap.size g W→cb<W.heap.size∧ ∀(j:Nat)(x:qY),(FR l)[j]?=Z x→W.cell? ⟨cb,co+j,N⟩=Z x):=fun W hW=>by have F:=hS.below.trans ((ai.trans (hW.mono ai.size)).mono hS.below.size);exact⟨Am a3.1 F.size,fun j x hx=>(F.cell (p:=⟨cb,co+j,N⟩) a3.1).trans (WN a3 j x hx)⟩
   have M:Hid (0<m∧m≤1000∧(FR l).length=m*5∧d.length=m):=by show _∧_;rw[N2,←hm];exact⟨R.2.1,R.2.2,rfl,R.1⟩
   have HF:=Aa (Ab hf (Ab hm (Ab a3 (Ab a5 a6))));have HS:=Aa hS;clear hf bj R hm a1 a2 a3 a5 a6 hS ai ad ah hk;go_upto_region 4 with fail
   go_cut [5]from 13 to 58 (fun s5 W=>qy g m l s5 W)
   case first=>
    have ct:=fun w=>K5 m (by have:=M.out;omega) w;go_region_held3(fun w'=>w'.cell? ⟨s.heap.size,0,N⟩=Z (Y (Z ⟨cb,co,N⟩) m cc)) (go_keep) (first|(go_at_call 102;refine(D0 cb co m cc (FR l) _ M.out.1 M.out.2.1 (ax.out _ (by(repeat(first|exact rf _ _|refine rk ?_|refine Ct ?_ _)))).1 M.out.2.2.1 (ax.out _ (by(repeat(first|exact rf _ _|refine rk ?_|refine Ct ?_ _)))).2).mono ?_;rintro e V⟨vc,rfl,hR,F⟩;obtain⟨g2,O,P,rfl,bm,bn,bo⟩:=FE hR M.out.1;have y:qZ g.heap.size g V:=Z1 (by(repeat(first|exact rf _ _|refine rk ?_|refine Ct ?_ _))) F;have c0:=(y.cell (p:=⟨s.heap.size,0,N⟩) b5).trans b0;have bp:g.heap.size≤g2:=(AE (by first|(simp;done)|(simp;omega)) bm);(try(have q:Cx V g.heap.size #[Y N 0 0,Y N 0 0] 87:=Cx.below (by first|exact(Cx.new g _ 87).drew|exact((Cx.new g _ 87).alloc _).drew) F (by first|(simp;done)|(simp;omega));have xa:=q.cell 0;have xb:=q.cell 1;have xc:=q.free 0;have xd:=q.free 1;have xl:=q.lt;have xm: ¬g.heap.size=V.heap.size:=(by omega);simp only[Ad,Ac,Ag]at xa xb));(try(have C:Cx V (g.heap.size+1) #[Y N 0 0,Y N 0 0] 87:=Cx.below (by first|exact(Cx.Iq _ _ (by simp)).drew|fail) F (by first|(simp;done)|(simp;omega));have xa:=C.cell 0;have xb:=C.cell 1;have xc:=C.free 0;have xd:=C.free 1;have xl:=C.lt;have xm: ¬g.heap.size+1=V.heap.size:=(by omega);simp only[Ad,Ac,Ag]at xa xb));(try have bq:Cx V g.heap.size (madeCells #[ry rm] m) 4:=Cx.below (by first|exact(Cx.new g _ 4).drew|exact((Cx.new g _ 4).alloc _).drew) F (by first|(simp;done)|(simp;omega)));(try have c:Cx V (g.heap.size+1) (madeCells #[ry rm] m) 4:=Cx.below (by first|exact(Cx.Iq _ _ (by simp)).drew|fail) F (by first|(simp;done)|(simp;omega)));have cd:=Aa (Ab y (Ab bp (Ab bn bo)));clear hR F bm bn bo y bp))
    all_goals
     go_wp2_with fail;go_meet
     have u:=cd.out;refine⟨_,?_,g2,O,P,rfl,?_,?_,?_,u.2.2.2,?_,?_,u.2.1,?_⟩;rotate_left
     · first
       |(have h9:=Cx.Iq (w:=V.alloc (rD (madeCells #[ry rm] m) 4)) (b:=V.heap.size+1) #[Y (Z ⟨g2,0,N⟩) m O,Y (Z ⟨V.heap.size,0,N⟩) m m] 87 (by simp);exact h9)
       |exact Cx.new V #[Y (Z ⟨g2,0,N⟩) m O,Y (Z ⟨g.heap.size,0,N⟩) m m] 87
       |exact(Cx.new V #[Y (Z ⟨g2,0,N⟩) m O,Y (Z ⟨V.heap.size+1,0,N⟩) m m] 87).alloc _
       |exact((q.set 0 _).set 1 _).alloc _
       |exact(q.set 0 _).set 1 _
       |exact(C.set 0 _).set 1 _
     · first
       |exact(Cx.new _ _ _).alloc _
       |exact bq.alloc _
       |exact(c.setOther (by omega) _).setOther (by omega) _
       |exact(bq.setOther (by omega) _).setOther (by omega) _
       |exact Cx.Iq _ _ (by simp[rh])
     · first
       |exact(u.2.2.1.alloc _).alloc _
       |exact u.2.2.1.alloc _
       |exact((u.2.2.1.setOther (IQ u.2.2.1 q (by decide)) _).setOther (IQ u.2.2.1 q (by decide)) _).alloc _
       |exact(u.2.2.1.setOther (IQ u.2.2.1 q (by decide)) _).setOther (IQ u.2.2.1 q (by decide)) _
       |exact(u.2.2.1.setOther (IQ u.2.2.1 C (by decide)) _).setOther (IQ u.2.2.1 C (by decide)) _
     · first
       |exact Ct (Ct u.1 _) _
       |exact Ct u.1 _
       |exact Ct ((u.1.setCell (Al _) _).setCell (Al _) _) _
       |exact(u.1.setCell (Al _) _).setCell (Al _) _
       |exact(u.1.setCell (Bh _) _).setCell (Bh _) _
     ·have:=u.1.size;omega
     ·have:=u.1.size;omega
   case rest=>
    obtain⟨X,S,z,A,P,rfl,hX,aj,ba,br,F,g1,g2,g3⟩:=hcut;have xa:=hX.cell 0;have xb:=hX.cell 1;have f1:=(n.out.2.below F n.out.2.lt).cell 1;simp only[Ad,Ac,Ag]at xa xb f1;have bb:Hid (qZ w.heap.size w wc):=HS.out.below.trans ((n.out.1.trans (F.mono n.out.1.size)).mono HS.out.below.size);have cf:Hid (∀i,i<m→wc.cell? ⟨sb,so+i,N⟩=Z (ry (d[i]?.getD rm))):=fun i hi=>(bb.out.cell (p:=⟨sb,so+i,N⟩) HF.out.2.2.2.1).trans (HF.out.2.2.2.2 i (by have:=M.out.2.2.2;omega));have HC:=Aa (Ab hX (Ab aj (Ab ba (Ab br (Ab F (Ab g1 (Ab g2 g3)))))));have ak:Hid (X≠S):=IQ hX aj (by decide);have ch:Hid (z≠S):=IQ ba aj (by decide);have cj:=F.size;clear hX aj ba br F g1 g2 g3 a8 b7 b8 b9 ca b0 b1 p0 p1 b4;go_wp2_with((refine mI wc rfl _ _ rfl S m sb so sc d rfl rfl HC.out.2.1 M.out.2.2.2 cf.out ?_;intro W5 bs bc;have bt:=(HC.out.1.only bc ak.out).cell 1;have ao:=Aa (Ab bs bc);simp only[Ad,Ac,Ag]at bt;clear bs bc));have HA:Hid (∀W,Cv (fun b=>b=S) W5 W→ ∀i,i<m→re prog 103 #[I U (i:Nat),J (Z ⟨s.heap.size,0,N⟩)] W fun e w'=>e=rC (ry (row (l[i]?.getD i0).op).waits)∧qZ W.heap.size W w'):=fun W hO i hi=>by have G:Cv (fun b=>b=S) wc W:=ao.out.2.andThen hO (fun _ _ h=>h);have bu:=HC.out.2.2.2.2.2.1;have y:qZ w.heap.size w W:=bb.out.trans (G.toBelow bb.out.size (fun j hj=>by have e:j=S:=hj;have h1:=HS.out.below.size;have h2:=n.out.1.size;omega));have ck:Cx W s.heap.size #[Y (Z ⟨cb,co,N⟩) m cc,Y (Z ⟨sb,so,N⟩) m sc] 87:=(n.out.2.below HC.out.2.2.2.2.1 n.out.2.lt).only G (fun e=>by have e':s.heap.size=S:=e;omega);have cl:=((HF.out.2.2.1.below (y.mono (Al _))).2 i (by rw[HF.out.2.1];exact hi)).1;exact Te s.heap.size cb co m cc i _ _ W ck cl hi (H0.out.1.below y)
    have cm:Hid (∀W,Cv (fun b=>b=S) W5 W→W.cell? ⟨X,1,N⟩=Z (Y (Z ⟨S,0,N⟩) m m)):=fun W hO=>((HC.out.1.only ao.out.2 ak.out).only hO ak.out).cell 1;clear xa xb bt f1 cj;go_loopw [32] (fun t wr=> ∃j:Nat,j≤m∧t=I U j∧Cx wr S (Fb (Il l d j)) 4∧Cv (fun b=>b=S) W5 wr) (fun t _=>m-(intOf t).toNat)
    case atStart=>exact⟨0,Ap _,rfl,by rw[Z2];exact ao.out.1,Cv.refl _ _⟩
    case round=>
     obtain⟨j,hj,rfl,D,E⟩:=hrel;by_cases aq:j<m
     ·have ay:(j:Int)<(m:Int):=by omega
      have ar:Hid (j<d.length):=by show j<d.length;rw[M.out.2.2.2];exact aq
      have HJ:=Aa (Ab D E);have c1:=HA.out wr E j aq;have hw:wrap64 ((j:Int)+1)=((j+1:Nat):Int):=by have:=M.out.2.1;unfold wrap64;omega
      have bw:Hid (∀W,Cv (fun b=>b=S) wr W→Cx W S (Fb (Il l d j)) 4→W.cell? ⟨X,1,N⟩=Z (Y (Z ⟨S,0,N⟩) m m)∧W.frozen? ⟨S,j,N⟩=rm∧W.cell? ⟨S,j,N⟩=Z (ry ((Il l d j)[j]?.getD rm))):=fun W hO hb=>⟨cm.out W (HJ.out.2.andThen hO (fun _ _ h=>h)),hb.free j,(hb.cell j).trans (Z4 _ _ (by rw[Z5 _ _ _ (Nat.le_of_lt ar.out)];exact ar.out))⟩;have Q:Hid (∀W,Cv (fun b=>b=S) wr W→Cx W S (Fb (Il l d j)) 4→(GQ l d j=rq→Cx (W.setCell ⟨S,j,N⟩ (ry rq)) S (Fb (Il l d (j+1))) 4∧Cv (fun b=>b=S) W5 (W.setCell ⟨S,j,N⟩ (ry rq)))∧(GQ l d j=d[j]?.getD rm→Cx W S (Fb (Il l d (j+1))) 4∧Cv (fun b=>b=S) W5 W)):=fun W hO hb=>⟨fun h=>⟨by have:=hb.set j (ry rq);have e:=Q0 l d j ar.out;rw[h]at e;rw[WO,←e]at this;exact this,(HJ.out.2.andThen hO (fun _ _ h=>h)).set (.inr rfl) _ _⟩,fun h=>⟨by rw[Z3 l d j ar.out h];exact hb,HJ.out.2.andThen hO (fun _ _ h=>h)⟩⟩;cases B:(row (l[j]?.getD i0).op).waits
      ·rw[B]at c1
       have C1:=Aa c1;by_cases au:j=0
       ·have H:Hid (GQ l d j=d[j]?.getD rm):=by show _=_;unfold GQ;rw[B,au];simp
        clear c1 D E hj B aq ay;subst au;have ay:(0:Int)<(m:Int):=by have:=M.out.1;omega
        go_wp2_with(go_at_call 103;go_loud (refine C1.out.mono ?_;rintro e w3⟨rfl,a⟩;have o:Cv (fun b=>b=S) wr w3:=(Cv.refl _ _).below a;have c:=HJ.out.1.below a HJ.out.1.lt;have HE:=Aa ((Q.out w3 o c).2 H.out);clear a o c));have cn:=M.out.1;exact⟨⟨1,cn,rfl,HE.out.1,HE.out.2⟩,by simp[intOf];omega⟩
       ·have cu:(0:Int)<(j:Int):=by omega
        have e2:IntKind.i64.wrap ((j:Int)-1)=((j-1:Nat):Int):=by have:=M.out.2.1;rw[Zav];omega
        have bz:Hid (j-1<m):=by show j-1<m;omega
        cases aa:(row (l[j-1]?.getD i0).op).waits
        ·have H:Hid (GQ l d j=d[j]?.getD rm):=by show _=_;unfold GQ;rw[B,aa];simp
         have bd:=Aa aa;clear c1 D E hj B aa au;go_wp2_with(go_at_call 103;first|(have hh:=r;refine(HA.out _ (HJ.out.2.andThen r.out.1 (fun _ _ h=>h)) (j-1) bz.out).mono ?_;rintro e w4⟨rfl,L⟩;rw[bd.out];have ab:Cv (fun b=>b=S) wr w4:=r.out.1.below L;have HE:=Aa ((Q.out w4 ab (r.out.2.below L r.out.2.lt)).2 H.out);clear L ab hh)|(refine C1.out.mono ?_;rintro e w3⟨rfl,a⟩;have o:Cv (fun b=>b=S) wr w3:=(Cv.refl _ _).below a;have c:=HJ.out.1.below a HJ.out.1.lt;have r:=Aa (Ab o c);clear a o c));rw[hw];exact⟨⟨j+1,by omega,rfl,HE.out.1,HE.out.2⟩,by simp[intOf];omega⟩
        ·have H:Hid (GQ l d j=rq):=by show _=_;unfold GQ;rw[aa];have cp:0<j:=(by omega);simp[cp]
         have bd:=Aa aa;clear c1 D E hj B aa au;go_wp2_with(go_at_call 103;first|(have hh:=r;refine(HA.out _ (HJ.out.2.andThen r.out.1 (fun _ _ h=>h)) (j-1) bz.out).mono ?_;rintro e w4⟨rfl,L⟩;rw[bd.out];have ab:Cv (fun b=>b=S) wr w4:=r.out.1.below L;have bf:=r.out.2.below L r.out.2.lt;obtain⟨y1,y2,y3⟩:=bw.out w4 ab bf;have HE:=Aa ((Q.out w4 ab bf).1 H.out);clear L ab bf hh)|(refine C1.out.mono ?_;rintro e w3⟨rfl,a⟩;have o:Cv (fun b=>b=S) wr w3:=(Cv.refl _ _).below a;have c:=HJ.out.1.below a HJ.out.1.lt;have r:=Aa (Ab o c);clear a o c));rw[hw];exact⟨⟨j+1,by omega,rfl,HE.out.1,HE.out.2⟩,by simp[intOf];omega⟩
      ·rw[B]at c1
       have C1:=Aa c1;have H:Hid (GQ l d j=rq):=by show _=_;unfold GQ;rw[B];simp
       clear c1 D E hj B;go_wp2_with(go_at_call 103;go_loud (refine C1.out.mono ?_;rintro e w3⟨rfl,a⟩;have o:Cv (fun b=>b=S) wr w3:=(Cv.refl _ _).below a;have c:=HJ.out.1.below a HJ.out.1.lt;obtain⟨y1,y2,y3⟩:=bw.out w3 o c;have HE:=Aa ((Q.out w3 o c).1 H.out);clear a o c));rw[hw];exact⟨⟨j+1,by omega,rfl,HE.out.1,HE.out.2⟩,by simp[intOf];omega⟩
     ·obtain rfl:j=m:=by omega
      have az:j=d.length:=M.out.2.2.2.symm;rw[az,fJ]at D;clear az;have G:Cv (fun b=>b=S) wc wr:=ao.out.2.andThen E (fun _ _ h=>h);have bu:=HC.out.2.2.2.2.2.1;have ae:qZ s.heap.size s wr:=(n.out.1.trans (HC.out.2.2.2.2.1.mono n.out.1.size)).trans (G.toBelow (AE n.out.1.size HC.out.2.2.2.2.1.size) (fun b hb=>by have e:b=S:=hb;have h2:=n.out.1.size;omega));have y:qZ w.heap.size w wr:=HS.out.below.trans (ae.mono HS.out.below.size);have bg:=HC.out.1.only G ak.out;have b2:=HC.out.2.2.1.only G ch.out;have hOut:Cx wr (w.heap.size+1) #[v] 26:=HS.out.out.below ae HS.out.out.lt;have af:=CJ HS.out.row ae;obtain⟨ra,rc,rfl⟩:=DE af;have x0:=bg.cell 0;have x1:=bg.cell 1;have z0:=hOut.cell 0;have zl:=hOut.lt;simp only[Ad,Ac,Ag]at x0 x1 z0;have HG:=Aa (Ab ae (Ab y (Ab b2 (Ab D (Ab hOut af)))));clear D E G bu ae y bg b2 hOut af aq hj;go_wp2_with(at_builtin;go_loud (refine Jg underlying24 OW rfl (by decide) (by decide) w.heap.size _ rfl _ _ rfl (.slice ra k rc) k xs ⟨wr.heap.size,0,N⟩ 1 [Y (Z ⟨z,0,N⟩) j A,Y (Z ⟨S,0,N⟩) j j] rfl rfl (.inl (CJ HG.out.2.2.2.2.2 (Ct (rf _ _) _))) rfl (mJ wr _ _ 87) (by simp[Value.oneCell']) (by have:=HG.out.2.1.size;simp;omega) (by have:=H0.out.2.2.2;omega) ?_;intro v' w5 hA;obtain⟨g5,c5,rfl⟩:=hA.some;have av:Cx w5 (w.heap.size+1) #[.slice ra k rc] 26:=(KT.grown (T:=[87]) (CJ HG.out.2.2.2.2.2 (Ct (rf _ _) _)) hA.2.1 (by decide)).keep (HG.out.2.2.2.2.1.alloc _) (by decide);have z5:=av.cell 0;have zf:=av.free 0;have aw:=Aa (Ab hA av);simp only[Ad,Ac]at z5;clear hA av));have hw:wrap64 ((k:Int)+1)=((k+1:Nat):Int):=by have:=H0.out.2.2.2;unfold wrap64;omega
      rw[hw];have hg:=HG.out;have hA:=aw.out.1;have K:KT [87,26] wr (w5.setCell ⟨w.heap.size+1,0,N⟩ (Y (Z ⟨g5,0,N⟩) (k+1) c5)):=((KT.below (Ct (rf _ _) _)).trans (KT.grown (CJ hg.2.2.2.2.2 (Ct (rf _ _) _)) hA.2.1 (by decide))).trans (KT.set aw.out.2 (by decide) 0 _);have b3:xs.length=k*2:=hg.2.2.2.2.2.1;have s1:=HS.out.below.size;have s2:=n.out.1.size;refine⟨⟨k+1,Y (Z ⟨g5,0,N⟩) (k+1) c5,xs++[Y (Z ⟨z,0,N⟩) j A,Y (Z ⟨S,0,N⟩) j j],ag,rfl,⟨(CI (Ct hg.2.1 _) hA.2.1 (fun b hb=>(Az hg.2.2.2.2.2 b hb).1)).setCell (Bh _) _,aw.out.2.set 0 _,(KT.set (T:=[26]) aw.out.2 (by decide) 0 _).row hA.1 (by decide),fun i hi=>?_⟩⟩,by simp[intOf];omega⟩;by_cases cq:i<k
      ·have e1:(xs++[Y (Z ⟨z,0,N⟩) j A,Y (Z ⟨S,0,N⟩) j j]:List qY)[i*2]?=xs[i*2]?:=AD (by omega)
       have e2:(xs++[Y (Z ⟨z,0,N⟩) j A,Y (Z ⟨S,0,N⟩) j j]:List qY)[i*2+1]?=xs[i*2+1]?:=AD (by omega);rw[e1,e2];exact((HS.out.fns i cq).kt (KT.below (T:=[]) hg.1) (by decide) (by decide)).kt K (by decide) (by decide)
      ·obtain rfl:i=k:=by omega
       have e1:(xs++[Y (Z ⟨z,0,N⟩) j A,Y (Z ⟨S,0,N⟩) j j]:List qY)[i*2]?=Z (Y (Z ⟨z,0,N⟩) j A):=by rw[AJ (by omega),b3,Cg];rfl
       have e2:(xs++[Y (Z ⟨z,0,N⟩) j A,Y (Z ⟨S,0,N⟩) j j]:List qY)[i*2+1]?=Z (Y (Z ⟨S,0,N⟩) j j):=by rw[AJ (by omega),b3,Nat.add_sub_cancel_left];rfl
       have e3:(He l d).length=j:=by rw[Hf];exact M.out.2.2.2
       rw[e1,e2,HF.out.1];refine⟨⟨z,A,P,?_,K.keep hg.2.2.1 (by decide),by have:=HC.out.2.2.2.2.2.2.1;omega,?_⟩,⟨S,?_,K.keep hg.2.2.2.1 (by decide),by have:=HC.out.2.2.2.2.2.1;omega⟩⟩
       ·show _=Value.slice _ l.length A
        rw[HF.out.2.1];rfl
       ·show P.toList.take (l.length*5)=FR l
        rw[HF.out.2.1];exact HC.out.2.2.2.1
       ·show _=Value.slice _ (He l d).length (He l d).length
        rw[e3];rfl
  ·obtain rfl:k=np:=by omega
   obtain⟨ra,rc,rfl⟩:=DE hS.row;have z0:=hS.out.cell 0;have zf:=hS.out.free 0;simp only[Ad,Ac]at z0;have HF:=Aa hS;clear hS ag hk;go_wp2;have c0:=(HF.out.out.set 0 (.slice ra k rc)).cell 0;simp only[Ba,Bj,Ad,Ac]at c0;exact AG (v:=rE #[.slice ra k rc]) (by simp[results,results39,go_sem,c0]) rfl ⟨_,xs,rfl,by rw[a7.out];exact HF.out.set⟩
end
open Pm (K4 Nf EG)
variable {w wr w':oZ} {cur:Array qY} {sb sc base:Nat} {p:List (List CN×List Bool)} {v:qY} {xs:List qY}
theorem Z7{b:Nat}{l:List CN}(c:Cx w b cur 84)(d:cur.toList.take (l.length*5)=FR l):Fh w b 0 l:=by
 refine⟨c.lt,fun i e=>?_⟩;have a: ∀r,r<5→w.cell? ⟨b,i*5+r,N⟩=(MW (l[i]?.getD i0))[r]?:=fun r f=>by rw[c.cell,←AW,←AK (show i*5+r<l.length*5 by omega),d];exact MX l i r e f
 simp only[AO];exact⟨a 0 (by decide),a 1 (by decide),a 2 (by decide),a 3 (by decide),a 4 (by decide)⟩
theorem jY{sf:List Bool}(a:Cx w sb cur 4)(c:cur.toList.take sf.length=sf.map ry):FO.Bs w (Y (Z ⟨sb,0,N⟩) sf.length sc) sf:=by refine⟨sb,0,sc,rfl,a.lt,fun i b=>?_⟩;rw[AO,a.cell,←AW,←AK b,c];simp[b]
theorem Z8{sf:List Bool}(a:Cx w sb (Fb sf) 4):FO.Bs w (Y (Z ⟨sb,0,N⟩) sf.length sc) sf:=jY a (by rw[Fb];exact AU (by simp))
structure pD (w:oZ) (x y:qY) (l:List CN) (sf:List Bool):Prop where
 code: ∃cb cc,x=Y (Z ⟨cb,0,N⟩) l.length cc∧ ∃cur,Cx w cb cur 84∧cur.toList.take (l.length*5)=FR l
 safe: ∃sb,y=Y (Z ⟨sb,0,N⟩) sf.length sf.length∧Cx w sb (Fb sf) 4
theorem N3(e:wr.ownsRow base 87 2 v p.length xs)(h:0<p.length)(l: ∀i,i<p.length→pD wr (xs[i*2]?.getD undef) (xs[i*2+1]?.getD undef) (p[i]?.getD ([],[])).1 (p[i]?.getD ([],[])).2): ∃a c,v=Y (Z ⟨a,0,N⟩) p.length c∧base≤a∧Gv wr a 0 p:=by
 obtain⟨a,c,cur,m,d,f,n⟩:=FE e h;have b: ∀j,j<p.length*2→wr.cell? ⟨a,j,N⟩=xs[j]?:=fun j o=>by rw[f.cell,←AW,←AK o,n]
 have q:xs.length=p.length*2:=e.1;refine⟨a,c,m,d,f.lt,fun k r=>?_⟩;obtain⟨⟨s,t,u,g,w,t1⟩,⟨sb,x,y⟩⟩:=l k r;have s1:xs[k*2]?=Z (xs[k*2]?.getD undef):=by rw[Ae (by omega)];rfl
 have s2:xs[k*2+1]?=Z (xs[k*2+1]?.getD undef):=by rw[Ae (by omega)];rfl
 refine⟨s,0,t,sb,0,(p[k]?.getD ([],[])).2.length,?_,?_,Z7 w t1,Z8 y⟩
 ·rw[AO,b _ (by omega),s1,u]
 ·rw[AO,b _ (by omega),s2,x]
theorem jX.fI{W:oZ}(h:jX w p p.length v xs wr)(q:0<p.length)(K:KT [26] wr W): ∃c f,v=Y (Z ⟨c,0,N⟩) p.length f∧w.heap.size≤c∧Gv W c 0 (p.map Jt):=by
 have e:(p.map Jt).length=p.length:=Bg _;have k:=N3 (wr:=W) (base:=w.heap.size) (v:=v) (xs:=xs) (p:=p.map Jt) (by rw[e];exact K.row h.row (by decide)) (by omega) (fun i r=>by
  have a:i<p.length:=by omega
  have d:(p.map Jt)[i]?.getD ([],[])=Jt (p[i]?.getD ([],[])):=by simp[a]
  rw[d];obtain⟨⟨g,j,b,l,m,g1,t1⟩,⟨sb,n,o,g2⟩⟩:=(h.fns i a).kt K (by decide) (by decide);exact⟨⟨g,j,l,b,m,t1⟩,⟨sb,n,o⟩⟩)
 rw[e]at k;exact k
def MY(x:Int×Int):CN:=⟨x.1,0,0,0,x.2⟩
theorem Q1: ∀l:List (Int×Int),FR (l.map MY)=l.flatMap K4
 | []=>rfl
 |x::l=>by rw[List.map_cons,BD];show MW (MY x)++FR (l.map MY)=_;rw[Q1 l];rfl
theorem KT.only{S:Nat→Prop}{T:List rA}(o:Cv S w w')(h: ∀j,S j→ ∃cs t,Cx w j cs t∧t∈T):KT T w w':=⟨o.size,fun a b=>a.only o (fun c=>by obtain⟨cs,t,d,e⟩:=h _ c;exact b (C4 a d▸e))⟩
theorem Tg(m:Nat):madeCells #[ry rm] m=Fb (rj m rm):=by
 apply Array.ext';rw[Fb,madeCells,Array.toList_map,Array.toList_range];refine BC fun j=>?_;rw[Bn,List.map_replicate,BE];rcases AY j m with a|a
 ·rw[Ai a,List.getElem?_range a]
  show Z ((#[ry rm]:Array qY)[j%1]!)=_;rw[Nat.mod_one];rfl
 ·rw[Ah (by omega),A9 (by simpa using a)]
  rfl
theorem jZ{mk n lb lc:Nat}{l:List (Int×Int)}{e:rB}(f:Cx w mk #[J N,v] 96)(g:w.ownsRow base 87 2 v n xs)(i:Cx w lb cur 84)(k:cur.toList.take (l.length*5)=l.flatMap K4)(h:Nf mk n l.length base v (Y (Z ⟨lb,0,N⟩) l.length lc) xs w e w'): ∃a y,e=rC (rG #[])∧Cx w' mk #[J N,a] 96∧w'.ownsRow base 87 2 a (n+1) (xs++[Y (Z ⟨lb,0,N⟩) l.length lc,y])∧pD w' (Y (Z ⟨lb,0,N⟩) l.length lc) y (l.map MY) (rj l.length rm)∧KT [96,87] w w'∧Cv (fun j=>j=mk∨v.ownBlock=Z j) w w'∧a.ownBlock≠Z mk∧ ∃sb,y=Y (Z ⟨sb,0,N⟩) l.length l.length∧w.heap.size≤sb:=by
 obtain⟨rfl,a,sb,m,o,p,q,d,r⟩:=h;have K:KT [96,87] w w':=KT.only d (fun j b=>by
  rcases b with rfl|b
  ·exact⟨_,96,f,by decide⟩
  · obtain⟨cs,c⟩:=De g b
    exact⟨cs,87,c,by decide⟩)
 refine⟨a,_,rfl,m,o,⟨⟨lb,lc,by rw[Bg],cur,K.keep i (by decide),by rw[Bg,Q1];exact k⟩,⟨sb,by rw[Cd],by rw[←Tg];exact q⟩⟩,K,d,r,sb,rfl,p⟩
end Go.Proofs.YtgadhchejmlfjaaGreatDoor.EO
namespace Go.Proofs.YtgadhchejmlfjaaGreatDoor.pE
open Go.Proofs.Tryz Go.RowKit Go.CL
open DX (Laid)
open CX
open cN (es Dl)
open ZX (WI Em)
open FM (Mx DL C7 DD DO Gp)
variable {w w1 w' W a w0:oZ} {g lb b B cap lc:Nat} {x0 x1 x2 x3 x4 u0 u1 u2 u3 u4:qY}
abbrev j0 (P C S:ByteArray):Value:=rE #[rF P,rF C,rF S]
abbrev nD (g cap lb lc:Nat):Value:=rE #[Y (Z ⟨g,0,N⟩) 1 cap,I U 1,I U 1,I U 1,Y (Z ⟨lb,0,N⟩) 1500 lc]
structure Z9 (w:oZ) (g lb:Nat) (w1 w':oZ):Prop where
 one:qZ w.heap.size w w1
 laid:Laid w1
 prog:EO.Gv w1 g 0 [(DD,DO)]
 two:qZ w1.heap.size w1 w'
 ge:w1.heap.size≤lb
 lt:lb<w'.heap.size
 en:CX.G5 w' lb 0 (Dl 1500 0)
theorem Z9.all(h:Z9 w g lb w1 w'):qZ w.heap.size w w':=h.one.trans (h.two.mono h.one.size)
theorem Z9.go(h:Z9 w g lb w1 w')(d:qZ w'.heap.size w' W):Z9 w g lb w1 W:=⟨h.one,h.laid,h.prog,h.two.trans (d.mono h.two.size),h.ge,Am h.lt d.size,fun k e=>by obtain⟨a,b,c⟩:=h.en k e;exact⟨(d.cell (p:=⟨lb,0+k*3,N⟩) h.lt).trans a,(d.cell (p:=⟨lb,0+k*3+1,N⟩) h.lt).trans b,(d.cell (p:=⟨lb,0+k*3+2,N⟩) h.lt).trans c⟩⟩
def qA(w:oZ)(e:rB)(w':oZ):Prop:= ∃g cap lb lc w1,e=rC (rG #[nD g cap lb lc,.nilIface])∧Z9 w g lb w1 w'
theorem LH(w:oZ)(g cap:Nat)(a:Laid w)(b:EO.Gv w g 0 [(DD,DO)]):re prog 40 #[rE #[Y (Z ⟨g,0,N⟩) 1 cap]] w fun e w'=>e=rC (rG #[I U (-1),I U (-1),I U 0])∧qZ w.heap.size w w':=EO.Mn g 0 cap [(DD,DO)] w a b (by kernel_rfl)
theorem Q2(w:oZ)(hm:Mx w):re prog 210 #[rF ⟨(C7 (Dl 1500 0)).toArray⟩] w fun e w'=> ∃lb lc,e=rC (rG #[Y (Z ⟨lb,0,N⟩) 1500 lc,I U 0,I U 0])∧w.heap.size≤lb∧lb<w'.heap.size∧CX.G5 w' lb 0 (Dl 1500 0)∧qZ w.heap.size w w':=by refine(FM.U8 (Dl 1500 0) w N1 (by rw[Fl];decide) hm).mono ?_;rintro e w'⟨v,rfl,a,b⟩;obtain⟨g,cap,rfl,c,d,f⟩:=OX a (by rw[Fl];decide);rw[Fl];exact⟨g,cap,rfl,c,d,f,b⟩
theorem an{t:rA}(h:Cx W b #[x0,x1,x2,x3,x4] t):Cx (((((W.setCell ⟨b,0,N⟩ u0).setCell ⟨b,1,N⟩ u1).setCell ⟨b,2,N⟩ u2).setCell ⟨b,3,N⟩ u3).setCell ⟨b,4,N⟩ u4) b #[u0,u1,u2,u3,u4] t:=ZO (ZN (ZM (ZL (ZK h))))
theorem Th(h:qZ w.heap.size w W)(a:w.heap.size≤b):qZ w.heap.size w (((((W.setCell ⟨b,0,N⟩ u0).setCell ⟨b,1,N⟩ u1).setCell ⟨b,2,N⟩ u2).setCell ⟨b,3,N⟩ u3).setCell ⟨b,4,N⟩ u4):=((((h.setCell a _).setCell a _).setCell a _).setCell a _).setCell a _
theorem Gt{b:oZ}(h:qZ B a b)(p:Addr)(v:qY):qZ B (a.setCell p v) (b.setCell p v):=⟨h.os,h.tape,h.output,by simp[rh];exact h.size,fun k c=>by simp[rh,Array.getElem?_modify,h.block k c]⟩
theorem WQ(h:qZ B a w)(b:Nat)(u0 u1 u2 u3 u4:qY):qZ B (((((a.setCell ⟨b,0,N⟩ u0).setCell ⟨b,1,N⟩ u1).setCell ⟨b,2,N⟩ u2).setCell ⟨b,3,N⟩ u3).setCell ⟨b,4,N⟩ u4) (((((w.setCell ⟨b,0,N⟩ u0).setCell ⟨b,1,N⟩ u1).setCell ⟨b,2,N⟩ u2).setCell ⟨b,3,N⟩ u3).setCell ⟨b,4,N⟩ u4):=Gt (Gt (Gt (Gt (Gt h _ _) _ _) _ _) _ _) _ _
theorem N4:Cv (fun j=>j=b) W (((((W.setCell ⟨b,0,N⟩ u0).setCell ⟨b,1,N⟩ u1).setCell ⟨b,2,N⟩ u2).setCell ⟨b,3,N⟩ u3).setCell ⟨b,4,N⟩ u4):=oset (oset (oset (oset (oset (Ds b W) 0 _) 1 _) 2 _) 3 _) 4 _
theorem K8:(((((W.setCell ⟨b,0,N⟩ u0).setCell ⟨b,1,N⟩ u1).setCell ⟨b,2,N⟩ u2).setCell ⟨b,3,N⟩ u3).setCell ⟨b,4,N⟩ u4).heap.size=W.heap.size:=by simp[rh]
theorem aA{h a:oZ}{n sv:qY}(o:Laid w)(p:qZ w.heap.size w h)(l:FM.JZ h g n sv DD DO w1)(q:qZ w1.heap.size w1 a)(r:w.heap.size≤b)(c:Cx w1 b #[x0,x1,x2,x3,x4] 165)(s:w1.heap.size≤lb)(d:lb<a.heap.size)(t:CX.G5 a lb 0 (Dl 1500 0)):Z9 w g lb (((((w1.setCell ⟨b,0,N⟩ u0).setCell ⟨b,1,N⟩ u1).setCell ⟨b,2,N⟩ u2).setCell ⟨b,3,N⟩ u3).setCell ⟨b,4,N⟩ u4) (((((a.setCell ⟨b,0,N⟩ u0).setCell ⟨b,1,N⟩ u1).setCell ⟨b,2,N⟩ u2).setCell ⟨b,3,N⟩ u3).setCell ⟨b,4,N⟩ u4):=by
 have m:=Th (u0:=u0) (u1:=u1) (u2:=u2) (u3:=u3) (u4:=u4) (Cu p l.below) r;have u:=N4 (W:=w1) (b:=b) (u0:=u0) (u1:=u1) (u2:=u2) (u3:=u3) (u4:=u4);have v:=N4 (W:=a) (b:=b) (u0:=u0) (u1:=u1) (u2:=u2) (u3:=u3) (u4:=u4);have K:KT [165] w1 _:=EO.KT.only u (fun j x=>⟨_,165,(show j=b from x)▸c,by decide⟩);have y:=l.iq K (by decide) (by decide) (by decide) (by decide) (by decide);have z:=WQ q b u0 u1 u2 u3 u4;refine⟨m,o.below m,y,?_,?_,?_,fun k A=>?_⟩
 ·rw[K8];exact z
 ·rw[K8];exact s
 ·rw[K8];exact d
 ·have e: ¬lb=b:=by have:=c.lt;omega
  have f: ∀i,World.cell? (((((a.setCell ⟨b,0,N⟩ u0).setCell ⟨b,1,N⟩ u1).setCell ⟨b,2,N⟩ u2).setCell ⟨b,3,N⟩ u3).setCell ⟨b,4,N⟩ u4) ⟨lb,i,N⟩=a.cell? ⟨lb,i,N⟩:=fun i=>AH (v.block lb d e);rw[f,f,f];exact t k A
theorem aB(w:oZ)(x:Laid w)(hm:Mx w):re prog 139 #[j0 ⟨Gp.toArray⟩ ⟨(DL (1,1,1)).toArray⟩ ⟨(C7 (Dl 1500 0)).toArray⟩] w (qA w):=by
 have H1:=Aa (fun W(a:qZ w.heap.size w W)=>FM.QU W (x.below a) (hm.below a));have L:=Aa (fun W(a:qZ w.heap.size w W)=>FM.J7 1 1 1 W (by decide) (by decide) (by decide) (hm.below a));have M:=Aa (fun W(a:qZ w.heap.size w W)=>Q2 W (hm.below a));have z:=Aa (Ab x hm);clear x hm;generalize(⟨Gp.toArray⟩:ByteArray)=P at*
 generalize(⟨(DL (1,1,1)).toArray⟩:ByteArray)=C at*
 generalize(⟨(C7 (Dl 1500 0)).toArray⟩:ByteArray)=S at*
 obtain⟨d,i⟩: ∃d,(w.alloc (rD #[rF P,rF C,rF S] 63)).alloc (rD #[Y N 0 0,I U 0,I U 0,I U 0,Y N 0 0] 165)=d:=⟨_,rfl⟩;have A:qZ w.heap.size w d:=by rw[←i];exact Ct (Ct (rf _ _) _) _
 have m:Cx d w.heap.size #[rF P,rF C,rF S] 63:=by rw[←i];exact(Cx.new w _ 63).below (Ct (rf _ _) _) (by simp)
 have j:Cx d (w.heap.size+1) #[Y N 0 0,I U 0,I U 0,I U 0,Y N 0 0] 165:=by have k:=Cx.new (w.alloc (rD #[rF P,rF C,rF S] 63)) #[Y N 0 0,I U 0,I U 0,I U 0,Y N 0 0] 165;rw[i]at k;simpa using k
 have r:Hid (∀W,qZ d.heap.size d W→W.cell? ⟨w.heap.size,0,N⟩=Z (rF P)∧W.cell? ⟨w.heap.size,1,N⟩=Z (rF C)∧W.cell? ⟨w.heap.size,2,N⟩=Z (rF S)):=fun W y=>by have k:=m.below y m.lt;exact⟨k.cell 0,k.cell 1,k.cell 2⟩
 have B:Hid (∀W,qZ d.heap.size d W→Cx W (w.heap.size+1) #[Y N 0 0,I U 0,I U 0,I U 0,Y N 0 0] 165):=fun W y=>j.below y j.lt;have l:=Aa A;have l0:=j.lt;obtain⟨a0,O,a2⟩:=r.out d (rf _ _);clear A m j;go_enter func139,ntmps139;go_wp2_with(first|(go_at_call 207;refine(H1.out _ l.out).mono ?_;rintro e w1⟨g,cap,cv,sv,rfl,n⟩;obtain⟨Q,m,j⟩:=r.out w1 n.below;have l1:w.heap.size<w1.heap.size:=(by have:=n.below.size;omega);have l2:w.heap.size+1<w1.heap.size:=(by have:=n.below.size;omega);have f:=Aa n;clear n a0 O a2)|(go_at_call 40;refine(LH _ g cap ((z.out.1.below (l.out.trans (f.out.below.mono l.out.size))).below (Ct (rf _ _) _)) ((f.out.fI (by decide) (by decide)).below (Ct (rf _ _) _))).mono ?_;rintro e s⟨rfl,a⟩;have h:=(Ct (rf w1.heap.size w1) _).trans (a.mono (by simp));have o:=Aa h;obtain⟨d0,d1,d2⟩:=r.out s (Cu f.out.below h);have D:s.cell? ⟨w1.heap.size,0,N⟩=Z (Y (Z ⟨g,0,N⟩) 1 cap):=(a.cell (p:=⟨w1.heap.size,0,N⟩) (by simp)).trans ((Cx.new w1 #[Y (Z ⟨g,0,N⟩) 1 cap] 26).cell 0);have l3:w.heap.size<s.heap.size:=(by have:=h.size;omega);have R:w1.heap.size<s.heap.size:=(by have:=a.size;simp at this;omega);clear a h Q m j)|(go_at_call 209;refine(L.out _ (Cu (Cu l.out f.out.below) o.out)).mono ?_;rintro e t⟨rfl,a⟩;have c:=Aa (Cu o.out a);obtain⟨g0,g1,g2⟩:=r.out t (Cu f.out.below c.out);have E:=(a.cell (p:=⟨w1.heap.size,0,N⟩) R).trans D;have l5:w.heap.size<t.heap.size:=(by have:=a.size;omega);have T:w1.heap.size<t.heap.size:=(by have:=a.size;omega);clear a d0 d1 d2 D)|(go_at_call 210;refine(M.out _ (Cu (Cu l.out f.out.below) (c.out.alloc c.out.size _))).mono ?_;rintro e V⟨lb,lc,rfl,F,G,H,a⟩;have q:=Aa (Cu (c.out.alloc c.out.size _) a);have q6:=(a.cell (p:=⟨w1.heap.size,0,N⟩) (by simp;omega)).trans ((World.cell?_alloc_past _ _ _ T).trans E);have k3:=(Cx.new t #[I U 1,I U 1,I U 1] 34).below a (by simp);have m0:=k3.cell 0;have m1:=k3.cell 1;have m2:=k3.cell 2;have b:=B.out V (Cu f.out.below q.out);have f0:=b.free 0;have f1:=b.free 1;have f2:=b.free 2;have f3:=b.free 3;have f4:=b.free 4;have z0:=b.cell 0;have X:=b.cell 1;have z2:=b.cell 2;have z3:=b.cell 3;have z4:=b.cell 4;have u:=Aa (Ab F (Ab G (Ab H (Ab a b))));simp only[Ad,Ac,Ag]at m0 m1 m2 z0 X z2 z3 z4;clear F G H a b k3 g0 g1 g2 E));have hq:=aA (u0:=Y (Z ⟨g,0,N⟩) 1 cap) (u1:=I U 1) (u2:=I U 1) (u3:=I U 1) (u4:=Y (Z ⟨lb,0,N⟩) 1500 lc) z.out.1 l.out f.out q.out (Bh _) (B.out w1 f.out.below) (AE (c.out.alloc c.out.size _).size u.out.1) u.out.2.1 u.out.2.2.1;have b:=an (u0:=Y (Z ⟨g,0,N⟩) 1 cap) (u1:=I U 1) (u2:=I U 1) (u3:=I U 1) (u4:=Y (Z ⟨lb,0,N⟩) 1500 lc) u.out.2.2.2.2;have c0:=b.cell 0;have c1:=b.cell 1;have K:=b.cell 2;have c3:=b.cell 3;have c4:=b.cell 4;simp only[Ad,Ac,Ag]at c0 c1 K c3 c4;exact AG (v:=rG #[nD g cap lb lc,.nilIface]) (by simp[results,results139,go_sem,c0,c1,K,c3,c4]) rfl ⟨g,cap,lb,lc,_,rfl,hq⟩
theorem Ti(h:Z9 w0 g lb w1 w):re prog 10 #[rE #[Y (Z ⟨g,0,N⟩) 1 cap],rE #[I U 1,I U 1,I U 1]] w (mD (Js w1.heap.size) w IG 1 1 1 (Y (Z ⟨g,0,N⟩) 1 cap)):=by have a:=Z0 (pc:=cap) h.two h.laid (Nat.lt_of_le_of_lt (Ap _) h.prog.1) h.prog;rw[WL]at a;exact GA (Js w1.heap.size) IG g 0 cap 1 1 1 1 w a (fun W b=>LH W g cap ((h.laid.below h.two).below b) ((h.prog.below h.two).below b)) (by decide) (by decide) (by decide)
def qB(w:oZ)(e:rB)(w':oZ):Prop:= ∃mv a b,e=rC (rG #[mv,Y (Z ⟨a,0,N⟩) 6 b])∧WI w' a 0 Gq∧a<w'.heap.size∧qZ w.heap.size w w'
theorem WS{wn:oZ}{l:Nat}{V:Vr}{own:Nat→Nat}(h:Z9 w0 g lb w1 w)(p:CC l V own wn (NY IG 1 1 1))(m: ∀j,j<w.heap.size→own j=Js w1.heap.size j) (f:qZ w.heap.size w wn):re prog 69 #[ptr l,Y (Z ⟨lb,0,N⟩) 1500 lc] wn fun e w'=> ∃c i,e=rC (Y (Z ⟨c,0,N⟩) 6 i)∧WI w' c 0 Gq∧c<w'.heap.size∧qZ w.heap.size w w':=by
 obtain⟨out,y,q,d⟩:=Td;have n:=Fl;have r:=(h.go f).en;have k:=p.runs (a:=Z ⟨lb,0,N⟩) (lc:=lc) q (.inr ⟨lb,0,rfl,r,(h.go f).lt,.inl (by rw[m lb h.lt];exact Ah (Nat.not_lt.2 h.ge))⟩) (by rw[n];decide);rw[n]at k;refine k.mono ?_;rintro e w'⟨v,z,o,rfl,b,A,s,t,B⟩;have hlen:out.length=Gq.length:=by rw[←d,Bg]
 rw[hlen,QX,d]at b;obtain⟨c,i,rfl,C,u,x⟩:=jW b (by decide);exact⟨c,i,rfl,x,u,I8 f (fun j D=>by unfold Js;split;exact .inr rfl;exact .inl rfl) m t⟩
theorem j1(w:oZ)(g cap lb lc:Nat):Cx (w.alloc (rD #[Y (Z ⟨g,0,N⟩) 1 cap,I U 1,I U 1,I U 1,Y (Z ⟨lb,0,N⟩) 1500 lc] 165)) w.heap.size #[Y (Z ⟨g,0,N⟩) 1 cap,I U 1,I U 1,I U 1,Y (Z ⟨lb,0,N⟩) 1500 lc] 165:=Cx.new w _ 165
theorem fK(h:Z9 w0 g lb w1 w):re prog 79 #[nD g cap lb lc] w (qB w):=by have a:=Ct (rf w.heap.size w) (rD #[Y (Z ⟨g,0,N⟩) 1 cap,I U 1,I U 1,I U 1,Y (Z ⟨lb,0,N⟩) 1500 lc] 165);have H:=Aa (h.go a);have o:=Aa (Ti (cap:=cap) (h.go a));have f:=Aa (j1 w g cap lb lc);have i:=Aa a;clear h a;go_enter func79,ntmps79;go_wp2_with(first|(go_at_call 10;refine o.out.mono ?_;rintro e wn⟨t,V,own,rfl,j,b,k,c,_⟩;have p:=Aa (WS (lc:=lc) H.out j k c);have q:=(f.out.below c f.out.lt).cell 4;simp only[Ad,Ac,Ag]at q;clear j b k c)|(go_at_call 69;refine p.out.mono ?_;rintro e u⟨r,s,rfl,l,m,n⟩;have d:=Aa (Ab l (Ab m n));clear l m n));go_ret2;exact⟨_,r,s,rfl,d.out.1,d.out.2.1,i.out.trans (d.out.2.2.mono i.out.size)⟩
theorem aC(h:Z9 w0 g lb w1 w)(f:F2.Pow w):re prog 100 #[nD g cap lb lc] w fun e w'=>e=rC (rF ⟨(Em Gq).toArray⟩)∧qZ w.heap.size w w':=by have a:=Ct (rf w.heap.size w) (rD #[Y (Z ⟨g,0,N⟩) 1 cap,I U 1,I U 1,I U 1,Y (Z ⟨lb,0,N⟩) 1500 lc] 165);have m:=Aa (fK (cap:=cap) (lc:=lc) (h.go a));have n:=Aa (FM.Pow.below f a);have i:=Aa a;clear h f a;go_enter func100,ntmps100;go_wp2_with(first|(go_at_call 79;refine m.out.mono ?_;rintro e w1⟨mv,o,p,rfl,j,k,b⟩;have q:=Aa (ZX.S6 Gq o 0 p _ j k QY (by decide) (FM.Pow.below n.out b));have c:=Aa (i.out.trans (b.mono i.out.size));clear j k b)|(go_at_call 101;refine q.out.mono ?_;rintro e r⟨rfl,l⟩;have d:=Aa (Cu c.out l);clear l));go_ret;exact⟨rfl,d.out⟩
theorem aD(w:oZ)(i:Laid w)(hm:Mx w)(j:F2.Pow w):re prog 77 #[j0 ⟨Gp.toArray⟩ ⟨(DL (1,1,1)).toArray⟩ ⟨(C7 (Dl 1500 0)).toArray⟩,.func (.func 100) #[] #[]] w fun e w'=>e=rC (rF ⟨(Em Gq).toArray⟩)∧qZ w.heap.size w w':=by
 have c:=Aa (fun W(k:qZ w.heap.size w W)=>aB W (i.below k) (hm.below k));have n:=Aa j;clear i hm j;generalize(⟨Gp.toArray⟩:ByteArray)=P at*
 generalize(⟨(DL (1,1,1)).toArray⟩:ByteArray)=C at*
 generalize(⟨(C7 (Dl 1500 0)).toArray⟩:ByteArray)=S at*
 have l:=Aa (Ct (rf w.heap.size w) (rD #[rF P,rF C,rF S] 63));go_enter func77,ntmps77;go_wp2_with(first|(go_at_call 139;refine(c.out _ l.out).mono ?_;rintro e wl⟨g,cap,lb,lc,w1,rfl,d⟩;have b:=Ct (rf wl.heap.size wl) (rD #[Y (Z ⟨g,0,N⟩) 1 cap,I U 1,I U 1,I U 1,Y (Z ⟨lb,0,N⟩) 1500 lc] 165);have a:=Cu (Cu l.out d.all) b;have o:=Aa (aC (cap:=cap) (lc:=lc) (d.go b) (FM.Pow.below n.out a));have f:=Aa a;clear d b a)|(go_at_call 100;refine o.out.mono ?_;rintro e p⟨rfl,m⟩;have h:=Aa (Cu f.out m);clear m));go_ret;exact⟨rfl,h.out⟩
theorem fL(w:oZ)(c:Laid w)(hm:Mx w)(d:F2.Pow w):re prog 34 #[j0 ⟨Gp.toArray⟩ ⟨(DL (1,1,1)).toArray⟩ ⟨(C7 (Dl 1500 0)).toArray⟩] w fun e w'=>e=rC (rF ⟨(Em Gq).toArray⟩)∧qZ w.heap.size w w':=by
 have h:=Aa (fun W(a:qZ w.heap.size w W)=>aD W (c.below a) (hm.below a) (FM.Pow.below d a));clear c hm d;generalize(⟨Gp.toArray⟩:ByteArray)=P at*
 generalize(⟨(DL (1,1,1)).toArray⟩:ByteArray)=C at*
 generalize(⟨(C7 (Dl 1500 0)).toArray⟩:ByteArray)=S at*
 have f:=Aa (Ct (rf w.heap.size w) (rD #[rF P,rF C,rF S] 63));go_enter func34,ntmps34;go_wp2_with(go_at_call 77;refine(h.out _ f.out).mono ?_;rintro e i⟨rfl,g⟩;have b:=Aa (Cu f.out g);clear g);go_ret;exact⟨rfl,b.out⟩
end Go.Proofs.YtgadhchejmlfjaaGreatDoor.pE
namespace Go.Proofs.YtgadhchejmlfjaaGreatDoor.Pm
open Go.Proofs.Tryz Go.RowKit Go.CL
open DX (Laid)
open Vm (CN)
open EO
variable {w w':oZ}
theorem aE(w:oZ)(l:List qY)(t:rA): ∀(j:Nat)(u:qY),l[j]?=Z u→(w.alloc (rD l.toArray t)).cell? ((⟨w.heap.size,0,N⟩:Addr).add j)=Z u:=by have h:=Cx.new w l.toArray t;intro j u hu;rw[show((⟨w.heap.size,0,N⟩:Addr).add j)=⟨w.heap.size,j,N⟩from by rw[Ay,AO]];rw[h.cell j,←hu];simp
def gl:Nat→List (Int×Int)
 |0=>[(1,1)]
 |_=>[(1,1),(17,0),(15,0),(18,0)]
structure nE (w:oZ) (k:Nat) (t:qY) (wr:oZ):Prop where
 below:qZ w.heap.size w wr
 out:Cx wr w.heap.size #[Y N 0 0] 26
 row:wr.ownsRow w.heap.size 84 5 t (1+3*k) ((gl k).flatMap K4)
theorem nE.app{wr:oZ}{v v':qY}{n m:Nat}{xs ys:List qY}(c:Cx wr w.heap.size #[Y N 0 0] 26)(d:qZ w.heap.size w wr)(b:wr.ownsRow w.heap.size 84 5 v n xs)(a:ij wr w.heap.size 84 5 v n xs m ys v' w'):qZ w.heap.size w w'∧Cx w' w.heap.size #[Y N 0 0] 26∧w'.ownsRow w.heap.size 84 5 v' (n+m) (xs++ys):=⟨CI d a.2 (fun j e=>(Az b j e).1),(KT.grown (T:=[84]) b a.2 (by decide)).keep c (by decide),a.1⟩
def aF:List (Int×Int):=[(1,1),(17,0),(15,0),(18,0),(14,0)]
def Tj:List (List CN×List Bool):=[(aF.map MY,rj 5 rm)]
theorem j2{mk lb lc:Nat}{l:List (Int×Int)}{cur:Array qY}{e:rB}(d:Cx w mk #[J N,Y N 0 0] 96)(f:Cx w lb cur 84)(g:cur.toList.take (l.length*5)=l.flatMap K4)(h:Nf mk 0 l.length w.heap.size (Y N 0 0) (Y (Z ⟨lb,0,N⟩) l.length lc) [] w e w'): ∃b c,e=rC (rG #[])∧Cx w' mk #[J N,Y (Z ⟨b,0,N⟩) 1 c] 96∧Gv w' b 0 [(l.map MY,rj l.length rm)]∧KT [96,87] w w'∧Cv (fun j=>j=mk) w w':=by
 obtain⟨u,y,rfl,m,n,o,q,r,v,x,rfl,z⟩:=jZ d (AL w w.heap.size 87 2) f g h;have k:=N3 (p:=[(l.map MY,rj l.length rm)]) n Nat.one_pos (fun i s=>by
  obtain rfl:i=0:=by simp at s;omega
  exact o)
 obtain⟨b,c,rfl,_,t⟩:=k;exact⟨b,c,rfl,m,t,q,r.mono (fun j _ a=>by rcases a with a|a;exact a;cases a)⟩
theorem aG(n b pc:Nat)(p:List (List CN×List Bool))(w:oZ)(j:p.length=n)(h:0<n)(k:Laid w)(l:Gv w b 0 p)(hlen: ∀f∈p,f.2.length=f.1.length∧0<f.1.length∧f.1.length≤1000) (hm:n≤100):re prog 39 #[rE #[Y (Z ⟨b,0,N⟩) n pc]] w fun e w'=> ∃a c,e=rC (rE #[Y (Z ⟨a,0,N⟩) n c])∧qZ w.heap.size w w'∧ ∀W,KT [26] w' W→Gv W a 0 (p.map Jt):=by subst j;refine(Z6 b 0 pc p w k l hlen hm).mono ?_;rintro e w'⟨v,xs,rfl,d⟩;obtain⟨a,c,rfl,_,_⟩:=d.fI h (KT.refl _ _);refine⟨a,c,rfl,d.below,fun W K=>?_⟩;obtain⟨m,rc,i,_,g⟩:=d.fI h K;simp only[Ar,Ak,BF,and_true,true_and]at i;rw[i.1];exact g
theorem WT(w:oZ)(hL:Laid w):re prog 32 #[I U 1] w fun e w'=> ∃K P,e=rC (rG #[rE #[Y (Z ⟨K,0,N⟩) 1 P],I U 0])∧Gv w' K 0 (Tj.map Jt)∧qZ w.heap.size w w':=by
 have H0:=Aa hL;clear hL;go_enter func32,ntmps32;go_wp2_with(go_at_call 35;refine(K2 1 _ (by decide) (by decide)).mono ?_;rintro e q⟨rfl,rfl⟩);have s:Hid (nE w 0 (Y (Z ⟨w.heap.size+1,0,N⟩) 1 1) ((w.alloc (rD #[Y N 0 0] 26)).alloc (rD #[I U 1,I U 0,I U 0,I U 0,I U 1] 84))):=⟨Ct (Ct (rf _ _) _) _,(Cx.new w _ 26).below (Ct (rf _ _) _) (by simp),by have k:=L9 (w:=(w.alloc (rD #[Y N 0 0] 26)).alloc (rD #[I U 1,I U 0,I U 0,I U 0,I U 1] 84)) (base:=w.heap.size) (n:=1) (size:=5) (Cx.new (w.alloc (rD #[Y N 0 0] 26)) #[I U 1,I U 0,I U 0,I U 0,I U 1] 84) (by simp) rfl (by decide);show World.ownsRow _ _ _ _ _ 1 [I U 1,I U 0,I U 0,I U 0,I U 1];simpa using k⟩;go_loopw [4,19] (fun t4 t19 wr=> ∃k:Nat,k≤1∧t19=I U k∧nE w k t4 wr) (fun _ t _=>1-(intOf t).toNat)
 case atStart=>exact⟨0,by decide,rfl,s.out⟩
 case round=>
  obtain⟨k,hk,rfl,Q⟩:=hrel;clear s;obtain⟨a,c,rfl⟩:=DE Q.row;have d:=Aa Q;have f:=Aa (rf wr.heap.size wr);clear Q;by_cases u:k=0
  ·subst u
   clear hk;go_wp2_with(first|(go_at_call 38;refine(Jy _ _ _).mono ?_;rintro e q⟨rfl,h⟩;have f:=Aa (f.out.trans (h.mono f.out.size));clear h)|(at_builtin;refine ik underlying85 K3 rfl (by decide) (by decide) w.heap.size _ rfl _ _ rfl _ 1 ((gl 0).flatMap K4) ⟨q.heap.size,0,N⟩ 3 3 ([(17,0),(15,0),(18,0)].flatMap K4) rfl rfl (CJ d.out.row (f.out.alloc f.out.size _)) rfl (aE q ([(17,0),(15,0),(18,0)].flatMap K4) 84) (QQ _) (by have:=d.out.below.size;have:=f.out.size;simp;omega) (by decide) ?_;intro v' R i;have S:=Aa (nE.app (d.out.out.below (f.out.alloc f.out.size _) d.out.out.lt) (d.out.below.trans ((f.out.alloc f.out.size _).mono d.out.below.size)) (CJ d.out.row (f.out.alloc f.out.size _)) i);clear i));go_roundw
   case rel=>exact⟨1,by decide,by go_num,S.out.1,S.out.2.1,S.out.2.2⟩
   case measure=>simp[intOf]
  ·obtain rfl:k=1:=by omega
   clear hk u;have hM:Cx (wr.alloc (rD #[J N,Y N 0 0] 96)) wr.heap.size #[J N,Y N 0 0] 96:=Cx.new wr _ 96;have x:=Aa hM;clear hM;go_wp2_with(first|(go_at_call 38;refine(Jy _ _ _).mono ?_;rintro e q⟨rfl,h⟩;have m:=Aa (Cu (d.out.below.alloc d.out.below.size _) h);have b:=Aa ((Ct (rf wr.heap.size wr) _).trans (h.mono (by simp)));have x:=Aa (x.out.below h x.out.lt);clear h)|(at_builtin;refine ik underlying85 K3 rfl (by decide) (by decide) w.heap.size _ rfl _ _ rfl _ (1+3*1) ((gl 1).flatMap K4) ⟨q.heap.size,0,N⟩ 1 1 ([(14,0)].flatMap K4) rfl rfl (CJ d.out.row (b.out.alloc b.out.size _)) rfl (aE q ([(14,0)].flatMap K4) 84) (QQ _) (by have:=m.out.size;simp;omega) (by decide) ?_;intro v' R i;have V:=CJ d.out.row (b.out.alloc b.out.size (rD #[I U 14,I U 0,I U 0,I U 0,I U 0] 84));have W:=KT.grown (T:=[84]) V i.2 (by decide);have y:=W.keep (x.out.below (Ct (rf _ _) _) x.out.lt) (by decide);have z:=W.keep ((d.out.out.below b.out d.out.out.lt).below (Ct (rf _ _) _) ((d.out.out.below b.out d.out.out.lt)).lt) (by decide);have A:=CI (m.out.alloc m.out.size _) i.2 (fun j X=>(Az V j X).1);obtain⟨lb,lc,cur,rfl,_,B,C⟩:=FE i.1 (by decide);have o:=Aa (Ab y (Ab z (Ab A (Ab B C))));clear i V W y z A B C)|(go_at_call 36;refine(EG wr.heap.size 0 5 N (Z ⟨lb,0,N⟩) 0 lc R.heap.size [] R o.out.1 (AL _ _ _ _) (Al _) (by decide) (by decide) (by simp[Value.ownBlock])).mono ?_;rintro e w6 hp;obtain⟨K,P,rfl,D,E,K6,O6⟩:=j2 (l:=aF) o.out.1 o.out.2.2.2.1 o.out.2.2.2.2 hp;have F:=o.out.2.2.1.trans (O6.toBelow o.out.2.2.1.size (fun j X=>by rw[show j=wr.heap.size from X];exact d.out.below.size));have G:=K6.keep o.out.2.1 (by decide);have q1:=D.cell 1;have r:=Aa (Ab E (Ab F G));simp only[Ad,Ac,Ag]at q1;clear hp D E K6 O6 F G)|(go_at_call 39;refine(aG 1 K P Tj w6 rfl (by decide) (H0.out.below r.out.2.1) r.out.1 (by decide) (by decide)).mono ?_;rintro e w7⟨L,M,rfl,p,H⟩;have g:=r.out.2.2.below p r.out.2.2.lt;have z0:=g.cell 0;have u0:=g.free 0;have O:=Aa (Ab p (Ab H g));simp only[Ad,Ac]at z0;clear p H g));have K7:KT [26] w7 (w7.setCell ⟨w.heap.size,0,N⟩ (Y (Z ⟨L,0,N⟩) 1 M)):=KT.set O.out.2.2 (by decide) 0 _;have c0:=(O.out.2.2.set 0 (Y (Z ⟨L,0,N⟩) 1 M)).cell 0;simp only[Ba,Bj,Ad,Ac]at c0;exact AG (v:=rG #[rE #[Y (Z ⟨L,0,N⟩) 1 M],I U 0]) (by simp[results,results32,go_sem,c0]) rfl ⟨L,M,rfl,O.out.2.1 _ K7,((r.out.2.1.trans (O.out.1.mono r.out.2.1.size)).setCell (Al _) _)⟩
end Go.Proofs.YtgadhchejmlfjaaGreatDoor.Pm
namespace Go.Proofs.YtgadhchejmlfjaaGreatDoor.nF
open Go.Proofs.Tryz Go.RowKit Go.CL
open DX (Laid)
open CX
open pE
open cN (es Dl)
open ZX (Em)
open FM (Mx DL C7 DD DO Gp)
theorem Tk(w:oZ):re prog 33 #[I U 1500,I U 0] w fun e a=> ∃b lc,e=rC (Y (Z ⟨b,0,N⟩) 1500 lc)∧CX.G5 a b 0 (Dl 1500 0)∧b<a.heap.size∧qZ w.heap.size w a:=by refine(cN.U4 1500 0 w (by decide)).mono ?_;rintro e a⟨v,rfl,f,h⟩;have c:=Fl;obtain⟨g,cap,rfl,j,d,i⟩:=OX (l:=Dl 1500 0) (by rw[c];exact f) (by rw[c];decide);rw[c];exact⟨g,cap,rfl,i,d,h⟩
theorem Q3(w:oZ)(lb lc:Nat)(b:CX.G5 w lb 0 (Dl 1500 0))(a:lb<w.heap.size)(c:F2.Pow w):re prog 20 #[Y (Z ⟨lb,0,N⟩) 1500 lc] w fun e d=>e=rC (rF ⟨(C7 (Dl 1500 0)).toArray⟩)∧qZ w.heap.size w d:=by have k:=FM.UZ (Dl 1500 0) lb 0 lc w b a N1 (by rw[Fl];decide) c;rw[Fl]at k;exact k
theorem WU:(⟨#[49,32,49,32,49]⟩:ByteArray)=⟨(DL (1,1,1)).toArray⟩:=by rw[show DL (1,1,1)=[49,32,49,32,49] by kernel_rfl]
def aH:List UInt8:=[99,111,109,109,105,116,32,49,32,48,32,48,32,48,10,98,101,103,105,110,32,49,32,48,32,49,10,99,111,109,109,105,116,32,49,32,48,32,49,32,48,10,99,111,109,109,105,116,32,49,32,48,32,50,32,49,10,99,111,109,109,105,116,32,49,32,48,32,51,32,48,10,99,111,109,109,105,116,32,49,32,48,32,52,32,48,10]
theorem Tl:Em Gq=aH:=by kernel_rfl
theorem fM:Pm.Tj.map EO.Jt=[(DD,DO)]:=by kernel_rfl
theorem WV(w:oZ)(r:Laid w)(hm:Mx w)(s:F2.Pow w):re prog 8 #[] w fun e v=>e=rC (ry rq)∧qZ w.heap.size w v:=by
 have f:=Aa (Ab r (Ab hm s));clear r hm s;have b:=Aa (fun W(a:qZ w.heap.size w W)=>fL W (f.out.1.below a) (f.out.2.1.below a) (FM.Pow.below f.out.2.2 a));rw[Tl,←WU]at b;have l:=Aa (fun W g h(a:qZ w.heap.size w W)(i:EO.Gv W g 0 [(DD,DO)])=>FM.QV g 0 h W (f.out.1.below a) (FM.Pow.below f.out.2.2 a) i);have m:=Aa (fun W n lc(a:qZ w.heap.size w W) k c=>Q3 W n lc k c (FM.Pow.below f.out.2.2 a));unfold aH at b;generalize(⟨Gp.toArray⟩:ByteArray)=P at*
 generalize(⟨(C7 (Dl 1500 0)).toArray⟩:ByteArray)=S at*
 go_enter func8,ntmps8;go_wp2_with(first|(go_at_call 32;refine(Pm.WT _ f.out.1).mono ?_;rintro e t⟨g,h,rfl,i,a⟩;rw[fM]at i;have o:=Aa (Ab (i.below (Ct (rf t.heap.size t) (rD #[Y (Z ⟨g,0,N⟩) 1 h] 26))) (a.alloc a.size (rD #[Y (Z ⟨g,0,N⟩) 1 h] 26)));clear i a)|(go_at_call 18;refine(l.out _ g h o.out.2 o.out.1).mono ?_;rintro e x⟨rfl,a⟩;have p:=Aa (Cu o.out.2 a);clear a)|(go_at_call 33;refine(Tk _).mono ?_;rintro e y⟨n,lc,rfl,k,c,a⟩;have j:=Aa (Cu p.out a);have u:=Aa (Ab k c);clear k c a)|(go_at_call 20;refine(m.out _ n lc j.out u.out.1 u.out.2).mono ?_;rintro e z⟨rfl,a⟩;have d:=Aa (Cu j.out a);clear a)|(go_at_call 34;refine(b.out _ (d.out.alloc d.out.size _)).mono ?_;rintro e A⟨rfl,a⟩;have q:=Aa (Cu (d.out.alloc d.out.size _) a);clear a));go_ret;exact⟨rfl,q.out⟩
end Go.Proofs.YtgadhchejmlfjaaGreatDoor.nF
