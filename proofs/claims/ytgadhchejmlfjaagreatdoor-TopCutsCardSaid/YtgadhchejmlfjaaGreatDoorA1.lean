/- A part of the proof. -/
import Derived.Test.YtgadhchejmlfjaaGreatDoorA0
set_option linter.unusedVariables false
set_option maxRecDepth 20000
set_option maxHeartbeats 16000000
open Go.Value renaming int→I,pointer→J,slice→Y
open Go.IntKind renaming i64→U
open Option renaming none→N,some→Z
open Go renaming Calls→re,Ending→rB,TypeId→rA,Value→qY,World→oZ
open Go.Ending renaming returned→rC
open Go.Obj renaming cells→rD
open Go.RowKit renaming Below→qZ
open Go.RowKit.Below renaming refl→rf
open Go.Value renaming agg→rE,bool→ry,string→rF,tuple→rG
open List renaming replicate→rj
namespace Go.Proofs.YtgadhchejmlfjaaGreatDoor.FM
open Go.Proofs.Tryz Go.RowKit Go.CL
section
variable {w w':oZ}
theorem Pow.below(h:F2.Pow w)(d:qZ w.heap.size w w'):F2.Pow w':=by
 unfold F2.Pow Lib.TabIs World.var? at h⊢;cases c:prog.globalNamed "internal/strconv.uint64pow10" with
 |none=>simp[c]at h
 |some g=>
  simp only[c,Option.bind_some]at h⊢;have a:g<w.heap.size:=by
   rcases AY g w.heap.size with b|b
   ·exact b
   ·simp[Zad b]at h
  rw[d.block g a];exact h
theorem Dg(a b:List UInt8):(⟨a.toArray⟩:ByteArray)++⟨b.toArray⟩=⟨(a++b).toArray⟩:=by apply ByteArray.ext;show(ByteArray.append _ _).data=_;simp
theorem Ec(a b:List UInt8):Lib.byteCells (a++b)=Lib.byteCells a++Lib.byteCells b:=by simp[Lib.byteCells]
theorem G4{T e:rA}{B b:Nat}{a:List qY}(h:Lib.IsBuilder T e B b a w)(d:qZ w.heap.size w w'):Lib.IsBuilder T e B b a w':=by
 have go: ∀p,Lib.BuilderAt T e B b p a w→Lib.BuilderAt T e B b p a w':=fun p h=>by have c:=h.lt;obtain⟨f,v,g,i,j⟩:=h;exact⟨f,v,(d.block b c).trans g,CJ i d,j⟩
 rcases h with h|h
 ·exact .inl (go _ h)
 ·exact .inr (go _ h)
theorem LR(w:oZ)(T e:rA):Lib.IsBuilder T e w.heap.size w.heap.size [] (w.alloc (rD #[J N,Y N 0 0] T)):=.inl ⟨Al _,Y N 0 0,Cx.new w _ T,AL _ _ _ _,by simp[Value.ownBlock]⟩
theorem XN(a b c:Int)(w:oZ)(i:TM (a,b,c))(m:F2.Pow w):re prog 73 #[I U a,I U b,I U c] w fun e w'=>e=rC (rF ⟨(DL (a,b,c)).toArray⟩)∧qZ w.heap.size w w':=by
 have h:=Aa i;have j:=Aa m;have r1:=(C0 _ i.1).2.2.2.2;have n:=(C0 _ i.2.1).2.2.2.2;have o:=(C0 _ i.2.2).2.2.2.2;simp only at r1 n o;have p: ¬9223372036854775807<(Lib.itoa a).length+1:=by omega
 have q: ¬9223372036854775807<(Lib.itoa a).length+1+(Lib.itoa b).length:=by omega
 have n3: ¬9223372036854775807<(Lib.itoa a).length+1+(Lib.itoa b).length+1:=by omega
 have n4: ¬9223372036854775807<(Lib.itoa a).length+1+(Lib.itoa b).length+1+(Lib.itoa c).length:=by omega
 clear i m r1 n o;go_enter func73,ntmps73;go_wp2_with(go_at_call 134;first|(have k:=d;refine(F2.itoa c (by have:=h.out.2.2;simp at this;omega) (by have:=h.out.2.2;simp at this;omega) _ (Pow.below j.out d.out)).mono ?_;rintro e r⟨rfl,g⟩;have l:=Aa (d.out.trans (g.mono d.out.size));clear g k)|(have k:=f;refine(F2.itoa b (by have:=h.out.2.1;simp at this;omega) (by have:=h.out.2.1;simp at this;omega) _ (Pow.below j.out f.out)).mono ?_;rintro e s⟨rfl,g⟩;have d:=Aa (f.out.trans (g.mono f.out.size));clear g k)|(refine(F2.itoa a (by have:=h.out.1;simp at this;omega) (by have:=h.out.1;simp at this;omega) _ j.out).mono ?_;rintro e t⟨rfl,g⟩;have f:=Aa g;clear g));go_ret;refine⟨?_,l.out⟩;have e: ∀x y z:List UInt8,(⟨x.toArray⟩:ByteArray)++⟨#[32]⟩++⟨y.toArray⟩++⟨#[32]⟩++⟨z.toArray⟩=⟨(CZ 32 [x,y,z]).toArray⟩:=fun x y z=>by rw[show(⟨#[32]⟩:ByteArray)=⟨([32]:List UInt8).toArray⟩from rfl,Dg,Dg,Dg,Dg];simp[CZ]
 rw[e];rfl
def G5(w:oZ)(lb a:Nat)(l:List (Int×Int×Int)):Prop:= ∀k,k<l.length→w.cell? ⟨lb,a+k*3,N⟩=Z (I U (l[k]?.getD (0,0,0)).1)∧w.cell? ⟨lb,a+k*3+1,N⟩=Z (I U (l[k]?.getD (0,0,0)).2.1)∧w.cell? ⟨lb,a+k*3+2,N⟩=Z (I U (l[k]?.getD (0,0,0)).2.2)
theorem UZ(l:List (Int×Int×Int))(lb P lc:Nat)(w:oZ)(Q:G5 w lb P l)(s:lb<w.heap.size)(R: ∀x∈l,TM x) (u:l.length≤65536) (S:F2.Pow w):re prog 20 #[Y (Z ⟨lb,P,N⟩) l.length lc] w fun e w'=>e=rC (rF ⟨(C7 l).toArray⟩)∧qZ w.heap.size w w':=by
 have h:=Aa (Ab Q (Ab s (Ab R (Ab u S))));clear Q s R u S;go_enter func20,ntmps20;go_wp2;generalize v:l.length=z at*
 have j:=Aa v;clear v;go_loopw [10] (fun t wr=> ∃k:Nat,k≤z∧t=I U k∧Lib.IsBuilder 152 5 w.heap.size w.heap.size (Lib.byteCells (C7 (l.take k))) wr∧qZ w.heap.size w wr) (fun t _=>z-(intOf t).toNat)
 case atStart=>exact⟨0,Ap _,rfl,LR w 152 5,Ct (rf _ _) _⟩
 case round=>
  obtain⟨k,G,rfl,A,g⟩:=hrel;by_cases m:k<z
  ·have V:(k:Int)<(z:Int):=by omega
   have W:lb<wr.heap.size:=Am h.out.2.1 g.size;obtain⟨p0,H,K⟩:=h.out.1 k (by rw[j.out];exact m);have T: ∀i,wr.cell? ⟨lb,i,N⟩=w.cell? ⟨lb,i,N⟩:=fun i=>g.cell (p:=⟨lb,i,N⟩) h.out.2.1;rw[←T]at p0 H K;obtain⟨x,E⟩: ∃x,l[k]?.getD (0,0,0)=x:=⟨_,rfl⟩;have n:l[k]?=Z x:=by rw[Ae (by rw[j.out];exact m)]at E⊢;exact Aq Z E
   rw[E]at p0 H K;obtain⟨a,b,c⟩:=x;simp only at p0 H K;have d:TM (a,b,c):=h.out.2.2.1 _ (A7 n);have L:=Aa (XN a b c (wr.alloc (rD #[I U a,I U b,I U c] 36)) d (Pow.below h.out.2.2.2.2 (g.alloc g.size _)));have X:=Aa (G4 A (Ct (rf wr.heap.size wr) (rD #[I U a,I U b,I U c] 36)));have F:=Aa (g.alloc g.size (rD #[I U a,I U b,I U c] 36));have HX:=Aa (Ab n d);have n1: ¬9223372036854775807<(DL (a,b,c)).length+1:=by have:=J1 _ d;omega
   have HK:=Aa G;have B:Hid ((Lib.byteCells (C7 (l.take k))).length+((⟨(DL (a,b,c)).toArray⟩:ByteArray)++⟨#[10]⟩).size≤140737488355328):=by
    have e1:=Nt (l.take k) (fun y hy=>h.out.2.2.1 y (Zaq hy));have e2:=J1 _ d;have e3:(l.take k).length≤65536:=by have:=h.out.2.2.2.1;rw[AN];omega
    rw[show(⟨#[10]⟩:ByteArray)=⟨([10]:List UInt8).toArray⟩from rfl,Dg];show(Lib.byteCells (C7 (l.take k))).length+((DL (a,b,c)++[10]).toArray).size≤_;simp only[Lib.byteCells,Bg,Bd,Aw,AB,AF];omega
   clear g A T E n d G;go_wp2_with(first|(go_at_call 73;refine L.out.mono ?_;rintro e w1⟨rfl,o⟩;have M:=Aa (G4 X.out o);have C:=Aa (F.out.trans (o.mono F.out.size));clear o)|(go_at_call 70;refine(F2.kL _ _ _ _ _ M.out B.out C.out.size).mono ?_;rintro e w2⟨rfl,D,f⟩;have O:=Aa D;have r:=Aa (C.out.trans f);clear D f));have hw:wrap64 ((k:Int)+1)=((k+1:Nat):Int):=by have:=h.out.2.2.2.1;unfold wrap64;omega
   rw[hw];refine⟨⟨k+1,by omega,rfl,.inr ?_,r.out⟩,by simp[intOf];omega⟩;have q:=O.out;rw[show(⟨#[10]⟩:ByteArray)=⟨([10]:List UInt8).toArray⟩from rfl,Dg,Lib.strCells_eq,←Ec]at q;rw[Ca,HX.out.1,Zbh,Pp];exact q
  ·obtain rfl:k=z:=by omega
   rw[AU (by rw[j.out];exact Al _)]at A;have HS:=Aa (F2.kM _ _ _ _ A g.size);have F:=Aa g;clear A g m G;go_wp2_with(go_at_call 72;refine HS.out.mono ?_;rintro e w2⟨rfl,f⟩;have r:=Aa (F.out.trans f);clear f);go_ret;exact⟨rfl,r.out⟩
end
def Mx(w:oZ):Prop:= ∃m,w.cell? ⟨3,0,N⟩=Z (I U m)
theorem Mx.lt{w:oZ}(h:Mx w):3<w.heap.size:=by
 obtain⟨m,h⟩:=h;rcases AY 3 w.heap.size with a|a
 ·exact a
 ·simp[World.cell?,Zad a]at h
theorem Mx.below{w w':oZ}(h:Mx w)(a:qZ w.heap.size w w'):Mx w':=by have b:=h.lt;obtain⟨m,h⟩:=h;exact⟨m,(a.cell (p:=⟨3,0,N⟩) b).trans h⟩
theorem RJ(a b c:Int)(w:oZ)(d:TM (a,b,c))(hm:Mx w):re prog 322 #[rF ⟨(DL (a,b,c)).toArray⟩,rF ⟨#[32]⟩] w fun e f=>e=rC (Y (Z ⟨w.heap.size,0,N⟩) 3 3)∧Cx f w.heap.size #[rF ⟨(Lib.itoa a).toArray⟩,rF ⟨(Lib.itoa b).toArray⟩,rF ⟨(Lib.itoa c).toArray⟩] 9∧qZ w.heap.size w f:=by
 obtain⟨m,hm⟩:=hm;have i:=(C0 _ d.1).2.2.1;have j:=(C0 _ d.2.1).2.2.1;have k:=(C0 _ d.2.2).2.2.1;have g:=Li 32 [Lib.itoa a,Lib.itoa b,Lib.itoa c] (by simp) (by
  intro x h;simp only[Bv,List.mem_nil_iff,or_false]at h;rcases h with rfl|rfl|rfl
  ·exact i
  ·exact j
  ·exact k)
 have o:=J1 _ d;refine(F2.split ⟨(DL (a,b,c)).toArray⟩ ⟨#[32]⟩ m w (by show(DL (a,b,c)).toArray.size<_;simp;omega) hm (by decide)).mono ?_;rintro e f⟨rfl,rfl⟩;have l:Lib.countB ⟨(DL (a,b,c)).toArray⟩ ⟨#[32]⟩=2:=g.1;have n:Lib.splitB ⟨#[32]⟩ 0 2 ⟨(DL (a,b,c)).toArray⟩=[⟨(Lib.itoa a).toArray⟩,⟨(Lib.itoa b).toArray⟩,⟨(Lib.itoa c).toArray⟩]:=g.2;rw[l,n];exact⟨rfl,Cx.new w _ 9,Ct (rf _ _) _⟩
theorem Nu(a b c:Int)(e:Nat)(x y z:qY)(t0:rA)(w:oZ)(u:TM (a,b,c))(hm:Mx w)(d:Cx w e #[x,y,z] t0):re prog 273 #[rF ⟨(DL (a,b,c)).toArray⟩,rE #[J (Z ⟨e,0,N⟩),J (Z ⟨e,1,N⟩),J (Z ⟨e,2,N⟩)]] w fun r C=>r=rC (ry true)∧Cx C e #[I U a,I U b,I U c] t0∧Cv (fun j=>j=e) w C:=by
 have v:=d.lt;have l:=RJ a b c (w.alloc (rD #[J (Z ⟨e,0,N⟩),J (Z ⟨e,1,N⟩),J (Z ⟨e,2,N⟩)] 344)) u (hm.below (Ct (rf _ _) _));rw[show(w.alloc (rD #[J (Z ⟨e,0,N⟩),J (Z ⟨e,1,N⟩),J (Z ⟨e,2,N⟩)] 344)).heap.size=w.heap.size+1 by simp]at l;have l:=Aa l;have D:=Aa (Ct (rf w.heap.size w) (rD #[J (Z ⟨e,0,N⟩),J (Z ⟨e,1,N⟩),J (Z ⟨e,2,N⟩)] 344));have K:=Aa d;have q:=Aa u;have m:Hid (Cx (w.alloc (rD #[J (Z ⟨e,0,N⟩),J (Z ⟨e,1,N⟩),J (Z ⟨e,2,N⟩)] 344)) w.heap.size #[J (Z ⟨e,0,N⟩),J (Z ⟨e,1,N⟩),J (Z ⟨e,2,N⟩)] 344):=Cx.new w _ 344;have i0: ∀W,(Instr.index 344 (rE #[J (Z ⟨e,0,N⟩),J (Z ⟨e,1,N⟩),J (Z ⟨e,2,N⟩)]) (I U 0)).run prog W= .ok (J (Z ⟨e,0,N⟩)) W:=fun _=>by kernel_rfl
 have i1: ∀W,(Instr.index 344 (rE #[J (Z ⟨e,0,N⟩),J (Z ⟨e,1,N⟩),J (Z ⟨e,2,N⟩)]) (I U 1)).run prog W= .ok (J (Z ⟨e,1,N⟩)) W:=fun _=>by kernel_rfl
 have i2: ∀W,(Instr.index 344 (rE #[J (Z ⟨e,0,N⟩),J (Z ⟨e,1,N⟩),J (Z ⟨e,2,N⟩)]) (I U 2)).run prog W= .ok (J (Z ⟨e,2,N⟩)) W:=fun _=>by kernel_rfl
 clear u hm d;go_enter func273,ntmps273;go_wp2_with(go_at_call 322;refine l.out.mono ?_;rintro e0 A⟨rfl,p,i⟩;have o:=m.out.below (i.mono (by simp)) m.out.lt;have B:=Aa (Ab p (D.out.trans (i.mono (Bh _))));have E:=o.cell 0;have F:=o.cell 1;have G:=o.cell 2;simp only[Ad,Ac,Ag]at E F G;clear p i o);clear E F G m l D;go_loopw [16] (fun t wr=>((t=I U 0∧Cx wr e #[x,y,z] t0)∨(t=I U 1∧Cx wr e #[I U a,y,z] t0)∨(t=I U 2∧Cx wr e #[I U a,I U b,z] t0)∨(t=I U 3∧Cx wr e #[I U a,I U b,I U c] t0))∧Cx wr (w.heap.size+1) #[rF ⟨(Lib.itoa a).toArray⟩,rF ⟨(Lib.itoa b).toArray⟩,rF ⟨(Lib.itoa c).toArray⟩] 9∧Cv (fun j=>j=e) w wr) (fun t _=>3-(intOf t).toNat)
 case atStart=>exact⟨.inl ⟨rfl,K.out.below B.out.2 v⟩,B.out.1,(Cv.refl _ w).below B.out.2⟩
 case round=>
  obtain⟨L,p,H⟩:=hrel;have s0:=p.cell 0;have s1:=p.cell 1;have s2:=p.cell 2;simp only[Ad,Ac,Ag]at s0 s1 s2;have g:=Aa (Ab p H);clear p H;rcases L with⟨rfl,d⟩|⟨rfl,d⟩|⟨rfl,d⟩|⟨rfl,d⟩
  ·have k:=Fe (Lib.itoa a) wr (C0 a q.out.1).1
   rw[(C0 a q.out.1).2.1]at k;have k:=Aa k;have h:=Aa d;clear d;go_wp2_with(go_at_call 326;refine k.out.mono ?_;rintro e0 A⟨rfl,i⟩;have d:=h.out.below i h.out.lt;have f:=Aa (Ab d i);have s:=d.free 0;have n:=d.cell 0;simp only[Ad,Ac]at n;clear d i);refine⟨⟨.inr (.inl ⟨rfl,?_⟩),(g.out.1.below f.out.2 g.out.1.lt).setOther (by omega) _,(g.out.2.below f.out.2).set (.inr rfl) _ _⟩,by simp[intOf]⟩;exact f.out.1.set 0 (I U a)
  ·have k:=Fe (Lib.itoa b) wr (C0 b q.out.2.1).1
   rw[(C0 b q.out.2.1).2.1]at k;have k:=Aa k;have h:=Aa d;clear d;go_wp2_with(go_at_call 326;refine k.out.mono ?_;rintro e0 A⟨rfl,i⟩;have d:=h.out.below i h.out.lt;have f:=Aa (Ab d i);have s:=d.free 1;have n:=d.cell 1;simp only[Ad,Ac,Ag]at n;clear d i);refine⟨⟨.inr (.inr (.inl ⟨rfl,?_⟩)),(g.out.1.below f.out.2 g.out.1.lt).setOther (by omega) _,(g.out.2.below f.out.2).set (.inr rfl) _ _⟩,by simp[intOf]⟩;exact f.out.1.set 1 (I U b)
  ·have k:=Fe (Lib.itoa c) wr (C0 c q.out.2.2).1
   rw[(C0 c q.out.2.2).2.1]at k;have k:=Aa k;have h:=Aa d;clear d;go_wp2_with(go_at_call 326;refine k.out.mono ?_;rintro e0 A⟨rfl,i⟩;have d:=h.out.below i h.out.lt;have f:=Aa (Ab d i);have s:=d.free 2;have n:=d.cell 2;simp only[Ad,Ac,Ag]at n;clear d i);refine⟨⟨.inr (.inr (.inr ⟨rfl,?_⟩)),(g.out.1.below f.out.2 g.out.1.lt).setOther (by omega) _,(g.out.2.below f.out.2).set (.inr rfl) _ _⟩,by simp[intOf]⟩;exact f.out.1.set 2 (I U c)
  ·have h:=Aa d
   clear d;go_wp2;go_ret;exact⟨rfl,h.out,g.out.2⟩
end Go.Proofs.YtgadhchejmlfjaaGreatDoor.FM
namespace Go.Proofs.YtgadhchejmlfjaaGreatDoor.Cw
open Go.Proofs.Tryz Go.RowKit Go.CL
section
variable {w w':oZ} {t j:Nat} {tv:qY}
abbrev Pr:=Int×Int
variable {l:List Pr}
def pz:Pr:=(0,0)
def ys:List Pr→List qY
 | []=>[]
 |x::l=>[I U x.1,I U x.2]++ys l
theorem Mj(l:List Pr):(ys l).length=l.length*2:=by
 induction l with
 |nil=>rfl
 |cons x l a=>simp[ys,a];omega
theorem KH(l m:List Pr):ys (l++m)=ys l++ys m:=by
 induction l with
 |nil=>rfl
 |cons x l a=>simp[ys,a]
theorem XO(l:List Pr): ∀i,i<l.length→(ys l)[i*2]?=Z (I U (l[i]?.getD pz).1)∧(ys l)[i*2+1]?=Z (I U (l[i]?.getD pz).2):=by
 induction l with
 |nil=>intro i a;simp at a
 |cons x l b=>
  intro i a;cases i with
  |zero=>simp[ys]
  |succ i=>have:=b i (by simpa using a);rw[show(i+1)*2=(i*2)+1+1 by omega];simpa[ys]using this
structure Tb (w:oZ) (t:Nat) (tv:qY) (l:List Pr):Prop where
 Dp:Cx w t #[tv] 199
 own:w.ownsRow (t+1) 201 2 tv l.length (ys l)
def Tf(t:Nat)(tv:qY)(j:Nat):Prop:=j=t∨tv.ownBlock=Z j
theorem Tb.off(h:Tb w t tv l):tv.ownBlock≠Z t:=fun e=>by have:=(Az h.own t e).1;omega
theorem Tb.lt(h:Tb w t tv l)(a:Tf t tv j):j<w.heap.size:=by
 rcases a with rfl|a
 ·exact h.Dp.lt
 ·exact(Az h.own j a).2
theorem Tb.ge(h:Tb w t tv l)(a:Tf t tv j):t≤j:=by
 rcases a with rfl|a
 ·exact Al _
 ·have:=(Az h.own j a).1;omega
theorem Tb.only{S:Nat→Prop}(h:Tb w t tv l)(o:Cv S w w')(a: ∀j,Tf t tv j→ ¬S j):Tb w' t tv l:=⟨h.Dp.only o (a t (.inl rfl)),Dd h.own o (fun j b=>a j (.inr b))⟩
theorem Tb.below(h:Tb w t tv l)(a:qZ w.heap.size w w'):Tb w' t tv l:=h.only (S:=fun _=>False) ((Cv.refl _ w).below a) (fun _ _ x=>x)
theorem Tb.slice(h:Tb w t tv l): ∃a cap,tv= .slice a l.length cap:=by
 rcases Dr h.own with⟨rfl,b⟩|⟨g,cap,rfl,_⟩
 ·exact⟨N,0,by rw[b]⟩
 ·exact⟨_,cap,rfl⟩
theorem Tb.at{a:Option Addr}{n cap:Nat}(h:Tb w t (.slice a n cap) l)(i:Nat)(d:i<l.length):n=l.length∧ ∃g,a=Z ⟨g,0,N⟩∧w.cell? ⟨g,i*2,N⟩=Z (I U (l[i]?.getD pz).1)∧w.cell? ⟨g,i*2+1,N⟩=Z (I U (l[i]?.getD pz).2):=by
 rcases Dr h.own with⟨_,j⟩|⟨g,c,he,_,k,m,b⟩
 ·omega
 ·simp only[Ar]at he
  obtain⟨rfl,rfl,rfl⟩:=he;obtain⟨e,f⟩:=XO l i d;refine⟨rfl,g,rfl,?_,?_⟩
  ·rw[b (i*2) (by omega),e];rfl
  ·rw[b (i*2+1) (by omega),f];rfl
theorem ER(x:Int)(w:oZ):re prog 109 #[I U x] w fun e w'=>e=rC (ry (decide (1≤x∧x≤256)))∧w=w':=by
 by_cases a:1≤x
 ·by_cases b:x≤256
  ·rw[AZ ⟨a,b⟩]
   go_enter func109,ntmps109;go_wp2;go_ret;exact⟨rfl,rfl⟩
  ·rw[Bb (fun h=>b h.2)]
   have c:decide (x≤256)=false:=by simpa using b
   clear b;go_enter func109,ntmps109;go_wp2;go_ret;exact⟨rfl,rfl⟩
 ·rw[Bb (fun h=>a h.1)]
  have c:decide (1≤x)=false:=by simpa using a
  clear a;go_enter func109,ntmps109;go_wp2;go_ret;exact⟨rfl,rfl⟩
theorem GW(t:Nat)(tv:qY)(l:List Pr)(p:Int)(w:oZ)(h:Tb w t tv l)(b: ¬(0≤p∧p<l.length)):re prog 124 #[J (Z ⟨t,0,N⟩),I U p] w fun e w'=>e=rC (J N)∧w=w':=by
 obtain⟨a,cap,rfl⟩:=h.slice;have c0:=h.Dp.cell 0;simp only[Ad,Ac]at c0;clear h;by_cases c:p<0
 ·clear b
  go_enter func124,ntmps124;go_wp2;go_ret;exact⟨rfl,rfl⟩
 ·have d:decide (p<0)=false:=by simpa using c
  have f:decide ((l.length:Int)≤p)=true:=by simp;omega
  generalize l.length=n at*
  clear b c;go_enter func124,ntmps124;go_wp2;go_ret;exact⟨rfl,rfl⟩
theorem Jk(t g n cap:Nat)(l:List Pr)(i:Nat)(w:oZ)(h:Tb w t (Y (Z ⟨g,0,N⟩) n cap) l)(f:i<n):re prog 124 #[J (Z ⟨t,0,N⟩),I U i] w fun e w'=>e=rC (J (Z ⟨g,i*2,N⟩))∧w=w':=by
 have c0:=h.Dp.cell 0;simp only[Ad,Ac]at c0;clear h;have a:decide ((i:Int)<0)=false:=by simp
 have b:decide ((n:Int)≤(i:Int))=false:=by simp;omega
 have c:decide (n≤i)=false:=by simp;omega
 have d:(i:Int)<(n:Int):=by omega
 go_enter func124,ntmps124;go_wp2;go_ret;exact⟨rfl,rfl⟩
def FG(l:List Pr)(p:Int):Int:=if 0≤p∧p<l.length then(l[p.toNat]?.getD pz).1 else 4
def Ic(l:List Pr)(p:Int):Int:=if 0≤p∧p<l.length then(l[p.toNat]?.getD pz).2 else-1
theorem FU(t:Nat)(tv:qY)(l:List Pr)(p:Int)(w:oZ)(h:Tb w t tv l):re prog 58 #[J (Z ⟨t,0,N⟩),I U p] w fun e w'=>e=rC (I U (FG l p))∧w=w':=by
 unfold FG;by_cases b:0≤p∧p<l.length
 ·rw[Ai b]
  obtain⟨i,rfl⟩:=AA b.1;rw[An];have c:i<l.length:=by omega
  obtain⟨a,cap,rfl⟩:=h.slice;obtain⟨_,g,rfl,c0,c1⟩:=h.at i c;have d:=Aa (Jk t g _ cap l i w h c);clear h b c;generalize(l[i]?.getD pz).1=y at*
  go_enter func58,ntmps58;go_wp2_with fail;refine d.out.mono ?_;rintro e w1⟨rfl,rfl⟩;go_wp2_with fail;go_ret;exact⟨rfl,rfl⟩
 ·rw[Ah b]
  have d:=Aa (GW t tv l p w h b);clear h b;go_enter func58,ntmps58;go_wp2_with fail;refine d.out.mono ?_;rintro e w1⟨rfl,rfl⟩;go_wp2_with fail;go_ret;exact⟨rfl,rfl⟩
theorem cH(t:Nat)(tv:qY)(l:List Pr)(p:Int)(w:oZ)(h:Tb w t tv l):re prog 59 #[J (Z ⟨t,0,N⟩),I U p] w fun e w'=>e=rC (I U (Ic l p))∧w=w':=by
 unfold Ic;by_cases b:0≤p∧p<l.length
 ·rw[Ai b]
  obtain⟨i,rfl⟩:=AA b.1;rw[An];have c:i<l.length:=by omega
  obtain⟨a,cap,rfl⟩:=h.slice;obtain⟨_,g,rfl,c0,c1⟩:=h.at i c;have d:=Aa (Jk t g _ cap l i w h c);clear h b c;generalize(l[i]?.getD pz).2=y at*
  go_enter func59,ntmps59;go_wp2_with fail;refine d.out.mono ?_;rintro e w1⟨rfl,rfl⟩;go_wp2_with fail;go_ret;exact⟨rfl,rfl⟩
 ·rw[Ah b]
  have d:=Aa (GW t tv l p w h b);clear h b;go_enter func59,ntmps59;go_wp2_with fail;refine d.out.mono ?_;rintro e w1⟨rfl,rfl⟩;go_wp2_with fail;go_ret;exact⟨rfl,rfl⟩
def cnt(s:Int)(l:List Pr):Nat:=l.countP (fun x=>x.1==s)
theorem XP(s:Int)(l:List Pr)(k:Nat)(h:k<l.length):cnt s (l.take (k+1))=cnt s (l.take k)+(if(l[k]?.getD pz).1==s then 1 else 0):=by unfold cnt;rw[A8 h,Zaj];simp[h,List.countP_cons]
theorem Oh(s:Int)(l:List Pr):cnt s l≤l.length:=Zal
def cI(x:Int)(w:oZ)(e:rB)(w':oZ):Prop:=e=rC (I U x)∧qZ w.heap.size w w'
theorem Nv(t:Nat)(tv:qY)(l:List Pr)(s:Int)(w:oZ)(h:Tb w t tv l)(r:l.length≤100000):re prog 360 #[J (Z ⟨t,0,N⟩),I U s] w (cI (cnt s l) w):=by
 obtain⟨a,cap,rfl⟩:=h.slice;have c0:=h.Dp.cell 0;simp only[Ad,Ac]at c0;have p:=Aa h;clear h;obtain⟨n,f⟩: ∃n,Hid (l.length=n):=⟨_,rfl⟩;rw[f.out]at p c0 r;go_enter func360,ntmps360;go_wp2;go_loopw [4,14] (fun c i wr=> ∃k:Nat,k≤n∧i=I U k∧c=I U (cnt s (l.take k):Nat)∧qZ w.heap.size w wr) (fun _ i _=>n-(intOf i).toNat)
 case atStart=>exact⟨0,Ap _,rfl,by simp[cnt],rf _ _⟩
 case round=>
  obtain⟨k,z,rfl,rfl,j⟩:=hrel;have o:=Aa j;by_cases d:k<n
  ·have e:=p.out.below j
   obtain⟨_,g,rfl,u,A⟩:=e.at k (by rw[f.out];exact d);have v:=EJ u;have m:=Aa (XP s l k (by rw[f.out];exact d));have x:cnt s (l.take k)≤k:=AE (Oh _ _) (by rw[AN];omega);generalize(l[k]?.getD pz).1=z0 at*
   generalize(l[k]?.getD pz).2=B at*
   generalize cnt s (l.take k)=c at*
   clear e j;by_cases q:z0=s
   ·have b:(z0==s)=true:=by simpa using q
    rw[Ai b]at m;go_wp2;go_roundw
    case rel=>exact⟨k+1,by omega,by go_num,by rw[m.out];go_num,Ct o.out _⟩
    case measure=>simp[intOf];omega
   ·have b:(z0==s)=false:=by simpa using q
    rw[Ah (by rw[b];decide)]at m;go_wp2;go_roundw
    case rel=>exact⟨k+1,by omega,by go_num,by rw[m.out];rfl,Ct o.out _⟩
    case measure=>simp[intOf];omega
  ·obtain rfl:k=n:=by omega
   have y:Hid (l.take k=l):=AU (by rw[f.out];exact Al _);rw[y.out];clear j;go_wp2;go_ret;exact⟨rfl,o.out⟩
end
def Ie(x:Pr)(b:Bool)(w:oZ)(e:rB)(w':oZ):Prop:=e=rC (rG #[rE #[I U x.1,I U x.2],ry b])∧qZ w.heap.size w w'
theorem U0(s a:Int)(w:oZ):re prog 337 #[rE #[I U s,I U a]] w (Ie (2,a) (s==1) w):=by
 go_enter func337,ntmps337;go_wp2;go_region
 all_goals
  go_wp2;refine AG (v:=rG #[rE #[I U (2),I U (a)],ry (s==1)]) ?_ rfl ⟨rfl,BX (Ct (Ct (rf _ _) _) _) 1⟩;rw[BO rfl];simp only[asAddr];go_simp
theorem Py(s a:Int)(w:oZ):re prog 238 #[rE #[I U s,I U a]] w (Ie (0,-1) (s==1) w):=by
 go_enter func238,ntmps238;go_wp2;go_region
 all_goals
  go_wp2;refine AG (v:=rG #[rE #[I U (0),I U (-1)],ry (s==1)]) ?_ rfl ⟨rfl,BX (Ct (Ct (rf _ _) _) _) 1⟩;rw[BO rfl];simp only[asAddr];go_simp
theorem XQ(b:Nat)(m s c:Int)(w:oZ)(a:Cx w b #[I U m] 3):re prog 113 #[rE #[I U s,I U c],J (Z ⟨b,0,N⟩)] w (Ie (1,m) (s==0) w):=by
 have c0:=a.cell 0;have d:=a.lt;simp only[Ad,Ac]at c0;clear a;go_enter func113,ntmps113;go_wp2;go_region
 all_goals
  go_wp2;refine AG (v:=rG #[rE #[I U (1),I U (m)],ry (s==0)]) ?_ rfl ⟨rfl,BX (Ct (Ct (rf _ _) _) _) 1⟩;rw[BO rfl];simp only[asAddr];go_simp
def H5(s a:Int):Pr:=if s=2 then(3,-1)else if s=0∨s=1 then(3,a)else(s,a)
def FN(s:Int):Bool:=decide (s=2∨s=0∨s=1)
theorem XR(s d:Int)(w:oZ):re prog 239 #[rE #[I U s,I U d]] w (Ie (H5 s d) (FN s) w):=by
 unfold H5 FN;by_cases a:s=2
 ·rw[Ai a,AZ (.inl a)]
  subst a;go_enter func239,ntmps239;go_wp2;refine AG (v:=rG #[rE #[I U (3),I U (-1)],ry (true)]) ?_ rfl ⟨rfl,Ct (Ct (rf _ _) _) _⟩;rw[BO rfl];simp only[asAddr];go_simp
 ·rw[Ah a]
  have d2:(s==2)=false:=by rw[Au];exact a
  by_cases b:s=0
  ·rw[Ai (.inl b),AZ (.inr (.inl b))]
   subst b;clear a d2;go_enter func239,ntmps239;go_wp2;refine AG (v:=rG #[rE #[I U (3),I U (d)],ry (true)]) ?_ rfl ⟨rfl,Ct (Ct (rf _ _) _) _⟩;rw[BO rfl];simp only[asAddr];go_simp
  ·have d0:(s==0)=false:=by rw[Au];exact b
   by_cases c:s=1
   ·rw[Ai (.inr c),AZ (.inr (.inr c))]
    subst c;clear a d2 b d0;go_enter func239,ntmps239;go_wp2;refine AG (v:=rG #[rE #[I U (3),I U (d)],ry (true)]) ?_ rfl ⟨rfl,Ct (Ct (rf _ _) _) _⟩;rw[BO rfl];simp only[asAddr];go_simp
   ·rw[Ah (fun h=>h.elim b c),Bb (fun h=>h.elim a (fun h=>h.elim b c))]
    have d1:(s==1)=false:=by rw[Au];exact c
    go_enter func239,ntmps239;go_wp2;refine AG (v:=rG #[rE #[I U (s),I U (d)],ry (false)]) ?_ rfl ⟨rfl,Ct (Ct (rf _ _) _) _⟩;rw[BO rfl];simp only[asAddr];go_simp
def cJ(a:Int):Pr:=if a= -1 then(0,-1)else(1,a)
theorem iC(s a:Int)(w:oZ):re prog 336 #[rE #[I U s,I U a]] w (Ie (cJ a) (s==3) w):=by
 unfold cJ;by_cases h:a= -1
 ·rw[Ai h]
  subst h;go_enter func336,ntmps336;go_wp2;go_region
  all_goals
   go_wp2;refine AG (v:=rG #[rE #[I U (0),I U (-1)],ry (s==3)]) ?_ rfl ⟨rfl,BX (Ct (Ct (rf _ _) _) _) 1⟩;rw[BO rfl];simp only[asAddr];go_simp
 ·rw[Ah h]
  have d:(a== -1)=false:=by rw[Au];exact h
  go_enter func336,ntmps336;go_wp2;go_region
  all_goals
   go_wp2;refine AG (v:=rG #[rE #[I U (1),I U (a)],ry (s==3)]) ?_ rfl ⟨rfl,BX (Ct (Ct (rf _ _) _) _) 1⟩;rw[BO rfl];simp only[asAddr];go_simp
section
variable {w w' w1:oZ} {t g n cap:Nat} {l:List Pr}
theorem XS(l:List Pr)(x:Pr): ∀i,i<l.length→ys (l.set i x)=((ys l).set (i*2) (I U x.1)).set (i*2+1) (I U x.2):=by
 induction l with
 |nil=>intro i a;simp at a
 |cons y l b=>
  intro i a;cases i with
  |zero=>simp[ys]
  |succ i=>have h:=b i (by simpa using a);rw[BZ,ys,h,show(i+1)*2=(i*2)+1+1 by omega];simp[ys]
theorem Tb.put(h:Tb w t (Y (Z ⟨g,0,N⟩) n cap) l)(i:Nat)(c:i<l.length)(x:Pr):Tb ((w.setCell ⟨g,i*2,N⟩ (I U x.1)).setCell ⟨g,i*2+1,N⟩ (I U x.2)) t (Y (Z ⟨g,0,N⟩) n cap) (l.set i x):=by
 have a:g≠t:=fun e=>h.off (by rw[e];rfl);refine⟨(h.Dp.setOther (BT a) _).setOther (BT a) _,?_⟩;obtain⟨q,⟨d,_⟩|⟨r,b,cur,he,f,j,k,hm,m,o⟩⟩:=h.own
 ·cases d
 ·simp only[Ar,Ak,BF]at he
  obtain⟨⟨rfl,_⟩,rfl,rfl⟩:=he;have p:Cx w g cur 201:=j;refine⟨by rw[AV,Mj,AV],.inr ⟨g,cap,_,by rw[AV],f,(p.set (i*2) (I U x.1)).set (i*2+1) (I U x.2),by rw[AV];exact k,hm,by simpa using m,?_⟩⟩;rw[AV,XS l x i c,←o];simp[Zca]
theorem Tb.free(h:Tb w t (Y (Z ⟨g,0,N⟩) n cap) l)(i:Nat):w.frozen? ⟨g,i,N⟩=false∧g<w.heap.size:=by
 obtain⟨e,⟨c,_⟩|⟨f,a,cur,he,j,d,k,hm,m,o⟩⟩:=h.own
 ·cases c
 ·simp only[Ar,Ak,BF]at he
  obtain⟨⟨rfl,_⟩,rfl,rfl⟩:=he;have b:Cx w g cur 201:=d;exact⟨b.free i,b.lt⟩
def Dk(t:Nat)(tv:qY)(l':List Pr)(f:Int)(w:oZ)(e:rB)(w':oZ):Prop:=e=rC (I U f)∧ ∃a,Tb w' t a l'∧Cv (Tf t tv) w w'∧ ∀j,Tf t a j→Tf t tv j∨w.heap.size≤j
theorem Dk.same{tv:qY}{f:Int}(h:Tb w t tv l)(a:qZ w.heap.size w w'):Dk t tv l f w (rC (I U f)) w':=⟨rfl,tv,h.below a,(Cv.refl _ w).below a,fun j b=>.inl b⟩
theorem Dk.put{i:Nat}{x:Pr}{o:Obj}(h:Tb w t (Y (Z ⟨g,0,N⟩) n cap) l)(a:qZ w.heap.size w w1)(b:i<l.length):Dk t (Y (Z ⟨g,0,N⟩) n cap) (l.set i x) 0 w (rC (I U 0)) (((w1.setCell ⟨g,i*2,N⟩ (I U x.1)).setCell ⟨g,i*2+1,N⟩ (I U x.2)).alloc o):=by refine⟨rfl,_,((h.below a).put i b x).below (Ct (rf _ _) o),((((Cv.refl (Tf t (Y (Z ⟨g,0,N⟩) n cap)) w).below a).set (.inr (.inr rfl)) _ _).set (.inr (.inr rfl)) _ _).alloc o,fun j c=>.inl c⟩
@[reducible] def GX(m s a:Int):Bool:=decide (s=2∧a=m)
def Di(l:List Pr)(p:Int)(X:Int→Int→Pr)(B:Int→Int→Bool):List Pr:=if 0≤p∧p<l.length then(if B (l[p.toNat]?.getD pz).1 (l[p.toNat]?.getD pz).2 then l.set p.toNat (X (l[p.toNat]?.getD pz).1 (l[p.toNat]?.getD pz).2)else l)else l
def Ed(l:List Pr)(p:Int)(B:Int→Int→Bool):Int:=if 0≤p∧p<l.length then(if B (l[p.toNat]?.getD pz).1 (l[p.toNat]?.getD pz).2 then 0 else 9)else 8
def Pz(l:List Pr):Int:=(l.length:Int)-cnt 4 l
theorem DT(t:Nat)(tv:qY)(l:List Pr)(w:oZ)(h:Tb w t tv l)(i:l.length≤100000):re prog 361 #[J (Z ⟨t,0,N⟩)] w (cI (Pz l) w):=by
 obtain⟨a,cap,rfl⟩:=h.slice;have c0:=h.Dp.cell 0;have g:=h.Dp.lt;simp only[Ad,Ac]at c0;have j:Hid (re prog 360 #[J (Z ⟨t,0,N⟩),I U 4] w.drew (cI (cnt 4 l) w.drew)):=Nv t _ l 4 w.drew (h.below ⟨rfl,rfl,rfl,Al _,fun _ _=>rfl⟩) i;have k:=Oh 4 l;unfold Pz;generalize cnt 4 l=c at*
 generalize l.length=n at*
 have m:IntKind.i64.wrap ((n:Int)-c)=(n:Int)-c:=Zaa _ (by omega);clear h k i;go_enter func361,ntmps361;go_wp2_with fail;refine wp_region_any (by kernel_rfl) ?_;try(change wpAny _ _ _ _ _ _ _ (World.drew _))
 refine Ry 0 (v:=?_) rfl (by kernel_rfl) (fun _ _ _ h=>h) ?_ ?_;rotate_left
 ·intro w';go_simp;try(with_reducible rfl)
 refine Ry 1 (v:=?_) rfl (by kernel_rfl) (fun _ _ _ h=>h) ?_ ?_;rotate_left
 ·intro w';go_simp;try(with_reducible rfl)
 refine Ry 2 (v:=?_) rfl (by kernel_rfl) (fun _ _ _ h=>h) ?_ ?_;rotate_left
 ·intro w';go_simp;try(with_reducible rfl)
 refine Ry 5 (v:=?_) rfl (by kernel_rfl) (fun _ _ _ h=>h) ?_ ?_;rotate_left
 ·intro w';go_simp;try(with_reducible rfl)
 refine BQ (rs:=[3,6]) (by kernel_rfl) (by simp) ?_;refine Zar rfl (fun K f=>?_) (Zar rfl (fun K f=>?_) (Zb1))
 ·go_simp
  refine f _ _ ?_;clear f K;refine Ry 4 (v:=?_) rfl (by kernel_rfl) (fun _ _ _ h=>h) ?_ ?_;rotate_left
  ·intro w';go_simp;try(with_reducible rfl)
  refine bV 6 (by kernel_rfl) rfl fun K f=>?_;go_simp;go_wp2_with(go_at_call 360;(with_reducible refine j.out.mono ?_);rintro e w1⟨rfl,b⟩;have d:Hid (qZ w.heap.size w w1):=⟨b.os,b.tape,b.output,b.size,b.block⟩;have d0:=(d.out.cell (p:=⟨t,0,N⟩) g).trans c0;clear b);refine Ry 7 (v:=?_) rfl (by kernel_rfl) (fun _ _ _ h=>h) ?_ ?_;rotate_left
  ·intro w';go_simp;try(with_reducible rfl)
  refine Ry 8 (v:=?_) rfl (by kernel_rfl) (fun _ _ _ h=>h) ?_ ?_;rotate_left
  ·intro w';go_simp;try(with_reducible rfl)
  refine wpAny_done (by kernel_rfl) ?_ _;go_wp2;go_ret;exact⟨rfl,d.out⟩
 ·go_simp
  go_wp2_with(go_at_call 360;(with_reducible refine j.out.mono ?_);rintro e w1⟨rfl,b⟩;have d:Hid (qZ w.heap.size w w1):=⟨b.os,b.tape,b.output,b.size,b.block⟩;have d0:=(d.out.cell (p:=⟨t,0,N⟩) g).trans c0;clear b);refine bV 3 (by kernel_rfl) rfl fun K f=>?_;go_simp;refine f _ _ ?_;clear f K;refine Ry 4 (v:=?_) rfl (by kernel_rfl) (fun _ _ _ h=>h) ?_ ?_;rotate_left
  ·intro w';go_simp;try(with_reducible rfl)
  refine Ry 7 (v:=?_) rfl (by kernel_rfl) (fun _ _ _ h=>h) ?_ ?_;rotate_left
  ·intro w';go_simp;try(with_reducible rfl)
  refine Ry 8 (v:=?_) rfl (by kernel_rfl) (fun _ _ _ h=>h) ?_ ?_;rotate_left
  ·intro w';go_simp;try(with_reducible rfl)
  refine wpAny_done (by kernel_rfl) ?_ _;go_wp2;go_ret;exact⟨rfl,d.out⟩
theorem RL(t:Nat)(tv:qY)(l:List Pr)(p:Int)(w:oZ)(h:Tb w t tv l):re prog 166 #[J (Z ⟨t,0,N⟩),I U p,.func (.func 337) #[] #[]] w (Dk t tv (Di l p (fun s c=>(2,c)) (fun s c=>s==1)) (Ed l p (fun s c=>s==1)) w):=by
 unfold Di Ed;by_cases f:0≤p∧p<l.length
 ·rw[Ai f,Ai f]
  obtain⟨i,rfl⟩:=AA f.1;rw[An];have u:i<l.length:=by omega
  obtain⟨a,cap,rfl⟩:=h.slice;obtain⟨E,g,rfl,c0,c1⟩:=h.at i u;clear E;have v:=Aa (Jk t g _ cap l i w h u);have o:=h.free (i*2);have D:=h.free (i*2+1);have m:=Aa h;have F:=Aa u;obtain⟨s,B⟩: ∃s,(l[i]?.getD pz).1=s:=⟨_,rfl⟩;obtain⟨c,j⟩: ∃c,(l[i]?.getD pz).2=c:=⟨_,rfl⟩;rw[B,j];rw[B]at c0;rw[j]at c1;have C:=Aa (U0 s c w);clear f u h B j;obtain⟨y,q⟩: ∃y,Hid ((fun s c=>s==1) s c=y):=⟨_,rfl⟩;obtain⟨z,A,r⟩: ∃z A:Int,Hid (((fun s c=>(2,c)):Int→Int→Pr) s c=(z,A)):=⟨_,_,rfl⟩;rw[q.out,r.out];rw[show Ie _ _ _=Ie (z,A) y w from by rw[←q.out,←r.out]]at C;obtain⟨n,G⟩: ∃n,Hid (l.length=n):=⟨_,rfl⟩;rw[G.out]at m⊢;cases y with
  |true=>rw[Ai rfl,Ai rfl];go_enter func166,ntmps166;go_wp2_with fail;refine v.out.mono ?_;rintro e w1⟨rfl,rfl⟩;go_wp2_with fail;refine C.out.mono ?_;rintro e w1⟨rfl,b⟩;have k:=Aa b;have d:=m.out.below b;have H:=(d.free 0).2;have K:=(d.free (i*2)).1;have L:=(d.free (i*2+1)).1;have e0:=(b.cell (p:=⟨g,i*2,N⟩) o.2).trans c0;have M:=(b.cell (p:=⟨g,i*2+1,N⟩) o.2).trans c1;clear b d;go_wp2_with fail;go_ret;exact Dk.put (x:=(z,A)) m.out k.out F.out
  |false=>rw[Ah (by decide),Ah (by decide)];go_enter func166,ntmps166;go_wp2_with fail;refine v.out.mono ?_;rintro e w1⟨rfl,rfl⟩;go_wp2_with fail;refine C.out.mono ?_;rintro e w1⟨rfl,b⟩;have k:=Aa b;clear b;go_wp2_with fail;go_ret;exact Dk.same m.out (Ct k.out _)
 ·rw[Ah f,Ah f]
  have v:=Aa (GW t tv l p w h f);have m:=Aa h;clear h f;go_enter func166,ntmps166;go_wp2_with fail;refine v.out.mono ?_;rintro e w1⟨rfl,rfl⟩;go_wp2_with fail;go_ret;exact Dk.same m.out (rf _ _)
theorem Oi(t:Nat)(tv:qY)(l:List Pr)(p:Int)(w:oZ)(h:Tb w t tv l):re prog 166 #[J (Z ⟨t,0,N⟩),I U p,.func (.func 238) #[] #[]] w (Dk t tv (Di l p (fun s c=>(0,-1)) (fun s c=>s==1)) (Ed l p (fun s c=>s==1)) w):=by
 unfold Di Ed;by_cases f:0≤p∧p<l.length
 ·rw[Ai f,Ai f]
  obtain⟨i,rfl⟩:=AA f.1;rw[An];have u:i<l.length:=by omega
  obtain⟨a,cap,rfl⟩:=h.slice;obtain⟨E,g,rfl,c0,c1⟩:=h.at i u;clear E;have v:=Aa (Jk t g _ cap l i w h u);have o:=h.free (i*2);have D:=h.free (i*2+1);have m:=Aa h;have F:=Aa u;obtain⟨s,B⟩: ∃s,(l[i]?.getD pz).1=s:=⟨_,rfl⟩;obtain⟨c,j⟩: ∃c,(l[i]?.getD pz).2=c:=⟨_,rfl⟩;rw[B,j];rw[B]at c0;rw[j]at c1;have C:=Aa (Py s c w);clear f u h B j;obtain⟨y,q⟩: ∃y,Hid ((fun s c=>s==1) s c=y):=⟨_,rfl⟩;obtain⟨z,A,r⟩: ∃z A:Int,Hid (((fun s c=>(0,-1)):Int→Int→Pr) s c=(z,A)):=⟨_,_,rfl⟩;rw[q.out,r.out];rw[show Ie _ _ _=Ie (z,A) y w from by rw[←q.out,←r.out]]at C;obtain⟨n,G⟩: ∃n,Hid (l.length=n):=⟨_,rfl⟩;rw[G.out]at m⊢;cases y with
  |true=>rw[Ai rfl,Ai rfl];go_enter func166,ntmps166;go_wp2_with fail;refine v.out.mono ?_;rintro e w1⟨rfl,rfl⟩;go_wp2_with fail;refine C.out.mono ?_;rintro e w1⟨rfl,b⟩;have k:=Aa b;have d:=m.out.below b;have H:=(d.free 0).2;have K:=(d.free (i*2)).1;have L:=(d.free (i*2+1)).1;have e0:=(b.cell (p:=⟨g,i*2,N⟩) o.2).trans c0;have M:=(b.cell (p:=⟨g,i*2+1,N⟩) o.2).trans c1;clear b d;go_wp2_with fail;go_ret;exact Dk.put (x:=(z,A)) m.out k.out F.out
  |false=>rw[Ah (by decide),Ah (by decide)];go_enter func166,ntmps166;go_wp2_with fail;refine v.out.mono ?_;rintro e w1⟨rfl,rfl⟩;go_wp2_with fail;refine C.out.mono ?_;rintro e w1⟨rfl,b⟩;have k:=Aa b;clear b;go_wp2_with fail;go_ret;exact Dk.same m.out (Ct k.out _)
 ·rw[Ah f,Ah f]
  have v:=Aa (GW t tv l p w h f);have m:=Aa h;clear h f;go_enter func166,ntmps166;go_wp2_with fail;refine v.out.mono ?_;rintro e w1⟨rfl,rfl⟩;go_wp2_with fail;go_ret;exact Dk.same m.out (rf _ _)
theorem U1(t:Nat)(tv:qY)(l:List Pr)(p:Int)(w:oZ)(h:Tb w t tv l):re prog 166 #[J (Z ⟨t,0,N⟩),I U p,.func (.func 239) #[] #[]] w (Dk t tv (Di l p H5 (fun s d=>FN s)) (Ed l p (fun s d=>FN s)) w):=by
 unfold Di Ed;by_cases f:0≤p∧p<l.length
 ·rw[Ai f,Ai f]
  obtain⟨i,rfl⟩:=AA f.1;rw[An];have u:i<l.length:=by omega
  obtain⟨a,cap,rfl⟩:=h.slice;obtain⟨E,g,rfl,c0,c1⟩:=h.at i u;clear E;have v:=Aa (Jk t g _ cap l i w h u);have o:=h.free (i*2);have D:=h.free (i*2+1);have m:=Aa h;have F:=Aa u;obtain⟨s,B⟩: ∃s,(l[i]?.getD pz).1=s:=⟨_,rfl⟩;obtain⟨d,j⟩: ∃d,(l[i]?.getD pz).2=d:=⟨_,rfl⟩;rw[B,j];rw[B]at c0;rw[j]at c1;have C:=Aa (XR s d w);clear f u h B j;obtain⟨y,q⟩: ∃y,Hid ((fun s d=>FN s) s d=y):=⟨_,rfl⟩;obtain⟨z,A,r⟩: ∃z A:Int,Hid ((H5:Int→Int→Pr) s d=(z,A)):=⟨_,_,rfl⟩;rw[q.out,r.out];rw[show Ie _ _ _=Ie (z,A) y w from by rw[←q.out,←r.out]]at C;obtain⟨n,G⟩: ∃n,Hid (l.length=n):=⟨_,rfl⟩;rw[G.out]at m⊢;cases y with
  |true=>rw[Ai rfl,Ai rfl];go_enter func166,ntmps166;go_wp2_with fail;refine v.out.mono ?_;rintro e w1⟨rfl,rfl⟩;go_wp2_with fail;refine C.out.mono ?_;rintro e w1⟨rfl,b⟩;have k:=Aa b;have c:=m.out.below b;have H:=(c.free 0).2;have K:=(c.free (i*2)).1;have L:=(c.free (i*2+1)).1;have e0:=(b.cell (p:=⟨g,i*2,N⟩) o.2).trans c0;have M:=(b.cell (p:=⟨g,i*2+1,N⟩) o.2).trans c1;clear b c;go_wp2_with fail;go_ret;exact Dk.put (x:=(z,A)) m.out k.out F.out
  |false=>rw[Ah (by decide),Ah (by decide)];go_enter func166,ntmps166;go_wp2_with fail;refine v.out.mono ?_;rintro e w1⟨rfl,rfl⟩;go_wp2_with fail;refine C.out.mono ?_;rintro e w1⟨rfl,b⟩;have k:=Aa b;clear b;go_wp2_with fail;go_ret;exact Dk.same m.out (Ct k.out _)
 ·rw[Ah f,Ah f]
  have v:=Aa (GW t tv l p w h f);have m:=Aa h;clear h f;go_enter func166,ntmps166;go_wp2_with fail;refine v.out.mono ?_;rintro e w1⟨rfl,rfl⟩;go_wp2_with fail;go_ret;exact Dk.same m.out (rf _ _)
theorem cK(t:Nat)(tv:qY)(l:List Pr)(p:Int)(w:oZ)(h:Tb w t tv l):re prog 166 #[J (Z ⟨t,0,N⟩),I U p,.func (.func 336) #[] #[]] w (Dk t tv (Di l p (fun s c=>cJ c) (fun s c=>s==3)) (Ed l p (fun s c=>s==3)) w):=by
 unfold Di Ed;by_cases f:0≤p∧p<l.length
 ·rw[Ai f,Ai f]
  obtain⟨i,rfl⟩:=AA f.1;rw[An];have u:i<l.length:=by omega
  obtain⟨a,cap,rfl⟩:=h.slice;obtain⟨E,g,rfl,c0,c1⟩:=h.at i u;clear E;have v:=Aa (Jk t g _ cap l i w h u);have o:=h.free (i*2);have D:=h.free (i*2+1);have m:=Aa h;have F:=Aa u;obtain⟨s,B⟩: ∃s,(l[i]?.getD pz).1=s:=⟨_,rfl⟩;obtain⟨c,j⟩: ∃c,(l[i]?.getD pz).2=c:=⟨_,rfl⟩;rw[B,j];rw[B]at c0;rw[j]at c1;have C:=Aa (iC s c w);clear f u h B j;obtain⟨y,q⟩: ∃y,Hid ((fun s c=>s==3) s c=y):=⟨_,rfl⟩;obtain⟨z,A,r⟩: ∃z A:Int,Hid (((fun s c=>cJ c):Int→Int→Pr) s c=(z,A)):=⟨_,_,rfl⟩;rw[q.out,r.out];rw[show Ie _ _ _=Ie (z,A) y w from by rw[←q.out,←r.out]]at C;obtain⟨n,G⟩: ∃n,Hid (l.length=n):=⟨_,rfl⟩;rw[G.out]at m⊢;cases y with
  |true=>rw[Ai rfl,Ai rfl];go_enter func166,ntmps166;go_wp2_with fail;refine v.out.mono ?_;rintro e w1⟨rfl,rfl⟩;go_wp2_with fail;refine C.out.mono ?_;rintro e w1⟨rfl,b⟩;have k:=Aa b;have d:=m.out.below b;have H:=(d.free 0).2;have K:=(d.free (i*2)).1;have L:=(d.free (i*2+1)).1;have e0:=(b.cell (p:=⟨g,i*2,N⟩) o.2).trans c0;have M:=(b.cell (p:=⟨g,i*2+1,N⟩) o.2).trans c1;clear b d;go_wp2_with fail;go_ret;exact Dk.put (x:=(z,A)) m.out k.out F.out
  |false=>rw[Ah (by decide),Ah (by decide)];go_enter func166,ntmps166;go_wp2_with fail;refine v.out.mono ?_;rintro e w1⟨rfl,rfl⟩;go_wp2_with fail;refine C.out.mono ?_;rintro e w1⟨rfl,b⟩;have k:=Aa b;clear b;go_wp2_with fail;go_ret;exact Dk.same m.out (Ct k.out _)
 ·rw[Ah f,Ah f]
  have v:=Aa (GW t tv l p w h f);have m:=Aa h;clear h f;go_enter func166,ntmps166;go_wp2_with fail;refine v.out.mono ?_;rintro e w1⟨rfl,rfl⟩;go_wp2_with fail;go_ret;exact Dk.same m.out (rf _ _)
theorem U2(t:Nat)(tv:qY)(l:List Pr)(p:Int)(b:Nat)(m:Int)(w:oZ)(h:Tb w t tv l)(D:Cx w b #[I U m] 3):re prog 166 #[J (Z ⟨t,0,N⟩),I U p,.func (.func 113) #[] #[J (Z ⟨b,0,N⟩)]] w (Dk t tv (Di l p (fun s d=>(1,m)) (fun s d=>s==0)) (Ed l p (fun s d=>s==0)) w):=by
 unfold Di Ed;by_cases j:0≤p∧p<l.length
 ·rw[Ai j,Ai j]
  obtain⟨i,rfl⟩:=AA j.1;rw[An];have y:i<l.length:=by omega
  obtain⟨a,cap,rfl⟩:=h.slice;obtain⟨H,g,rfl,c0,c1⟩:=h.at i y;clear H;have z:=Aa (Jk t g _ cap l i w h y);have r:=h.free (i*2);have G:=h.free (i*2+1);have q:=Aa h;have K:=Aa y;obtain⟨s,E⟩: ∃s,(l[i]?.getD pz).1=s:=⟨_,rfl⟩;obtain⟨d,k⟩: ∃d,(l[i]?.getD pz).2=d:=⟨_,rfl⟩;rw[E,k];rw[E]at c0;rw[k]at c1;have F:=Aa (XQ b m s d w D);clear j y h E k D;obtain⟨A,u⟩: ∃A,Hid ((fun s d=>s==0) s d=A):=⟨_,rfl⟩;obtain⟨B,C,v⟩: ∃B C:Int,Hid (((fun s d=>(1,m)):Int→Int→Pr) s d=(B,C)):=⟨_,_,rfl⟩;rw[u.out,v.out];rw[show Ie _ _ _=Ie (B,C) A w from by rw[←u.out,←v.out]]at F;obtain⟨n,L⟩: ∃n,Hid (l.length=n):=⟨_,rfl⟩;rw[L.out]at q⊢;cases A with
  |true=>rw[Ai rfl,Ai rfl];go_enter func166,ntmps166;go_wp2_with fail;refine z.out.mono ?_;rintro e w1⟨rfl,rfl⟩;go_wp2_with fail;refine F.out.mono ?_;rintro e w1⟨rfl,c⟩;have o:=Aa c;have f:=q.out.below c;have M:=(f.free 0).2;have O:=(f.free (i*2)).1;have P:=(f.free (i*2+1)).1;have e0:=(c.cell (p:=⟨g,i*2,N⟩) r.2).trans c0;have Q:=(c.cell (p:=⟨g,i*2+1,N⟩) r.2).trans c1;clear c f;go_wp2_with fail;go_ret;exact Dk.put (x:=(B,C)) q.out o.out K.out
  |false=>rw[Ah (by decide),Ah (by decide)];go_enter func166,ntmps166;go_wp2_with fail;refine z.out.mono ?_;rintro e w1⟨rfl,rfl⟩;go_wp2_with fail;refine F.out.mono ?_;rintro e w1⟨rfl,c⟩;have o:=Aa c;clear c;go_wp2_with fail;go_ret;exact Dk.same q.out (Ct o.out _)
 ·rw[Ah j,Ah j]
  have z:=Aa (GW t tv l p w h j);have q:=Aa h;clear h j D;go_enter func166,ntmps166;go_wp2_with fail;refine z.out.mono ?_;rintro e w1⟨rfl,rfl⟩;go_wp2_with fail;go_ret;exact Dk.same q.out (rf _ _)
def Jv(m:Int):Prop:=m<0∨64≤m
instance (m:Int):Decidable (Jv m):=by unfold Jv;infer_instance
def LS(l:List Pr)(p m:Int)(X:Int→Int→Pr)(B:Int→Int→Bool):List Pr:=if(0≤p∧p<l.length)∧Jv m then l else Di l p X B
def gK(l:List Pr)(p m:Int)(B:Int→Int→Bool):Int:=if(0≤p∧p<l.length)∧Jv m then 2 else Ed l p B
theorem cL(t:Nat)(tv:qY)(l:List Pr)(p:Int)(b:Nat)(m:Int)(w:oZ)(h:Tb w t tv l)(o:Cx w b #[I U m] 3):re prog 112 #[J (Z ⟨t,0,N⟩),I U p,I U m,.func (.func 113) #[] #[J (Z ⟨b,0,N⟩)]] w (Dk t tv (LS l p m (fun s v=>(1,m)) (fun s v=>s==0)) (gK l p m (fun s v=>s==0)) w):=by
 have d:=Aa (U2 t tv l p b m w h o);have x:=Aa h;unfold LS gK;by_cases c:0≤p∧p<l.length
 ·obtain⟨i,rfl⟩:=AA c.1
  have q:i<l.length:=by omega
  obtain⟨a,cap,rfl⟩:=h.slice;obtain⟨y,g,rfl,c0,c1⟩:=h.at i q;have j:=Aa (Jk t g _ cap l i w h q);clear y c0 c1 h o q;by_cases hm:Jv m
  ·rw[Ai ⟨c,hm⟩,Ai ⟨c,hm⟩]
   clear c d;by_cases f:m<0
   ·have k:decide (m<0)=true:=by simpa using f
    clear hm;go_enter func112,ntmps112;go_wp2_with fail;refine j.out.mono ?_;rintro e w1⟨rfl,rfl⟩;go_wp2_with fail;go_ret;exact Dk.same x.out (rf _ _)
   ·have k:decide (m<0)=false:=by simpa using f
    have r:decide (64≤m)=true:=by unfold Jv at hm;simp;omega
    clear hm f;go_enter func112,ntmps112;go_wp2_with fail;refine j.out.mono ?_;rintro e w1⟨rfl,rfl⟩;go_wp2_with fail;go_ret;exact Dk.same x.out (rf _ _)
  ·rw[Ah (fun h=>hm h.2),Ah (fun h=>hm h.2)]
   have k:decide (m<0)=false:=by unfold Jv at hm;simp;omega
   have r:decide (64≤m)=false:=by unfold Jv at hm;simp;omega
   clear c hm;go_enter func112,ntmps112;go_wp2_with fail;refine j.out.mono ?_;rintro e w1⟨rfl,rfl⟩;go_wp2_with fail;refine d.out.mono ?_;rintro e w1⟨rfl,n⟩;have u:=Aa n;clear n;go_wp2_with fail;go_ret;exact⟨rfl,u.out⟩
 ·rw[Ah (fun h=>c h.1),Ah (fun h=>c h.1)]
  have j:=Aa (GW t tv l p w h c);clear h c o;go_enter func112,ntmps112;go_wp2_with fail;refine j.out.mono ?_;rintro e w1⟨rfl,rfl⟩;go_wp2_with fail;refine d.out.mono ?_;rintro e w1⟨rfl,n⟩;have u:=Aa n;clear n;go_wp2_with fail;go_ret;exact⟨rfl,u.out⟩
theorem U3(t:Nat)(tv:qY)(l:List Pr)(p:Int)(w:oZ)(h:Tb w t tv l):re prog 301 #[J (Z ⟨t,0,N⟩),I U p] w (Dk t tv (Di l p (fun s a=>(2,a)) (fun s a=>s==1)) (Ed l p (fun s a=>s==1)) w):=by have b:=Aa (RL t tv l p w h);clear h;go_enter func301,ntmps301;go_wp2_with fail;refine b.out.mono ?_;rintro e w1⟨rfl,c⟩;have d:=Aa c;clear c;go_wp2_with fail;go_ret;exact⟨rfl,d.out⟩
theorem Ir(t:Nat)(tv:qY)(l:List Pr)(p:Int)(w:oZ)(h:Tb w t tv l):re prog 172 #[J (Z ⟨t,0,N⟩),I U p] w (Dk t tv (Di l p (fun s b=>(0,-1)) (fun s b=>s==1)) (Ed l p (fun s b=>s==1)) w):=by have a:=Aa (Oi t tv l p w h);clear h;go_enter func172,ntmps172;go_wp2_with fail;refine a.out.mono ?_;rintro e w1⟨rfl,c⟩;have d:=Aa c;clear c;go_wp2_with fail;go_ret;exact⟨rfl,d.out⟩
theorem XT(t:Nat)(tv:qY)(l:List Pr)(p:Int)(w:oZ)(h:Tb w t tv l):re prog 173 #[J (Z ⟨t,0,N⟩),I U p] w (Dk t tv (Di l p H5 (fun s c=>FN s)) (Ed l p (fun s c=>FN s)) w):=by have a:=Aa (U1 t tv l p w h);clear h;go_enter func173,ntmps173;go_wp2_with fail;refine a.out.mono ?_;rintro e w1⟨rfl,b⟩;have d:=Aa b;clear b;go_wp2_with fail;go_ret;exact⟨rfl,d.out⟩
theorem iD(t:Nat)(tv:qY)(l:List Pr)(p:Int)(w:oZ)(h:Tb w t tv l):re prog 299 #[J (Z ⟨t,0,N⟩),I U p] w (Dk t tv (Di l p (fun s a=>cJ a) (fun s a=>s==3)) (Ed l p (fun s a=>s==3)) w):=by have b:=Aa (cK t tv l p w h);clear h;go_enter func299,ntmps299;go_wp2_with fail;refine b.out.mono ?_;rintro e w1⟨rfl,c⟩;have d:=Aa c;clear c;go_wp2_with fail;go_ret;exact⟨rfl,d.out⟩
theorem Mk{tv:qY}{l':List Pr}(c:qZ w.heap.size w w1)(h: ∃a,Tb w' t a l'∧Cv (Tf t tv) w1 w'∧ ∀j,Tf t a j→Tf t tv j∨w1.heap.size≤j): ∃a,Tb w' t a l'∧Cv (Tf t tv) w w'∧ ∀j,Tf t a j→Tf t tv j∨w.heap.size≤j:=by obtain⟨a,d,e,f⟩:=h;exact⟨a,d,((Cv.refl (Tf t tv) w).below c).andThen e (fun j _ b=>b),fun j b=>(f j b).imp id (fun x=>AE c.size x)⟩
theorem Is(t:Nat)(tv:qY)(l:List Pr)(p m:Int)(w:oZ)(h:Tb w t tv l):re prog 49 #[J (Z ⟨t,0,N⟩),I U p,I U m] w (Dk t tv (LS l p m (fun s a=>(1,m)) (fun s a=>s==0)) (gK l p m (fun s a=>s==0)) w):=by have c:=Aa (cL t tv l p w.heap.size m (w.alloc (rD #[I U m] 3)) (h.below (Ct (rf _ _) _)) (Cx.new w _ 3));clear h;go_enter func49,ntmps49;go_wp2_with fail;refine c.out.mono ?_;rintro e w1⟨rfl,b⟩;have d:=Aa (Mk (Ct (rf _ _) _) b);clear b;go_wp2_with fail;go_ret;exact⟨rfl,d.out⟩
end
theorem TP:(prog.info? 201).map (fun i=>(i.zero,i.size,i.bytes))=Z (Z (rE #[I U 0,I U 0]),2,16):=by kernel_rfl
theorem cM(w:oZ)(x y:qY)(t:rA): ∀(j:Nat)(u:qY),[x,y][j]?=Z u→(w.alloc (rD #[x,y] t)).cell? ((⟨w.heap.size,0,N⟩:Addr).add j)=Z u:=by
 intro j u a;have b:j<2:=by have:=(Af.1 a).1;simpa using this
 rw[Ay,(Cx.new w #[x,y] t).cell,AO];simpa using a
theorem kO(a b:Int): ∀x∈([I U a,I U b]:List qY),x.oneCell'=true:=by intro x c;simp at c;rcases c with rfl|rfl<;>rfl
theorem Tb.more{w w':oZ}{t:Nat}{tv c:qY}{l:List Pr}{a b:Int}{tmp:Obj}(h:Tb w t tv l)(o:Dn (w.alloc tmp) (t+1) 201 2 tv l.length (ys l) [I U a,I U b] c w'):Cx w' t #[tv] 199∧Tb (w'.setCell ⟨t,0,N⟩ c) t c (l++[(a,b)])∧Cv (Tf t tv) w (w'.setCell ⟨t,0,N⟩ c)∧ ∀j,Tf t c j→Tf t tv j∨w.heap.size≤j:=by
 obtain⟨i,m,p⟩:=o;have n:Cx w' t #[tv] 199:=(h.Dp.alloc tmp).kept m (fun e=>h.off e.symm);have f:c.ownBlock≠Z t:=fun e=>by have:=(Az i t e).1;omega
 refine⟨n,⟨n.set 0 c,?_⟩,(((Cv.refl (Tf t tv) w).alloc tmp).grown m (fun k e=>.inr (.inr e))).set (.inr (.inl rfl)) _ _,fun j d=>?_⟩
 ·have:=Zbg i (DK w' t 0 c) (.inr f)
  rw[Aw,KH];exact this
 ·rcases d with d|d
  ·exact .inl (.inl d)
  ·rcases p j d with g|g
   ·exact .inl (.inr g)
   ·exact .inr (by simp at g;omega)
def nJ(m:Nat)(w:oZ)(e:rB)(w':oZ):Prop:=e=rC (J (Z ⟨w.heap.size,0,N⟩))∧ ∃tv,Tb w' w.heap.size tv (rj m (0,-1))∧qZ w.heap.size w w'
theorem Fu(m:Nat)(w:oZ)(D:1≤m)(E:m≤256):re prog 43 #[I U m] w (nJ m w):=by
 have t:=Aa (ER m w);rw[AZ ⟨by omega,by omega⟩]at t;have f:Hid (Tb (w.alloc (rD #[Y N 0 0] 199)) w.heap.size (Y N 0 0) []):=⟨Cx.new w _ 199,AL _ _ 201 2⟩;go_enter func43,ntmps43;go_wp2_with fail;refine t.out.mono ?_;rintro e F⟨rfl,rfl⟩;go_wp2_with fail;go_loopw [10] (fun i wr=> ∃(k:Nat)(tv:qY),k≤m∧i=I U k∧Tb wr w.heap.size tv (rj k (0,-1))∧qZ w.heap.size w wr) (fun i _=>m-(intOf i).toNat)
 case atStart=>exact⟨0,_,Ap _,rfl,f.out,Ct (rf _ _) _⟩
 case round=>
  obtain⟨k,tv,G,rfl,n,u⟩:=hrel;have c0:=n.Dp.cell 0;have x:=n.Dp.lt;simp only[Ad,Ac]at c0;have o:=Aa n;have v:=Aa u;clear n u f;by_cases g:k<m
  ·have y:decide (k<m)=true:=by simpa using g
   have b:Hid ((rj k ((0,-1):Pr)).length=k):=Cd;have h:Hid (Gz (wr.alloc (rD #[I U 0,I U (-1)] 201)) (w.heap.size+1) 201 2 tv (rj k ((0,-1):Pr)).length (ys (rj k (0,-1)))):=.inl (CJ o.out.own (Ct (rf _ _) _));go_wp2_with(at_builtin;refine Jg underlying197 TP rfl (by decide) (by decide) (w.heap.size+1) _ rfl _ _ rfl tv _ _ ⟨wr.heap.size,0,N⟩ 1 [I U 0,I U (-1)] rfl rfl h.out rfl (cM wr _ _ 201) (kO _ _) (by simp;omega) (by rw[b.out];omega) ?_;intro H K p;obtain⟨z,l,rfl⟩:=p.some;obtain⟨a,c,d,q⟩:=o.out.more p;have A:=a.cell 0;have L:=a.free 0;have B:=a.lt;simp only[Ad,Ac]at A;rw[b.out]at c d;have r:=Aa c;have s:=Aa d;clear p a c d q);go_roundw
   case rel=>
    refine⟨k+1,Y (Z ⟨z,0,N⟩) (k+1) l,by omega,by go_num,?_,?_⟩
    ·rw[Zbt];exact r.out
    ·exact Ej v.out s.out (fun j C=>o.out.ge C)
   case measure=>simp[intOf];omega
  ·have y:decide (k<m)=false:=by simpa using g
   obtain rfl:k=m:=by omega
   go_wp2;go_ret;exact⟨rfl,tv,o.out,v.out⟩
end Go.Proofs.YtgadhchejmlfjaaGreatDoor.Cw
namespace Go.Proofs.YtgadhchejmlfjaaGreatDoor.cN
open Go.Proofs.Tryz Go.RowKit Go.CL
def es(l:List (Int×Int×Int)):List Value:=l.flatMap fun x=>[I U x.1,I U x.2.1,I U x.2.2]
theorem Oj(l:List (Int×Int×Int))(a b c:Int):es (l++[(a,b,c)])=es l++[I U a,I U b,I U c]:=by simp[es]
def Dl(n:Nat)(d:Int):List (Int×Int×Int):=(List.range n).map fun(i:Nat)=>((i:Int),d,(i:Int))
theorem RM(n:Nat)(d:Int):Dl (n+1) d=Dl n d++[((n:Int),d,(n:Int))]:=by simp[Dl,B7]
theorem It:(prog.info? 36).map (fun i=>(i.zero,i.size,i.bytes))=Z (Z (rE #[I U 0,I U 0,I U 0]),3,24):=by kernel_rfl
theorem XU(w:oZ)(x y z:qY)(t:rA): ∀(j:Nat)(u:qY),[x,y,z][j]?=Z u→(w.alloc (rD #[x,y,z] t)).cell? ((⟨w.heap.size,0,N⟩:Addr).add j)=Z u:=by have h:=Cx.new w #[x,y,z] t;intro j u hu;rw[show((⟨w.heap.size,0,N⟩:Addr).add j)=⟨w.heap.size,j,N⟩from by rw[Ay,AO]];rw[h.cell j,←hu];simp
theorem XV(a b c:Int): ∀x∈([I U a,I U b,I U c]:List qY),x.oneCell'=true:=by intro x d;simp at d;rcases d with rfl|rfl|rfl<;>rfl
theorem U4(n:Nat)(d:Int)(w:oZ)(s:n≤65536):re prog 33 #[I U n,I U d] w fun e g=> ∃v,e=rC v∧g.ownsRow w.heap.size 36 3 v n (es (Dl n d))∧qZ w.heap.size w g:=by
 have p: ¬((65536:Int)<(n:Int)):=by omega
 have q: ¬((n:Int)<0):=by omega
 have h:Hid (w.heap.size=w.heap.size):=rfl;go_enter func33,ntmps33;go_wp2;clear p q h;go_loopw [4,9] (fun t4 t9 wr=> ∃k:Nat,k≤n∧t9=I U k∧wr.ownsRow w.heap.size 36 3 t4 k (es (Dl k d))∧qZ w.heap.size w wr) (fun _ t _=>n-(intOf t).toNat)
 case atStart=>exact⟨0,Ap _,rfl,AL w w.heap.size 36 3,rf _ _⟩
 case round v _ _=>
  obtain⟨k,u,rfl,a,c⟩:=hrel;by_cases i:k<n
  ·have x:(k:Int)<(n:Int):=by omega
   have b:Hid (Gz (wr.alloc (rD #[I U k,I U d,I U k] 36)) w.heap.size 36 3 _ k (es (Dl k d))):=.inl (CJ a (Ct (rf _ _) _));have l:=Aa a;have f:=Aa c;clear a c;go_wp2_with(at_builtin;refine Jg underlying52 It rfl (by decide) (by decide) w.heap.size _ rfl _ _ rfl _ _ _ ⟨wr.heap.size,0,N⟩ 1 [I U k,I U d,I U k] rfl rfl b.out rfl (XU wr _ _ _ 36) (XV _ _ _) (by have:=f.out.size;simp;omega) (by omega) ?_;intro y g m;have o:=Aa m;clear m);go_roundw
   case rel=>
    refine⟨k+1,by omega,by go_num,?_,?_⟩
    ·rw[RM,Oj];exact o.out.1
    ·exact CI (Ct f.out _) o.out.2.1 (fun j r=>(Az l.out j r).1)
   case measure=>simp[intOf];omega
  ·obtain rfl:k=n:=by omega
   have l:=Aa a;have f:=Aa c;clear a c i;go_wp2;go_ret;exact⟨_,rfl,l.out,f.out⟩
end Go.Proofs.YtgadhchejmlfjaaGreatDoor.cN
