/- A part of the proof. -/
import Derived.Test.YtgadhchejmlfjaaGreatDoorB3
set_option linter.unusedVariables false
set_option maxRecDepth 20000
set_option maxHeartbeats 16000000
open Go.Value renaming int→I,pointer→J,slice→Y
open Go.IntKind renaming i64→U
open Option renaming none→N,some→Z
open Bool renaming false→rm,true→rq
open Go renaming Calls→re,Value→qY,World→oZ
open Go.Ending renaming returned→rC
open Go.RowKit renaming Below→qZ
open Go.RowKit.Below renaming drew→rk,refl→rf
open Go.Value renaming agg→rE,bool→ry,tuple→rG
open Go.World renaming setCell→rh
namespace Go.Proofs.YtgadhchejmlfjaaGreatDoor.Vm
open Go.Proofs.Tryz Go.RowKit Go.CL
section
variable {b k:Nat} {fn pc:Int}
structure At (w:oZ) (fv:qY) (kf kp:Nat) (i:CN):Prop where
 at_: ∃pb po np pc cb co nc cc,fv=Y (Z ⟨pb,po,N⟩) np pc∧kf<np∧kp<nc∧pb<w.heap.size∧cb<w.heap.size∧w.cell? ⟨pb,po+kf*2,N⟩=Z (Y (Z ⟨cb,co,N⟩) nc cc)∧
  w.cell? ⟨cb,co+kp*5,N⟩=Z (I U i.op)∧w.cell? ⟨cb,co+kp*5+1,N⟩=Z (I U i.a)∧w.cell? ⟨cb,co+kp*5+2,N⟩=Z (I U i.b)∧w.cell? ⟨cb,co+kp*5+3,N⟩=Z (I U i.c)∧w.cell? ⟨cb,co+kp*5+4,N⟩=Z (I U i.n)
theorem Qt{S:Nat→Prop}{W w1:oZ}(h:Cv S W w1):(∀b o,b<W.heap.size→ ¬S b→w1.cell? ⟨b,o,N⟩=W.cell? ⟨b,o,N⟩)∧(∀b o,b<W.heap.size→ ¬S b→w1.frozen? ⟨b,o,N⟩=W.frozen? ⟨b,o,N⟩):=⟨fun b o a c=>AH (h.block b a c),fun b o a c=>World.frozen?_of_block (h.block b a c)⟩
def JJ(op b c:Int):Int:=if op=2 then wrap64 (b+c)else if op=3 then wrap64 (b-c)else if op=4 then wrap64 (b*c)else if b<c then 1 else 0
theorem Kt(op:Nat)(h:op=2∨op=3∨op=4∨op=5)(b c:Int)(w:oZ):re prog (345+op) #[rE #[I U b,I U c]] w fun e d=>e=rC (I U (JJ op b c))∧qZ w.heap.size w d:=by
 rcases h with rfl|rfl|rfl|rfl
 ·go_enter func347,ntmps347
  go_wp2;go_ret;exact⟨rfl,Ct (rf _ _) _⟩
 ·go_enter func348,ntmps348
  go_wp2;go_ret;exact⟨rfl,Ct (rf _ _) _⟩
 ·go_enter func349,ntmps349
  go_wp2;go_ret;exact⟨rfl,Ct (rf _ _) _⟩
 ·by_cases a:b<c
  ·have e:JJ (5:Nat) b c=1:=by simp[JJ,a]
   rw[e];go_enter func350,ntmps350;go_wp2;go_ret;exact⟨rfl,Ct (rf _ _) _⟩
  ·have e:JJ (5:Nat) b c=0:=by simp[JJ,a]
   rw[e];go_enter func350,ntmps350;go_wp2;go_ret;exact⟨rfl,Ct (rf _ _) _⟩
theorem Ht(op:Int)(w:oZ)(b:(op==2)=rm)(c:(op==3)=rm)(d:(op==4)=rm)(f:(op==5)=rm):re prog 312 #[I U op] w fun e a=>e=rC .nilFunc∧w=a:=by go_enter func312,ntmps312;go_wp2;go_ret;exact⟨rfl,rfl⟩
theorem GL(op:Nat)(h:op=2∨op=3∨op=4∨op=5)(w:oZ):re prog 312 #[I U op] w fun e a=>e=rC (.func (.func (345+op)) #[] #[])∧w=a:=by
 rcases h with rfl|rfl|rfl|rfl
 all_goals
  go_enter func312,ntmps312;go_wp2;go_ret;exact⟨rfl,rfl⟩
def jt(m:Option (Int×Int×List (Int×Int)))(r:List Int)(n:Int)(w:oZ)(e:Ending)(w':oZ):Prop:=
 qZ w.heap.size w w'∧match m with
 |none=>e=rC (rG #[rE (tv 0 0 [0,0,0,0,0,0,0,0] Jz rq),I U 0,ry rq])
 |some x=> ∃a,e=rC (rG #[rE (tv x.1 x.2.1 r a rm),I U n,ry rq])∧Hk w' w.heap.size a x.2.2
theorem oz{w:oZ}{r:List Int}{sv:qY}{d:Bool}(h:Cx w b (tv fn pc r sv d) 50)(hk:k<8)(hr:r.length=8)(x:Int):Cx (w.setCell ⟨b,2+k,N⟩ (I U x)) b (tv fn pc (r.set k x) sv d) 50:=by rw[←iJ hk hr];exact h.set _ _
theorem oA{w:oZ}{r:List Int}{sv:qY}{d:Bool}(h:Cx w b (tv fn pc r sv d) 50)(hk:k<8):w.cell? ⟨b,2+k,N⟩=Z (I U (r_ r k)):=by rw[h.cell,JA hk]
theorem MO{a b:oZ}(h:a=b):qZ a.heap.size a b:=h▸rf _ _
section
variable (fv:qY) (kf kp:Nat) (r:List Int) (sv:qY) (l:List (Int×Int)) (op b c n Qu:Int) (ka:Nat) (w:oZ) (hA:At w fv kf kp ⟨op,ka,b,c,n⟩) (hI:DX.Laid w) (hr:r.length=8) (hS:Hk w 0 sv l) (hl:l.length≤16) (hk:ka<8)
include hA hI hr hS hl hk
theorem lJ(O:(op==1)=rm)(aa:(op==15)=rm)(z:(op==2)=rm)(P:(op==3)=rm)(Q:(op==4)=rm)(h5:(op==5)=rm)(hq:(DX.row op).asks=rm):re prog 259 #[rE #[fv],rE #[I U kf,I U kp,I U (r_ r 0),I U (r_ r 1),I U (r_ r 2),I U (r_ r 3),I U (r_ r 4),I U (r_ r 5),I U (r_ r 6),I U (r_ r 7),sv,ry rm],I U Qu] w (jt (mv op n (r_ (r) ka) kf (wrap64 (kp+1)) l) (r) (0) w):=by
 obtain⟨A,po,np,R,B,co,nc,cc,rfl,hf,hp,ab,ad,cF,i0,i1,i2,i3,i4⟩:=hA.at_;simp only at i0 i1 i2 i3 i4;have T:=Aa (fun V(C:qZ w.heap.size w V)=>DX.Iv op V (hI.below C));have HC:=Aa (fun W(C:qZ w.heap.size w W)=>Fg kf kp (r_ r 0) (r_ r 1) (r_ r 2) (r_ r 3) (r_ r 4) (r_ r 5) (r_ r 6) (r_ r 7) sv l rm W (hS.below C) (by omega));have X:=Aa (fun W tb lo v1 O z P Q=>G7 op ka b c n kf (wrap64 (kp+1)) (r) v1 l tb lo W _ O z P ka hk rfl rfl hl Q);have HR:=Aa (Ab hr hk);have ae:A<w.heap.size+1:=by omega
 have af:A<w.heap.size+2:=by omega
 have ag:A<w.heap.size+3:=by omega
 have ah:B<w.heap.size+1:=by omega
 have ai:B<w.heap.size+2:=by omega
 have aj:B<w.heap.size+3:=by omega
 have q1:(kf:Int)<(np:Int):=by omega
 have q2:(kp:Int)<(nc:Int):=by omega
 have q3:(ka:Int)<8:=by omega
 generalize mv op n (r_ (r) ka) kf (wrap64 (kp+1)) l=M at*
 rw[hq]at T;clear hA hI hk hr hS hl;have ak: ∀w,(binOp .neq 376 .nilFunc .nilFunc).run prog w= .ok (ry rm) w:=fun _=>by kernel_rfl
 go_enter func259,ntmps259;go_wp2;go_region
 go_wp2_with(first|(go_at_call 56;refine(HC.out _ (by(repeat(first|exact rf _ _|refine rk ?_|refine Ct ?_ _)))).mono ?_;rintro e a⟨v1,rfl,q,f⟩;obtain⟨D,sc,rfl⟩:=Eo q;obtain⟨c1,f1⟩:=Ft f;have ao:w.heap.size+3<a.heap.size:=(by have:=f.size;simp at this;omega);have t:Hid (qZ w.heap.size w a):=Aa (Cu (by(repeat(first|exact rf _ _|refine rk ?_|refine Ct ?_ _))) f);have E:=Aa (((((Cx.Iq #[I U 0,I U 0,I U 0,I U 0,I U 0,I U 0,I U 0,I U 0,I U 0,I U 0,Jz,ry rm] 50 (show((w.alloc _).alloc _).heap.size=w.heap.size+1+1 by simp)).alloc _).drew).below f (by simp<;>omega)));have i:Hid (Gz a (w.heap.size+4) 227 2 (.slice D l.length sc) l.length (Lq l)):=Aa (q.mono (by simp));clear f q;have e1: ¬w.heap.size+1+1+1=a.heap.size:=(by omega);have e2: ¬w.heap.size+1+1=a.heap.size:=(by omega);have e3:w.heap.size+1+1+1<a.heap.size+1:=(by omega);have e4:w.heap.size+1+1<a.heap.size+1:=(by omega);have e5:w.heap.size+1+1+1<a.heap.size:=(by omega);have e6:w.heap.size+1+1<a.heap.size:=(by omega);have e8:w.heap.size+1<a.heap.size:=(by omega);have e9: ¬w.heap.size+1=a.heap.size:=(by omega);have ea:w.heap.size+1<a.heap.size+1:=(by omega))|(go_at_call 312;refine(Ht _ _ (by assumption) (by assumption) (by assumption) (by assumption)).mono ?_;rintro e F⟨rfl,rfl⟩)|(go_at_call 313;refine(T.out _ (Ct t.out _)).mono ?_;rintro e F⟨rfl,d⟩;obtain⟨c2,f2⟩:=Ft d;have aq:a.heap.size<F.heap.size:=(by have:=d.size;simp at this;omega);have HK:=Aa ((Cx.new a _ 50:Cx _ a.heap.size (tv kf kp r (.slice D l.length sc) rm) 50).below d (by simp));have G:Hid (qZ w.heap.size w F):=Aa (Cu (by(repeat(first|exact t.out|refine rk ?_|refine Ct ?_ _))) d);have H:=Aa ((E.out.alloc _).below d (by simp<;>omega));have K:=Aa ((i.out.below (Ct (rf _ _) _)).below d);clear d));refine(X.out _ _ (w.heap.size+4) _ (HK.out.set 1 _) (K.out.off ((Cv.refl (fun j=>j=a.heap.size) _).set (.inr rfl) _ _) (fun k hk e=>by have:=(i.out.lt k hk).2;omega)) (fun k hk e=>by have:=(i.out.lt k hk).2;omega) (by first|(simp only[Jl];omega)|(simp[rh];omega))).mono ?_;rintro e w3⟨rfl,m,s⟩;obtain⟨c3,f3⟩:=Qt m;try simp only[Jl]at c3 f3
 have u:Hid (qZ w.heap.size w w3):=Aa (Ej (C2 G.out (by omega) 1 _) m (fun k hk=>by rcases hk with rfl|hk;omega;have:=(i.out.lt _ hk).1;omega));have L: ¬(w.heap.size+1+1=a.heap.size∨(Value.slice D l.length sc).ownBlock=Z (w.heap.size+1+1)):=fun h=>by
  rcases h with h|h
  ·omega
  ·have:=(i.out.lt _ h).1;omega
 have o:=Aa ((H.out.setOther e2 _).only m L);obtain⟨zf,zc⟩:=H7 o.out;have e7:w.heap.size+1+1<w3.heap.size:=o.out.lt;clear m;clear c3 f3;clear X;cases M with
 |none=>clear s;go_wp2_with fail;exact Fp (n:=0) (LJ o.out) rfl rfl rfl ⟨ES u.out (BP (Bh _)),rfl⟩
 |some x=>obtain⟨x1,x2,x3⟩:=x;obtain⟨v3,v,p⟩:=s _ rfl;obtain⟨ar,au,rfl⟩:=Ff p;obtain⟨yf,yc⟩:=H7 v;dsimp only at yc p;have y:=Aa p;clear s v p;go_wp2_with fail;exact Fp (n:=0) (LJ o.out) rfl rfl rfl ⟨ES u.out (BP (Bh _)),_,rfl,(y.out.only (S:=fun j=>j=w.heap.size+1+1) (KL (Cv.refl _ _) rfl) (fun k hk e=>by rcases y.out with⟨h,-⟩|⟨g,cap,h,z,-⟩;rw[h]at hk;cases hk;rw[h]at hk;cases hk;have e2:g=w.heap.size+1+1:=e;omega)).mono (by omega)⟩
theorem eN(R:(op==1)=rm)(ab:(op==15)=rm)(B:(op==2)=rm)(T:(op==3)=rm)(V:(op==4)=rm)(h5:(op==5)=rm)(hq:(DX.row op).asks=rq):re prog 259 #[rE #[fv],rE #[I U kf,I U kp,I U (r_ r 0),I U (r_ r 1),I U (r_ r 2),I U (r_ r 3),I U (r_ r 4),I U (r_ r 5),I U (r_ r 6),I U (r_ r 7),sv,ry rm],I U Qu] w (jt (mv op n (r_ (r.set ka Qu) ka) kf (wrap64 (kp+1)) l) (r.set ka Qu) (Qu) w):=by
 obtain⟨C,po,np,X,D,co,nc,cc,rfl,hf,hp,ad,ae,cF,i0,i1,i2,i3,i4⟩:=hA.at_;simp only at i0 i1 i2 i3 i4;have HI:=Aa (fun w'(E:qZ w.heap.size w w')=>DX.Iv op w' (hI.below E));have HC:=Aa (fun W(E:qZ w.heap.size w W)=>Fg kf kp (r_ r 0) (r_ r 1) (r_ r 2) (r_ r 3) (r_ r 4) (r_ r 5) (r_ r 6) (r_ r 7) sv l rm W (hS.below E) (by omega));have HM:=Aa (fun W tb lo v1 R B T V=>G7 op ka b c n kf (wrap64 (kp+1)) (r.set ka Qu) v1 l tb lo W _ R B T ka hk rfl rfl hl V);have HR:=Aa (Ab hr hk);have af:C<w.heap.size+1:=by omega
 have ag:C<w.heap.size+2:=by omega
 have ah:C<w.heap.size+3:=by omega
 have ai:D<w.heap.size+1:=by omega
 have aj:D<w.heap.size+2:=by omega
 have ak:D<w.heap.size+3:=by omega
 have q1:(kf:Int)<(np:Int):=by omega
 have q2:(kp:Int)<(nc:Int):=by omega
 have q3:(ka:Int)<8:=by omega
 generalize mv op n (r_ (r.set ka Qu) ka) kf (wrap64 (kp+1)) l=M at*
 rw[hq]at HI;have aa: ∀v:qY,[I U kf,I U kp,I U (r_ r 0),I U (r_ r 1),I U (r_ r 2),I U (r_ r 3),I U (r_ r 4),I U (r_ r 5),I U (r_ r 6),I U (r_ r 7),v,ry rm][2+ka]?=Z (I U (r_ r ka)):=fun v=>by have:=JA (fn:=kf) (pc:=kp) (r:=r) (sv:=v) (d:=rm) hk;simpa[tv]using this
 clear hA hI hk hr hS hl;have ao: ∀w,(binOp .neq 376 .nilFunc .nilFunc).run prog w= .ok (ry rm) w:=fun _=>by kernel_rfl
 go_enter func259,ntmps259;go_wp2;go_region
 go_wp2_with(first|(go_at_call 56;refine(HC.out _ (by(repeat(first|exact rf _ _|refine rk ?_|refine Ct ?_ _)))).mono ?_;rintro e a⟨v1,rfl,s,i⟩;obtain⟨F,sc,rfl⟩:=Eo s;obtain⟨c1,f1⟩:=Ft i;have aq:w.heap.size+3<a.heap.size:=(by have:=i.size;simp at this;omega);have u:Hid (qZ w.heap.size w a):=Aa (Cu (by(repeat(first|exact rf _ _|refine rk ?_|refine Ct ?_ _))) i);have G:=Aa (((((Cx.Iq #[I U 0,I U 0,I U 0,I U 0,I U 0,I U 0,I U 0,I U 0,I U 0,I U 0,Jz,ry rm] 50 (show((w.alloc _).alloc _).heap.size=w.heap.size+1+1 by simp)).alloc _).drew).below i (by simp<;>omega)));have m:Hid (Gz a (w.heap.size+4) 227 2 (.slice F l.length sc) l.length (Lq l)):=Aa (s.mono (by simp));clear i s;have e1: ¬w.heap.size+1+1+1=a.heap.size:=(by omega);have H: ¬w.heap.size+1+1=a.heap.size:=(by omega);have e3:w.heap.size+1+1+1<a.heap.size+1:=(by omega);have e4:w.heap.size+1+1<a.heap.size+1:=(by omega);have e5:w.heap.size+1+1+1<a.heap.size:=(by omega);have e6:w.heap.size+1+1<a.heap.size:=(by omega);have e8:w.heap.size+1<a.heap.size:=(by omega);have e9: ¬w.heap.size+1=a.heap.size:=(by omega);have ea:w.heap.size+1<a.heap.size+1:=(by omega))|(go_at_call 312;refine(Ht _ _ (by assumption) (by assumption) (by assumption) (by assumption)).mono ?_;rintro e K⟨rfl,rfl⟩)|(go_at_call 313;refine(HI.out _ (Ct u.out _)).mono ?_;rintro e K⟨rfl,f⟩;obtain⟨c2,f2⟩:=Ft f;have ar:a.heap.size<K.heap.size:=(by have:=f.size;simp at this;omega);have HK:=Aa ((Cx.new a _ 50:Cx _ a.heap.size (tv kf kp r (.slice F l.length sc) rm) 50).below f (by simp));have L:Hid (qZ w.heap.size w K):=Aa (Cu (by(repeat(first|exact u.out|refine rk ?_|refine Ct ?_ _))) f);have O:=Aa ((G.out.alloc _).below f (by simp<;>omega));have P:=Aa ((m.out.below (Ct (rf _ _) _)).below f);clear f));refine(HM.out _ _ (w.heap.size+4) _ ((oz HK.out HR.out.2 HR.out.1 Qu).set 1 _) (P.out.off (((Cv.refl (fun j=>j=a.heap.size) _).set (.inr rfl) _ _).set (.inr rfl) _ _) (fun k hk e=>by have:=(m.out.lt k hk).2;omega)) (fun k hk e=>by have:=(m.out.lt k hk).2;omega) (by first|(simp only[Jl];omega)|(simp[rh];omega))).mono ?_;rintro e w3⟨rfl,o,t⟩;obtain⟨c3,f3⟩:=Qt o;try simp only[Jl]at c3 f3
 have y:Hid (qZ w.heap.size w w3):=Aa (Ej (C2 (C2 L.out (by omega) _ _) (by omega) 1 _) o (fun k hk=>by rcases hk with rfl|hk;omega;have:=(m.out.lt _ hk).1;omega));have Q: ¬(w.heap.size+1+1=a.heap.size∨(Value.slice F l.length sc).ownBlock=Z (w.heap.size+1+1)):=fun h=>by
  rcases h with h|h
  ·omega
  ·have:=(m.out.lt _ h).1;omega
 have p:=Aa (((O.out.setOther H _).setOther H _).only o Q);obtain⟨zf,zc⟩:=H7 p.out;have e7:w.heap.size+1+1<w3.heap.size:=p.out.lt;clear o;clear c3 f3;clear HM;cases M with
 |none=>clear t;go_wp2_with fail;exact Fp (n:=0) (LJ p.out) rfl rfl rfl ⟨ES y.out (BP (Bh _)),rfl⟩
 |some x=>obtain⟨x1,x2,x3⟩:=x;obtain⟨v3,z,q⟩:=t _ rfl;obtain⟨au,av,rfl⟩:=Ff q;obtain⟨yf,yc⟩:=H7 z;dsimp only at yc q;have A:=Aa q;clear t z q;go_wp2_with fail;exact Fp (n:=Qu) (LJ p.out) rfl rfl rfl ⟨ES y.out (BP (Bh _)),_,rfl,(A.out.only (S:=fun j=>j=w.heap.size+1+1) (KL (Cv.refl _ _) rfl) (fun k hk e=>by rcases A.out with⟨h,-⟩|⟨g,cap,h,B,-⟩;rw[h]at hk;cases hk;rw[h]at hk;cases hk;have H:g=w.heap.size+1+1:=e;omega)).mono (by omega)⟩
theorem Zh(B:op=1):re prog 259 #[rE #[fv],rE #[I U kf,I U kp,I U (r_ r 0),I U (r_ r 1),I U (r_ r 2),I U (r_ r 3),I U (r_ r 4),I U (r_ r 5),I U (r_ r 6),I U (r_ r 7),sv,ry rm],I U Qu] w (jt (mv 1 n (r_ (r.set ka n) ka) kf (wrap64 (kp+1)) l) (r.set ka n) (0) w):=by
 subst B;obtain⟨C,po,np,T,D,co,nc,cc,rfl,hf,hp,ab,ad,cF,i0,i1,i2,i3,i4⟩:=hA.at_;simp only at i0 i1 i2 i3 i4;have HI:=Aa (fun V(E:qZ w.heap.size w V)=>DX.Iv 1 V (hI.below E));have HC:=Aa (fun W(E:qZ w.heap.size w W)=>Fg kf kp (r_ r 0) (r_ r 1) (r_ r 2) (r_ r 3) (r_ r 4) (r_ r 5) (r_ r 6) (r_ r 7) sv l rm W (hS.below E) (by omega));have X:=Aa (fun W tb lo v1 B F h3 h4=>G7 1 ka b c n kf (wrap64 (kp+1)) (r.set ka n) v1 l tb lo W _ B F h3 ka hk rfl rfl hl h4);have HR:=Aa (Ab hr hk);have ae:C<w.heap.size+1:=by omega
 have af:C<w.heap.size+2:=by omega
 have ag:C<w.heap.size+3:=by omega
 have ah:D<w.heap.size+1:=by omega
 have ai:D<w.heap.size+2:=by omega
 have aj:D<w.heap.size+3:=by omega
 have q1:(kf:Int)<(np:Int):=by omega
 have q2:(kp:Int)<(nc:Int):=by omega
 have q3:(ka:Int)<8:=by omega
 generalize mv 1 n (r_ (r.set ka n) ka) kf (wrap64 (kp+1)) l=M at*
 have F:((1:Int)==2)=false:=by decide
 have h3:((1:Int)==3)=false:=by decide
 have h4:((1:Int)==4)=false:=by decide
 have h5:((1:Int)==5)=false:=by decide
 have aa: ∀v:qY,[I U kf,I U kp,I U (r_ r 0),I U (r_ r 1),I U (r_ r 2),I U (r_ r 3),I U (r_ r 4),I U (r_ r 5),I U (r_ r 6),I U (r_ r 7),v,ry rm][2+ka]?=Z (I U (r_ r ka)):=fun v=>by have:=JA (fn:=kf) (pc:=kp) (r:=r) (sv:=v) (d:=rm) hk;simpa[tv]using this
 clear hA hI hk hr hS hl;have ak: ∀w,(binOp .neq 376 .nilFunc .nilFunc).run prog w= .ok (ry rm) w:=fun _=>by kernel_rfl
 go_enter func259,ntmps259;go_wp2;go_region
 go_wp2_with(first|(go_at_call 56;refine(HC.out _ (by(repeat(first|exact rf _ _|refine rk ?_|refine Ct ?_ _)))).mono ?_;rintro e a⟨v1,rfl,s,i⟩;obtain⟨G,sc,rfl⟩:=Eo s;obtain⟨c1,f1⟩:=Ft i;have ao:w.heap.size+3<a.heap.size:=(by have:=i.size;simp at this;omega);have H:Hid (qZ w.heap.size w a):=Aa (Cu (by(repeat(first|exact rf _ _|refine rk ?_|refine Ct ?_ _))) i);have K:=Aa (((((Cx.Iq #[I U 0,I U 0,I U 0,I U 0,I U 0,I U 0,I U 0,I U 0,I U 0,I U 0,Jz,ry rm] 50 (show((w.alloc _).alloc _).heap.size=w.heap.size+1+1 by simp)).alloc _).drew).below i (by simp<;>omega)));have m:Hid (Gz a (w.heap.size+4) 227 2 (.slice G l.length sc) l.length (Lq l)):=Aa (s.mono (by simp));clear i s;have e1: ¬w.heap.size+1+1+1=a.heap.size:=(by omega);have L: ¬w.heap.size+1+1=a.heap.size:=(by omega);have e3:w.heap.size+1+1+1<a.heap.size+1:=(by omega);have e4:w.heap.size+1+1<a.heap.size+1:=(by omega);have e5:w.heap.size+1+1+1<a.heap.size:=(by omega);have e6:w.heap.size+1+1<a.heap.size:=(by omega);have e8:w.heap.size+1<a.heap.size:=(by omega);have e9: ¬w.heap.size+1=a.heap.size:=(by omega);have ea:w.heap.size+1<a.heap.size+1:=(by omega))|(go_at_call 312;refine(Ht _ _ (by assumption) (by assumption) (by assumption) (by assumption)).mono ?_;rintro e w2⟨rfl,u⟩;have f:=MO u;clear u;obtain⟨c2,f2⟩:=Ft f;have aq:a.heap.size<w2.heap.size:=(by have:=f.size;simp at this;omega);have HK:=Aa ((Cx.new a _ 50:Cx _ a.heap.size (tv kf kp r (.slice G l.length sc) rm) 50).below f (by simp));have O:Hid (qZ w.heap.size w w2):=Aa (Cu (by(repeat(first|exact H.out|refine rk ?_|refine Ct ?_ _))) f);have P:=Aa ((K.out.alloc _).below f (by simp<;>omega));have Q:=Aa ((m.out.below (Ct (rf _ _) _)).below f);clear f));refine(X.out _ _ (w.heap.size+4) _ ((oz HK.out HR.out.2 HR.out.1 n).set 1 _) (Q.out.off (((Cv.refl (fun j=>j=a.heap.size) _).set (.inr rfl) _ _).set (.inr rfl) _ _) (fun k hk e=>by have:=(m.out.lt k hk).2;omega)) (fun k hk e=>by have:=(m.out.lt k hk).2;omega) (by first|(simp only[Jl];omega)|(simp[rh];omega))).mono ?_;rintro e w3⟨rfl,o,t⟩;obtain⟨c3,f3⟩:=Qt o;try simp only[Jl]at c3 f3
 have y:Hid (qZ w.heap.size w w3):=Aa (Ej (C2 (C2 O.out (by omega) _ _) (by omega) 1 _) o (fun k hk=>by rcases hk with rfl|hk;omega;have:=(m.out.lt _ hk).1;omega));have R: ¬(w.heap.size+1+1=a.heap.size∨(Value.slice G l.length sc).ownBlock=Z (w.heap.size+1+1)):=fun h=>by
  rcases h with h|h
  ·omega
  ·have:=(m.out.lt _ h).1;omega
 have p:=Aa (((P.out.setOther L _).setOther L _).only o R);obtain⟨zf,zc⟩:=H7 p.out;have e7:w.heap.size+1+1<w3.heap.size:=p.out.lt;clear o;clear c3 f3;clear X;cases M with
 |none=>clear t;go_wp2_with fail;exact Fp (n:=0) (LJ p.out) rfl rfl rfl ⟨ES y.out (BP (Bh _)),rfl⟩
 |some x=>obtain⟨x1,x2,x3⟩:=x;obtain⟨v3,z,q⟩:=t _ rfl;obtain⟨ar,au,rfl⟩:=Ff q;obtain⟨yf,yc⟩:=H7 z;dsimp only at yc q;have A:=Aa q;clear t z q;go_wp2_with fail;exact Fp (n:=0) (LJ p.out) rfl rfl rfl ⟨ES y.out (BP (Bh _)),_,rfl,(A.out.only (S:=fun j=>j=w.heap.size+1+1) (KL (Cv.refl _ _) rfl) (fun k hk e=>by rcases A.out with⟨h,-⟩|⟨g,cap,h,F,-⟩;rw[h]at hk;cases hk;rw[h]at hk;cases hk;have L:g=w.heap.size+1+1:=e;omega)).mono (by omega)⟩
theorem eO(B:op=15):re prog 259 #[rE #[fv],rE #[I U kf,I U kp,I U (r_ r 0),I U (r_ r 1),I U (r_ r 2),I U (r_ r 3),I U (r_ r 4),I U (r_ r 5),I U (r_ r 6),I U (r_ r 7),sv,ry rm],I U Qu] w (jt (mv 15 n (r_ (r) ka) kf (wrap64 (kp+1)) l) (r) (r_ r ka) w):=by
 subst B;obtain⟨C,po,np,R,D,co,nc,cc,rfl,hf,hp,ab,ad,cF,i0,i1,i2,i3,i4⟩:=hA.at_;simp only at i0 i1 i2 i3 i4;have HI:=Aa (fun T(E:qZ w.heap.size w T)=>DX.Iv 15 T (hI.below E));have HC:=Aa (fun W(E:qZ w.heap.size w W)=>Fg kf kp (r_ r 0) (r_ r 1) (r_ r 2) (r_ r 3) (r_ r 4) (r_ r 5) (r_ r 6) (r_ r 7) sv l rm W (hS.below E) (by omega));have V:=Aa (fun W tb lo v1 B F X h4=>G7 15 ka b c n kf (wrap64 (kp+1)) (r) v1 l tb lo W _ B F X ka hk rfl rfl hl h4);have HR:=Aa (Ab hr hk);have ae:C<w.heap.size+1:=by omega
 have af:C<w.heap.size+2:=by omega
 have ag:C<w.heap.size+3:=by omega
 have ah:D<w.heap.size+1:=by omega
 have ai:D<w.heap.size+2:=by omega
 have aj:D<w.heap.size+3:=by omega
 have q1:(kf:Int)<(np:Int):=by omega
 have q2:(kp:Int)<(nc:Int):=by omega
 have q3:(ka:Int)<8:=by omega
 generalize mv 15 n (r_ (r) ka) kf (wrap64 (kp+1)) l=M at*
 have F:((15:Int)==2)=false:=by decide
 have X:((15:Int)==3)=false:=by decide
 have h4:((15:Int)==4)=false:=by decide
 have h5:((15:Int)==5)=false:=by decide
 have aa: ∀v:qY,[I U kf,I U kp,I U (r_ r 0),I U (r_ r 1),I U (r_ r 2),I U (r_ r 3),I U (r_ r 4),I U (r_ r 5),I U (r_ r 6),I U (r_ r 7),v,ry rm][2+ka]?=Z (I U (r_ r ka)):=fun v=>by have:=JA (fn:=kf) (pc:=kp) (r:=r) (sv:=v) (d:=rm) hk;simpa[tv]using this
 clear hA hI hk hr hS hl;have ak: ∀w,(binOp .neq 376 .nilFunc .nilFunc).run prog w= .ok (ry rm) w:=fun _=>by kernel_rfl
 go_enter func259,ntmps259;go_wp2;go_region
 go_wp2_with(first|(go_at_call 56;refine(HC.out _ (by(repeat(first|exact rf _ _|refine rk ?_|refine Ct ?_ _)))).mono ?_;rintro e a⟨v1,rfl,s,i⟩;obtain⟨G,sc,rfl⟩:=Eo s;obtain⟨c1,f1⟩:=Ft i;have ao:w.heap.size+3<a.heap.size:=(by have:=i.size;simp at this;omega);have H:Hid (qZ w.heap.size w a):=Aa (Cu (by(repeat(first|exact rf _ _|refine rk ?_|refine Ct ?_ _))) i);have K:=Aa (((((Cx.Iq #[I U 0,I U 0,I U 0,I U 0,I U 0,I U 0,I U 0,I U 0,I U 0,I U 0,Jz,ry rm] 50 (show((w.alloc _).alloc _).heap.size=w.heap.size+1+1 by simp)).alloc _).drew).below i (by simp<;>omega)));have m:Hid (Gz a (w.heap.size+4) 227 2 (.slice G l.length sc) l.length (Lq l)):=Aa (s.mono (by simp));clear i s;have e1: ¬w.heap.size+1+1+1=a.heap.size:=(by omega);have e2: ¬w.heap.size+1+1=a.heap.size:=(by omega);have e3:w.heap.size+1+1+1<a.heap.size+1:=(by omega);have e4:w.heap.size+1+1<a.heap.size+1:=(by omega);have e5:w.heap.size+1+1+1<a.heap.size:=(by omega);have e6:w.heap.size+1+1<a.heap.size:=(by omega);have e8:w.heap.size+1<a.heap.size:=(by omega);have e9: ¬w.heap.size+1=a.heap.size:=(by omega);have ea:w.heap.size+1<a.heap.size+1:=(by omega))|(go_at_call 312;refine(Ht _ _ (by assumption) (by assumption) (by assumption) (by assumption)).mono ?_;rintro e w2⟨rfl,u⟩;have f:=MO u;clear u;obtain⟨c2,f2⟩:=Ft f;have aq:a.heap.size<w2.heap.size:=(by have:=f.size;simp at this;omega);have HK:=Aa ((Cx.new a _ 50:Cx _ a.heap.size (tv kf kp r (.slice G l.length sc) rm) 50).below f (by simp));have L:Hid (qZ w.heap.size w w2):=Aa (Cu (by(repeat(first|exact H.out|refine rk ?_|refine Ct ?_ _))) f);have O:=Aa ((K.out.alloc _).below f (by simp<;>omega));have P:=Aa ((m.out.below (Ct (rf _ _) _)).below f);clear f));refine(V.out _ _ (w.heap.size+4) _ (HK.out.set 1 _) (P.out.off ((Cv.refl (fun j=>j=a.heap.size) _).set (.inr rfl) _ _) (fun k hk e=>by have:=(m.out.lt k hk).2;omega)) (fun k hk e=>by have:=(m.out.lt k hk).2;omega) (by first|(simp only[Jl];omega)|(simp[rh];omega))).mono ?_;rintro e w3⟨rfl,o,t⟩;obtain⟨c3,f3⟩:=Qt o;try simp only[Jl]at c3 f3
 have y:Hid (qZ w.heap.size w w3):=Aa (Ej (C2 L.out (by omega) 1 _) o (fun k hk=>by rcases hk with rfl|hk;omega;have:=(m.out.lt _ hk).1;omega));have Q: ¬(w.heap.size+1+1=a.heap.size∨(Value.slice G l.length sc).ownBlock=Z (w.heap.size+1+1)):=fun h=>by
  rcases h with h|h
  ·omega
  ·have:=(m.out.lt _ h).1;omega
 have p:=Aa ((O.out.setOther e2 _).only o Q);obtain⟨zf,zc⟩:=H7 p.out;have e7:w.heap.size+1+1<w3.heap.size:=p.out.lt;clear o;clear c3 f3;clear V;cases M with
 |none=>clear t;go_wp2_with fail;exact Fp (n:=0) (LJ p.out) rfl rfl rfl ⟨ES y.out (BP (Bh _)),rfl⟩
 |some x=>obtain⟨x1,x2,x3⟩:=x;obtain⟨v3,z,q⟩:=t _ rfl;obtain⟨ar,au,rfl⟩:=Ff q;obtain⟨yf,yc⟩:=H7 z;dsimp only at yc q;have A:=Aa q;clear t z q;go_wp2_with fail;exact Fp (n:=r_ r ka) (LJ p.out) rfl rfl rfl ⟨ES y.out (BP (Bh _)),_,rfl,(A.out.only (S:=fun j=>j=w.heap.size+1+1) (KL (Cv.refl _ _) rfl) (fun k hk e=>by rcases A.out with⟨h,-⟩|⟨g,cap,h,F,-⟩;rw[h]at hk;cases hk;rw[h]at hk;cases hk;have e2:g=w.heap.size+1+1:=e;omega)).mono (by omega)⟩
end
end
theorem pY(w:oZ):re prog 312 #[I U 2] w fun e a=>e=rC (.func (.func 347) #[] #[])∧w=a:=GL 2 (by decide) w
theorem pZ(b c:Int)(w:oZ):re prog 347 #[rE #[I U b,I U c]] w fun e a=>e=rC (I U (JJ 2 b c))∧qZ w.heap.size w a:=Kt 2 (by decide) b c w
theorem p6(w:oZ):re prog 312 #[I U 3] w fun e a=>e=rC (.func (.func 348) #[] #[])∧w=a:=GL 3 (by decide) w
theorem p7(b c:Int)(w:oZ):re prog 348 #[rE #[I U b,I U c]] w fun e a=>e=rC (I U (JJ 3 b c))∧qZ w.heap.size w a:=Kt 3 (by decide) b c w
theorem p8(w:oZ):re prog 312 #[I U 4] w fun e a=>e=rC (.func (.func 349) #[] #[])∧w=a:=GL 4 (by decide) w
theorem qd(b c:Int)(w:oZ):re prog 349 #[rE #[I U b,I U c]] w fun e a=>e=rC (I U (JJ 4 b c))∧qZ w.heap.size w a:=Kt 4 (by decide) b c w
theorem qe(w:oZ):re prog 312 #[I U 5] w fun e a=>e=rC (.func (.func 350) #[] #[])∧w=a:=GL 5 (by decide) w
theorem qg(b c:Int)(w:oZ):re prog 350 #[rE #[I U b,I U c]] w fun e a=>e=rC (I U (JJ 5 b c))∧qZ w.heap.size w a:=Kt 5 (by decide) b c w
section
variable (fv:qY) (kf kp:Nat) (r:List Int) (sv:qY) (l:List (Int×Int)) (op b c n Qu:Int) (ka:Nat) (w:oZ) (hA:At w fv kf kp ⟨op,ka,b,c,n⟩) (hI:DX.Laid w) (hr:r.length=8) (hS:Hk w 0 sv l) (hl:l.length≤16) (hk:ka<8)
include hA hI hr hS hl hk
theorem eP(o p q:Nat)(ho:(o=2∧op=2)∨(o=3∧op=3)∨(o=4∧op=4)∨(o=5∧op=5))(H:p<8)(K:q<8)(L:b=p)(hc:c=q):re prog 259 #[rE #[fv],rE #[I U kf,I U kp,I U (r_ r 0),I U (r_ r 1),I U (r_ r 2),I U (r_ r 3),I U (r_ r 4),I U (r_ r 5),I U (r_ r 6),I U (r_ r 7),sv,ry rm],I U Qu] w (jt (mv op n (r_ (r.set ka (JJ op (r_ r p) (r_ r q))) ka) kf (wrap64 (kp+1)) l) (r.set ka (JJ op (r_ r p) (r_ r q))) (0) w):=by
 subst L;subst hc;obtain⟨X,po,np,ao,cb,co,nc,cc,rfl,hf,hp,aq,ar,cF,i0,i1,i2,i3,i4⟩:=hA.at_;simp only at i0 i1 i2 i3 i4;have HI:=Aa (fun G(L:qZ w.heap.size w G)=>DX.Iv op G (hI.below L));have HC:=Aa (fun W(L:qZ w.heap.size w W)=>Fg kf kp (r_ r 0) (r_ r 1) (r_ r 2) (r_ r 3) (r_ r 4) (r_ r 5) (r_ r 6) (r_ r 7) sv l rm W (hS.below L) (by omega));have HM:=Aa (fun W tb lo v1 h1 h2 h3 h4=>G7 op ka p q n kf (wrap64 (kp+1)) (r.set ka (JJ op (r_ r p) (r_ r q))) v1 l tb lo W _ h1 h2 h3 ka hk rfl rfl hl h4);have HR:=Aa (Ab hr hk);have au:X<w.heap.size+1:=by omega
 have av:X<w.heap.size+2:=by omega
 have aw:X<w.heap.size+3:=by omega
 have ax:cb<w.heap.size+1:=by omega
 have ay:cb<w.heap.size+2:=by omega
 have az:cb<w.heap.size+3:=by omega
 have q1:(kf:Int)<(np:Int):=by omega
 have q2:(kp:Int)<(nc:Int):=by omega
 have q3:(ka:Int)<8:=by omega
 generalize mv op n (r_ (r.set ka (JJ op (r_ r p) (r_ r q))) ka) kf (wrap64 (kp+1)) l=M at*
 have aa: ∀v:qY,[I U kf,I U kp,I U (r_ r 0),I U (r_ r 1),I U (r_ r 2),I U (r_ r 3),I U (r_ r 4),I U (r_ r 5),I U (r_ r 6),I U (r_ r 7),v,ry rm][2+p]?=Z (I U (r_ r p)):=fun v=>by have:=JA (fn:=kf) (pc:=kp) (r:=r) (sv:=v) (d:=rm) H;simpa[tv]using this
 have ab: ∀v:qY,[I U kf,I U kp,I U (r_ r 0),I U (r_ r 1),I U (r_ r 2),I U (r_ r 3),I U (r_ r 4),I U (r_ r 5),I U (r_ r 6),I U (r_ r 7),v,ry rm][2+q]?=Z (I U (r_ r q)):=fun v=>by have:=JA (fn:=kf) (pc:=kp) (r:=r) (sv:=v) (d:=rm) K;simpa[tv]using this
 have q4:(p:Int)<8:=by omega
 have q5:(q:Int)<8:=by omega
 have a1: ∀(F:Nat) w,(binOp .neq 376 (.func (.func F) #[] #[]) .nilFunc).run prog w= .ok (ry rq) w:=fun _ _=>rfl;clear hA hI hk hr hS hl;have a6: ∀w,(binOp .neq 376 .nilFunc .nilFunc).run prog w= .ok (ry rm) w:=fun _=>by kernel_rfl
 have C:Hid ((∀W,re prog 312 #[I U op] W fun e G=>e=rC (.func (.func (345+o)) #[] #[])∧W=G)∧ ∀b c W,re prog (345+o) #[rE #[I U b,I U c]] W fun e G=>e=rC (I U (JJ op b c))∧qZ W.heap.size W G):=Aa (by rcases ho with⟨rfl,rfl⟩|⟨rfl,rfl⟩|⟨rfl,rfl⟩|⟨rfl,rfl⟩;exact⟨pY,pZ⟩;exact⟨p6,p7⟩;exact⟨p8,qd⟩;exact⟨qe,qg⟩);rcases ho with⟨rfl,rfl⟩|⟨rfl,rfl⟩|⟨rfl,rfl⟩|⟨rfl,rfl⟩
 all_goals
  simp only[Nat.reduceAdd]at C;go_enter func259,ntmps259;go_wp2;go_region
  go_wp2_with(first|(go_at_call 56;refine(HC.out _ (by(repeat(first|exact rf _ _|refine rk ?_|refine Ct ?_ _)))).mono ?_;rintro e i⟨v1,rfl,D,s⟩;obtain⟨sa,sc,rfl⟩:=Eo D;obtain⟨c1,f1⟩:=Ft s;have a7:w.heap.size+3<i.heap.size:=(by have:=s.size;simp at this;omega);have ad:Hid (qZ w.heap.size w i):=Aa (Cu (by(repeat(first|exact rf _ _|refine rk ?_|refine Ct ?_ _))) s);have ae:=Aa (((((Cx.Iq #[I U 0,I U 0,I U 0,I U 0,I U 0,I U 0,I U 0,I U 0,I U 0,I U 0,Jz,ry rm] 50 (show((w.alloc _).alloc _).heap.size=w.heap.size+1+1 by simp)).alloc _).drew).below s (by simp<;>omega)));have t:Hid (Gz i (w.heap.size+4) 227 2 (.slice sa l.length sc) l.length (Lq l)):=Aa (D.mono (by simp));have HT:=Aa (Ab ((((TU w _ _ 50:Cx _ (w.heap.size+1) (tv kf kp r sv rm) 50).alloc _).alloc _).drew.below s (by simp<;>omega)) ((Cx.Iq _ 84 (show(((w.alloc _).alloc _).alloc _).heap.size=w.heap.size+1+1+1 by simp)).drew.below s (by simp<;>omega)));clear s D;have e1: ¬w.heap.size+1+1+1=i.heap.size:=(by omega);have e2: ¬w.heap.size+1+1=i.heap.size:=(by omega);have e3:w.heap.size+1+1+1<i.heap.size+1:=(by omega);have e4:w.heap.size+1+1<i.heap.size+1:=(by omega);have e5:w.heap.size+1+1+1<i.heap.size:=(by omega);have e6:w.heap.size+1+1<i.heap.size:=(by omega);have e8:w.heap.size+1<i.heap.size:=(by omega);have e9: ¬w.heap.size+1=i.heap.size:=(by omega);have ea:w.heap.size+1<i.heap.size+1:=(by omega))|(go_at_call 312;refine(C.out.1 _).mono ?_;rintro e u⟨rfl,O⟩;have m:=MO O;clear O;obtain⟨c2,f2⟩:=Ft m;have a8:i.heap.size<u.heap.size:=(by have:=m.size;simp at this;omega);have HK:=Aa ((Cx.new i _ 50:Cx _ i.heap.size (tv kf kp r (.slice sa l.length sc) rm) 50).below m (by simp));have af:Hid (qZ w.heap.size w u):=Aa (Cu (by(repeat(first|exact ad.out|refine rk ?_|refine Ct ?_ _))) m);have P:=Aa ((ae.out.alloc _).below m (by simp<;>omega));have ag:=Aa ((t.out.below (Ct (rf _ _) _)).below m);have a:=Aa (Ab ((HT.out.1.alloc _).below m (by simp<;>omega)) ((HT.out.2.alloc _).below m (by simp<;>omega)));clear m));have HQ:Hid (∀W,qZ u.heap.size u W→W.cell? ⟨w.heap.size+1+1+1,1,N⟩=Z (I U ka)∧W.cell? ⟨w.heap.size+1+1+1,2,N⟩=Z (I U p)∧W.cell? ⟨w.heap.size+1+1+1,3,N⟩=Z (I U q)∧W.cell? ⟨w.heap.size+1,2+p,N⟩=Z (I U (r_ r p))∧W.cell? ⟨w.heap.size+1,2+q,N⟩=Z (I U (r_ r q))):=fun W Q=>⟨(a.out.2.below Q a.out.2.lt).cell 1,(a.out.2.below Q a.out.2.lt).cell 2,(a.out.2.below Q a.out.2.lt).cell 3,oA (a.out.1.below Q a.out.1.lt) H,oA (a.out.1.below Q a.out.1.lt) K⟩;obtain⟨s1,s2,s3,s4,s5⟩:=HQ.out _ (rf _ _);clear c1 f1 c2 f2;have ba: ¬i.heap.size=w.heap.size+1+1+1:=fun e=>e1 e.symm;have bb: ¬i.heap.size=w.heap.size+1:=fun e=>e9 e.symm;go_region_held3(fun W=>W.cell? ⟨w.heap.size+1+1+1,1,N⟩=Z (I U ka)∧W.cell? ⟨w.heap.size+1+1+1,2,N⟩=Z (I U p)∧W.cell? ⟨w.heap.size+1+1+1,3,N⟩=Z (I U q)∧W.cell? ⟨w.heap.size+1,2+p,N⟩=Z (I U (r_ r p))∧W.cell? ⟨w.heap.size+1,2+q,N⟩=Z (I U (r_ r q))) (go_keep) (((first|go_at_call 347|go_at_call 348|go_at_call 349|go_at_call 350);refine(C.out.2 _ _ _).mono ?_;rintro e wr⟨rfl,f⟩;replace f:qZ u.heap.size u wr:=Cu (rf u.heap.size u).drew f;have y:=Aa (HK.out.below f HK.out.lt);have ah:Hid (qZ w.heap.size w wr):=Aa (Cu af.out f);have ai:=Aa (P.out.below f P.out.lt);have aj:=Aa (ag.out.below f);have bc:u.heap.size≤wr.heap.size:=f.size;have er:i.heap.size<wr.heap.size:=(by omega);obtain⟨k1,k2,k3,k4,k5⟩:=HQ.out _ f;have kx:wr.cell? ⟨i.heap.size,2+ka,N⟩=Z (I U (r_ r ka)):=oA y.out HR.out.2;have bd:=y.out.free;have g0:=(a.out.2.below f a.out.2.lt).cell 0;have g4:=(a.out.2.below f a.out.2.lt).cell 4;simp only[Ad,Ac,Ag]at g0 g4;have ky:wr.cell? ⟨i.heap.size,1,N⟩=Z (I U kp):=y.out.cell 1;clear f));go_wp2_with fail;refine(HM.out _ _ (w.heap.size+4) _ ((oz y.out HR.out.2 HR.out.1 _).set 1 _) (aj.out.off (((Cv.refl (fun j=>j=i.heap.size) _).set (.inr rfl) _ _).set (.inr rfl) _ _) (fun k hk e=>by have:=(t.out.lt k hk).2;omega)) (fun k hk e=>by have:=(t.out.lt k hk).2;omega) (by first|(simp only[Jl];omega)|(simp[rh];omega))).mono ?_;rintro e w3⟨rfl,z,E⟩;obtain⟨c3,f3⟩:=Qt z;try simp only[Jl]at c3 f3
  have R:Hid (qZ w.heap.size w w3):=Aa (Ej (C2 (C2 ah.out (by omega) _ _) (by omega) 1 _) z (fun k hk=>by rcases hk with rfl|hk;omega;have:=(t.out.lt _ hk).1;omega));have ak: ¬(w.heap.size+1+1=i.heap.size∨(Value.slice sa l.length sc).ownBlock=Z (w.heap.size+1+1)):=fun h=>by
   rcases h with h|h
   ·omega
   ·have:=(t.out.lt _ h).1;omega
  have A:=Aa (((ai.out.setOther e2 _).setOther e2 _).only z ak);obtain⟨zf,zc⟩:=H7 A.out;have e7:w.heap.size+1+1<w3.heap.size:=A.out.lt;clear z;clear c3 f3;clear HM;cases M with
  |none=>clear E;go_wp2_with fail;exact Fp (n:=0) (LJ A.out) rfl rfl rfl ⟨ES R.out (BP (Bh _)),rfl⟩
  |some x=>obtain⟨x1,x2,x3⟩:=x;obtain⟨v3,T,B⟩:=E _ rfl;obtain⟨bf,bg,rfl⟩:=Ff B;obtain⟨yf,yc⟩:=H7 T;dsimp only at yc B;have V:=Aa B;clear E T B;go_wp2_with fail;exact Fp (n:=0) (LJ A.out) rfl rfl rfl ⟨ES R.out (BP (Bh _)),_,rfl,(V.out.only (S:=fun j=>j=w.heap.size+1+1) (KL (Cv.refl _ _) rfl) (fun k hk e=>by rcases V.out with⟨h,-⟩|⟨g,cap,h,h2,-⟩;rw[h]at hk;cases hk;rw[h]at hk;cases hk;have e2:g=w.heap.size+1+1:=e;omega)).mono (by omega)⟩
end
end Go.Proofs.YtgadhchejmlfjaaGreatDoor.Vm
namespace Go.Proofs.YtgadhchejmlfjaaGreatDoor.CX
open Go.Proofs.Tryz Go.RowKit Go.CL
section
open Vm (CN)
def Qv(x:G)(sv:qY):Value:=rE (Vm.tv x.fn x.Dt x.CS sv x.done)
def kH(x:G)(n:Int)(w:oZ)(e:Ending)(w':oZ):Prop:= ∃a,e=rC (rG #[Qv x a,I U n,ry rq])∧qZ w.heap.size w w'∧Vm.Hk w' w.heap.size a x.stack
theorem ju{x:G}{i:CN}{a:Int}{k:Nat}{w:oZ}{e:Ending}{w':oZ}(hd:x.done=rm)(u:x.CS.length=8)(v:i.a=k){r':List Int}{n:Int}(o:r'=FQ x i a)(p:n=FK x i a)(q:i.op=7→r'=x.CS)(h:Vm.jt (Vm.mv i.op i.n (Vm.r_ r' k) x.fn (wrap64 (x.Dt+1)) x.stack) r' n w e w'):kH (if Gj x i then(Lw x,(0:Int))else(Gk x i (FQ x i a),FK x i a)).1 (if Gj x i then(Lw x,(0:Int))else(Gk x i (FQ x i a),FK x i a)).2 w e w':=by
 obtain⟨j,h⟩:=h;have r:i.a.toNat=k:=by omega
 by_cases he:i.op=14∨(i.op=8∧x.stack.length=16)∨(i.op=9∧x.stack=[])
 ·have b:Gj x i=true:=by simpa[Gj]using he
  rw[Ai b];have c:Vm.mv i.op i.n (Vm.r_ r' k) x.fn (wrap64 (x.Dt+1)) x.stack=none:=by unfold Vm.mv;rw[Ai he]
  rw[c]at h;exact⟨Vm.Jz,h,j,.inl ⟨rfl,rfl⟩⟩
 ·have b:Gj x i=false:=by simpa[Gj]using he
  rw[Ah (by simp[b]),←o,←p];have c:Vm.mv i.op i.n (Vm.r_ r' k) x.fn (wrap64 (x.Dt+1)) x.stack=Z ((Gk x i r').fn,(Gk x i r').Dt,(Gk x i r').stack):=by
   unfold Vm.mv Gk;rw[Ah he];by_cases d:i.op=8
   ·simp[d]
   ·by_cases f:i.op=9
    ·simp[f]
    ·rw[Ah d,Ah f,Ah d,Ah f]
     by_cases l:i.op=7
     ·simp only[q l,rg,r]
     ·simp[Vm.Vd,l]
  rw[c]at h;obtain⟨g,s,t⟩:=h;have m:(Gk x i r').CS=r'∧(Gk x i r').done=false:=by unfold Gk;(repeat' split)<;>exact⟨rfl,hd⟩
  refine⟨g,?_,j,t⟩;rw[s];unfold Qv;rw[m.1,m.2]
theorem jv(u:qY)(q s:Nat)(x:G)(sv:qY)(i:CN)(d:Int)(w:oZ)(r:G×Int)(hd:bY x i d=Z r)(y:x.CS.length=8)(W:x.fn=q)(X:x.Dt=s)(B:Vm.At w u q s i)(C:DX.Laid w)(D:Vm.Hk w 0 sv x.stack)(E:x.stack.length≤16):re prog 259 #[rE #[u],Qv x sv,I U d] w (kH r.1 r.2 w):=by
 unfold bY at hd;split at hd
 ·rename_i hc
  obtain⟨F,S,T,v⟩:=hc;cases hd;obtain⟨op,a,b,c,n⟩:=i;dsimp only at S T v;obtain⟨g,rfl⟩: ∃k:Nat,a=k:=⟨a.toNat,by unfold Fa at S;omega⟩;obtain⟨kb,H⟩: ∃k:Nat,b=k:=⟨b.toNat,by unfold Fa at T;omega⟩;obtain⟨kc,K⟩: ∃k:Nat,c=k:=⟨c.toNat,by unfold Fa at v;omega⟩;have j:g<8:=by unfold Fa at S;omega
  have L:kb<8:=by unfold Fa at T;omega
  have M:kc<8:=by unfold Fa at v;omega
  have ht:Qv x sv=rE #[I U (q:Int),I U (s:Int),I U (Vm.r_ x.CS 0),I U (Vm.r_ x.CS 1),I U (Vm.r_ x.CS 2),I U (Vm.r_ x.CS 3),I U (Vm.r_ x.CS 4),I U (Vm.r_ x.CS 5),I U (Vm.r_ x.CS 6),I U (Vm.r_ x.CS 7),sv,ry rm]:=by unfold Qv;rw[W,X,F];rfl
  have key: ∀(r':List Int)(V:Int),r'=FQ x ⟨op,g,b,c,n⟩ d→V=FK x ⟨op,g,b,c,n⟩ d→(op=7→r'=x.CS)→ ∀e l,Vm.jt (Vm.mv op n (Vm.r_ r' g) q (wrap64 (s+1)) x.stack) r' V w e l→
    kH (if Gj x ⟨op,g,b,c,n⟩then(Lw x,(0:Int))else(Gk x ⟨op,g,b,c,n⟩ (FQ x ⟨op,g,b,c,n⟩ d),FK x ⟨op,g,b,c,n⟩ d)).1 (if Gj x ⟨op,g,b,c,n⟩then(Lw x,(0:Int))else(Gk x ⟨op,g,b,c,n⟩ (FQ x ⟨op,g,b,c,n⟩ d),FK x ⟨op,g,b,c,n⟩ d)).2 w e l:=fun r' V p z A e l h=>by
   refine ju (k:=g) F y rfl p z A ?_;rw[W,X];exact h
  rw[ht];have P: ∀o:Int,o=1∨o=2∨o=3∨o=4∨o=5∨o=7∨o=15→(DX.row o).asks=false:=fun o O=>by rcases O with rfl|rfl|rfl|rfl|rfl|rfl|rfl<;>decide+kernel
  by_cases p:op=1
  ·refine(Vm.Zh u q s x.CS sv x.stack op b c n d g w B C y D E j p).mono (fun e l h=>key _ _ ?_ ?_ (fun e=>by omega) e l (by rw[p];exact h))
   ·simp[FQ,p]
   ·simp[FK,p,P 1 (.inl rfl)]
  by_cases f:op=15
  ·refine(Vm.eO u q s x.CS sv x.stack op b c n d g w B C y D E j f).mono (fun e l h=>key _ _ ?_ ?_ (fun e=>rfl) e l (by rw[f];exact h))
   ·simp[FQ,f,P 15 (by simp)]
   ·simp[FK,f,rg]
  by_cases m:op=2∨op=3∨op=4∨op=5
  ·have O: ∃o:Nat,(o=2∧op=2)∨(o=3∧op=3)∨(o=4∧op=4)∨(o=5∧op=5):=by
    rcases m with h|h|h|h
    ·exact⟨2,.inl ⟨rfl,h⟩⟩
    ·exact⟨3,.inr (.inl ⟨rfl,h⟩)⟩
    ·exact⟨4,.inr (.inr (.inl ⟨rfl,h⟩))⟩
    ·exact⟨5,.inr (.inr (.inr ⟨rfl,h⟩))⟩
   obtain⟨o,O⟩:=O;refine(Vm.eP u q s x.CS sv x.stack op b c n d g w B C y D E j o kb kc O L M H K).mono (fun e l h=>key _ _ ?_ ?_ (fun e=>by omega) e l h)
   ·subst H;subst K
    rcases m with rfl|rfl|rfl|rfl<;>simp[FQ,Vm.JJ,rg,Vm.r_];congr 1
   ·have:(DX.row op).asks=false:=P op (by omega)
    simp[FK,f,this]
  ·have z:op≠2:=fun e=>m (.inl e)
   have A:op≠3:=fun e=>m (.inr (.inl e));have Q:op≠4:=fun e=>m (.inr (.inr (.inl e)));have R:op≠5:=fun e=>m (.inr (.inr (.inr e)));cases t:(DX.row op).asks with
   |false=>
    refine(Vm.lJ u q s x.CS sv x.stack op b c n d g w B C y D E j (by simpa using p) (by simpa using f) (by simpa using z) (by simpa using A) (by simpa using Q) (by simpa using R) t).mono (fun e l h=>key _ _ ?_ ?_ (fun e=>rfl) e l h)
    ·simp[FQ,p,z,A,Q,R,t]
    ·simp[FK,f,t]
   |true=>
    refine(Vm.eN u q s x.CS sv x.stack op b c n d g w B C y D E j (by simpa using p) (by simpa using f) (by simpa using z) (by simpa using A) (by simpa using Q) (by simpa using R) t).mono (fun e l h=>key _ _ ?_ ?_ (fun e=>?_) e l h)
    ·simp[FQ,p,z,A,Q,R,t]
    ·simp[FK,f,t]
    ·rw[e,P 7 (by simp)]at t;cases t
 ·cases hd
end
section
open Vm (CN)
section
variable {mb:Nat} {V:Vr} {own:Nat→Nat} {w:oZ} {s:St}
theorem CC.oB(h:CC mb V own w s){x:G}{ins:CN}(i:E9 s x=Z ins): ∃a b:Nat,x.fn=a∧x.Dt=b∧Vm.At w V.Gb a b ins:=by unfold E9 at i;obtain⟨⟨E,F⟩,i⟩:=CQ i;obtain⟨f,j,k⟩:=bind_some i;obtain⟨a,c⟩: ∃a:Nat,x.fn=a:=⟨x.fn.toNat,by omega⟩;obtain⟨b,d⟩: ∃b:Nat,x.Dt=b:=⟨x.Dt.toNat,by omega⟩;rw[c,An]at j;rw[d,An]at k;refine⟨a,b,c,d,?_⟩;obtain⟨q,r,t,l,m,u,n⟩:=h.prog;have e:=Cz j;have g:=Cz k;obtain⟨v,co,y,H,K,sc,o,a2,a3,a4,a5,L,p,M⟩:=(n a e).at_;rw[j]at o p;simp only[AQ]at o p;have a9:=p b g;rw[k]at a9;simp only[AQ]at a9;obtain⟨z,A,B,C,D⟩:=a9;exact⟨q,r,s.funcs.length,t,v,co,f.code.length,y,l,e,g,m,a3,o,z,A,B,C,D⟩
theorem CC.qh(h:CC mb V own w s){x x':G}{ins:CN}{a n:Int}{sv:qY}(b:E9 s x=Z ins)(hd:bY x ins a=Z (x',n))(c:x.CS.length=8)(d:Vm.Hk w 0 sv x.stack)(e:x.stack.length≤16):re prog 259 #[rE #[V.Gb],Qv x sv,I U a] w (kH x' n w):=by obtain⟨f,g,i,j,k⟩:=h.oB b;exact jv V.Gb f g x sv ins a w (x',n) hd c i j k h.laid.1 d e
end
end
section
section
variable {mb:Nat} {V:Vr} {own:Nat→Nat} {w:oZ} {s:St}
def Nk(w:oZ)(b:Nat)(x:G)(sv:qY):World:=((((((((((((w.setCell ⟨b,2,N⟩ (I U x.fn)).setCell ⟨b,3,N⟩ (I U x.Dt)).setCell ⟨b,4,N⟩ (I U (rg x 0))).setCell ⟨b,5,N⟩ (I U (rg x 1))).setCell ⟨b,6,N⟩ (I U (rg x 2))).setCell ⟨b,7,N⟩ (I U (rg x 3))).setCell ⟨b,8,N⟩ (I U (rg x 4))).setCell ⟨b,9,N⟩ (I U (rg x 5))).setCell ⟨b,10,N⟩ (I U (rg x 6))).setCell ⟨b,11,N⟩ (I U (rg x 7))).setCell ⟨b,12,N⟩ sv).setCell ⟨b,13,N⟩ (ry x.done)).setCell ⟨b,17,N⟩ (ry rm)
theorem lK{b:Nat}{cs:Array qY}{t:TypeId}(h:Cx w b cs t)(x:G)(a:qY):Cx (Nk w b x a) b (((((((((((((cs.setIfInBounds 2 (I U x.fn)).setIfInBounds 3 (I U x.Dt)).setIfInBounds 4 (I U (rg x 0))).setIfInBounds 5 (I U (rg x 1))).setIfInBounds 6 (I U (rg x 2))).setIfInBounds 7 (I U (rg x 3))).setIfInBounds 8 (I U (rg x 4))).setIfInBounds 9 (I U (rg x 5))).setIfInBounds 10 (I U (rg x 6))).setIfInBounds 11 (I U (rg x 7))).setIfInBounds 12 a).setIfInBounds 13 (ry x.done)).setIfInBounds 17 (ry rm)) t:=Cx.set (Cx.set (Cx.set (Cx.set (Cx.set (Cx.set (Cx.set (Cx.set (Cx.set (Cx.set (Cx.set (Cx.set (Cx.set h 2 _) 3 _) 4 _) 5 _) 6 _) 7 _) 8 _) 9 _) 10 _) 11 _) 12 _) 13 _) 17 _
theorem Zi{b i:Nat}{sv a:qY}{x x':G}(h:Cx w b (Du i sv x) 130)(c:x'.word=x.word)(d:x'.blocked=x.blocked)(f:x'.token=x.token)(g:x'.CA=x.CA)(j:x'.C9=x.C9):Cx (Nk w b x' a) b (Du i a {x' with begun:=rm}) 130:=by
 have k:=lK h x' a;have e:(((((((((((((Du i sv x).setIfInBounds 2 (I U x'.fn)).setIfInBounds 3 (I U x'.Dt)).setIfInBounds 4 (I U (rg x' 0))).setIfInBounds 5 (I U (rg x' 1))).setIfInBounds 6 (I U (rg x' 2))).setIfInBounds 7 (I U (rg x' 3))).setIfInBounds 8 (I U (rg x' 4))).setIfInBounds 9 (I U (rg x' 5))).setIfInBounds 10 (I U (rg x' 6))).setIfInBounds 11 (I U (rg x' 7))).setIfInBounds 12 a).setIfInBounds 13 (ry x'.done)).setIfInBounds 17 (ry rm)=Du i a {x' with begun:=rm}:=by simp[Du,rg,c,d,f,g,j]
 rw[e]at k;exact k
end
end
section
open Vm (CN)
section
variable {mb:Nat} {V:Vr} {own:Nat→Nat} {w:oZ} {s:St}
variable {x x':G} {Qu n:Int}
theorem Hk.ext{C6:Nat→Nat}{w':oZ}{l:List (Int×Int)}{sv:qY}(h:Hk own w l sv)(e:Ext own w C6 w'):Hk C6 w' l sv:=h.turn e.only (fun j a=>a.2) e.same
theorem CC.jw(h:CC mb V own w s){b i:Nat}{a:qY}(k:Hk own w x'.stack a)(e:own b=20+5*i)(d:s.gs[i]?=Z x)(l:x'.CS.length=8)(f:x'.word=x.word)(m:x'.blocked=x.blocked)(n:x'.token=x.token)(o:x'.CA=x.CA)(p:x'.C9=x.C9):CC mb V own (Nk w b x' a) (s.CH i {x' with begun:=rm})∧Ext own w own (Nk w b x' a):=by obtain⟨t,hw,u,q,r⟩:=h.Hi e d;have c:=h.cA e d;have g:Cv (fun j=>j=b) w (Nk w b x' a):=oset (oset (oset (oset (oset (oset (oset (oset (oset (oset (oset (oset (oset (Ds b w) _ _) _ _) _ _) _ _) _ _) _ _) _ _) _ _) _ _) _ _) _ _) _ _) _ _;exact⟨h.VK (Cz d) (by rw[←c];exact g) {x' with begun:=rm} (by rw[←c];exact⟨l,by rw[f];exact hw,_,Zi q f m n o p,k⟩),Dx g (by omega)⟩
theorem Zj{ins:CN}(h:bY x ins Qu=Z (x',n))(a:x.CS.length=8):x'.CS.length=8∧x'.word=x.word∧x'.blocked=x.blocked∧x'.token=x.token∧x'.CA=x.CA∧x'.C9=x.C9:=by
 unfold bY at h;split at h
 ·simp only[Ak]at h
  have b:(FQ x ins Qu).length=8:=by unfold FQ;(repeat' split)<;>simp[a]
  cases he:Gj x ins with
  |true=>rw[he,Ai rfl]at h;cases h;exact⟨rfl,rfl,rfl,rfl,rfl,rfl⟩
  |false=>rw[he,Ah (by decide)]at h;cases h;unfold Gk;(repeat' split)<;>exact⟨b,rfl,rfl,rfl,rfl,rfl⟩
 ·cases h
theorem Zk{ins:CN}(h:bY x ins Qu=Z (x',n))(a:x.stack.length≤16):x'.stack.length≤16:=by
 unfold bY at h;split at h
 ·simp only[Ak]at h
  cases he:Gj x ins with
  |true=>rw[he,Ai rfl]at h;cases h;simp[Lw]
  |false=>
   rw[he,Ah (by decide)]at h;cases h;simp only[Gj,decide_eq_false_iff_not]at he;unfold Gk;split
   ·simp;omega
   ·split
    ·simp;omega
    ·exact a
 ·cases h
end
end
section
open Vm (CN)
section
variable {mb:Nat} {V:Vr} {own:Nat→Nat} {w:oZ} {s:St}
def SL(b:Nat)(x:G)(sv:qY)(w:oZ):Prop:=
 w.cell? ⟨b,2,N⟩=Z (I U x.fn)∧w.cell? ⟨b,3,N⟩=Z (I U x.Dt)∧w.cell? ⟨b,4,N⟩=Z (I U (rg x 0))∧w.cell? ⟨b,5,N⟩=Z (I U (rg x 1))∧w.cell? ⟨b,6,N⟩=Z (I U (rg x 2))∧w.cell? ⟨b,7,N⟩=Z (I U (rg x 3))∧
 w.cell? ⟨b,8,N⟩=Z (I U (rg x 4))∧w.cell? ⟨b,9,N⟩=Z (I U (rg x 5))∧w.cell? ⟨b,10,N⟩=Z (I U (rg x 6))∧w.cell? ⟨b,11,N⟩=Z (I U (rg x 7))∧w.cell? ⟨b,12,N⟩=Z sv∧w.cell? ⟨b,13,N⟩=Z (ry x.done)
theorem CC.lL(h:CC mb V own w s){b i:Nat}{x:G}(e:own b=20+5*i)(f:s.gs[i]?=Z x): ∃d sc,SL b x (.slice d x.stack.length sc) w∧Hk own w x.stack (.slice d x.stack.length sc):=by obtain⟨g,hw,j,a,c⟩:=h.Hi e f;obtain⟨d,sc,rfl⟩:=Vm.Ff c.2.1;exact⟨d,sc,⟨a.cell 2,a.cell 3,a.cell 4,a.cell 5,a.cell 6,a.cell 7,a.cell 8,a.cell 9,a.cell 10,a.cell 11,a.cell 12,a.cell 13⟩,c⟩
theorem SL.below{b:Nat}{x:G}{sv:qY}{w':oZ}(h:SL b x sv w)(a:qZ w.heap.size w w')(d:b<w.heap.size):SL b x sv w':=by have c:=(Ft a).1;simp only[SL,c _ _ d];exact h
end
end
section
section
variable {mb:Nat} {V:Vr} {own:Nat→Nat} {w:oZ} {s:St}
theorem Ku:(prog.info? 130).map (fun i=>i.size)=Z 19:=by kernel_rfl
theorem KZ:prog.underlying 119=Z (.pointer 130):=by kernel_rfl
theorem Zl(w:oZ)(b:Nat):(binOp .eql 119 (ptr b) (ptr b)).run prog w= .ok (ry rq) w:=by
 obtain⟨i,a,_⟩:=Ax.1 Ku;have h: ∀d:Nat,(Op.equalIn (d+1) 119 (ptr b) (ptr b)).run prog w= .ok rq w:=fun d=>by simp[Op.equalIn,Ch KZ,sizeOf,typeInfo,a,run_sameAddr_same]
 simp only[binOp];simp[Op.equal,Op.maxDepth,h 9999]
theorem V0{b c:Nat}{f g:Array qY}(h: ¬b=c)(j:Cx w b f 130)(k:Cx w c g 130):(binOp .eql 119 (ptr b) (ptr c)).run prog w= .ok (ry rm) w:=by
 obtain⟨i,l,m⟩:=Ax.1 Ku;have h: ∀d:Nat,(Op.equalIn (d+1) 119 (ptr b) (ptr c)).run prog w= .ok rm w:=fun d=>by simp[Op.equalIn,Ch KZ,sizeOf,typeInfo,l,m,run_sameAddr_other w (a:=⟨b,0,N⟩) (b:=⟨c,0,N⟩) (fun e=>h (Aq Addr.block e)) j k]
 simp only[binOp];simp[Op.equal,Op.maxDepth,h 9999]
theorem eQ(w:oZ)(b:Nat):(binOp .eql 119 (J N) (ptr b)).run prog w= .ok (ry rm) w:=by
 have h: ∀d:Nat,(Op.equalIn (d+1) 119 (J N) (ptr b)).run prog w= .ok rm w:=fun d=>by simp[Op.equalIn,Ch KZ]
 simp only[binOp];simp[Op.equal,Op.maxDepth,h 9999]
theorem Hu(x y:Operand)(v:qY)(b:Nat)(w:oZ):(eqGuard .eql 119 x y v (ptr b)).run prog w= .ok () w:=by cases v<;>simp[eqGuard]
theorem CC.Qw(h:CC mb V own w s){b i:Nat}(d:own b=20+5*i){u:Int}(n:0≤u)(k:u≤s.gs.length):(binOp .eql 119 (Eb V.CP u) (ptr b)).run prog w= .ok (ry (decide (u=(i:Int)+1))) w:=by
 have a:=h.lg b i d;by_cases hu:u=0
 ·subst hu
  rw[show Eb V.CP 0=J N from rfl,show decide ((0:Int)=(i:Int)+1)=rm by simp;omega];exact eQ w b
 ·obtain⟨l,f⟩:=h.gp (by omega) k
  rw[l];by_cases c:u=(i:Int)+1
  ·rw[show(u-1).toNat=i by omega,←h.cA d (Ae a),show decide (u=(i:Int)+1)=rq by simp[c]]
   exact Zl w b
  ·rw[show decide (u=(i:Int)+1)=rm by simp[c]]
   obtain⟨_,_,o,g,_⟩:=h.Hi d (Ae a);obtain⟨_,_,m,j,_⟩:=h.Hi f (Ae (h.lg _ _ f));exact V0 (by intro e;rw[e]at f;omega) j g
end
end
open Vm (CN)
section
variable {mb:Nat} {V:Vr} {own:Nat→Nat} {w:oZ} {s:St}
variable {P lo:Nat} {a0 a1 a2 a3 a4 a5 a6 a7 a8 a9 pe pf:qY}
def JK(x:G)(sv:qY):Array Value:=#[I U x.fn,I U x.Dt,I U (rg x 0),I U (rg x 1),I U (rg x 2),I U (rg x 3),I U (rg x 4),I U (rg x 5),I U (rg x 6),I U (rg x 7),sv,ry x.done]
def Zm(w:oZ)(P:Nat)(x:G)(sv:qY):World:=(((((((((((w.setCell ⟨P,0,N⟩ (I U x.fn)).setCell ⟨P,1,N⟩ (I U x.Dt)).setCell ⟨P,2,N⟩ (I U (rg x 0))).setCell ⟨P,3,N⟩ (I U (rg x 1))).setCell ⟨P,4,N⟩ (I U (rg x 2))).setCell ⟨P,5,N⟩ (I U (rg x 3))).setCell ⟨P,6,N⟩ (I U (rg x 4))).setCell ⟨P,7,N⟩ (I U (rg x 5))).setCell ⟨P,8,N⟩ (I U (rg x 6))).setCell ⟨P,9,N⟩ (I U (rg x 7))).setCell ⟨P,10,N⟩ sv).setCell ⟨P,11,N⟩ (ry x.done)
theorem lM{t:TypeId}(h:Cx w P #[a0,a1,a2,a3,a4,a5,a6,a7,a8,a9,pe,pf] t)(x:G)(sv:qY):Cx (Zm w P x sv) P (JK x sv) t:=Vm.LJ h
def lN(mb:Nat)(V:Vr)(own a:Nat→Nat)(b:oZ)(s:St)(W:oZ)(P:Nat)(x:G)(sv:qY):Prop:=CC mb V a W s∧Ext own b a W∧Cx W P (JK x sv) 50∧a P=0∧Hk a W x.stack sv
theorem Ul{W:oZ}{l:List (Int×Int)}{sv:qY}(i:CC mb V own W s)(k:Ext own w own W)(m:own P=0)(p:Vm.Hk W lo sv l)(q:w.heap.size≤lo)(n:l.length≤16)(c: ∀j,sv.ownBlock=Z j→j≠P) (r: ∀j,w.heap.size≤j→own j=0): ∃a,CC mb V a W s∧Ext own w a W∧a P=0∧Hk a W l sv:=by
 rcases p with⟨b,d⟩|⟨g,cap,b,d,o,t,u⟩
 ·exact⟨own,i,k,m,n,.inl ⟨b,d⟩,fun h=>absurd d h⟩
 ·refine⟨fun j=>if j=g then 14 else own j,i.lp (r g (by omega)) o,⟨k.only,fun j f=>Ah (by omega)⟩,?_,n,.inr ⟨g,cap,b,Ap _,o,t,u⟩,fun _ j f=>?_⟩
  ·show(if P=g then 14 else own P)=0
   rw[Ah (fun e=>c g (by rw[b];rfl) e.symm)];exact m
  ·rw[b]at f;cases f;exact Ai rfl
theorem Zn{w2:oZ}(c:CC mb V own w s)(d:qZ w.heap.size w w2)(x:G)(sv:qY)(i:Vm.Hk w2 lo sv x.stack)(f:w.heap.size≤lo)(k:x.stack.length≤16): ∃a,lN mb V own a w s (w2.alloc (.cells (JK x sv) 50)) w2.heap.size x sv:=by
 obtain⟨a,a1,a2,a3,a4⟩:=Ul (l:=x.stack) (sv:=sv) (c.below (DH d (.cells (JK x sv) 50))) (Ext.below (DH d _)) (c.fresh _ d.size) (i.below (Ct (rf _ _) _)) f k (fun j b e=>by
  rcases i with⟨h,-⟩|⟨g,cap,h,-,m,-⟩
  ·rw[h]at b;cases b
  ·rw[h]at b;cases b;exact absurd (show g=w2.heap.size from e) (by omega)) c.fresh
 exact⟨a,a1,a2,Cx.new w2 _ 50,a3,a4⟩
theorem V7{w2:oZ}(d:CC mb V own w s)(k:qZ w.heap.size w w2)(o:Cx w2 P #[a0,a1,a2,a3,a4,a5,a6,a7,a8,a9,pe,pf] 50)(f:w.heap.size≤P)(x:G)(sv:qY)(m:Vm.Hk w2 lo sv x.stack)(p:P<lo)(q:x.stack.length≤16): ∃a,lN mb V own a w s (Zm w2 P x sv) P x sv:=by
 have h:Cv (fun j=>j=P) w2 (Zm w2 P x sv):=oset (oset (oset (oset (oset (oset (oset (oset (oset (oset (oset (oset (Ds P w2) _ _) _ _) _ _) _ _) _ _) _ _) _ _) _ _) _ _) _ _) _ _) _ _;have n:own P=0:=d.fresh _ f;have c: ∀j,sv.ownBlock=Z j→j≠P:=fun j b e=>by
  rcases m with⟨i,-⟩|⟨g,cap,i,t,-⟩
  ·rw[i]at b;cases b
  ·rw[i]at b;cases b;exact absurd (show g=P from e) (by omega)
 obtain⟨a,a1,a2,a3,a4⟩:=Ul (w:=w) (l:=x.stack) (sv:=sv) ((d.below k).loc h (fun j b=>by rw[show j=P from b];exact n)) ⟨(Ext.below k).only.andThen h (fun j b r=>by rw[show j=P from r]at b;omega),fun _ _=>rfl⟩ n (m.only h c) (by omega) q c d.fresh;exact⟨a,a1,a2,lM o x sv,a3,a4⟩
theorem CC.gY(h:CC mb V own w s){xb j:Nat}{y:M1}(d:own xb=22+5*j)(b:s.ms[j]?=Z y)(u:Int):CC mb V own (w.setCell ⟨xb,5,N⟩ (I U u)) (s.CM j {y with used:=u})∧Ext own w own (w.setCell ⟨xb,5,N⟩ (I U u)):=by have a:=h.bZ d b;have e:=oset (Ds xb w) 5 (I U u);have c:=h.xg b;exact⟨h.Nj (Cz b) (by rw[←a];exact e) {y with used:=u} c (by rw[←a];exact VQ (h.CW d b) u),Dx e (by omega)⟩
end
end Go.Proofs.YtgadhchejmlfjaaGreatDoor.CX
