/- A part of the proof. -/
import Derived.Test.YtgadhchejmlfjaaGreatDoorA6
set_option linter.unusedVariables false
set_option maxRecDepth 20000
set_option maxHeartbeats 16000000
open Go.Value renaming int→I,pointer→J,slice→Y
open Go.IntKind renaming i64→U
open Option renaming none→N,some→Z
open Go renaming Calls→re,Ending→rB,Value→qY,World→oZ
open Go.Ending renaming returned→rC
open Go.Obj renaming cells→rD
open Go.RowKit renaming Below→qZ
open Go.RowKit.Below renaming refl→rf
open Go.Value renaming bool→ry,ownBlock→ru,tuple→rG
namespace Go.Proofs.YtgadhchejmlfjaaGreatDoor.CV
open Go.Proofs.Tryz Go.RowKit Go.CL
open Ring (Rw Sg C3)
section
variable {w w':oZ} {p n:Nat} {rv:qY}
structure Rn where
 b:Nat
 g:Nat
 CG:Int
 row:List Int
variable {R:Nat→Rn}
def IB(n:Nat)(R:Nat→Rn):List Value:=(List.range n).map fun i=>J (Z ⟨(R i).b,0,N⟩)
theorem LX(n:Nat)(R:Nat→Rn)(i:Nat)(h:i<n):(IB n R)[i]?.getD undef=J (Z ⟨(R i).b,0,N⟩):=by simp[IB,h]
structure Hh (w:oZ) (p:Nat) (rv:qY) (n:Nat) (R:Nat→Rn):Prop where
 Dp:Cx w p #[rv] 195
 own:Gz w 0 126 1 rv n (IB n R)
 ring: ∀i,i<n→Rw w (R i).b (R i).g 256 (R i).CG (R i).row
 R7:rv.ownBlock≠Z p
 rp: ∀i,i<n→ ¬Sg (R i).b (R i).g p
 Mv: ∀i,i<n→H4 (Sg (R i).b (R i).g) rv
 Oz: ∀i j,i<n→j<n→i≠j→ ∀k,Sg (R i).b (R i).g k→ ¬Sg (R j).b (R j).g k
def Pf(p:Nat)(rv:qY)(n:Nat)(R:Nat→Rn)(j:Nat):Prop:=j=p∨rv.ownBlock=Z j∨ ∃i,i<n∧Sg (R i).b (R i).g j
theorem Hh.lt(h:Hh w p rv n R){j:Nat}(a:Pf p rv n R j):j<w.heap.size:=by
 rcases a with rfl|a|⟨i,b,a|a⟩
 ·exact h.Dp.lt
 ·exact(h.own.lt j a).2
 ·rw[a];exact(h.ring i b).lt.1
 ·rw[a];exact(h.ring i b).lt.2
theorem Hh.only{S:Nat→Prop}(h:Hh w p rv n R)(o:Cv S w w')(a: ∀j,Pf p rv n R j→ ¬S j):Hh w' p rv n R:=⟨h.Dp.only o (a p (.inl rfl)),h.own.off o (fun j b=>a j (.inr (.inl b))),fun i c=>(h.ring i c).only o (fun j b=>a j (.inr (.inr ⟨i,c,b⟩))),h.R7,h.rp,h.Mv,h.Oz⟩
theorem Hh.below(h:Hh w p rv n R)(a:qZ w.heap.size w w'):Hh w' p rv n R:=h.only (S:=fun _=>False) ((Cv.refl _ w).below a) (fun _ _ x=>x)
theorem ER(x:Int)(w:oZ):re prog 107 #[I U x] w fun e w'=>e=rC (ry (decide (1≤x∧x≤256)))∧w=w':=by
 by_cases a:1≤x
 ·by_cases b:x≤256
  ·rw[AZ ⟨a,b⟩]
   go_enter func107,ntmps107;go_wp2;go_ret;exact⟨rfl,rfl⟩
  ·rw[Bb (fun h=>b h.2)]
   have c:decide (x≤256)=false:=by simpa using b
   clear b;go_enter func107,ntmps107;go_wp2;go_ret;exact⟨rfl,rfl⟩
 ·rw[Bb (fun h=>a h.1)]
  have c:decide (1≤x)=false:=by simpa using a
  clear a;go_enter func107,ntmps107;go_wp2;go_ret;exact⟨rfl,rfl⟩
theorem Hh.slice(h:Hh w p rv n R): ∃a cap,rv= .slice a n cap:=by
 rcases h.own.open with⟨rfl,rfl⟩|⟨g,cap,rfl,_⟩
 ·exact⟨N,0,rfl⟩
 ·exact⟨_,cap,rfl⟩
theorem DT(p:Nat)(rv:qY)(n:Nat)(R:Nat→Rn)(w:oZ)(h:Hh w p rv n R):re prog 57 #[J (Z ⟨p,0,N⟩)] w fun e w'=>e=rC (I U n)∧w=w':=by obtain⟨a,cap,rfl⟩:=h.slice;have c0:=h.Dp.cell 0;simp only[Ad,Ac]at c0;clear h;go_enter func57,ntmps57;go_wp2;go_ret;exact⟨rfl,rfl⟩
def T4(n:Nat)(R:Nat→Rn)(i:Int):Value:=if 0≤i∧i<n then J (Z ⟨(R i.toNat).b,0,N⟩)else J N
theorem PO(p:Nat)(rv:qY)(n:Nat)(R:Nat→Rn)(i:Int)(w:oZ)(h:Hh w p rv n R):re prog 50 #[J (Z ⟨p,0,N⟩),I U i] w fun e w'=>e=rC (T4 n R i)∧w=w':=by
 have d:=Aa (DT p rv n R w h);unfold T4;by_cases b:i<0
 ·rw[Ah (by omega)]
  clear h;go_enter func50,ntmps50;go_wp2;go_ret;exact⟨rfl,rfl⟩
 ·have f:decide (i<0)=false:=by simpa using b
  by_cases j:i<n
  ·rw[Ai ⟨by omega,j⟩]
   obtain⟨k,rfl⟩:=AA (show 0≤i by omega);rw[An];have l:k<n:=by omega
   rcases h.own.open with⟨_,b⟩|⟨g,cap,rfl,_,q,r,a⟩
   ·omega
   have m:=a k (by omega);rw[LX n R k l]at m;have c0:=h.Dp.cell 0;simp only[Ad,Ac]at c0;have c:decide ((n:Int)≤(k:Int))=false:=by simp;omega
   clear h a b;go_enter func50,ntmps50;go_wp2_with fail;refine d.out.mono ?_;rintro e o⟨rfl,rfl⟩;go_wp2_with fail;go_ret;exact⟨rfl,rfl⟩
  ·rw[Ah (by omega)]
   have c:decide ((n:Int)≤i)=true:=by simp;omega
   clear h;go_enter func50,ntmps50;go_wp2_with fail;refine d.out.mono ?_;rintro e o⟨rfl,rfl⟩;go_wp2_with fail;go_ret;exact⟨rfl,rfl⟩
end
section
variable {p n:Nat}
def Vx(r:Rn):Nat:=(C3 r.CG r.row).length
def PR(R:Nat→Rn):Nat→Nat
 |0=>0
 |n+1=>PR R n+Vx (R n)
theorem LY{w:oZ}{rv:qY}{R:Nat→Rn}(h:Hh w p rv n R)(i:Nat)(a:i<n):Vx (R i)≤257:=by have:=(h.ring i a).RZ.1;unfold Vx C3;rw[Aw];split<;>simp<;>omega
theorem OA{w:oZ}{rv:qY}{R:Nat→Rn}(h:Hh w p rv n R)(k:Nat)(b:k≤n):PR R k≤257*k:=by
 induction k with
 |zero=>simp[PR]
 |succ k a=>have:=LY h k (by omega);have:=a (by omega);simp[PR];omega
theorem Vy(p:Nat)(rv:qY)(n:Nat)(R:Nat→Rn)(w:oZ)(h:Hh w p rv n R)(q:n≤256):re prog 292 #[J (Z ⟨p,0,N⟩)] w fun e w'=>e=rC (I U (PR R n))∧ ∃m,w'=w.drewN m:=by
 obtain⟨a,cap,rfl⟩:=h.slice;have c0:=h.Dp.cell 0;simp only[Ad,Ac]at c0;have d:=Aa h;clear h;go_enter func292,ntmps292;go_wp2;go_loopw [2,12] (fun t i wr=> ∃k m:Nat,k≤n∧i=I U k∧t=I U (PR R k)∧wr=w.drewN m) (fun _ i _=>n-(intOf i).toNat)
 case atStart=>exact⟨0,0,Ap _,rfl,rfl,rfl⟩
 case round=>
  obtain⟨k,m,j,rfl,rfl,rfl⟩:=hrel;by_cases c:k<n
  ·rcases d.out.own.open with⟨_,r⟩|⟨g,cap,he,_,s,u,b⟩
   ·omega
   have v:(w.drewN m).cell? ⟨g,k,N⟩=Z (J (Z ⟨(R k).b,0,N⟩)):=by rw[←LX n R k c];exact b k (by omega)
   cases he;have t1:=OA d.out k j;have t2:=LY d.out k c;have l:=Aa (Ring.kZ _ _ _ _ _ _ ((d.out.ring k c).drewN m));have o:IntKind.i64.wrap ((PR R k:Int)+(C3 (R k).CG (R k).row).length)=((PR R (k+1):Nat):Int):=by have:PR R (k+1)=PR R k+(C3 (R k).CG (R k).row).length:=rfl;rw[this];have t3:(C3 (R k).CG (R k).row).length≤257:=t2;rw[Zaa _ (by omega)];omega
   clear b t1 t2;obtain⟨t',f⟩: ∃t',Hid (PR R (k+1)=t'):=⟨_,rfl⟩;rw[f.out]at o;generalize PR R k=t0 at*
   generalize(C3 (R k).CG (R k).row).length=t1 at*
   go_wp2_with fail;refine l.out.mono ?_;rintro e x⟨rfl,m1,rfl⟩;go_wp2_with fail;go_roundw
   case rel=>exact⟨k+1,m+m1,by omega,by go_num,by rw[f.out],rfl⟩
   case measure=>simp[intOf];omega
  ·obtain rfl:k=n:=by omega
   go_wp2;go_ret;exact⟨rfl,_,rfl⟩
end
section
open CY (Gr)
variable {n b g:Nat}
theorem iV:(prog.info? 126).map (fun i=>(i.zero,i.size,i.bytes))=Z (Z (J N),1,8):=by kernel_rfl
def more(n:Nat)(R:Nat→Rn)(b g:Nat):Nat→Rn:=fun i=>if i=n then⟨b,g,0,[]⟩else R i
theorem Vz(n:Nat)(R:Nat→Rn)(b g:Nat):IB (n+1) (more n R b g)=IB n R++[J (Z ⟨b,0,N⟩)]:=by
 unfold IB;rw[B7,Cj];congr 1
 ·apply Zab
  intro i a;have:i≠n:=by have:=BN.1 a;omega
  simp[more,this]
 ·simp[more]
theorem Fs{R:Nat→Rn}{i:Nat}(h:i<n):more n R b g i=R i:=by simp[more,show i≠n by omega]
theorem Hh.grow{W o w2:oZ}{p:Nat}{rv Nh:qY}{R:Nat→Rn}{tmp:Obj}(h:Hh W p rv n R)(C:qZ W.heap.size W o)(D:Rw o b g 256 0 [])(v:W.heap.size≤b)(w:W.heap.size≤g)(E:Dn (o.alloc tmp) 0 126 1 rv n (IB n R) [J (Z ⟨b,0,N⟩)] Nh w2):Cx w2 p #[rv] 195∧Hh (w2.setCell ⟨p,0,N⟩ Nh) p Nh (n+1) (more n R b g)∧Cv (Pf p rv n R) W (w2.setCell ⟨p,0,N⟩ Nh)∧Gr (Pf p rv n R) (Pf p Nh (n+1) (more n R b g)) W∧W.heap.size≤b∧W.heap.size≤g:=by
 obtain⟨F,G,H⟩:=E;have K:=h.Dp.lt;have L:=C.size;have M:=D.lt;have y:qZ W.heap.size W (o.alloc tmp):=Ct C tmp;have q:Cv (fun j=>rv.ownBlock=Z j) (o.alloc tmp) w2:=(Cv.refl _ _).grown G (fun j e=>.inr e);have r:Cv (fun j=>rv.ownBlock=Z j) W w2:=((Cv.refl _ W).below y).andThen q (fun j a c=>c);have s:Cx w2 p #[rv] 195:=h.Dp.only r (fun e=>h.R7 e);have t:Cv (fun j=>j=p∨rv.ownBlock=Z j) W (w2.setCell ⟨p,0,N⟩ Nh):=(r.mono (fun k _ l=>.inr l)).set (.inr (.inl rfl)) 0 Nh;have d: ∀j,Nh.ownBlock=Z j→rv.ownBlock=Z j∨o.heap.size≤j:=fun j a=>(H j a).imp id (fun x=>by simp at x;omega);have u:Nh.ownBlock≠Z p:=fun e=>by
  rcases d p e with f|f
  ·exact h.R7 f
  ·omega
 have z: ∀i,i<n→H4 (Sg (R i).b (R i).g) Nh:=fun i m j a c=>by
  rcases d j a with f|f
  ·exact h.Mv i m j f c
  ·have:=h.lt (j:=j) (.inr (.inr ⟨i,m,c⟩));omega
 have A:H4 (Sg b g) Nh:=fun j a c=>by
  rcases d j a with f|f
  ·have:=(h.own.lt j f).2
   rcases c with c|c<;>omega
  ·rcases c with c|c<;>omega
 have hold: ∀i,i<n→ ∀j,Sg (R i).b (R i).g j→ ¬Sg b g j:=fun i m j a c=>by have:=h.lt (j:=j) (.inr (.inr ⟨i,m,a⟩));rcases c with c|c<;>omega
 refine⟨s,⟨s.set 0 Nh,?_,?_,u,?_,?_,?_⟩,t.mono (fun k _ l=>l.elim .inl (fun x=>.inr (.inl x))),?_,v,w⟩
 ·rw[Vz]
  exact .inl (Zbg F (DK w2 p 0 Nh) (.inr u))
 ·intro i m
  by_cases e:i=n
  ·subst e
   simp only[more,BM];have O:Rw (o.alloc tmp) b g 256 0 []:=D.below (Ct (rf _ _) _);have P:Rw w2 b g 256 0 []:=O.only q (fun j a c=>by have:=(h.own.lt j c).2;rcases a with a|a<;>omega);exact P.only (S:=fun j=>j=p) ((Cv.refl (fun j=>j=p) w2).set (.inr rfl) 0 Nh) (fun j a c=>by have e':j=p:=c;rcases a with a|a<;>omega)
  ·rw[Fs (by omega)]
   exact(h.ring i (by omega)).only t (fun j a c=>c.elim (fun e=>h.rp i (by omega) (e▸a)) (fun e=>h.Mv i (by omega) j e a))
 ·intro i m
  by_cases e:i=n
  ·subst e;simp only[more,BM];intro c;rcases c with c|c<;>omega
  ·rw[Fs (by omega)];exact h.rp i (by omega)
 ·intro i m
  by_cases e:i=n
  ·subst e;simp only[more,BM];exact A
  ·rw[Fs (by omega)];exact z i (by omega)
 ·intro i j m a B k l
  by_cases e:i=n
  ·subst e
   rw[Fs (show j<i by omega)];simp only[more,BM]at l;exact fun c=>hold j (by omega) k c l
  ·rw[Fs (show i<n by omega)]at l
   by_cases Q:j=n
   ·subst Q;simp only[more,BM];exact hold i (by omega) k l
   ·rw[Fs (show j<n by omega)];exact h.Oz i j (by omega) (by omega) B k l
 ·rintro j(rfl|a|⟨i,m,a⟩)
  ·exact .inl (.inl rfl)
  ·rcases d j a with f|f
   ·exact .inl (.inr (.inl f))
   ·exact .inr (by omega)
  ·by_cases e:i=n
   ·subst e;simp only[more,BM]at a;right;rcases a with a|a<;>omega
   ·rw[Fs (by omega)]at a;exact .inl (.inr (.inr ⟨i,by omega,a⟩))
end
section
open CY (Gr)
variable {p n k b g:Nat} {rv iW lf:qY} {R R1:Nat→Rn} {w wr w2:oZ}
theorem Fc(w:oZ)(x:qY)(t:TypeId): ∀(j:Nat)(y:qY),[x][j]?=Z y→(w.alloc (rD #[x] t)).cell? ((⟨w.heap.size,0,N⟩:Addr).add j)=Z y:=by
 intro j y b;have a:j=0:=by have:=(Af.1 b).1;simpa using this
 subst a;rw[Ay,(Cx.new w #[x] t).cell];simpa using b
structure Yp (p:Nat) (rv:qY) (n:Nat) (R:Nat→Rn) (w:oZ) (Nh:qY) (k:Nat) (R':Nat→Rn) (wr:oZ):Prop where
 E7:Hh wr p Nh k R'
 only:Cv (Pf p rv n R) w wr
 gr:Gr (Pf p rv n R) (Pf p Nh k R') w
 kA: ∀i,i<n→R' i=R i
 new: ∀i,n≤i→i<k→(R' i).CG=0∧(R' i).row=[]
 le:n≤k
 fr: ∀i,n≤i→i<k→w.heap.size≤(R' i).b∧w.heap.size≤(R' i).g
theorem Yp.refl(h:Hh w p rv n R):Yp p rv n R w rv n R w:=⟨h,Cv.refl _ _,Gr.refl _ _,fun _ _=>rfl,fun i a b=>by omega,Al _,fun i a b=>by omega⟩
theorem Yp.step(h:Yp p rv n R w iW k R1 wr)(c:Hh w2 p lf (k+1) (more k R1 b g))(d:Cv (Pf p iW k R1) wr w2)(f:Gr (Pf p iW k R1) (Pf p lf (k+1) (more k R1 b g)) wr∧wr.heap.size≤b∧wr.heap.size≤g):Yp p rv n R w lf (k+1) (more k R1 b g) w2:=by
 have hle:=h.le;refine⟨c,h.only.andThen d (fun j q l=>(h.gr j l).elim id (fun x=>by omega)),h.gr.trans f.1 h.only.size,fun i m=>?_,fun i a o=>?_,by omega,fun i a o=>?_⟩
 ·rw[Fs (by omega)];exact h.kA i m
 ·by_cases e:i=k
  ·subst e;simp[more]
  ·rw[Fs (by omega)];exact h.new i a (by omega)
 ·by_cases e:i=k
  ·subst e;have:=h.only.size;simp[more];omega
  ·rw[Fs (by omega)];exact h.fr i a (by omega)
def Yq(p:Nat)(rv:qY)(n m:Nat)(R:Nat→Rn)(w:oZ)(e:rB)(w':oZ):Prop:=(∃v,e=rC v)∧ ∃a b,Yp p rv n R w a (max n m) b w'
theorem dq{m j:Nat}(h:Yp p rv n R w iW k R1 wr∧k+(j+1)=max n m)(d:Hh w2 p lf (k+1) (more k R1 b g))(e:Cv (Pf p iW k R1) wr w2)(f:Gr (Pf p iW k R1) (Pf p lf (k+1) (more k R1 b g)) wr∧wr.heap.size≤b∧wr.heap.size≤g): ∃a c i,Yp p rv n R w a c i w2∧c+j=max n m:=⟨_,_,_,h.1.step d e f,by omega⟩
theorem Kd(p:Nat)(rv:qY)(n m:Nat)(R:Nat→Rn)(w:oZ)(h:Hh w p rv n R)(hn:n≤256)(hm:m≤256):re prog 108 #[J (Z ⟨p,0,N⟩),I U m] w (Yq p rv n m R w):=by
 have y:=Aa h;clear h;go_enter func108,ntmps108;go_wp2;go_loopg [4] (max n m-n) (fun gk _ wr=> ∃z H O,Yp p rv n R w z H O wr∧H+gk=max n m)
 case atStart=>exact⟨rv,n,R,Yp.refl y.out,by omega⟩
 case round=>
  obtain⟨iW,k,R1,i,l⟩:=hrel;have hle:=i.le;obtain⟨a,cap,rfl⟩:=i.E7.slice;have c0:=i.E7.Dp.cell 0;simp only[Ad,Ac]at c0;cases gk with
  |zero=>
   have P:decide (k<m)=false:=by simp;omega
   have Q:=Aa i;have S:Hid (k=max n m):=by show _=_;omega
   clear i l hle;go_wp2;go_end0;exact⟨⟨_,rfl⟩,_,_,by rw[←S.out];exact Q.out⟩
  |succ j=>
   have P:decide (k<m)=true:=by simp;omega
   have A:k<256:=by omega
   have r:=Aa (Ab i l);have q:=Aa i.E7;have T:=i.E7.Dp.lt;have L:Hid (re prog 165 #[I U 256] wr.drew (Ring.LW 256 wr.drew)):=Ring.Fu 256 wr.drew (by decide);clear i l hle;go_wp2_with fail;refine wp_region_any (by kernel_rfl) ?_;try(change wpAny _ _ _ _ _ _ _ (World.drew _))
   refine Ry 0 (v:=?_) rfl (by kernel_rfl) (fun _ _ _ h=>h) ?_ ?_;rotate_left
   ·intro w';go_simp;try(with_reducible rfl)
   refine Ry 1 (v:=?_) rfl (by kernel_rfl) (fun _ _ _ h=>h) ?_ ?_;rotate_left
   ·intro w';go_simp;try(with_reducible rfl)
   refine Ry 2 (v:=?_) rfl (by kernel_rfl) (fun _ _ _ h=>h) ?_ ?_;rotate_left
   ·intro w';go_simp;try(with_reducible rfl)
   refine Ry 3 (v:=?_) rfl (by kernel_rfl) (fun _ _ _ h=>h) ?_ ?_;rotate_left
   ·intro w';go_simp;try(with_reducible rfl)
   refine BQ (rs:=[4,5]) (by kernel_rfl) (by simp) ?_;refine Zar rfl (fun K b=>?_) (Zar rfl (fun K b=>?_) (Zb1));case' _=>go_simp;refine b _ _ ?_;clear b K;refine bV 5 (by kernel_rfl) rfl fun K b=>?_;go_simp;go_wp2_with(go_at_call 165;(with_reducible refine L.out.mono ?_);rintro e d⟨rfl,f,g⟩;have s:=Aa f;have c:Hid (qZ wr.heap.size wr d):=F5 g;have d0:d.cell? ⟨p,0,N⟩=Z (.slice a k cap):=((Cx.below q.out.Dp c.out q.out.Dp.lt).cell 0);have B:wr.heap.size≤d.heap.size:=c.out.size;have C:p<d.heap.size:=(by omega);clear f g);refine bV 6 (by kernel_rfl) rfl fun K b=>?_;go_simp;refine b _ _ ?_;clear b K
   rotate_left
   case' _=>
    go_simp;go_wp2_with(go_at_call 165;(with_reducible refine L.out.mono ?_);rintro e d⟨rfl,f,g⟩;have s:=Aa f;have c:Hid (qZ wr.heap.size wr d):=F5 g;have d0:d.cell? ⟨p,0,N⟩=Z (.slice a k cap):=((Cx.below q.out.Dp c.out q.out.Dp.lt).cell 0);have B:wr.heap.size≤d.heap.size:=c.out.size;have C:p<d.heap.size:=(by omega);clear f g);refine BQ (rs:=[4,6]) (by kernel_rfl) (by simp) ?_;refine Zar rfl (fun K b=>?_) (Zar rfl (fun K b=>?_) (Zb1));case' _=>go_simp;refine b _ _ ?_;clear b K;refine bV 6 (by kernel_rfl) rfl fun K b=>?_;go_simp;refine b _ _ ?_;clear b K
    rotate_left;case' _=>go_simp;refine b _ _ ?_;clear b K;refine bV 4 (by kernel_rfl) rfl fun K b=>?_;go_simp;refine b _ _ ?_;clear b K
   all_goals
    refine bV 7 (by kernel_rfl) rfl fun K b=>?_;refine J2 underlying193 iV rfl (by decide) (by decide) 0 _ rfl (.tmp 15) (.tmp 17) rfl (.slice a k cap) k (IB k R1) ⟨d.heap.size,0,N⟩ 1 [J (Z ⟨wr.heap.size+1,0,N⟩)] (by kernel_rfl) (by kernel_rfl) ((q.out.own.below c.out).below (Ct (rf _ _) _)) rfl (Fc d _ _) (by simp[Value.oneCell']) (Ap _) (by omega) ?_;intro v' w3 D;obtain⟨g',M,rfl⟩:=D.some;obtain⟨o,t,u,x⟩:=q.out.grow c.out s.out (by simp) (by simp) D;have W:=o.cell 0;have X:=o.free 0;simp only[Ad,Ac]at W;have E:=Aa t;have F:=Aa u;have G:=Aa x;clear t o u x D;refine b _ _ ?_;clear b K;refine Ry 8 (v:=?_) rfl (by kernel_rfl) (fun _ _ _ h=>h) ?_ ?_;rotate_left
    ·intro w';go_simp;try(with_reducible rfl)
    refine Ry 9 (v:=?_) rfl (by kernel_rfl) (fun _ _ _ h=>h) ?_ ?_;rotate_left
    ·intro w';go_simp;try(with_reducible rfl)
    refine bV 10 (by kernel_rfl) rfl fun K b=>?_;go_simp;refine b _ _ ?_;clear b K;refine wpAny_done (by kernel_rfl) ?_ _;go_wp2_with fail;go_roundg j
    case rel=>exact dq r.out E.out F.out G.out
    case measure=>omega
end
open CY (Gr)
theorem Hh.nil(w:oZ)(R:Nat→Rn):Hh (w.alloc (rD #[Y N 0 0] 195)) w.heap.size (Y N 0 0) 0 R:=⟨Cx.new w _ 195,.inl (AL _ _ 126 1),fun i a=>by omega,by simp[ru],fun i a=>by omega,fun i a=>by omega,fun i j a=>by omega⟩
def nR(m:Nat)(w:oZ)(e:rB)(w':oZ):Prop:=e=rC (J (Z ⟨w.heap.size,0,N⟩))∧ ∃rv R,Hh w' w.heap.size rv m R∧(∀i,i<m→(R i).CG=0∧(R i).row=[])∧qZ w.heap.size w w'∧ ∀j,Pf w.heap.size rv m R j→w.heap.size≤j
theorem Fu(m:Nat)(w:oZ)(n:1≤m)(k:m≤256):re prog 42 #[I U m] w (nR m w):=by
 have f:=Aa (ER m w);rw[AZ ⟨by omega,by omega⟩]at f;have l:=Aa (Kd w.heap.size _ 0 m (fun _=>⟨0,0,0,[]⟩) _ (Hh.nil w (fun _=>⟨0,0,0,[]⟩)) (by omega) k);go_enter func42,ntmps42;go_wp2_with fail;refine f.out.mono ?_;rintro e o⟨rfl,rfl⟩;go_wp2_with fail;refine l.out.mono ?_;rintro e w2⟨⟨v,rfl⟩,rv,R,c⟩;rw[Nat.max_eq_right (Ap m)]at c;have b:=Aa c;clear c;go_wp2_with fail;go_ret;have a: ∀j,Pf w.heap.size (Y N 0 0) 0 (fun _=>(⟨0,0,0,[]⟩:Rn)) j→w.heap.size≤j:=by
  rintro j(rfl|d|⟨i,g,_⟩)
  ·exact Al _
  ·simp[ru]at d
  ·omega
 refine⟨rfl,rv,R,b.out.E7,fun i g=>b.out.new i (Ap _) g,?_,fun j d=>?_⟩
 ·exact(Ct (rf _ _) _).trans (b.out.only.toBelow (by simp) a)
 ·rcases b.out.gr j d with h|h
  ·exact a j h
  ·simp at h;omega
end Go.Proofs.YtgadhchejmlfjaaGreatDoor.CV
namespace Go.CL
open Go.RowKit
variable {w w':oZ} {base n:Nat} {v u:qY} {vs:List qY} {ls:List (List Int)}
def VA(w:oZ)(base:Nat)(v:qY)(vs:List qY)(ls:List (List Int)):Prop:=w.ownsRow base 22 1 v ls.length vs∧ ∀i,i<ls.length→CF w base (vs[i]?.getD undef) (ls[i]?.getD [])
def LL(w:oZ)(base:Nat)(v:qY)(ls:List (List Int)):Prop:= ∃vs,VA w base v vs ls
theorem VA.nil(w:oZ)(base:Nat):VA w base (Y N 0 0) [] []:=⟨AL w base 22 1,fun i a=>by simp at a⟩
theorem VA.below(h:VA w base v vs ls)(a:qZ w.heap.size w w'):VA w' base v vs ls:=⟨CJ h.1 a,fun i b=>(h.2 i b).below a⟩
theorem LL.below(h:LL w base v ls)(a:qZ w.heap.size w w'):LL w' base v ls:=by obtain⟨vs,h⟩:=h;exact⟨vs,h.below a⟩
theorem T5{a:Nat}{xs:List qY}{l:List Int}(h:w.ownsRow base 22 1 v n xs)(k:CF w a u l):u.ownBlock=N∨u.ownBlock≠v.ownBlock:=by
 obtain⟨_,⟨hu,_⟩|⟨j,d,f,hu,_,b,_⟩⟩:=k
 ·left;rw[hu];rfl
 ·right
  obtain⟨_,⟨c,_⟩|⟨g,cap,cur,c,_,i,_⟩⟩:=h
  ·rw[hu,c];simp[ru]
  ·rw[hu,c]
   simp only[ru,ne_eq,Ak];intro e;subst e;rw[i]at b;cases b
theorem VA.push{v':qY}{l:List Int}(h:VA w base v vs ls)(hu:CF w base u l)(c:Dn w base 22 1 v ls.length vs [u] v' w'):VA w' base v' (vs++[u]) (ls++[l]):=by
 obtain⟨d,a,g⟩:=c;have f:vs.length=ls.length:=by have:=h.1.1;simpa using this
 refine⟨by rw[Aw];exact d,fun i b=>?_⟩;rw[Aw]at b;simp only[AB,AF]at b;by_cases e:i<ls.length
 ·rw[AD (by omega),AD e]
  exact(h.2 i e).kept a (T5 h.1 (h.2 i e))
 ·obtain rfl:i=ls.length:=by omega
  rw[AJ (by omega),AJ (by omega)];simp only[f,Cg,Ac,AQ];exact hu.kept a (T5 h.1 hu)
theorem VA.len(h:VA w base v vs ls): ∃a cap,v= .slice a ls.length cap:=by
 rcases Dr h.1 with⟨rfl,b⟩|⟨g,cap,rfl,_⟩
 ·exact⟨N,0,by rw[b]⟩
 ·exact⟨_,cap,rfl⟩
theorem LL.len(h:LL w base v ls): ∃a cap,v= .slice a ls.length cap:=by obtain⟨vs,h⟩:=h;exact h.len
theorem LL.at{a:Option Addr}{cap:Nat}(h:LL w base (.slice a n cap) ls)(i:Nat)(d:i<ls.length):n=ls.length∧ ∃g u,a=Z ⟨g,0,N⟩∧w.cell? ⟨g,i,N⟩=Z u∧CF w base u (ls[i]?.getD []):=by
 obtain⟨vs,e,f⟩:=h;rcases Dr e with⟨_,j⟩|⟨g,c,he,_,k,l,b⟩
 ·omega
 ·simp only[Ar]at he
  obtain⟨rfl,rfl,rfl⟩:=he;exact⟨rfl,g,_,rfl,b i (by omega),f i d⟩
end Go.CL
namespace Go.Proofs.YtgadhchejmlfjaaGreatDoor.CV
open Go.Proofs.Tryz Go.RowKit Go.CL
open Ring (Rw Sg C3)
theorem iX:(prog.info? 22).map (fun i=>(i.zero,i.size,i.bytes))=Z (Z (Y N 0 0),1,24):=by kernel_rfl
theorem lh(w:oZ)(x:qY): ∀(j:Nat)(y:qY),[x][j]?=Z y→(w.alloc (rD #[x] 22)).cell? ((⟨w.heap.size,0,N⟩:Addr).add j)=Z y:=Fc w x 22
def qs(R:Nat→Rn)(n:Nat):List (List Int):=(List.range n).map fun i=>C3 (R i).CG (R i).row
theorem dA(R:Nat→Rn)(k:Nat):qs R (k+1)=qs R k++[C3 (R k).CG (R k).row]:=by simp[qs,B7]
theorem Yr(R:Nat→Rn)(k:Nat):(qs R k).length=k:=by simp[qs]
def Ys(ls:List (List Int))(w:oZ)(e:rB)(w':oZ):Prop:= ∃v,e=rC v∧LL w' w.heap.size v ls∧qZ w.heap.size w w'
theorem dB{w:oZ}{base:Nat}{v:qY}{l:List Int}(h:CF w base v l): ∀x∈[v],x.oneCell'=true:=by intro x b;obtain⟨a,c,rfl⟩:=CY.Dh h;simp at b;subst b;rfl
theorem R8(p:Nat)(rv:qY)(n:Nat)(R:Nat→Rn)(w:oZ)(h:Hh w p rv n R)(Q:n≤256):re prog 60 #[J (Z ⟨p,0,N⟩)] w (Ys (qs R n) w):=by
 obtain⟨a,cap,rfl⟩:=h.slice;have c0:=h.Dp.cell 0;simp only[Ad,Ac]at c0;have H:=Aa h;clear h;go_enter func60,ntmps60;go_wp2;go_loopw [2,13] (fun t i wr=> ∃(k:Nat)(vs:List qY),k≤n∧i=I U k∧VA wr w.heap.size t vs (qs R k)∧qZ w.heap.size w wr) (fun _ i _=>n-(intOf i).toNat)
 case atStart=>exact⟨0,[],Ap _,rfl,VA.nil _ _,rf _ _⟩
 case round=>
  obtain⟨k,vs,S,rfl,d,o⟩:=hrel;have z:=H.out.below o;by_cases q:k<n
  ·rcases z.own.open with⟨_,T⟩|⟨g,C,he,_,V,W,b⟩
   ·omega
   cases he;have K:=b k (by omega);rw[LX n R k q]at K;have L:=Aa (Ring.Kb _ _ _ _ _ _ (z.ring k q));have l:=Aa d;have r:=Aa o;obtain⟨at_,X,rfl⟩:=d.len;rw[Yr]at*
   clear b d z o;go_wp2_with fail;refine L.out.mono ?_;rintro e D⟨u,rfl,hu,f⟩;obtain⟨s,v,x,rfl⟩: ∃a n c,u= .slice a n c:=by obtain⟨a,c,M⟩:=CY.Dh hu;exact⟨a,_,c,M⟩
   have HU:=Aa hu;have A:=Aa f;have O:=r.out.size;have E:=f.size;have m:=Aa ((l.out.below f).below (Ct (rf _ _) (rD #[.slice s v x] 22)));have B:=Aa ((hu.below (Ct (rf _ _) (rD #[.slice s v x] 22))).mono r.out.size);have y:=Aa (dB hu);clear hu f;go_wp2_with(at_builtin;refine Jg underlying42 iX rfl (by decide) (by decide) w.heap.size _ rfl _ _ rfl _ (qs R k).length vs ⟨D.heap.size,0,N⟩ 1 [.slice s v x] rfl rfl (.inl m.out.1) rfl (lh D (.slice s v x)) y.out (by simp;omega) (by rw[Yr];omega) ?_;intro v' w2 F;have G:=Aa F;clear F);go_roundw
   case rel=>
    refine⟨k+1,vs++[.slice s v x],by omega,by go_num,?_,?_⟩
    ·rw[dA];exact m.out.push B.out G.out
    ·exact CI (Ct (Cu r.out A.out) _) G.out.2.1 (fun j P=>(Az m.out.1 j P).1)
   case measure=>simp[intOf];omega
  ·obtain rfl:k=n:=by omega
   have l:=Aa d;have r:=Aa o;clear d o z;go_wp2;go_ret;exact⟨_,rfl,⟨vs,l.out⟩,r.out⟩
end Go.Proofs.YtgadhchejmlfjaaGreatDoor.CV
namespace Go.CL
theorem Yt(n:Nat): ∀(l:List Int),l.Nodup→(∀x∈l,0≤x∧x<n)→l.length≤n:=by
 induction n with
 |zero=>
  intro l _ h;match l with
  | []=>simp
  |x::_=>have:=h x (by simp);omega
 |succ n d=>
  intro l b h;by_cases hm:(n:Int)∈l
  ·have i:=List.length_erase_of_mem hm
   have f:=d (l.erase (n:Int)) (b.erase _) (fun x a=>by obtain⟨g,c⟩:=b.mem_erase_iff.1 a;have:=h x c;omega);omega
  ·have f:=d l b (fun x a=>by have:=h x a;have:x≠n:=fun e=>hm (e▸a);omega)
   omega
def link:List Int→Int→Int
 | [],_=> -2
 |a::r,i=>if i=a then r.headD (-1)else link r i
theorem LZ: ∀{x:List Int}{i:Int},i∉x→link x i= -2
 | [],_,_=>rfl
 |a::r,i,h=>by rw[link,Ah (fun e=>h (by simp[e]))];exact LZ (fun hm=>h (by simp[hm]))
theorem OB: ∀(p:List Int)(q:Int)(s:List Int),q∉p→link (p++q::s) q=s.headD (-1)
 | [],q,s,_=>by simp[link]
 |a::p,q,s,h=>by simp only[Bo,link];rw[Ah (fun e=>h (by simp[e]))];exact OB p q s (fun hm=>h (by simp[hm]))
theorem Yu{x:List Int}(h: ∀y∈x,0≤y): -1≤x.headD (-1):=by
 cases x with
 |nil=>simp
 |cons a r=>have:=h a (by simp);simp;omega
theorem PS: ∀{x:List Int}{i:Int},(∀y∈x,0≤y)→i∈x→ -1≤link x i
 |a::r,i,h,hm=>by
  rw[link];split
  ·exact Yu (fun y hy=>h y (by simp[hy]))
  ·rename_i b
   rcases Bv.1 hm with e|hm
   ·exact absurd e b
   ·exact PS (fun y hy=>h y (by simp[hy])) hm
theorem Yv{x:List Int}{i:Int}(h: ∀y∈x,0≤y):(link x i != -2)=decide (i∈x):=by
 by_cases hm:i∈x
 ·have:=PS h hm
  rw[AZ hm,bne_iff_ne];omega
 ·rw[Bb hm,LZ hm];rfl
theorem Mw: ∀(p:List Int)(id:Int)(r:List Int)(j:Int),j≠id→(∀p0 q,p=p0++[q]→j≠q)→link (p++r) j=link (p++id::r) j
 | [],id,r,j,d,_=>by simp only[Bq,link];rw[Ah d]
 |a::p,id,r,j,d,f=>by
  simp only[Bo,link];by_cases c:j=a
  ·rw[Ai c,Ai c]
   cases p with
   |nil=>exact absurd c (f [] a rfl)
   |cons b g=>rfl
  ·rw[Ah c,Ah c]
   exact Mw p id r j d (fun p0 q e=>f (a::p0) q (by rw[e];rfl))
theorem PT{p:List Int}{id:Int}{r:List Int}(h:id∉p):(p++id::r).erase id=p++r:=by rw[List.erase_append_right _ h];simp
end Go.CL
namespace Go.Proofs.YtgadhchejmlfjaaGreatDoor.Idle
open Go.Proofs.Tryz Go.RowKit Go.CL
section
variable {w w':oZ} {b g m n:Nat} {x r:List Int}
def St(w:oZ)(b g m:Nat)(x:List Int):Prop:=Cx w b #[I U (x.headD (-1)),Y (Z ⟨g,0,N⟩) m m,I U x.length] 205∧Dv w g m 3 (fun i=>I U (link x i))∧x.Nodup∧(∀y∈x,0≤y∧y<(m:Int))∧b≠g∧m≤1024
theorem St.len(h:St w b g m x):x.length≤1024:=AE (Yt m x h.2.2.1 h.2.2.2.1) h.2.2.2.2.2
theorem St.only{S:Nat→Prop}(h:St w b g m x)(k:Cv S w w')(a: ¬S b)(c: ¬S g):St w' b g m x:=⟨h.1.only k a,h.2.1.only k c,h.2.2⟩
theorem St.below(h:St w b g m x)(a:qZ w.heap.size w w'):St w' b g m x:=h.only (S:=fun _=>False) ((Cv.refl _ w).below a) (fun x=>x) (fun x=>x)
theorem St.drew(h:St w b g m x):St w.drew b g m x:=h
theorem St.drewN(h:St w b g m x)(n:Nat):St (w.drewN n) b g m x:=h
theorem DT(b g m:Nat)(x:List Int)(w:oZ)(h:St w b g m x):re prog 262 #[J (Z ⟨b,0,N⟩)] w fun e w'=>e=rC (I U x.length)∧w=w':=by have a:=h.1.cell 2;simp at a;clear h;go_enter func262,ntmps262;go_wp2;go_ret;exact⟨rfl,rfl⟩
theorem L0(b g m:Nat)(x:List Int)(id:Int)(w:oZ)(h:St w b g m x):re prog 111 #[J (Z ⟨b,0,N⟩),I U id] w fun e w'=>e=rC (ry (decide (id∈x)))∧w=w':=by
 obtain⟨f,j,o,a,p,hm⟩:=h;have c1:=f.cell 1;simp at c1;clear f;by_cases q:id<0
 ·rw[Bb (fun c=>by have:=a id c;omega)]
  have k:decide (0≤id)=false:=by simp;omega
  go_enter func111,ntmps111;go_wp2;go_ret;exact⟨rfl,rfl⟩
 ·obtain⟨n,rfl⟩:=AA (show 0≤id by omega)
  by_cases r:m≤n
  ·rw[Bb (fun c=>by have:=a _ c;omega)]
   have k:decide (0≤(n:Int))=true:=by simp
   have d:decide ((n:Int)<(m:Int))=false:=by simp;omega
   go_enter func111,ntmps111;go_wp2;go_ret;exact⟨rfl,rfl⟩
  ·have s:=j.cell (i:=n) (by omega)
   have l:=Aa (Yv (x:=x) (i:=n) (fun y hy=>(a y hy).1));rw[←l.out];clear l j a o;have k:decide (0≤(n:Int))=true:=by simp
   have d:decide ((n:Int)<(m:Int))=true:=by simp;omega
   generalize link x n=y at*
   go_enter func111,ntmps111;go_wp2;go_ret;exact⟨rfl,rfl⟩
theorem PU(b g m:Nat)(w:oZ)(h:St w b g m []):re prog 189 #[J (Z ⟨b,0,N⟩)] w fun e w'=>e=rC (rG #[I U 0,ry false])∧w=w':=by have a:=h.1.cell 2;simp at a;clear h;go_enter func189,ntmps189;go_wp2;go_ret2;exact⟨rfl,rfl⟩
theorem NA(b g m:Nat)(a:Int)(x:List Int)(w:oZ)(h:St w b g m (a::x)):re prog 189 #[J (Z ⟨b,0,N⟩)] w fun e w'=>e=rC (rG #[I U a,ry true])∧w=w':=by
 have c:=h.1.cell 2;have c0:=h.1.cell 0;have d:=h.len;simp at c0 c d;have f:(((x.length:Int)+1)==0)=false:=by rw[Au];omega
 clear h;go_enter func189,ntmps189;go_wp2;go_ret2;exact⟨rfl,rfl⟩
def GF(b g:Nat)(k:Nat):Prop:=k=b∨k=g
theorem iY(h:St w b g m x)(f:n<m)(j:(n:Int)∉x):St (((w.setCell ⟨g,n,N⟩ (I U (x.headD (-1)))).setCell ⟨b,0,N⟩ (I U n)).setCell ⟨b,2,N⟩ (I U ((x.length:Int)+1))) b g m ((n:Int)::x):=by
 obtain⟨k,l,d,o,a,hm⟩:=h;refine⟨?_,?_,BB.2 ⟨j,d⟩,?_,a,hm⟩
 ·exact(((k.setOther (c:=g) (i:=n) a (I U (x.headD (-1)))).set 0 (I U n)).set 2 (I U ((x.length:Int)+1)))
 ·refine(((l.set f (I U (x.headD (-1)))).setOther (c:=b) (i:=0) (BT a) (I U n)).setOther (c:=b) (i:=2) (BT a) (I U ((x.length:Int)+1))).congr fun i _=>?_
  rw[link];by_cases e:i=n
  ·subst e;simp
  ·rw[Ah e,Ah (by omega)]
 ·intro y hy
  rcases Bv.1 hy with rfl|hy
  ·omega
  ·exact o y hy
def F8(b g m:Nat)(x':List Int)(r:Bool)(w:oZ)(e:rB)(w':oZ):Prop:=e=rC (ry r)∧St w' b g m x'∧Cv (GF b g) w w'
theorem iZ(b g m:Nat)(x:List Int)(id:Int)(w:oZ)(h:St w b g m x)(hid:id<0∨(m:Int)≤id∨id∈x):re prog 48 #[J (Z ⟨b,0,N⟩),I U id] w (F8 b g m x false w):=by
 have a:=h;have f:=Aa (L0 b g m x id w h);obtain⟨i,l,n,c,o,hm⟩:=h;have c1:=i.cell 1;simp at c1;clear i l n;by_cases p:id<0
 ·have j:decide (0≤id)=false:=by simp;omega
  clear hid c;go_enter func48,ntmps48;go_wp2;go_ret;exact⟨rfl,a,Cv.refl _ _⟩
 ·by_cases q:(m:Int)≤id
  ·have j:decide (0≤id)=true:=by simp;omega
   have d:decide (id<(m:Int))=false:=by simp;omega
   clear hid c;go_enter func48,ntmps48;go_wp2;go_ret;exact⟨rfl,a,Cv.refl _ _⟩
  ·have k:id∈x:=(hid.resolve_left p).resolve_left q
   have j:decide (0≤id)=true:=by simp;omega
   have d:decide (id<(m:Int))=true:=by simp;omega
   have r:=Aa (AZ k);rw[r.out]at f;clear hid c k;go_enter func48,ntmps48;go_wp2_with(first|(go_at_call 111;refine f.out.mono ?_;rintro e w'⟨rfl,rfl⟩)|(go_at_call 110;go_in));go_ret;exact⟨rfl,a,Cv.refl _ _⟩
theorem dC(b g m n:Nat)(x:List Int)(w:oZ)(h:St w b g m x)(c:n<m)(f:(n:Int)∉x):re prog 48 #[J (Z ⟨b,0,N⟩),I U n] w (F8 b g m ((n:Int)::x) true w):=by
 have l:=Aa (iY h c f);have j:=Aa (L0 b g m x n w h);rw[Bb f]at j;have v:=h.len;obtain⟨a,d,o,p,i,hm⟩:=h;have c0:=a.cell 0;have c1:=a.cell 1;have q:=a.cell 2;have f0:=a.free 0;have f2:=a.free 2;have z:=d.cell c;have fn:=d.free n;have r:=a.lt;have s:=d.lt;simp only[Ad,Ac,Ag]at c0 c1 q;generalize x.headD (-1)=t at*
 generalize link x n=y at*
 have k:g≠b:=BT i;have A:decide (0≤(n:Int))=true:=by simp
 have u:decide ((n:Int)<(m:Int))=true:=by simp;omega
 clear a d p o f;go_enter func48,ntmps48;go_wp2_with(first|(go_at_call 111;refine j.out.mono ?_;rintro e w'⟨rfl,rfl⟩)|(go_at_call 110;go_in));go_region
 go_wp2;go_ret;exact⟨rfl,l.out.drew,((((Cv.refl _ w).set (.inr (.inr rfl)) _ _).set (.inr (.inl rfl)) _ _).set (.inr (.inl rfl)) _ _).drew⟩
theorem R9(h:St w b g m ((n:Int)::r))(j:n<m):St (((w.setCell ⟨b,0,N⟩ (I U (r.headD (-1)))).setCell ⟨g,n,N⟩ (I U (-2))).setCell ⟨b,2,N⟩ (I U r.length)) b g m r:=by
 obtain⟨k,l,e,o,a,hm⟩:=h;obtain⟨p,d⟩:=BB.1 e;refine⟨?_,?_,d,fun y hy=>o y (by simp[hy]),a,hm⟩
 ·exact(((k.set 0 (I U (r.headD (-1)))).setOther (c:=g) (i:=n) a (I U (-2))).set 2 (I U r.length))
 ·refine(((l.setOther (c:=b) (i:=0) (BT a) (I U (r.headD (-1)))).set j (I U (-2))).setOther (c:=b) (i:=2) (BT a) (I U r.length)).congr fun i _=>?_
  by_cases f:i=n
  ·subst f;rw[Ai rfl,LZ p]
  ·rw[Ah f,link,Ah (by omega)]
theorem Sa{q:Nat}{p:List Int}(h:St w b g m (p++(q:Int)::(n:Int)::r))(x:n<m)(z:q<m):St (((w.setCell ⟨g,q,N⟩ (I U (r.headD (-1)))).setCell ⟨g,n,N⟩ (I U (-2))).setCell ⟨b,2,N⟩ (I U (p++(q:Int)::r).length)) b g m (p++(q:Int)::r):=by
 obtain⟨u,A,a,B,d,hm⟩:=h;have e:p++(q:Int)::(n:Int)::r=(p++[(q:Int)])++(n:Int)::r:=by simp
 have e':p++(q:Int)::r=(p++[(q:Int)])++r:=by simp
 have f:List.Sublist (p++(q:Int)::r) (p++(q:Int)::(n:Int)::r):=by apply List.Sublist.append_left;exact List.Sublist.cons_cons _ (List.sublist_cons_self _ _)
 have k:=a.sublist f;have o:(q:Int)∉p:=by intro j;have:=(Cb.1 a).2.2 _ j (q:Int) (by simp);exact this rfl
 have s:(n:Int)∉p++(q:Int)::r:=by
  rw[e]at a;have C:=(Cb.1 a).2.2;have D:=(Cb.1 a).2.1;rw[e'];intro j;rcases BU.1 j with t|t
  ·exact C _ t (n:Int) (by simp) rfl
  ·exact(BB.1 D).1 t
 refine⟨?_,?_,k,fun y hy=>B y (f.subset hy),d,hm⟩
 ·have E:(p++(q:Int)::(n:Int)::r).headD (-1)=(p++(q:Int)::r).headD (-1):=by cases p<;>simp
  rw[E]at u;exact(((u.setOther (c:=g) (i:=q) d (I U (r.headD (-1)))).setOther (c:=g) (i:=n) d (I U (-2))).set 2 (I U (p++(q:Int)::r).length))
 ·refine(((A.set z (I U (r.headD (-1)))).set x (I U (-2))).setOther (c:=b) (i:=2) (BT d) (I U (p++(q:Int)::r).length)).congr fun i _=>?_
  by_cases v:i=n
  ·subst v;rw[Ai rfl,LZ s]
  ·rw[Ah v]
   by_cases l:i=q
   ·subst l;rw[Ai rfl,OB p _ _ o]
   ·rw[Ah l,e,e']
    congr 1;exact(Mw (p++[(q:Int)]) n r i (by omega) (fun p0 F e0=>by have:=List.append_inj_right' e0 rfl;simp at this;omega)).symm
end
theorem PV: ∀(x:List Int)(k:Nat),x.Nodup→k+1<x.length→link x (x[k]?.getD 0)=x[k+1]?.getD 0
 |a::r,0,_,h=>by
  simp only[link,Ac,AQ,Ag];rw[Ai trivial];cases r with
  |nil=>simp at h
  |cons b r=>simp
 |a::r,k+1,c,h=>by
  obtain⟨d,f⟩:=BB.1 c;have g:k+1<r.length:=by simp at h;omega
  have i:k<r.length:=by omega
  simp only[Ag,link];rw[Ah (fun e=>d (by rw[←e];simp[i]))];exact PV r k f g
theorem dD(b g m:Nat)(x:List Int)(id:Int)(w:oZ)(h:St w b g m x)(a:id∉x):re prog 191 #[J (Z ⟨b,0,N⟩),I U id] w (F8 b g m x false w):=by
 have d:=Aa h;have c:=Aa (L0 b g m x id w h);rw[Bb a]at c;clear h a;go_enter func191,ntmps191;go_wp2;go_step3;go_wp2_with(go_at_call 111;refine c.out.mono ?_;rintro e w'⟨rfl,rfl⟩);try rw[Bp]
 go_ret;exact⟨rfl,d.out,Cv.refl _ _⟩
def At(b g:Nat)(x:List Int):Nat→Addr
 |0=>⟨b,0,N⟩
 |k+1=>⟨g,(x[k]?.getD 0).toNat,N⟩
theorem dE{w:oZ}{b g m:Nat}{x:List Int}(h:St w b g m x)(k:Nat)(d:k<x.length):w.cell? (At b g x k)=Z (I U (x[k]?.getD 0)):=by
 obtain⟨e,f,c,i,j,hm⟩:=h;cases k with
 |zero=>
  rw[At,e.cell];cases x with
  |nil=>simp at d
  |cons a r=>simp
 |succ k=>have l:=i (x[k]?.getD 0) (by have:k<x.length:=(by omega);simp[this]);rw[At,f.cell (by omega)];rw[show(((x[k]?.getD 0).toNat:Nat):Int)=x[k]?.getD 0 by omega,PV x k c d]
theorem VB(b g m n P:Nat)(x:List Int)(w:oZ)(h:St w b g m x)(G:P<x.length)(H:x[P]?.getD 0=n)(A: ∀k,k<P→x[k]?.getD 0≠n) (u:n<m) (o:(P=0∧ ∃r,x=(n:Int)::r)∨ ∃p q r,P=p.length+1∧q<m∧x=p++((q:Nat):Int)::(n:Int)::r):re prog 191 #[J (Z ⟨b,0,N⟩),I U n] w (F8 b g m (x.erase n) true w):=by
 have f:=Aa h;have K:=Aa o;clear o;have HA:=Aa (dE h);have HH:=Aa (L0 b g m x n w h);have L:=Aa H;have HF:=Aa A;have B:(n:Int)∈x:=by rw[←H];simp[G]
 rw[AZ B]at HH;have HR:=Aa h.2.2.2.1;have c1:=h.1.cell 1;have M:=h.1.cell 2;have f0:=h.1.free 0;have f2:=h.1.free 2;have cn:=h.2.1.cell u;have O:=h.2.1.free;have fn:=O n;have ab:=h.1.lt;have ae:=h.2.1.lt;have hl:=h.len;have i:=h.2.2.2.2.1;have aa:g≠b:=BT i;have hm:=h.2.2.2.2.2;simp only[Ad,Ac,Ag]at c1 M;have Q:=Aa O;clear H A B h O;go_enter func191,ntmps191;go_wp2;go_step3;go_wp2_with(go_at_call 111;refine HH.out.mono ?_;rintro e w'⟨rfl,rfl⟩);go_step3;go_wp2;go_loopg [5] P (fun gk t wr=> ∃k v:Nat,k≤P∧gk=P-k∧t=J (Z (At b g x k))∧wr=w.drewN v)
 case atStart=>exact⟨0,0,Ap _,rfl,rfl,rfl⟩
 case round=>
  obtain⟨k,v,hk,C,rfl,rfl⟩:=hrel;have HG:=Aa C;clear C;have c0:=HA.out k (by omega);by_cases R:k=P
  ·subst R
   rw[L.out]at c0;clear HA HF HR;rcases K.out with⟨rfl,r,a⟩|⟨p,q,r,D,hq,a⟩
   ·have s:=f.out
    rw[a]at s;have E:Hid (link x n=r.headD (-1)):=by show _=_;rw[a,link,Ai rfl]
    have S:Hid (x.erase n=r):=by show _=_;rw[a];simp
    have hlen:x.length=r.length+1:=by rw[a];rfl
    have c:=Aa (R9 (s.drewN v) u);rw[E.out]at cn;rw[hlen]at M hl;generalize r.headD (-1)=z at*
    rw[At]at c0⊢;clear L K f a E hlen s G;go_wp2;go_region
    go_wp2;rw[Bp];go_ret;exact⟨rfl,by rw[S.out];exact c.out.drew,((((((Cv.refl _ w).drewN v).set (.inr (.inl rfl)) _ _).set (.inr (.inr rfl)) _ _).set (.inr (.inl rfl)) _ _)).drew⟩
   ·have s:=f.out
    rw[a]at s;have d:=s.2.2.1;have j:(n:Int)∉p++[(q:Int)]:=by
     intro T;have e:p++(q:Int)::(n:Int)::r=(p++[(q:Int)])++(n:Int)::r:=by simp
     rw[e]at d;exact(Cb.1 d).2.2 _ T (n:Int) (by simp) rfl
    have E:Hid (link x n=r.headD (-1)):=by show _=_;rw[a,show p++(q:Int)::(n:Int)::r=(p++[(q:Int)])++(n:Int)::r by simp];exact OB _ _ _ j
    have S:Hid (x.erase n=p++(q:Int)::r):=by show _=_;rw[a,show p++(q:Int)::(n:Int)::r=(p++[(q:Int)])++(n:Int)::r by simp,PT j];simp
    have hlen:x.length=(p++(q:Int)::r).length+1:=by rw[a];simp;omega
    have c:=Aa (Sa (s.drewN v) u hq);have l:At b g x k=⟨g,q,N⟩:=by rw[D,At,a];simp
    have V:q≠n:=by rintro rfl;exact j (by simp)
    have af:n≠q:=BT V;have fq:=Q.out q;rw[E.out]at cn;rw[hlen]at M hl;rw[l]at c0⊢;generalize r.headD (-1)=z at*
    generalize p++(q:Int)::r=xx at*
    clear L K f a E hlen s G d j l D;go_wp2;go_region
    go_wp2;rw[Bp];go_ret;exact⟨rfl,by rw[S.out];exact c.out.drew,((((((Cv.refl _ w).drewN v).set (.inr (.inr rfl)) _ _).set (.inr (.inr rfl)) _ _).set (.inr (.inl rfl)) _ _)).drew⟩
  ·have F:k<P:=by omega
   have i:=HF.out k F;have W:=HR.out (x[k]?.getD 0) (by have:k<x.length:=(by omega);simp[this]);obtain⟨y,X⟩:=AA W.1;rw[X]at c0 i W;have ag:((y:Int) !=(n:Int))=true:=by simp;omega
   have ah:y<m:=by omega
   have l:Hid (At b g x (k+1)=⟨g,y,N⟩):=by show _=_;rw[At,X];simp
   clear X W i;generalize At b g x k=ad at*
   go_wp2;go_quiet(fail)
   go_wp2;go_roundg (P-(k+1))
   case rel=>exact⟨k+1,_,by omega,rfl,by rw[l.out],World.drewN_drewN _ _ _⟩
   case measure=>have:=HG.out;omega
theorem Dw:(prog.info? 3).map (fun i=>(i.zero,i.size,i.bytes))=Z (Z (I U 0),1,8):=by kernel_rfl
theorem Mu(m:Nat)(hm:m≤100000)(w:oZ):(Instr.makeSlice 22 (I U (m:Int)) (I U (m:Int))).run prog w= .ok (Y (Z ⟨w.heap.size,0,N⟩) m m) (w.alloc (rD (madeCells #[I U 0] m) 3)):=run_make_row' 22 3 (I U 0) 8 underlying22 Dw rfl .i64 .i64 m (by omega) (by omega) w
theorem PW(b g m:Nat)(x:List Int)(id:Int)(w:oZ)(h:St w b g m x)(f:id∈x):re prog 191 #[J (Z ⟨b,0,N⟩),I U id] w (F8 b g m (x.erase id) true w):=by
 have j:=h.2.2.2.1 id f;obtain⟨n,rfl⟩:=AA j.1;obtain⟨p,r,a,d⟩:=List.append_of_mem f |> fun⟨p,r,e⟩=>(⟨p,r,e,fun hm=>by have c:=h.2.2.1;rw[e]at c;exact(Cb.1 c).2.2 _ hm (n:Int) (by simp) rfl⟩: ∃p r,x=p++(n:Int)::r∧(n:Int)∉p);refine VB b g m n p.length x w h (by rw[a];simp) (by rw[a];simp) (fun k i=>?_) (by omega) ?_
 ·intro e
  apply d;rw[←e,a,AD i];simp[i]
 ·rcases List.eq_nil_or_concat p with rfl|⟨l,q,rfl⟩
  ·exact .inl ⟨rfl,r,a⟩
  ·have o:=h.2.2.2.1 q (by rw[a];simp)
   obtain⟨s,rfl⟩:=AA o.1;exact .inr ⟨l,s,r,by simp,by omega,by rw[a];simp⟩
theorem My(b g m:Nat)(x:List Int)(id:Int)(w:oZ)(h:St w b g m x):re prog 191 #[J (Z ⟨b,0,N⟩),I U id] w (F8 b g m (x.erase id) (decide (id∈x)) w):=by
 by_cases a:id∈x
 ·rw[AZ a];exact PW b g m x id w h a
 ·rw[Bb a,Zan a];exact dD b g m x id w h a
def Ig(m:Nat)(x:List Int)(id:Int):List Int:=if id<0∨(m:Int)≤id∨id∈x then x else id::x
def Yw(m:Nat)(x:List Int)(id:Int):Bool:=!decide (id<0∨(m:Int)≤id∨id∈x)
theorem EG(b g m:Nat)(x:List Int)(id:Int)(w:oZ)(h:St w b g m x):re prog 48 #[J (Z ⟨b,0,N⟩),I U id] w (F8 b g m (Ig m x id) (Yw m x id) w):=by
 unfold Ig Yw;by_cases a:id<0∨(m:Int)≤id∨id∈x
 ·rw[Ai a,AZ a];exact iZ b g m x id w h a
 ·rw[Ah a,Bb a]
  obtain⟨n,rfl⟩:=AA (show 0≤id by omega);exact dC b g m n x w h (by omega) (fun hm=>a (.inr (.inr hm)))
def GD(b g m:Nat)(x:List Int)(w:oZ)(e:rB)(w':oZ):Prop:=e=rC (rG #[I U (x.headD 0),ry (!x.isEmpty)])∧St w' b g m x.tail∧Cv (GF b g) w w'
theorem FU(b g m:Nat)(x:List Int)(w:oZ)(h:St w b g m x):re prog 334 #[J (Z ⟨b,0,N⟩)] w (GD b g m x w):=by
 cases x with
 |nil=>have c:=Aa (PU b g m w h);have f:=Aa h;clear h;go_enter func334,ntmps334;go_wp2_with(first|(go_at_call 189;refine c.out.mono ?_;rintro e w'⟨rfl,rfl⟩));go_ret2;exact⟨rfl,f.out,Cv.refl _ _⟩
 |cons a r=>have c:=Aa (NA b g m a r w h);have d:=Aa (PW b g m (a::r) a w h (by simp));rw[List.erase_cons_head]at d;clear h;go_enter func334,ntmps334;go_wp2_with(first|(go_at_call 189;refine c.out.mono ?_;rintro e w'⟨rfl,rfl⟩)|(go_at_call 191;refine d.out.mono ?_;rintro e w'⟨rfl,i,j⟩));go_ret2;exact⟨rfl,i,j⟩
def LW(m:Nat)(w:oZ)(e:rB)(w':oZ):Prop:=e=rC (J (Z ⟨w.heap.size+1,0,N⟩))∧St w' (w.heap.size+1) w.heap.size m []∧qZ w.heap.size w w'
theorem Fu(m:Nat)(w:oZ)(hm:m≤1024):re prog 45 #[I U m] w (LW m w):=by
 have n:decide ((m:Int)<0)=false:=by simp
 have o:decide ((1024:Int)<(m:Int))=false:=by simp;omega
 have p:=Mu m (by omega);go_enter func45,ntmps45;go_wp2
 go_loopw [20] (fun i wr=> ∃k:Nat,k≤m∧i=I U k∧Cx wr (w.heap.size+1) #[I U (-1),Y (Z ⟨w.heap.size,0,N⟩) m m,I U 0] 205∧Dv wr w.heap.size m 3 (fun j=>I U (if j<k then-2 else 0))∧qZ w.heap.size w wr)
  (fun i _=>m-(intOf i).toNat)
 case atStart=>refine⟨0,Ap _,rfl,Cx.Iq _ _ (by simp),((Dv.made w m 3 (I U 0)).alloc _).congr fun i _=>?_,Ct (Ct (rf _ _) _) _⟩;simp
 case round=>
  obtain⟨k,u,rfl,d,b,a⟩:=hrel;have c1:=d.cell 1;simp only[Ad,Ac,Ag]at c1;by_cases e:k<m
  ·have v:=b.cell e
   have x:=b.free k;have q:=Aa (b.set e (I U (-2)));have r:=Aa (d.setOther (c:=w.heap.size) (i:=k) (by omega) (I U (-2)));have h:=Aa (C2 a (c:=w.heap.size) (Al _) k (I U (-2)));have y:=b.lt;clear b d;go_wp2;go_roundw
   case rel=>
    refine⟨k+1,by omega,by go_num,r.out,q.out.congr fun j s=>?_,h.out⟩;by_cases f:j=k
    ·subst f;simp
    ·rw[Ah f]
     by_cases l:j<k
     ·rw[Ai l,Ai (by omega)]
     ·rw[Ah l,Ah (by omega)]
   case measure=>simp[intOf];omega
  ·have g:=b.congr (G:=fun j=>I U (link [] j)) (fun j s=>by rw[Ai (by omega)];rfl)
   have t:Hid (St wr (w.heap.size+1) w.heap.size m []):=⟨d,g,List.nodup_nil,by simp,by omega,hm⟩;clear b g d;go_wp2;go_ret;exact⟨rfl,t.out,a⟩
end Go.Proofs.YtgadhchejmlfjaaGreatDoor.Idle
