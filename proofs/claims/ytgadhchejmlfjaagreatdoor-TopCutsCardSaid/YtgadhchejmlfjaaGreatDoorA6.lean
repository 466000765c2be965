/- A part of the proof. -/
import Derived.Test.YtgadhchejmlfjaaGreatDoorA5
set_option linter.unusedVariables false
set_option maxRecDepth 20000
set_option maxHeartbeats 16000000
open Go.Value renaming int→I,pointer→J,slice→Y
open Go.IntKind renaming i64→U
open Option renaming none→N,some→Z
open Go renaming Calls→re,Ending→rB,Value→qY,World→oZ
open Go.Ending renaming returned→rC
open Go.RowKit renaming Below→qZ
open Go.RowKit.Below renaming refl→rf
open Go.Value renaming bool→ry,ownBlock→ru
namespace Go.Proofs.YtgadhchejmlfjaaGreatDoor.Ring
open Go.Proofs.Tryz Go.RowKit Go.CL
section
variable {w:oZ} {b g size hd tl:Nat} {nx:Int} {F:Nat→Int}
structure Rg (w:oZ) (b g size:Nat) (nx:Int) (hd tl:Nat) (F:Nat→Int):Prop where
 Dp:Cx w b #[I U nx,Y (Z ⟨g,0,N⟩) size size,.int .u32 hd,.int .u32 tl] 219
 cells:Dv w g size 3 (fun i=>I U (F i))
 ne:b≠g
 Ls:hd<size
 hle:hd≤tl
 de:tl≤hd+size
 Kc:2≤size
 FH:size≤256
 kY:0≤nx
theorem Rg.cell0(h:Rg w b g size nx hd tl F):w.cell? ⟨b,0,N⟩=Z (I U nx):=h.Dp.cell 0
theorem Rg.Jn(h:Rg w b g size nx hd tl F):w.cell? ⟨b,1,N⟩=Z (Y (Z ⟨g,0,N⟩) size size):=h.Dp.cell 1
theorem Rg.T0(h:Rg w b g size nx hd tl F):w.cell? ⟨b,2,N⟩=Z (.int .u32 hd):=h.Dp.cell 2
theorem Rg.Yj(h:Rg w b g size nx hd tl F):w.cell? ⟨b,3,N⟩=Z (.int .u32 tl):=h.Dp.cell 3
theorem Rg.drewN(h:Rg w b g size nx hd tl F)(n:Nat):Rg (w.drewN n) b g size nx hd tl F:=⟨h.Dp,h.cells,h.ne,h.Ls,h.hle,h.de,h.Kc,h.FH,h.kY⟩
def RW(x:Int)(w:oZ)(e:rB)(w':oZ):Prop:=e=rC (I U x)∧ ∃n,w'=w.drewN n
theorem Ou(b g size:Nat)(nx:Int)(hd tl:Nat)(F:Nat→Int)(w:oZ)(h:Rg w b g size nx hd tl F):re prog 167 #[J (Z ⟨b,0,N⟩)] w (RW ((tl-hd:Nat):Int) w):=by
 have f:=h.T0;have c3:=h.Yj;have c:=h.Ls;have d:=h.hle;have e:=h.de;have i:=h.FH;clear h;obtain⟨n,a⟩: ∃n,n=tl-hd:=⟨_,rfl⟩;have j:IntKind.u32.wrap ((tl:Int)-hd)=n:=by rw[Zau _ (by omega)];omega
 have k:IntKind.i64.wrap (n:Int)=n:=Zaa _ (by omega);rw[←a];have l:=Aa a;clear a c d e;go_enter func167,ntmps167;go_wp2;go_quiet(fail)
 go_wp2;go_ret;exact⟨rfl,_,rfl⟩
theorem RY(b g size:Nat)(nx:Int)(hd tl:Nat)(F:Nat→Int)(k:Nat)(w:oZ)(h:Rg w b g size nx hd tl F)(f:k≤size):re prog 197 #[J (Z ⟨b,0,N⟩),I U k] w fun e w'=>e=rC (J (Z ⟨g,(hd+k)%size,N⟩))∧ ∃n,w'=w.drewN n:=by
 have c1:=h.Jn;have i:=h.T0;have l:=h.Ls;have m:=h.FH;have o:=h.Kc;clear h;obtain⟨j,a⟩: ∃j,j=(hd+k)%size:=⟨_,rfl⟩;have c:j<size:=by rw[a];exact Zbn _ (by omega)
 have p:IntKind.i64.wrap ((hd:Int)+k)=(hd:Int)+k:=Zaa _ (by omega);have e0:IntKind.i64.wrap (hd:Int)=(hd:Int):=Zaa _ (by omega);have q:((hd:Int)+k).tmod size=(j:Int):=by rw[a];norm_cast
 have r:((size:Int)==0)=false:=by rw[Au];omega
 rw[←a];have s:=Aa a;have d:(j:Int)<(size:Int):=by omega
 clear a;go_enter func197,ntmps197;go_wp2;go_quiet(fail)
 go_wp2;go_ret;exact⟨rfl,_,rfl⟩
theorem Ek(b g size:Nat)(nx:Int)(hd tl:Nat)(F:Nat→Int)(w:oZ)(h:Rg w b g size nx hd tl F):re prog 196 #[J (Z ⟨b,0,N⟩)] w fun e w'=>e=rC (I U nx)∧w=w':=by have c0:=h.cell0;clear h;go_enter func196,ntmps196;go_wp2;go_ret;exact⟨rfl,rfl⟩
def ET(size hd tl:Nat)(F:Nat→Int):List Int:=(List.range (tl-hd)).map fun k=>F ((hd+k)%size)
def C3(nx:Int)(row:List Int):List Int:=(if 0<nx then [nx]else [])++row
theorem EC(size hd tl:Nat)(F:Nat→Int):(ET size hd tl F).length=tl-hd:=by simp[ET]
theorem DT(b g size:Nat)(nx:Int)(hd tl:Nat)(F:Nat→Int)(w:oZ)(h:Rg w b g size nx hd tl F):re prog 333 #[J (Z ⟨b,0,N⟩)] w (RW ((C3 nx (ET size hd tl F)).length) w):=by
 have j:Hid ((C3 nx (ET size hd tl F)).length=(if 0<nx then 1 else 0)+(tl-hd)):=by show _=_;rw[C3,Aw,EC];split<;>rfl
 have f:=Aa (Ek b g size nx hd tl F w h);have a:=Aa (Ou b g size nx hd tl F w h);have k:=h.de;have o:=h.FH;clear h;obtain⟨n,i⟩: ∃n,n=tl-hd:=⟨_,rfl⟩;rw[j.out];rw[←i]at a⊢;have l:n≤256:=by omega
 clear i k;by_cases c:0<nx
 ·rw[Ai c]
  go_enter func333,ntmps333;go_wp2_with fail;refine f.out.mono ?_;rintro e d⟨rfl,rfl⟩;go_wp2_with fail;refine a.out.mono ?_;rintro e d⟨rfl,m,rfl⟩;go_wp2_with fail;go_ret;exact⟨Gy (by omega),m,rfl⟩
 ·rw[Ah c]
  have hd:decide (0<nx)=false:=by simpa using c
  go_enter func333,ntmps333;go_wp2_with fail;refine f.out.mono ?_;rintro e d⟨rfl,rfl⟩;go_wp2_with fail;refine a.out.mono ?_;rintro e d⟨rfl,m,rfl⟩;go_wp2_with fail;go_ret;exact⟨Gy (by omega),m,rfl⟩
end
section
variable {w w':oZ} {b g size hd tl:Nat} {nx:Int} {row:List Int}
def Sg(b g:Nat)(j:Nat):Prop:=j=b∨j=g
theorem Rg.only{S:Nat→Prop}{F:Nat→Int}(h:Rg w b g size nx hd tl F)(o:Cv S w w')(a: ¬S b)(c: ¬S g):Rg w' b g size nx hd tl F:=⟨h.Dp.only o a,h.cells.only o c,h.ne,h.Ls,h.hle,h.de,h.Kc,h.FH,h.kY⟩
theorem Rg.below{F:Nat→Int}(h:Rg w b g size nx hd tl F)(o:qZ w.heap.size w w'):Rg w' b g size nx hd tl F:=h.only (S:=fun _=>False) ((Cv.refl _ w).below o) (fun x=>x) (fun x=>x)
def Rw(w:oZ)(b g size:Nat)(nx:Int)(row:List Int):Prop:= ∃hd tl F,Rg w b g size nx hd tl F∧ET size hd tl F=row
theorem Rw.only{S:Nat→Prop}(h:Rw w b g size nx row)(o:Cv S w w')(a: ∀j,Sg b g j→ ¬S j):Rw w' b g size nx row:=by obtain⟨hd,tl,F,h,c⟩:=h;exact⟨hd,tl,F,h.only o (a b (.inl rfl)) (a g (.inr rfl)),c⟩
theorem Rw.below(h:Rw w b g size nx row)(o:qZ w.heap.size w w'):Rw w' b g size nx row:=h.only (S:=fun _=>False) ((Cv.refl _ w).below o) (fun _ _ x=>x)
theorem Rw.drewN(h:Rw w b g size nx row)(n:Nat):Rw (w.drewN n) b g size nx row:=by obtain⟨hd,tl,F,h,a⟩:=h;exact⟨hd,tl,F,h.drewN n,a⟩
theorem Rw.lt(h:Rw w b g size nx row):b<w.heap.size∧g<w.heap.size:=by obtain⟨hd,tl,F,h,a⟩:=h;exact⟨h.Dp.lt,h.cells.lt⟩
theorem Rw.RZ(h:Rw w b g size nx row):row.length≤size∧2≤size∧size≤256∧0≤nx∧b≠g:=by obtain⟨hd,tl,F,h,rfl⟩:=h;rw[EC];have:=h.de;exact⟨by omega,h.Kc,h.FH,h.kY,h.ne⟩
theorem Ny(size hd tl:Nat)(F:Nat→Int)(k:Nat)(h:k<tl-hd):(ET size hd tl F).take (k+1)=(ET size hd tl F).take k++[F ((hd+k)%size)]:=by rw[A8 (by rw[EC];exact h)];simp[ET]
theorem Vt(size hd tl:Nat)(F:Nat→Int)(n:Nat)(h:n≤tl-hd):ET size (hd+n) tl F=(ET size hd tl F).drop n:=by
 apply Zbl
 ·simp[ET];omega
 ·intro i a b
  simp[ET,Nat.add_assoc]
theorem R0(size hd tl:Nat)(F:Nat→Int)(h:size≤hd)(a:hd≤tl):ET size (hd-size) (tl-size) F=ET size hd tl F:=by
 apply Zbl
 ·simp[ET];omega
 ·intro i b c
  simp only[ET,Zbm,Zb8];congr 1;rw[show hd+i=(hd-size+i)+size by omega,Nat.add_mod_right]
theorem Vu(size hd tl:Nat)(F:Nat→Int)(x:Int)(hle:hd≤tl)(h:tl<hd+size):ET size hd (tl+1) (fun i=>if i=(hd+(tl-hd))%size then x else F i)=ET size hd tl F++[x]:=by
 unfold ET;rw[show tl+1-hd=(tl-hd)+1 by omega,B7,Cj];congr 1
 ·apply Zab
  intro k a;have b:k<tl-hd:=BN.1 a;show(if(hd+k)%size=(hd+(tl-hd))%size then x else F ((hd+k)%size))=F ((hd+k)%size)
  rw[Ah];intro e;have c:=Nat.sub_mod_eq_zero_of_mod_eq e.symm;rw[show hd+(tl-hd)-(hd+k)=tl-hd-k by omega,Nat.mod_eq_of_lt (by omega)]at c;omega
 ·simp
def KP(b g size:Nat)(nx:Int)(hd tl:Nat)(w:oZ)(e:rB)(w':oZ):Prop:=(∃v,e=rC v)∧Cx w' b #[I U nx,Y (Z ⟨g,0,N⟩) size size,.int .u32 ((if size≤hd then hd-size else hd:Nat):Int),.int .u32 ((if size≤hd then tl-size else tl:Nat):Int)] 219∧Cv (fun j=>j=b) w w'
theorem Vv(b g size:Nat)(nx:Int)(hd tl:Nat)(w:oZ)(h:Cx w b #[I U nx,Y (Z ⟨g,0,N⟩) size size,.int .u32 hd,.int .u32 tl] 219)(hle:hd≤tl)(i:tl≤100000)(m:size≤256):re prog 236 #[J (Z ⟨b,0,N⟩)] w (KP b g size nx hd tl w):=by
 have c1:=h.cell 1;have k:=h.cell 2;have c3:=h.cell 3;have f2:=h.free 2;have f3:=h.free 3;have l:=h.lt;simp only[Ad,Ac,Ag]at c1 k c3;have d:=Aa h;clear h;have n:IntKind.u32.wrap (size:Int)=size:=Zau _ (by omega);by_cases c:size≤hd
 ·have a:decide ((size:Int)≤(hd:Int))=true:=by simp;omega
  unfold KP;rw[Ai c,Ai c];obtain⟨p,e⟩: ∃p,p=hd-size:=⟨_,rfl⟩;obtain⟨q,f⟩: ∃q,q=tl-size:=⟨_,rfl⟩;have o:IntKind.u32.wrap ((hd:Int)-size)=p:=by rw[Zau _ (by omega)];omega
  have r:IntKind.u32.wrap ((tl:Int)-size)=q:=by rw[Zau _ (by omega)];omega
  rw[←e,←f];clear e f;go_enter func236,ntmps236;go_wp2;go_region
  all_goals
   go_end0;exact⟨⟨_,rfl⟩,(d.out.set 2 (.int .u32 p)).set 3 (.int .u32 q),(((Cv.refl (fun j=>j=b) w).set (.inr rfl) _ _).set (.inr rfl) _ _).drew⟩
 ·have a:decide ((size:Int)≤(hd:Int))=false:=by simp;omega
  unfold KP;rw[Ah c,Ah c];go_enter func236,ntmps236;go_wp2;go_end0;exact⟨⟨_,rfl⟩,d.out,Cv.refl _ _⟩
def Fq(b g size:Nat)(nx:Int)(row out:List Int)(w:oZ)(e:rB)(w':oZ):Prop:= ∃v,e=rC v∧CF w' w.heap.size v out∧Rw w' b g size nx row∧Cv (Sg b g) w w'
theorem Is(b g size:Nat)(nx:Int)(row:List Int)(n:Nat)(w:oZ)(h:Rw w b g size nx row)(H:n≤row.length):re prog 168 #[J (Z ⟨b,0,N⟩),I U n] w (Fq b g size nx (row.drop n) (row.take n) w):=by
 obtain⟨hd,tl,F,h,rfl⟩:=h;rw[EC]at H;have V:=h.Ls;have W:=h.hle;have X:=h.de;have K:=h.FH;have L:=h.Kc;have M:=h.Dp.lt;have O:=h.cells.lt;have P:=Aa h;clear h;go_enter func168,ntmps168;go_wp2;go_loopw [4,7] (fun v i wr=> ∃k:Nat,k≤n∧i=I U k∧CF wr w.heap.size v ((ET size hd tl F).take k)∧qZ w.heap.size w wr) (fun _ i _=>n-(intOf i).toNat)
 case atStart=>exact⟨0,Ap _,rfl,by simpa using CF.nil _ _,rf _ _⟩
 case round=>
  obtain⟨k,hk,rfl,a,o⟩:=hrel;have d:=P.out.below o;have Q:=o.size;by_cases R:k<n
  ·have S:=Aa (Ny size hd tl F k (by omega))
   have hm:(hd+k)%size<size:=Zbn _ (by omega);have cx:=d.cells.cell hm;have hlen:((ET size hd tl F).take k).length+ [F ((hd+k)%size)].length<100000000:=by simp[EC];omega
   have q:=Aa hlen;generalize(ET size hd tl F).take k=l at*
   have T:=Aa (RY b g size nx hd tl F k wr d (by omega));generalize(hd+k)%size=j at*
   generalize F j=x at*
   have u:=Aa a;have c:=Aa d;have A:=Aa o;clear hlen a d o;go_wp2_with fail;refine T.out.mono ?_;rintro e w1⟨rfl,m,rfl⟩;go_wp2_with(at_builtin;refine Jf underlying22 CY.Dw w.heap.size _ rfl _ _ rfl _ _ _ [x] rfl rfl ((u.out.drewN m).alloc _) (DB.Fc (wr.drewN m) x) (by simp;omega) q.out ?_;intro v' C D);go_roundw
   case rel=>exact⟨k+1,by omega,by go_num,by rw[S.out];exact D.1,CI (Ct (BX A.out m) _) D.2.1 (fun j y=>(u.out.lt j y).1)⟩
   case measure=>simp[intOf];omega
  ·obtain rfl:k=n:=by omega
   have c2:=d.T0;have f2:=d.Dp.free 2;have e1:IntKind.u32.wrap (k:Int)=k:=Zau _ (by omega);obtain⟨p,z⟩: ∃p,p=hd+k:=⟨_,rfl⟩;have e2:IntKind.u32.wrap ((hd:Int)+k)=(p:Int):=by rw[Zau _ (by omega)];omega
   have c:=Aa d;have A:=Aa o;have u:=Aa a;have E:=Aa z;have G:b<wr.heap.size:=d.Dp.lt;clear d o a z;go_wp2_with fail;have r:Cx (wr.setCell ⟨b,2,N⟩ (.int .u32 p)) b #[I U nx,Y (Z ⟨g,0,N⟩) size size,.int .u32 p,.int .u32 tl] 219:=c.out.Dp.set 2 _;refine(Vv _ _ _ _ _ _ _ r (by have:=E.out;omega) (by omega) (by omega)).mono ?_;rintro e C⟨⟨v,rfl⟩,s,t⟩;have f:Hid (Cv (fun j=>j=b) wr C):=((Cv.refl (fun j=>j=b) wr).set (.inr rfl) _ _).trans t;have B:=Aa s;clear r s t;go_wp2_with fail;go_ret;have z:=E.out;refine⟨_,rfl,u.out.only f.out (fun j y e=>by omega),⟨_,_,F,⟨B.out,c.out.cells.only f.out (fun e=>c.out.ne e.symm),c.out.ne,?_,?_,?_,L,K,c.out.kY⟩,?_⟩,((Cv.refl (Sg b g) w).below A.out).andThen f.out (fun j _ y=>.inl y)⟩
   ·split<;>omega
   ·split<;>omega
   ·split<;>omega
   ·rw[←Vt size hd tl F k (by omega),←z]
    split
    ·exact R0 size p tl F (by omega) (by omega)
    ·rfl
def Yk(b g size:Nat)(nx:Int)(row:List Int)(w:oZ)(e:rB)(w':oZ):Prop:=(∃v,e=rC v)∧Rw w' b g size nx row∧Cv (Sg b g) w w'
theorem PL(b g size:Nat)(nx:Int)(row:List Int)(x:Int)(w:oZ)(h:Rw w b g size nx row)(c:row.length<size):re prog 169 #[J (Z ⟨b,0,N⟩),I U x] w (Yk b g size nx (row++[x]) w):=by
 obtain⟨hd,tl,F,h,rfl⟩:=h;rw[EC]at c;have r:=h.Ls;have s:=h.hle;have B:=h.de;have t:=h.FH;have u:=h.Kc;have v:=h.Dp.lt;have y:=h.cells.lt;have C:=Aa h;have k:=Aa (Ou b g size nx hd tl F w h);have d:=Aa (fun m=>RY b g size nx hd tl F (tl-hd) (w.drewN m) (h.drewN m) (by omega));have f:=Aa (Vu size hd tl F x s (by omega));have hm:(hd+(tl-hd))%size<size:=Zbn _ (by omega);have l:=h.cells.cell hm;have o:=h.cells.free ((hd+(tl-hd))%size);have c3:=h.Yj;have f3:=h.Dp.free 3;have a:=h.ne;have p:(b=g)=False:=by simp[a]
 obtain⟨n,c⟩: ∃n,n=tl-hd:=⟨_,rfl⟩;rw[←c]at k d f hm l o;obtain⟨j,q⟩: ∃j,j=(hd+n)%size:=⟨_,rfl⟩;have D:IntKind.u32.wrap ((tl:Int)+1)=(tl:Int)+1:=Zau _ (by omega);rw[←q]at d f hm l o;have z:Hid (∀n,Rg (((w.drewN n).setCell ⟨g,j,N⟩ (I U x)).setCell ⟨b,3,N⟩ (.int .u32 ((tl:Int)+1))) b g size nx hd (tl+1) (fun i=>if i=j then x else F i)):=by
  intro n;replace h:=h.drewN n;refine⟨((h.Dp.setOther a _).set 3 _),?_,a,r,by omega,by omega,u,t,h.kY⟩;refine((h.cells.set hm (I U x)).setOther (BT a) _).congr (fun i E=>?_);show(if i=j then _ else _)=_
  split<;>rfl
 clear c q h;go_enter func169,ntmps169;go_wp2_with fail;refine k.out.mono ?_;rintro e A⟨rfl,m,rfl⟩;go_wp2_with fail;refine(d.out m).mono ?_;rintro e A⟨rfl,m',rfl⟩;go_wp2_with fail;go_end0;refine⟨⟨_,rfl⟩,⟨hd,tl+1,_,z.out _,f.out⟩,(((Cv.refl (Sg b g) w).drewN _).set (.inr (.inr rfl)) _ _).set (.inr (.inl rfl)) _ _⟩
def I4(size:Nat)(row:List Int)(x:Int):List Int:=if row.length<size then row++[x]else row.drop (row.length/2)
def FW(size:Nat)(row:List Int)(x:Int):List Int:=if row.length<size then []else row.take (row.length/2)++[x]
theorem T1(b g size:Nat)(nx:Int)(row:List Int)(w:oZ)(h:Rw w b g size nx row):re prog 167 #[J (Z ⟨b,0,N⟩)] w (RW row.length w):=by obtain⟨hd,tl,F,h,rfl⟩:=h;rw[EC];exact Ou b g size nx hd tl F w h
theorem PM(b g size:Nat)(nx:Int)(row:List Int)(w:oZ)(h:Rw w b g size nx row):re prog 167 #[J (Z ⟨b,0,N⟩)] w fun e w'=>e=rC (I U row.length)∧ ∃n,w'=w.drewN n:=T1 b g size nx row w h
theorem Rw.Jn(h:Rw w b g size nx row):w.cell? ⟨b,1,N⟩=Z (Y (Z ⟨g,0,N⟩) size size):=by obtain⟨hd,tl,F,h,rfl⟩:=h;exact h.Jn
theorem Rw.cell0(h:Rw w b g size nx row):w.cell? ⟨b,0,N⟩=Z (I U nx)∧w.frozen? ⟨b,0,N⟩=false:=by obtain⟨hd,tl,F,h,rfl⟩:=h;exact⟨h.cell0,h.Dp.free 0⟩
theorem Hj(b g size:Nat)(nx:Int)(row:List Int)(x:Int)(w:oZ)(h:Rw w b g size nx row):re prog 114 #[J (Z ⟨b,0,N⟩),I U x] w (Fq b g size nx (I4 size row x) (FW size row x) w):=by
 have c1:=h.Jn;obtain⟨C,D,E,n,F⟩:=h.RZ;obtain⟨G,H⟩:=h.lt;have y:=Aa (fun m=>PM b g size nx row _ (h.drewN m));unfold I4 FW;by_cases i:row.length<size
 ·rw[Ai i,Ai i]
  have hd:((row.length:Int)==(size:Int))=false:=by rw[Au];omega
  have K:=Aa (fun m=>PL b g size nx row x _ (h.drewN m) i);clear h n;go_enter func114,ntmps114;go_wp2_with fail;go_quiet((go_at_call 167;exact Za4 (y.out _)))
  go_wp2_with fail;refine(K.out _).mono ?_;rintro e f⟨⟨v,rfl⟩,q,a⟩;go_wp2_with fail;go_ret;exact⟨_,rfl,CF.nil _ _,q,⟨a.os,a.tape,a.output,a.size,a.block⟩⟩
 ·rw[Ah i,Ah i]
  obtain rfl:size=row.length:=by omega
  have hd:((row.length:Int)==(row.length:Int))=true:=by simp
  have z:=Aa (fun m=>Is b g row.length nx row (row.length/2) _ (h.drewN m) (by omega));obtain⟨k,r⟩: ∃k,Hid (k=row.length/2):=⟨_,rfl⟩;have Q:((row.length:Int)).tdiv 2=(k:Int):=by rw[r.out];norm_cast
  have L:(row.length:Int)/2=(k:Int):=by rw[r.out];norm_cast
  have R:k≤256:=by rw[r.out];omega
  rw[←r.out]at z⊢;have hlen:(row.take k).length+ [x].length<100000000:=by simp;omega
  have o:=Aa hlen;have S:=Aa (show w.heap.size≤w.heap.size from Al _);generalize row.take k=l at*
  generalize row.drop k=r' at*
  generalize row.length=size at*
  clear h n hlen i;go_enter func114,ntmps114;go_wp2_with fail;go_quiet((go_at_call 167;exact Za4 (y.out _)))
  go_wp2_with fail;refine(z.out _).mono ?_;rintro e f⟨v,rfl,d,q,a⟩;have c:Hid (CF f w.heap.size v l):=d;have M:Hid (Cv (Sg b g) w f):=⟨a.os,a.tape,a.output,a.size,a.block⟩;have t:=Aa q;have O:w.heap.size≤f.heap.size:=a.size;clear d q a;go_wp2_with(at_builtin;refine Jf underlying22 CY.Dw w.heap.size _ rfl _ _ rfl _ _ _ [x] rfl rfl (c.out.alloc _) (DB.Fc f x) (by simp;omega) o.out ?_;intro T P A;have B:=Aa A;clear A);go_ret;have p:Cv (fun j=>v.ownBlock=Z j) f P:=((Cv.refl _ f).alloc _).grown B.out.2.1 (fun j s=>.inr s);exact⟨_,rfl,B.out.1,t.out.only p (fun j s u=>by have:=(c.out.lt j u).1;rcases s with rfl|rfl<;>omega),M.out.andThen p (fun j s u=>by have:=(c.out.lt j u).1;omega)⟩
end
variable {w:oZ} {b g size:Nat}
theorem Rg.T2{nx:Int}{hd tl:Nat}{F:Nat→Int}(h:Rg w b g size nx hd tl F)(x:Int)(a:0≤x):Rg (w.setCell ⟨b,0,N⟩ (I U x)) b g size x hd tl F:=⟨h.Dp.set 0 _,h.cells.setOther (BT h.ne) _,h.ne,h.Ls,h.hle,h.de,h.Kc,h.FH,a⟩
theorem Rw.T2{nx:Int}{row:List Int}(h:Rw w b g size nx row)(x:Int)(a:0≤x):Rw (w.setCell ⟨b,0,N⟩ (I U x)) b g size x row:=by obtain⟨hd,tl,F,h,c⟩:=h;exact⟨hd,tl,F,h.T2 x a,c⟩
def Ng(nx g:Int)(next:Bool):Int:=if g<1 then nx else if next then g else nx
def Ov(size:Nat)(nx:Int)(row:List Int)(g:Int)(next:Bool):List Int:=if g<1 then row else if next then(if nx=0 then row else I4 size row nx)else I4 size row g
def Mt(size:Nat)(nx:Int)(row:List Int)(g:Int)(next:Bool):List Int:=if g<1 then []else if next then(if nx=0 then []else FW size row nx)else FW size row g
theorem Fq.F5{nx:Int}{row out:List Int}{n:Nat}{e:rB}{w':oZ}(h:Fq b g size nx row out (w.drewN n) e w'):Fq b g size nx row out w e w':=by obtain⟨v,c,d,f,a⟩:=h;exact⟨v,c,d,f,⟨a.os,a.tape,a.output,a.size,a.block⟩⟩
theorem EG(b g size:Nat)(nx:Int)(row:List Int)(x:Int)(next:Bool)(w:oZ)(h:Rw w b g size nx row):re prog 51 #[J (Z ⟨b,0,N⟩),I U x,ry next] w (Fq b g size (Ng nx x next) (Ov size nx row x next) (Mt size nx row x next) w):=by
 unfold Ng Ov Mt;by_cases c:x<1
 ·rw[Ai c,Ai c,Ai c]
  have j:decide (x<1)=true:=by simpa using c
  have p:=Aa h;clear h;go_enter func51,ntmps51;go_wp2;go_ret;exact⟨_,rfl,CF.nil _ _,p.out,Cv.refl _ _⟩
 ·rw[Ah c,Ah c,Ah c]
  have j:decide (x<1)=false:=by simpa using c
  cases next with
  |false=>rw[Ah (by simp),Ah (by simp),Ah (by simp)];have k:=Aa (Hj b g size nx row x w h);clear h;go_enter func51,ntmps51;go_wp2_with fail;refine k.out.mono ?_;rintro e l⟨v,rfl,a,d,f⟩;go_wp2_with fail;go_ret;exact⟨_,rfl,a,d,f⟩
  |true=>
   rw[Ai rfl,Ai rfl,Ai rfl];obtain⟨c0,f0⟩:=h.cell0;have q:=h.lt.1;have n:=Aa (h.T2 x (by omega));have o:Hid (Cv (Sg b g) w (w.setCell ⟨b,0,N⟩ (I U x))):=(Cv.refl (Sg b g) w).set (.inr (.inl rfl)) _ _;by_cases i:nx=0
   ·subst i
    rw[Ai rfl,Ai rfl];clear h;go_enter func51,ntmps51;go_wp2_with fail;go_ret;exact⟨_,rfl,CF.nil _ _,n.out,o.out⟩
   ·rw[Ah i,Ah i]
    have r:(nx==0)=false:=by rw[Au];exact i
    have k:=Aa (Hj b g size x row nx _ n.out);clear h;go_enter func51,ntmps51;go_wp2_with fail;refine k.out.mono ?_;rintro e l⟨v,rfl,a,d,f⟩;have s:Hid (CF l w.heap.size v (FW size row nx)):=by show CF l w.heap.size v (FW size row nx);simpa using a
    have m:=Aa (o.out.trans f);have t:=Aa d;clear a f d;go_wp2_with fail;go_ret;exact⟨_,rfl,s.out,t.out,m.out⟩
def R6(nx:Int)(row:List Int):Int:=if 0<nx then nx else row.headD 0
def KQ(nx:Int)(row:List Int):Bool:=if 0<nx then true else !row.isEmpty
def FA(nx:Int)(row:List Int):List Int:=if 0<nx then row else row.tail
def GD(b g size:Nat)(nx:Int)(row:List Int)(w:oZ)(e:rB)(w':oZ):Prop:=e=rC (.tuple #[I U (R6 nx row),ry (KQ nx row)])∧Rw w' b g size 0 (FA nx row)∧Cv (Sg b g) w w'
theorem Yl(b g size:Nat)(nx:Int)(row:List Int)(w:oZ)(h:Rw w b g size nx row):re prog 196 #[J (Z ⟨b,0,N⟩)] w fun e w'=>e=rC (I U nx)∧w=w':=by obtain⟨hd,tl,F,h,rfl⟩:=h;exact Ek b g size nx hd tl F w h
theorem kZ(b g size:Nat)(nx:Int)(row:List Int)(w:oZ)(h:Rw w b g size nx row):re prog 333 #[J (Z ⟨b,0,N⟩)] w (RW (C3 nx row).length w):=by obtain⟨hd,tl,F,h,rfl⟩:=h;exact DT b g size nx hd tl F w h
theorem FU(b g size:Nat)(nx:Int)(row:List Int)(w:oZ)(h:Rw w b g size nx row):re prog 241 #[J (Z ⟨b,0,N⟩)] w (GD b g size nx row w):=by
 have j:=Aa (Yl b g size nx row w h);have o:=Aa (T1 b g size nx row w h);obtain⟨q,s,t,u,y⟩:=h.RZ;unfold GD R6 KQ FA;by_cases d:0<nx
 ·rw[Ai d,Ai d,Ai d]
  have z:decide (0<nx)=true:=by simpa using d
  obtain⟨c0,f0⟩:=h.cell0;have A:=h.lt.1;have B:=Aa (h.T2 0 (by omega));clear h;go_enter func241,ntmps241;go_wp2_with fail;refine j.out.mono ?_;rintro e a⟨rfl,rfl⟩;go_wp2_with fail;go_ret2;exact⟨rfl,B.out,(Cv.refl (Sg b g) w).set (.inr (.inl rfl)) _ _⟩
 ·rw[Ah d,Ah d,Ah d]
  obtain rfl:nx=0:=by omega
  cases row with
  |nil=>have C:=Aa h;clear h;go_enter func241,ntmps241;go_wp2_with fail;refine j.out.mono ?_;rintro e a⟨rfl,rfl⟩;go_wp2_with fail;refine o.out.mono ?_;rintro e a⟨rfl,n,rfl⟩;go_wp2_with fail;go_ret2;exact⟨rfl,C.out.drewN n,(Cv.refl _ _).drewN n⟩
  |cons x r=>
   have H:(((x::r).length:Int)==0)=false:=by rw[Au];simp;omega
   have D:=Aa (fun m=>Is b g size 0 (x::r) 1 _ (h.drewN m) (by simp));generalize(x::r).length=len at*
   clear h;go_enter func241,ntmps241;go_wp2_with fail;refine j.out.mono ?_;rintro e a⟨rfl,rfl⟩;go_wp2_with fail;refine o.out.mono ?_;rintro e a⟨rfl,n,rfl⟩;go_wp2_with fail;refine(D.out n).mono ?_;rintro e a⟨v,rfl,c,p,f⟩;obtain⟨i,cap,rfl,E⟩: ∃i cap,v=Y (Z ⟨i,0,N⟩) 1 cap∧a.cell? ⟨i,0,N⟩=Z (I U x):=by
    rcases c.open with⟨_,k⟩|⟨i,cap,k,_,_,_,F⟩
    ·simp at k
    ·exact⟨i,cap,by simpa using k,by simpa using F 0 (by simp)⟩
   have l:Hid (Rw a b g size 0 r):=by show Rw a b g size 0 r;simpa using p
   have G:Hid (Cv (Sg b g) w a):=⟨f.os,f.tape,f.output,f.size,f.block⟩;clear c p f;go_wp2_with fail;go_ret2;exact⟨rfl,l.out,G.out⟩
def Ex(nx:Int)(row:List Int):Int:=if row=[]then 0 else nx
def IA(nx:Int)(row:List Int):List Int:=if row=[]then C3 nx []else row.take (row.length-row.length/2)
def EM(row:List Int):List Int:=row.drop (row.length-row.length/2)
theorem Ym(b g size:Nat)(nx:Int)(row:List Int)(w:oZ)(h:Rw w b g size nx row):re prog 246 #[J (Z ⟨b,0,N⟩)] w (Fq b g size (Ex nx row) (EM row) (IA nx row) w):=by
 have t:=Aa (T1 b g size nx row w h);obtain⟨x,y,z,A,B⟩:=h.RZ;unfold Ex IA EM;by_cases o:row=[]
 ·subst o
  rw[Ai rfl,Ai rfl];have p:=Aa (fun m=>FU b g size nx [] _ (h.drewN m));clear h;unfold GD R6 KQ FA at p;by_cases d:0<nx
  ·rw[Ai d,Ai d,Ai d]at p
   have a:C3 nx []=[nx]:=by simp[C3,d]
   rw[a];clear a;go_enter func246,ntmps246;go_wp2_with fail;refine t.out.mono ?_;rintro e f⟨rfl,n,rfl⟩;go_wp2_with fail;refine(p.out n).mono ?_;rintro e f⟨rfl,i,c⟩;have j:=Aa i;have r:Hid (Cv (Sg b g) w f):=⟨c.os,c.tape,c.output,c.size,c.block⟩;clear i c;go_wp2_with fail;go_ret;exact⟨_,rfl,(CF.new (w:=f) (l:=[nx]) (by simp[maxLen])).mono r.out.size,j.out.below (Ct (rf _ _) _),r.out.alloc _⟩
  ·rw[Ah d,Ah d,Ah d]at p
   have a:C3 nx []=[]:=by simp[C3,d]
   rw[a];clear a;go_enter func246,ntmps246;go_wp2_with fail;refine t.out.mono ?_;rintro e f⟨rfl,n,rfl⟩;go_wp2_with fail;refine(p.out n).mono ?_;rintro e f⟨rfl,i,c⟩;have j:=Aa i;have r:Hid (Cv (Sg b g) w f):=⟨c.os,c.tape,c.output,c.size,c.block⟩;clear i c;go_wp2_with fail;go_ret;exact⟨_,rfl,CF.nil _ _,j.out,r.out⟩
 ·rw[Ah o,Ah o]
  have C:0<row.length:=Ci.2 o;have hd:decide ((0:Int)<(row.length:Int))=true:=by simp;omega
  obtain⟨k,s⟩: ∃k,Hid (k=row.length-row.length/2):=⟨_,rfl⟩;have G:(row.length:Int)-(row.length:Int)/2=(k:Int):=by rw[s.out];omega
  have D:k≤row.length:=by rw[s.out];omega
  have E:=Aa (fun m=>Is b g size nx row k _ (h.drewN m) D);rw[←s.out];generalize row.take k=l at*
  generalize row.drop k=r' at*
  generalize row.length=len at*
  clear h o s;go_enter func246,ntmps246;go_wp2_with fail;refine t.out.mono ?_;rintro e f⟨rfl,n,rfl⟩;go_wp2_with fail;refine(E.out n).mono ?_;rintro e f u;have F:=u.F5;obtain⟨v,rfl,q,i,c⟩:=F;clear u;go_wp2_with fail;go_ret;exact⟨_,rfl,q,i,c⟩
def D9(L:List Int)(w:oZ)(e:rB)(w':oZ):Prop:= ∃v,e=rC v∧CF w' w.heap.size v L∧qZ w.heap.size w w'
theorem Kb(b g size:Nat)(nx:Int)(row:List Int)(w:oZ)(h:Rw w b g size nx row):re prog 125 #[J (Z ⟨b,0,N⟩)] w (D9 (C3 nx row) w):=by
 have K:=Aa (Yl b g size nx row w h);have c:=Aa (fun o M=>T1 b g size nx row o (h.below (w':=o) M));obtain⟨hd,tl,F,h,rfl⟩:=h;have W:=h.Ls;have X:=h.hle;have h3:=h.de;have h4:=h.FH;have h5:=h.Kc;have O:=h.Dp.lt;have P:=h.cells.lt;have Q:=Aa h;rw[EC]at c;clear h;obtain⟨n,d⟩: ∃n,Hid (n=tl-hd):=⟨_,rfl⟩;rw[←d.out]at c;have hn:n≤256:=by rw[d.out];omega
 have R:n≤size:=by rw[d.out];omega
 by_cases A:0<nx
 case' pos=>
  have D:decide (0<nx)=true:=by simpa using A
  go_enter func125,ntmps125;go_wp2_with fail;refine K.out.mono ?_;rintro e o⟨rfl,rfl⟩;go_wp2_with(at_builtin;refine Jf underlying22 CY.Dw w.heap.size _ rfl _ _ rfl (Y N 0 0) [] _ [nx] rfl rfl (CF.nil _ _) (DB.Fc w nx) (by simp) (by simp) ?_;intro L B s;have t:=Aa s;clear s);have q:qZ w.heap.size w B:=CI (Ct (rf _ _) _) t.out.2.1 (fun j E=>by simp[ru]at E);refine(c.out _ q).mono ?_;rintro e o⟨rfl,m,rfl⟩;obtain⟨p,u⟩: ∃p:List Int,Hid ((∀l,C3 nx l=p++l)∧p.length≤1∧CF (B.drewN m) w.heap.size L p∧qZ w.heap.size w (B.drewN m)):=⟨[nx],fun l=>by simp[C3,A],Al _,t.out.1.drewN m,BX q m⟩;clear t q
 case' neg=>
  have D:decide (0<nx)=false:=by simpa using A
  go_enter func125,ntmps125;go_wp2_with fail;refine K.out.mono ?_;rintro e o⟨rfl,rfl⟩;go_wp2_with fail;refine(c.out _ (rf _ _)).mono ?_;rintro e o⟨rfl,m,rfl⟩;obtain⟨p,u⟩: ∃p:List Int,Hid ((∀l,C3 nx l=p++l)∧p.length≤1∧CF (w.drewN m) w.heap.size (Y N 0 0) p∧qZ w.heap.size w (w.drewN m)):=⟨[],fun l=>by simp[C3,A],Ap _,CF.nil _ _,BX (rf _ _) m⟩
 all_goals
  go_wp2_with fail;go_loopw [2,15] (fun v i wr=> ∃k:Nat,k≤n∧i=I U k∧CF wr w.heap.size v (p++(ET size hd tl F).take k)∧qZ w.heap.size w wr) (fun _ i _=>n-(intOf i).toNat)
  case atStart=>exact⟨0,Ap _,rfl,by simpa using u.out.2.2.1,u.out.2.2.2⟩
  case round=>
   obtain⟨k,hk,rfl,a,r⟩:=hrel;have y:=Q.out.below r;have S:=r.size;by_cases G:k<n
   ·have T:=Aa (Ny size hd tl F k (by rw[←d.out];exact G))
    have hm:(hd+k)%size<size:=Zbn _ (by omega);have cx:=y.cells.cell hm;have hlen:(p++(ET size hd tl F).take k).length+ [F ((hd+k)%size)].length<100000000:=by have:=u.out.2.1;simp[EC];omega
    have f:=Aa hlen;have t:=Aa (RY b g size nx hd tl F k wr y (by omega));obtain⟨l,z⟩: ∃l,Hid (l=p++(ET size hd tl F).take k):=⟨_,rfl⟩;rw[←z.out]at a f;generalize(hd+k)%size=j at*
    generalize F j=x at*
    have C:=Aa a;have V:=Aa y;have H:=Aa r;clear hlen a y r;go_wp2_with fail;refine t.out.mono ?_;rintro e o⟨rfl,m',rfl⟩;go_wp2_with(at_builtin;refine Jf underlying22 CY.Dw w.heap.size _ rfl _ _ rfl _ _ _ [x] rfl rfl ((C.out.drewN m').alloc _) (DB.Fc (wr.drewN m') x) (by simp;omega) f.out ?_;intro L B s);go_roundw
    case rel=>exact⟨k+1,by omega,by go_num,by rw[T.out,←AR,←z.out];exact s.1,CI (Ct (BX H.out m') _) s.2.1 (fun j E=>(C.out.lt j E).1)⟩
    case measure=>simp[intOf];omega
   ·obtain rfl:k=n:=by omega
    have H:=Aa r;have C:Hid (CF wr w.heap.size u2 (C3 nx (ET size hd tl F))):=by show CF wr w.heap.size u2 (C3 nx (ET size hd tl F));rw[u.out.1];rwa [AU (by rw[EC,←d.out];exact Al _)]at a
    clear y r a;go_wp2_with fail;go_ret;exact⟨_,rfl,C.out,H.out⟩
theorem Nz(b g size:Nat)(nx:Int)(row:List Int)(w:oZ)(h:Rw w b g size nx row):re prog 300 #[J (Z ⟨b,0,N⟩)] w (Fq b g size 0 [] (C3 nx row) w):=by have m:=Aa (Kb b g size nx row w h);have n:=Aa h;have o:=h.lt;clear h;go_enter func300,ntmps300;go_wp2_with fail;refine m.out.mono ?_;rintro e f⟨v,rfl,c,i⟩;have d:=Aa c;have p:=Aa i;have a:=n.out.below i;have k:=a.lt.1;obtain⟨hd,tl,F,a,q⟩:=a;have c0:=a.cell0;have t:=a.T0;have c3:=a.Yj;have f0:=a.Dp.free 0;have f2:=a.Dp.free 2;have f3:=a.Dp.free 3;have r:Hid (Rg (((f.setCell ⟨b,0,N⟩ (I U 0)).setCell ⟨b,2,N⟩ (.int .u32 0)).setCell ⟨b,3,N⟩ (.int .u32 0)) b g size 0 0 0 F):=⟨((a.Dp.set 0 _).set 2 _).set 3 _,((a.cells.setOther (BT a.ne) _).setOther (BT a.ne) _).setOther (BT a.ne) _,a.ne,by have:=a.Kc;omega,Al _,by omega,a.Kc,a.FH,Zag _⟩;clear c i a q;go_wp2_with fail;go_ret;have l:Cv (Sg b g) f (((f.setCell ⟨b,0,N⟩ (I U 0)).setCell ⟨b,2,N⟩ (.int .u32 0)).setCell ⟨b,3,N⟩ (.int .u32 0)):=(((Cv.refl (Sg b g) f).set (.inr (.inl rfl)) _ _).set (.inr (.inl rfl)) _ _).set (.inr (.inl rfl)) _ _;exact⟨_,rfl,d.out.only l (fun j u s=>by rcases s with rfl|rfl<;>omega),⟨0,0,F,r.out,by simp[ET]⟩,((Cv.refl (Sg b g) w).below p.out).trans l⟩
theorem Mu(m:Nat)(hm:m≤100000)(w:oZ):(Instr.makeSlice 22 (I U (m:Int)) (I U (m:Int))).run prog w= .ok (Y (Z ⟨w.heap.size,0,N⟩) m m) (w.alloc (.cells (madeCells #[I U 0] m) 3)):=run_make_row' 22 3 (I U 0) 8 underlying22 CY.Dw rfl .i64 .i64 m (by omega) (by omega) w
def LV(n:Int):Prop:=n<2∨256<n∨n%2=1
instance (n:Int):Decidable (LV n):=by unfold LV;infer_instance
def LW(m:Nat)(w:oZ)(e:rB)(w':oZ):Prop:=e=rC (J (Z ⟨w.heap.size+1,0,N⟩))∧Rw w' (w.heap.size+1) w.heap.size m 0 []∧qZ w.heap.size w w'
theorem Fu(m:Nat)(w:oZ)(h: ¬LV m):re prog 165 #[I U m] w (LW m w):=by
 unfold LV at h;have a:2≤m:=by omega
 have b:m≤256:=by omega
 have c:decide ((m:Int)<2)=false:=by simp;omega
 have d:decide ((256:Int)<(m:Int))=false:=by simp;omega
 have e:((m:Int)%2==1)=false:=by rw[Au];omega
 have f:=Mu m (by omega);clear h;go_enter func165,ntmps165;go_wp2;go_ret;refine⟨by simp,⟨0,0,fun _=>0,⟨Cx.Iq _ _ (by simp),(Dv.made w m 3 (I U 0)).alloc _,by omega,by omega,Al _,by omega,a,b,Zag _⟩,by simp[ET]⟩,Ct (Ct (rf _ _) _) _⟩
end Go.Proofs.YtgadhchejmlfjaaGreatDoor.Ring
namespace Go.CL
open Go.RowKit
theorem DB.ld{S:Nat→Prop}{w w':oZ}{v:qY}{l:List Int}(h:DB w v l)(k:Cv S w w')(c:l≠[]→H4 S v):DB w' v l:=by
 by_cases b:l=[]
 ·obtain⟨a,cap,d,e,hm,_⟩:=h
  exact⟨a,cap,d,e,hm,.inl b⟩
 ·exact h.only k (c b)
end Go.CL
namespace Go.Proofs.YtgadhchejmlfjaaGreatDoor.Ring
open Go.Proofs.Tryz Go.RowKit Go.CL
theorem D0(u:qY)(l:List Int)(w:oZ)(h:DB w u l)(v:l.length<10000000):re prog 288 #[u] w (D9 l w):=by
 have hlen:([]:List Int).length+l.length<100000000:=by simp;omega
 have d:=Aa hlen;have i:=Aa h;have k:=fun(w:oZ)(a:Option Addr)(n c o p:Nat)=>Zam (P:=prog) w 22 3 a n c o p underlying22;clear hlen;rcases h.open with⟨rfl,rfl⟩|⟨x,cap,rfl,rfl⟩|⟨y,off,cap,rfl,q,m,r,b⟩
 ·clear h
  go_enter func288,ntmps288;go_wp2;go_ret;exact⟨_,rfl,CF.nil _ _,rf _ _⟩
 ·clear h
  go_enter func288,ntmps288;go_wp2_with(at_builtin;refine Jf underlying22 CY.Dw w.heap.size _ rfl _ _ rfl _ [] _ [] rfl rfl (CF.new (w:=w) (l:=[]) (by simp)) (i.out.alloc _) (by simp) (by simp) ?_;intro s t e;have f:=Aa e;clear e);go_ret;exact⟨_,rfl,f.out.1,CI (Ct (rf _ _) _) f.out.2.1 (fun j g=>by simp[Act.eval,ru]at g;omega)⟩
 ·clear h b
  go_enter func288,ntmps288;go_wp2_with(at_builtin;refine Jf underlying22 CY.Dw w.heap.size _ rfl _ _ rfl _ [] _ l rfl rfl (CF.new (w:=w) (l:=[]) (by simp)) (i.out.alloc _) (by simp) d.out ?_;intro s t e;have f:=Aa e;clear e);go_ret;exact⟨_,rfl,f.out.1,CI (Ct (rf _ _) _) f.out.2.1 (fun j g=>by simp[Act.eval,ru]at g;omega)⟩
theorem T3(x:Int)(w:oZ):re prog 287 #[I U x] w fun e w'=>e=rC (ry (decide (x<1)))∧w=w':=by go_enter func287,ntmps287;go_wp2;go_ret;exact⟨rfl,rfl⟩
def dj(l:List Int)(w:oZ)(e:rB)(w':oZ):Prop:= ∃k:Int,e=rC (I U k)∧w=w'∧(decide (0≤k)=l.any (fun x=>decide (x<1)))
theorem Yn(l:List Int)(k:Nat)(h:k<l.length):(l.take (k+1)).any (fun x=>decide (x<1))=((l.take k).any (fun x=>decide (x<1))||decide (l[k]?.getD 0<1)):=by rw[A8 h,List.any_append];simp[h]
theorem PN(l:List Int)(k:Nat)(h:(l.take k).any (fun x=>decide (x<1))=true):l.any (fun x=>decide (x<1))=true:=by rw[List.any_eq_true]at h⊢;obtain⟨x,a,h⟩:=h;exact⟨x,Zaq a,h⟩
theorem Ox(u:qY)(l:List Int)(w:oZ)(h:DB w u l)(r:l.length<10000000):re prog 219 #[u,.func (.func 287) #[] #[]] w (dj l w):=by
 obtain⟨a,cap,rfl⟩:=h.len;have o:=Aa h;clear h;go_enter func219,ntmps219;go_wp2;go_loop [8] (fun i=> ∃k:Nat,k≤l.length∧i=I U k∧Hid ((l.take k).any (fun x=>decide (x<1))=false)) (fun i=>l.length-(intOf i).toNat)
 case atStart=>exact⟨0,Ap _,rfl,by show _=_;simp⟩
 case round=>
  obtain⟨k,s,rfl,f⟩:=hrel;by_cases c:k<l.length
  ·rcases o.out.open with⟨_,g⟩|⟨_,_,_,g⟩|⟨t,off,j,he,_,_,p,b⟩
   ·simp[g]at c
   ·simp[g]at c
   simp only[Ar]at he;obtain⟨rfl,_,rfl⟩:=he;have v:=b k c;have m:=Aa (Yn l k c);have q:=Aa (PN l (k+1));generalize l[k]?.getD 0=x at*
   clear b;by_cases n:x<1
   ·have d:decide (x<1)=true:=by simpa using n
    go_wp2_with(go_at_call 287;refine(T3 _ _).mono ?_;rintro e w'⟨rfl,rfl⟩);go_ret;exact⟨k,rfl,rfl,by rw[q.out (by rw[m.out,d];simp)];simp⟩
   ·have d:decide (x<1)=false:=by simpa using n
    go_wp2_with(go_at_call 287;refine(T3 _ _).mono ?_;rintro e w'⟨rfl,rfl⟩);go_round
    case rel=>exact⟨k+1,by omega,by go_num,by show _=_;rw[m.out,f.out,d];rfl⟩
    case measure=>simp[intOf];omega
  ·obtain rfl:k=l.length:=by omega
   rw[BJ]at f;go_wp2;go_ret;exact⟨-1,rfl,rfl,by rw[f.out];rfl⟩
theorem Oy(u:qY)(l:List Int)(w:oZ)(h:DB w u l)(b:l.length<10000000):re prog 150 #[u,.func (.func 287) #[] #[]] w fun e w'=>e=rC (ry (l.any (fun x=>decide (x<1))))∧w=w':=by have c:=Aa (Ox u l w h b);clear h;go_enter func150,ntmps150;go_wp2_with fail;refine c.out.mono ?_;rintro e f⟨k,rfl,rfl,a⟩;have d:=Aa a;clear a;go_wp2_with fail;go_ret;exact⟨XI d.out,rfl⟩
def Jo(size:Nat)(row l:List Int):List Int:=if l.any (fun x=>decide (x<1))then row else row++l.take (size-row.length)
def Ia(size:Nat)(row l:List Int):List Int:=if l.any (fun x=>decide (x<1))then []else l.drop (size-row.length)
theorem Vw(l:List Int)(k:Nat)(h:k<l.length):l.take (k+1)=l.take k++[l[k]?.getD 0]:=by rw[A8 h];simp[h]
theorem Yo(b g size:Nat)(nx:Int)(row:List Int)(u:qY)(l:List Int)(w:oZ)(h:Rw w b g size nx row)(hu:DB w u l)(T:l≠[]→H4 (Sg b g) u)(hl:l.length<10000000):re prog 244 #[J (Z ⟨b,0,N⟩),u] w (Fq b g size nx (Jo size row l) (Ia size row l) w):=by
 have G:=Aa (Oy u l w hu hl);obtain⟨a,cap,rfl⟩:=hu.len;have HU:=Aa hu;have HO:=Aa T;obtain⟨aa,ab,ad,ae,af⟩:=h.RZ;have V:=Aa h;unfold Jo Ia;clear hu T h;by_cases q:l.any (fun x=>decide (x<1))=true
 ·rw[Ai q,Ai q]
  rw[q]at G;clear q;go_enter func244,ntmps244;go_wp2;go_step3;go_wp2_with fail;refine G.out.mono ?_;rintro e w1⟨rfl,rfl⟩;go_wp2_with fail;rw[Bp];go_ret;exact⟨_,rfl,CF.nil _ _,V.out,Cv.refl _ _⟩
 ·rw[Ah q,Ah q]
  rw[Bool.not_eq_true]at q;rw[q]at G;clear q;go_enter func244,ntmps244;go_wp2;go_step3;go_wp2_with fail;refine G.out.mono ?_;rintro e w1⟨rfl,rfl⟩;go_wp2_with fail;go_step3;go_wp2_with fail;go_loopw [18] (fun i wr=> ∃k:Nat,k≤l.length∧row.length+k≤size∧i=I U k∧Rw wr b g size nx (row++l.take k)∧Cv (Sg b g) w wr) (fun i _=>l.length-(intOf i).toNat)
  case atStart=>exact⟨0,Ap _,by omega,rfl,by simpa using V.out,Cv.refl _ _⟩
  case round=>
   obtain⟨k,hk,K,rfl,r,z⟩:=hrel;by_cases s:k<l.length
   ·have t:=HU.out.ld z HO.out
    have L:=Aa t;rcases t.open with⟨_,M⟩|⟨_,_,_,M⟩|⟨bu,off,C,he,_,W,ag,c⟩
    ·simp[M]at s
    ·simp[M]at s
    simp only[Ar]at he;obtain⟨rfl,_,rfl⟩:=he;have cu:=c k s;have O:=Aa (Vw l k s);have d:(row++l.take k).length=row.length+k:=by simp;omega
    have f:=Aa (fun m=>PM b g size nx _ _ (r.drewN m));rw[d]at f;have c1:=r.Jn;generalize l[k]?.getD 0=x at*
    obtain⟨p,D⟩: ∃p,Hid (p=row.length+k):=⟨_,rfl⟩;rw[←D.out]at f;have ah:p≤size:=by rw[D.out];exact K
    by_cases o:p=size
    ·have hd:((p:Int)==(size:Int))=true:=by simp[o]
     have X:Hid (k=size-row.length):=by have:=D.out;show k=size-row.length;omega
     have P:=Aa r;have j:=Aa z;have Q:=Aa (L.out.drop (F6:=cap-k) k (by omega) rfl (by omega));have ai:(k:Int)≤(l.length:Int):=by omega
     have aj:(k:Int)≤(cap:Int):=by omega
     clear c t d r z o;go_wp2_with fail;go_quiet((go_at_call 167;exact Za4 (f.out _)))
     go_wp2_with fail;refine(D0 _ (l.drop k) _ (Q.out.drewN _) (by simp;omega)).mono ?_;rintro e H⟨v,rfl,y,B⟩;have E:Hid (CF H wr.heap.size v (l.drop k)):=y;have HB:Hid (qZ wr.heap.size wr H):=⟨B.os,B.tape,B.output,B.size,B.block⟩;clear y B;go_wp2_with fail;rw[Bp];go_ret;exact⟨_,rfl,by rw[←X.out];exact E.out.mono j.out.size,by rw[←X.out];exact P.out.below HB.out,j.out.below HB.out⟩
    ·have hd:((p:Int)==(size:Int))=false:=by rw[Au];omega
     have A:=Aa (fun m=>PL b g size nx _ x _ (r.drewN m) (by rw[d,←D.out];omega));have j:=Aa z;clear c t d r z;go_wp2_with fail;go_quiet((go_at_call 167;exact Za4 (f.out _)))
     go_wp2_with fail;refine(A.out _).mono ?_;rintro e H⟨⟨v,rfl⟩,F,n⟩;have R:Hid (Cv (Sg b g) wr H):=⟨n.os,n.tape,n.output,n.size,n.block⟩;have S:=Aa F;clear F n;go_wp2_with fail;go_roundw
     case rel=>exact⟨k+1,by omega,by have:=D.out;omega,by go_num,by rw[O.out,←AR];exact S.out,j.out.trans R.out⟩
     case measure=>simp[intOf];omega
   ·obtain rfl:k=l.length:=by omega
    rw[BJ]at r;have P:=Aa r;have j:=Aa z;have O:Hid (l.take (size-row.length)=l):=AU (by omega);have HD:Hid (l.drop (size-row.length)=[]):=Zbi (by omega);clear r z;go_wp2_with fail;rw[Bp];go_ret;exact⟨_,rfl,by rw[HD.out];exact CF.nil _ _,by rw[O.out];exact P.out,j.out⟩
end Go.Proofs.YtgadhchejmlfjaaGreatDoor.Ring
