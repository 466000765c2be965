/- A part of the proof. -/
import Derived.Test.YtgadhchejmlfjaaGreatDoorB2
set_option linter.unusedVariables false
set_option maxRecDepth 20000
set_option maxHeartbeats 16000000
open Go.Value renaming int→I,pointer→J,slice→Y
open Go.IntKind renaming i64→U
open Option renaming none→N,some→Z
open Bool renaming false→rm,true→rq
open Go renaming Calls→re,Value→qY,World→oZ
open Go.Ending renaming returned→rC
open Go.Obj renaming cells→rD
open Go.RowKit renaming Below→qZ
open Go.RowKit.Below renaming refl→rf
open Go.Value renaming bool→ry
namespace Go.Proofs.YtgadhchejmlfjaaGreatDoor.nz
open Go.Proofs.Tryz Go.RowKit Go.CL
open CX (Dq Hq)
variable {w w1:oZ} {v1 v2 v':qY} {gl il:List Int}
structure Pl (w:oZ) (P:Nat) (v1 v2:qY) (gl il:List Int):Prop where
 Dp:Cx w P #[v1,v2] 367
 KY:CF w (P+1) v1 gl
 Ji:CF w (P+1) v2 il
 ne: ∀j,v1.ownBlock=Z j→v2.ownBlock≠Z j
theorem Pl.nil(w:oZ):Pl (w.alloc (rD #[Y N 0 0,Y N 0 0] 367)) w.heap.size (Y N 0 0) (Y N 0 0) [] []:=⟨Cx.new w _ 367,CF.nil _ _,CF.nil _ _,by simp[Value.ownBlock]⟩
theorem Pl.iB{P:Nat}{x:Int}{o:Obj}(h:Pl w P v1 v2 gl il)(b:Ju (w.alloc o) (P+1) v1 gl [x] v' w1):w1.cell? ⟨P,0,N⟩=Z v1∧w1.frozen? ⟨P,0,N⟩=rm∧Pl (w1.setCell ⟨P,0,N⟩ v') P v' v2 (gl++[x]) il∧ ∀B,B≤P→qZ B w (w1.setCell ⟨P,0,N⟩ v'):=by
 have d:v1.ownBlock≠Z P:=fun e=>by have:=(h.KY.lt P e).1;omega
 have f:v2.ownBlock≠Z P:=fun e=>by have:=(h.Ji.lt P e).1;omega
 have g:=(h.Dp.alloc o).kept b.2.1 (fun e=>d e.symm);have i: ∀j,v'.ownBlock=Z j→j≠P:=fun j a e=>by have:=(b.1.lt j a).1;omega
 refine⟨g.cell 0,g.free 0,⟨g.set 0 v',?_,?_,fun j a c=>?_⟩,fun B q=>?_⟩
 ·exact b.1.off ((Cv.refl (fun j=>j=P) w1).set (.inr rfl) _ _) (fun j a e=>i j a e)
 ·have l:CF w1 (P+1) v2 il:=(h.Ji.below (Ct (rf _ _) o)).kept b.2.1 (by
   cases n:v2.ownBlock with
   |none=>exact .inl rfl
   |some j=>exact .inr (fun e=>h.ne j e.symm n))
  exact l.off ((Cv.refl (fun j=>j=P) w1).set (.inr rfl) _ _) (fun j a e=>f (by rw[a,show j=P from e]))
 ·rcases b.2.2 j a with m|m
  ·exact h.ne j m c
  ·have:=(h.Ji.lt j c).2;simp at m;omega
 ·have r:=h.Dp.lt
  refine Zbr (Below.grown ((rf B w).alloc (by omega) o) b.2.1 (by simp;omega) (fun k p=>by have:=(h.KY.lt k p).1;omega)) (by omega) _
theorem Pl.lI{P:Nat}{x:Int}{o:Obj}(h:Pl w P v1 v2 gl il)(b:Ju (w.alloc o) (P+1) v2 il [x] v' w1):w1.cell? ⟨P,1,N⟩=Z v2∧w1.frozen? ⟨P,1,N⟩=rm∧Pl (w1.setCell ⟨P,1,N⟩ v') P v1 v' gl (il++[x])∧ ∀B,B≤P→qZ B w (w1.setCell ⟨P,1,N⟩ v'):=by
 have c:v1.ownBlock≠Z P:=fun e=>by have:=(h.KY.lt P e).1;omega
 have d:v2.ownBlock≠Z P:=fun e=>by have:=(h.Ji.lt P e).1;omega
 have f:=(h.Dp.alloc o).kept b.2.1 (fun e=>d e.symm);have g: ∀j,v'.ownBlock=Z j→j≠P:=fun j a e=>by have:=(b.1.lt j a).1;omega
 refine⟨f.cell 1,f.free 1,⟨f.set 1 v',?_,?_,fun j a i=>?_⟩,fun B q=>?_⟩
 ·have l:CF w1 (P+1) v1 gl:=(h.KY.below (Ct (rf _ _) o)).kept b.2.1 (by
   cases n:v1.ownBlock with
   |none=>exact .inl rfl
   |some j=>exact .inr (fun e=>h.ne j n e.symm))
  exact l.off ((Cv.refl (fun j=>j=P) w1).set (.inr rfl) _ _) (fun j a e=>c (by rw[a,show j=P from e]))
 ·exact b.1.off ((Cv.refl (fun j=>j=P) w1).set (.inr rfl) _ _) (fun j a e=>g j a e)
 ·rcases b.2.2 j i with m|m
  ·exact h.ne j a m
  ·have:=(h.KY.lt j a).2;simp at m;omega
 ·have r:=h.Dp.lt
  refine Zbr (Below.grown ((rf B w).alloc (by omega) o) b.2.1 (by simp;omega) (fun k p=>by have:=(h.Ji.lt k p).1;omega)) (by omega) _
def Zc(L:List Int×List Int)(w:oZ)(e:Ending)(w':oZ):Prop:= ∃v1 v2,e=rC (.agg #[v1,v2])∧CF w' w.heap.size v1 L.1∧CF w' w.heap.size v2 L.2∧qZ w.heap.size w w'
structure ou (me MM:Int) (u:qY) (waits:List Int) (w:oZ) (q:Nat) (m:Int) (v1 v2:qY) (gl il:List Int) (wr:oZ):Prop where
 jo:q≤waits.length
 pl:Pl wr w.heap.size v1 v2 gl il
 bl:qZ w.heap.size w wr
 ov:m≤MM∧(0≤m∨m=MM)
 lens:gl.length+il.length≤q
 eq:Hq waits me MM=(gl++(Dq me (waits.drop q) q m).1,il++(Dq me (waits.drop q) q m).2)
def WR(me a:Int)(u:qY)(waits:List Int)(w:oZ)(t2 t12:qY)(wr:oZ):Prop:= ∃(q:Nat)(m:Int)(v1 v2:qY)(gl il:List Int),t12=I U q∧t2=I U m∧ou me a u waits w q m v1 v2 gl il wr
theorem LB(me:Int)(n:Int)(r:List Int)(i:Nat)(m:Int):Dq me (n::r) i m=if(i:Int)=me then Dq me r (i+1) m else if 0<n∧0<m then((i:Int)::(Dq me r (i+1) (m-1)).1,(Dq me r (i+1) (m-1)).2)else((Dq me r (i+1) m).1,(i:Int)::(Dq me r (i+1) m).2):=by rw[Dq]
theorem jr{W:oZ}{b:Nat}{u0 u1:qY}{tmps:Array qY}{Q:Ending→oZ→Prop}(h:Cx W b #[u0,u1] 367)(c:tmps[6]?.getD undef=J (Z ⟨b,0,N⟩))(d:Q (rC (.agg #[u0,u1])) W):bodyPost prog f297 Q Exit.ret {tmps:=tmps,defers:=[]} W:=by have a:=h.cell 0;have k1:=h.cell 1;simp only[Ad,Ag,Ac]at a k1;exact AG (v:=.agg #[u0,u1]) (by simp[results,results297,go_sem,c,a,k1]) rfl d
theorem VV(u:qY)(waits:List Int)(me b:Int)(w:oZ)(hu:DB w u waits)(hl:waits.length≤100000)(hm:b≤9223372036854775807):re prog 297 #[u,I U me,I U b] w (Zc (Hq waits me b) w):=by
 obtain⟨a,cap,rfl⟩:=hu.len;have W:=Aa hu;have X:=Aa hm;clear hu hm;go_enter func297,ntmps297;go_wp2;go_loopw [2,12] (fun t2 t12 wr=>WR me b (.slice a waits.length cap) waits w t2 t12 wr) (fun _ t _=>waits.length-(intOf t).toNat)
 case atStart=>exact⟨0,b,_,_,[],[],rfl,rfl,Ap _,Pl.nil w,Ct (rf _ _) _,⟨Zag _,.inr rfl⟩,Al _,by simp[Hq]⟩
 case round=>
  obtain⟨q,m,v1,v2,gl,il,rfl,rfl,hrel⟩:=hrel;have d:=hrel.pl;by_cases l:q<waits.length
  ·have B:=W.out.below hrel.bl
   rcases B.open with⟨_,G⟩|⟨_,_,_,G⟩|⟨bu,off,R,he,_,_,aa,i⟩
   ·simp[G]at l
   ·simp[G]at l
   simp only[Ar]at he;obtain⟨rfl,_,rfl⟩:=he;have cu:=i q l;have heq:=hrel.eq;rw[A0 l,LB]at heq;rw[show waits[q]?.getD 0=waits[q] by rw[Ae l];rfl]at cu;clear i B;generalize waits[q]=n at*
   obtain⟨H,c1,rfl⟩:=CY.Dh d.KY;obtain⟨a2,K,rfl⟩:=CY.Dh d.Ji;have L:=d.Dp.lt;have p0:=d.Dp.cell 0;have E:=d.Dp.cell 1;have C:=d.Dp.free 0;have D:=d.Dp.free 1;simp only[Ad,Ac,Ag]at p0 E;have hlen:=hrel.lens;have ab:(q:Int)<(waits.length:Int):=by omega
   have nP: ¬w.heap.size=wr.heap.size:=by omega
   have z:=hrel.ov;have F:=Aa hrel;have k:=Aa d;clear hrel d;by_cases c:(q:Int)=me
   ·rw[Ai c]at heq
    have hd:((q:Int)==me)=true:=by simpa using c
    have y:=Aa heq;clear c heq;go_wp2;go_roundw
    case rel=>exact⟨q+1,m,_,_,gl,il,by go_num,rfl,by omega,k.out,F.out.bl,z,by omega,y.out⟩
    case measure=>simp[intOf];omega
   ·rw[Ah c]at heq
    have hd:((q:Int)==me)=false:=by simpa using c
    clear c;by_cases A:0<n
    ·have M:decide (0<n)=true:=by simpa using A
     by_cases o:0<m
     ·rw[Ai ⟨A,o⟩]at heq
      have P:decide (0<m)=true:=by simpa using o
      have e1:wrap64 (m-1)=m-1:=IntWalk.wrap64_in _ (by have:=X.out;omega);have y:=Aa heq;have f:gl.length+ [(q:Int)].length<100000000:=by simp;omega
      have p:=Aa f;clear heq A f;go_wp2_with(at_builtin;refine Jf underlying22 CY.Dw (w.heap.size+1) _ rfl _ _ rfl _ _ _ [(q:Int)] rfl rfl (k.out.KY.below (Ct (rf _ _) _)) (DB.Fc wr q) (by simp;omega) p.out ?_;intro v' w1 r;obtain⟨S,s,rfl⟩:=r.some;obtain⟨T,V,g,h⟩:=k.out.iB r;have v:=Aa g;have x:=Aa (F.out.bl.trans (h _ (Al _)));clear r g h);go_roundw
      case rel=>exact⟨q+1,m-1,_,_,gl++[(q:Int)],il,by go_num,rfl,by omega,v.out,x.out,⟨by omega,.inl (by omega)⟩,by simp;omega,by rw[y.out];simp⟩
      case measure=>simp[intOf];omega
     ·rw[Ah (fun e=>o e.2)]at heq
      have P:decide (0<m)=false:=by simpa using o
      have y:=Aa heq;have f:il.length+ [(q:Int)].length<100000000:=by simp;omega
      have p:=Aa f;clear heq A f o;go_wp2_with(at_builtin;refine Jf underlying22 CY.Dw (w.heap.size+1) _ rfl _ _ rfl _ _ _ [(q:Int)] rfl rfl (k.out.Ji.below (Ct (rf _ _) _)) (DB.Fc wr q) (by simp;omega) p.out ?_;intro v' w1 r;obtain⟨S,s,rfl⟩:=r.some;obtain⟨T,V,g,h⟩:=k.out.lI r;have v:=Aa g;have x:=Aa (F.out.bl.trans (h _ (Al _)));clear r g h);go_roundw
      case rel=>exact⟨q+1,m,_,_,gl,il++[(q:Int)],by go_num,rfl,by omega,v.out,x.out,z,by simp;omega,by rw[y.out];simp⟩
      case measure=>simp[intOf];omega
    ·rw[Ah (fun e=>A e.1)]at heq
     have M:decide (0<n)=false:=by simpa using A
     have y:=Aa heq;have f:il.length+ [(q:Int)].length<100000000:=by simp;omega
     have p:=Aa f;clear heq A f;go_wp2_with(at_builtin;refine Jf underlying22 CY.Dw (w.heap.size+1) _ rfl _ _ rfl _ _ _ [(q:Int)] rfl rfl (k.out.Ji.below (Ct (rf _ _) _)) (DB.Fc wr q) (by simp;omega) p.out ?_;intro v' w1 r;obtain⟨S,s,rfl⟩:=r.some;obtain⟨T,V,g,h⟩:=k.out.lI r;have v:=Aa g;have x:=Aa (F.out.bl.trans (h _ (Al _)));clear r g h);go_roundw
     case rel=>exact⟨q+1,m,_,_,gl,il++[(q:Int)],by go_num,rfl,by omega,v.out,x.out,z,by simp;omega,by rw[y.out];simp⟩
     case measure=>simp[intOf];omega
  ·have hq:q=waits.length:=by have:=hrel.jo;omega
   subst hq;have heq:=hrel.eq;rw[Zat]at heq;simp only[Dq,Cf]at heq;obtain⟨H,c1,rfl⟩:=CY.Dh d.KY;obtain⟨a2,K,rfl⟩:=CY.Dh d.Ji;have k:=Aa d;have HB:=Aa hrel.bl;have y:=Aa heq;have L:=d.Dp.lt;have p0:=d.Dp.cell 0;have E:=d.Dp.cell 1;have C:=d.Dp.free 0;have D:=d.Dp.free 1;simp only[Ad,Ac,Ag]at p0 E;clear hrel d heq;go_wp2;clear p0 E C D;have O:=((Cv.refl (fun j=>j=w.heap.size) wr).set (.inr rfl) 0 (.slice H gl.length c1)).set (.inr rfl) 1 (.slice a2 il.length K);refine jr ((k.out.Dp.set 0 (.slice H gl.length c1)).set 1 (.slice a2 il.length K)) rfl ⟨_,_,rfl,?_,?_,(HB.out.setCell (Al _) _).setCell (Al _) _⟩
   ·rw[y.out];exact(CF.off k.out.KY O (fun j Q e=>by have:=(k.out.KY.lt j Q).1;have:j=w.heap.size:=e;omega)).mono (Bh _)
   ·rw[y.out];exact(CF.off k.out.Ji O (fun j Q e=>by have:=(k.out.Ji.lt j Q).1;have:j=w.heap.size:=e;omega)).mono (Bh _)
end Go.Proofs.YtgadhchejmlfjaaGreatDoor.nz
namespace Go.Proofs.YtgadhchejmlfjaaGreatDoor.CX
open Go.Proofs.Tryz Go.RowKit Go.CL
open Cw (Pr pz)
open Vm (CN)
section
section
variable {mb:Nat} {V:Vr} {own:Nat→Nat} {w:oZ} {s:St}
variable {s s':St} {xb j:Nat}
theorem SH{p:Int}{k:Nat}(h:Ii s p=Z k):k<s.ms.length:=by unfold Ii at h;obtain⟨⟨a,b⟩,h⟩:=CQ h;simp only[Ak]at h;omega
theorem CC.XC(h:CC mb V own w s){y:M1}(a:own xb=22+5*j)(b:s.ms[j]?=Z y):xb<w.heap.size:=(h.CW a b).lt
theorem Qq:(prog.info? 125).map (fun i=>i.size)=Z 8:=by kernel_rfl
theorem Zd:prog.underlying 123=Z (.pointer 125):=by kernel_rfl
theorem Ze(w:oZ)(b:Nat):(binOp .neq 123 (ptr b) (ptr b)).run prog w= .ok (ry rm) w:=by
 obtain⟨i,a,_⟩:=Ax.1 Qq;have h: ∀d:Nat,(Op.equalIn (d+1) 123 (ptr b) (ptr b)).run prog w= .ok rq w:=fun d=>by simp[Op.equalIn,Ch Zd,sizeOf,typeInfo,a,run_sameAddr_same]
 simp only[binOp];simp[Op.equal,Op.maxDepth,h 9999]
theorem VW{b c:Nat}{f g:Array qY}(h: ¬b=c)(j:Cx w b f 125)(k:Cx w c g 125):(binOp .neq 123 (ptr b) (ptr c)).run prog w= .ok (ry rq) w:=by
 obtain⟨i,l,m⟩:=Ax.1 Qq;have h: ∀d:Nat,(Op.equalIn (d+1) 123 (ptr b) (ptr c)).run prog w= .ok rm w:=fun d=>by simp[Op.equalIn,Ch Zd,sizeOf,typeInfo,l,m,run_sameAddr_other w (a:=⟨b,0,N⟩) (b:=⟨c,0,N⟩) (fun e=>h (Aq Addr.block e)) j k]
 simp only[binOp];simp[Op.equal,Op.maxDepth,h 9999]
theorem OQ(h:GH s j=Z s'):s'.ms=s.ms:=by
 unfold GH at h;cases a:s.ms[j]? with
 |none=>rw[a]at h;cases h
 |some y=>
  rw[a]at h;replace h:=CQ h;obtain⟨_,h⟩:=h;split at h
  ·cases h;rfl
  ·replace h:=CQ h
   obtain⟨_,h⟩:=h;split at h
   ·cases h;rfl
   ·cases h
def js(mb:Nat)(V:Vr)(own:Nat→Nat)(w:oZ)(n j:Nat)(s':St)(t:qY)(wr:oZ):Prop:= ∃(k:Nat)(a:Nat→Nat)(s1:St),k≤n∧t=I U k∧CC mb V a wr s1∧Ext own w a wr∧Gi j (n-k) k s1=Z s'∧j<s1.ms.length
theorem CC.again(h:CC mb V own w s){y:M1}(F:own xb=22+5*j)(G:s.ms[j]?=Z y)(a:MF s j=Z s'):re prog 186 #[ptr mb,ptr xb] w (Da mb V own w unit s'):=by
 unfold MF at a;have H:=h.Hm.2.2;have c0:=h.c0;have C:=h.XC F G;have R:=Aa h.NG;have K:=Aa (Ab h (Ab a (Cz G)));have Q:=Aa (Ab F C);clear h F G a C;generalize S:s.rings.length=n at*
 clear S;go_enter func186,ntmps186;go_wp2_with(go_at_call 57;refine R.out.mono ?_;rintro e x⟨rfl,rfl⟩);go_loopw [11] (fun t wr=>js mb V own w n j s' t wr) (fun t _=>n-(intOf t).toNat)
 case atStart=>exact⟨0,own,s,Ap _,rfl,K.out.1,Ext.refl _ _,K.out.2.1,K.out.2.2⟩
 case round=>
  obtain⟨k,f,s1,hk,rfl,c,g,a,b⟩:=hrel;by_cases T:k<n
  ·obtain⟨m,hm⟩: ∃m,n-k=m+1:=⟨n-k-1,by omega⟩
   have d:n-(k+1)=m:=by omega
   rw[hm]at a;unfold Gi at a;have l:=g.keep Q.out.1 Q.out.2;have c8:=c.c8;have W:(k:Int)<(n:Int):=by omega
   cases hw:Ii s1 k with
   |none=>
    rw[hw]at a;dsimp only at a;have D:=Aa (c.Y3 hw);have r:=Aa c;have z:=Aa g;have p:=Aa (Ab a b);have A:=Aa d;clear b c g a hw hm d l;go_wp2_with(go_at_call 257;refine D.out.mono ?_;rintro e x⟨rfl,rfl⟩);go_roundw
    case rel=>exact⟨k+1,f,s1,by omega,by go_num,r.out,z.out,by rw[A.out];exact p.out.1,p.out.2⟩
    case measure=>simp[intOf];omega
   |some i=>
    rw[hw]at a;dsimp only at a;have o:=SH hw;have q:=c.ox i o;have D:=Aa (c.Kq hw);by_cases u:i=j
    ·subst u
     obtain rfl:=c.ux i o xb l;rw[Ah (fun e=>e.1 rfl)]at a;have r:=Aa c;have z:=Aa g;have p:=Aa (Ab a b);have A:=Aa d;clear b c g a hw hm d l q o;have L:=Ze wr (V.DP i);go_wp2_with(go_at_call 257;refine D.out.mono ?_;rintro e x⟨rfl,rfl⟩);go_roundw
     case rel=>exact⟨k+1,f,s1,by omega,by go_num,r.out,z.out,by rw[A.out];exact p.out.1,p.out.2⟩
     case measure=>simp[intOf];omega
    ·have X: ¬V.DP i=xb:=by rintro rfl;omega
     have n2: ¬xb=V.DP i:=by rintro rfl;omega
     have M:=Aa (c.dP k);have L:=VW X (c.CW q (Ae o)) (c.CW l (Ae b));by_cases B:Cw.FG s1.stat k=1
     ·rw[Ai ⟨u,B⟩]at a
      rw[B]at M;obtain⟨s2,O,a⟩:=bind_some a;have v:j<s2.ms.length:=by rw[OQ O];exact b
      replace b:=v;clear v;have HA:=Aa (c.asks q O);have z:=Aa g;have p:=Aa (Ab a b);have A:=Aa d;clear b c g a hw hm d l q o B u O;go_wp2_with(first|(go_at_call 257;refine D.out.mono ?_;rintro e x⟨rfl,rfl⟩)|(go_at_call 58;refine M.out.mono ?_;rintro e x⟨rfl,rfl⟩)|(go_at_call 258;refine HA.out.mono ?_;rintro e x⟨rfl,E,c,g⟩;have r:=Aa c;have P:=Aa (z.out.trans g);clear c g));go_roundw
      case rel=>exact⟨k+1,E,s2,by omega,by go_num,r.out,P.out,by rw[A.out];exact p.out.1,p.out.2⟩
      case measure=>simp[intOf];omega
     ·rw[Ah (fun e=>B e.2)]at a
      have hd:(Cw.FG s1.stat k==1)=false:=by simpa using B
      have r:=Aa c;have z:=Aa g;have p:=Aa (Ab a b);have A:=Aa d;clear b c g a hw hm d l q o B u;generalize Cw.FG s1.stat k=st at*
      go_wp2_with(first|(go_at_call 257;refine D.out.mono ?_;rintro e x⟨rfl,rfl⟩)|(go_at_call 58;refine M.out.mono ?_;rintro e x⟨rfl,rfl⟩));go_roundw
      case rel=>exact⟨k+1,f,s1,by omega,by go_num,r.out,z.out,by rw[A.out];exact p.out.1,p.out.2⟩
      case measure=>simp[intOf];omega
  ·obtain rfl:k=n:=by omega
   rw[Cg]at a;unfold Gi at a;simp only[Ak]at a;subst a;have r:=Aa (show Da mb V own w unit s1 (rC unit) wr from⟨rfl,f,c,g⟩);clear c g;go_wp2;go_end0;exact r.out
end
end
section
section
variable {mb:Nat} {V:Vr} {own:Nat→Nat} {w:oZ} {s:St}
variable {xb j b i:Nat}
theorem CC.VX(h:CC mb V own w s){y:M1}(c:own xb=22+5*j)(b:s.ms[j]?=Z y)(u:Int):CC mb V own (w.setCell ⟨xb,1,N⟩ (I U u)) (s.CM j {y with p:=u})∧Ext own w own (w.setCell ⟨xb,1,N⟩ (I U u)):=by have e:=h.CW c b;have a:=h.bZ c b;have d:=oset (Ds xb w) 1 (I U u);have f:=h.xg b;exact⟨h.Nj (i:=j) (Cz b) (by rw[←a];exact d) {y with p:=u} f (by rw[←a];exact jk e u),Dx d (by omega)⟩
theorem CC.Hb(h:CC mb V own w s){y:M1}(c:own xb=22+5*j)(b:s.ms[j]?=Z y)(u:Int):CC mb V own (w.setCell ⟨xb,3,N⟩ (I U u)) (s.CM j {y with phase:=u})∧Ext own w own (w.setCell ⟨xb,3,N⟩ (I U u)):=by have e:=h.CW c b;have a:=h.bZ c b;have d:=oset (Ds xb w) 3 (I U u);have f:=h.xg b;exact⟨h.Nj (i:=j) (Cz b) (by rw[←a];exact d) {y with phase:=u} f (by rw[←a];exact MI e u),Dx d (by omega)⟩
theorem CC.SI(h:CC mb V own w s)(u:Bool):CC mb V own (w.setCell ⟨mb,18,N⟩ (ry u)) (s.CO {s.sc with Cy:=u})∧Ext own w own (w.setCell ⟨mb,18,N⟩ (ry u)):=h.LA (oset (Ds mb w) 18 (ry u)) _ h.hold (OO h.D2 u)
def IJ(mb:Nat)(V:Vr)(own:Nat→Nat)(w:oZ)(n j:Nat)(s':St)(t:qY)(wr:oZ):Prop:= ∃(k:Nat)(a:Nat→Nat)(s1:St),k≤n∧t=I U k∧CC mb V a wr s1∧Ext own w a wr∧EW j (n-k) k s1=Z s'∧j<s1.ms.length
theorem IJ.next{n:Nat}{s':St}{t:qY}{wr:oZ}{k m:Nat}{a:Nat→Nat}{s1:St}(g:k<n)(hm:n-(k+1)=m)(b:t=I U (k+1:Nat))(c:CC mb V a wr s1)(d:Ext own w a wr)(e:EW j m (k+1) s1=Z s')(f:j<s1.ms.length):IJ mb V own w n j s' t wr:=⟨k+1,a,s1,by omega,b,c,d,by rw[hm];exact e,f⟩
theorem CC.stops(h:CC mb V own w s){s':St}(M:own xb=22+5*j)(a:KU s j=Z s'):re prog 296 #[ptr mb,ptr xb] w (Da mb V own w unit s'):=by
 unfold KU at a;cases G:s.ms[j]? with
 |none=>rw[G]at a;cases a
 |some y=>
 rw[G]at a;dsimp only at a;obtain⟨A1,A2⟩:=h.SI rq;obtain⟨B1,B2⟩:=A1.Hb (y:=y) M G 3;have B3:=A2.trans B2;have ae:=h.Hm.2.2;have JY:=h.JY;have f18:=h.EX 18;have c3:=VP (h.CW M G);have f3:=(h.CW M G).free 3;obtain⟨n1,n2⟩:=h.gT M;have c0:=B1.c0;have HL:=Aa B1.NG;have T:=h.XC M G;have b:j<((s.CO {s.sc with Cy:=rq}).CM j {y with phase:=3}).ms.length:=by show j<(s.ms.set j _).length;rw[AV];exact Cz G
 have HH:=Aa (Ab B1 (Ab B3 (Ab a b)));have HX:=Aa (Ab M T);have W:((s.CO {s.sc with Cy:=rq}).CM j {y with phase:=3}).rings.length=s.rings.length:=rfl;rw[W]at HL;clear h M G a T A1 A2 B1 B2 B3 W b;generalize hn:s.rings.length=n at*
 clear hn;generalize(s.CO {s.sc with Cy:=rq}).CM j {y with phase:=3}=s0 at*
 go_enter func296,ntmps296;go_wp2_with(go_at_call 57;refine HL.out.mono ?_;rintro e o⟨rfl,rfl⟩);generalize(w.setCell ⟨mb,18,N⟩ (ry rq)).setCell ⟨xb,3,N⟩ (I U 3)=w0 at*
 clear c0 JY f18 c3 f3;go_loopw [16] (fun t wr=>IJ mb V own w n j s' t wr) (fun t _=>n-(intOf t).toNat)
 case atStart=>exact⟨0,own,s0,Ap _,rfl,HH.out.1,HH.out.2.1,HH.out.2.2.1,HH.out.2.2.2⟩
 case round=>
  obtain⟨k,X,s1,hk,rfl,d,q,a,b⟩:=hrel;by_cases u:k<n
  ·obtain⟨m,hm⟩: ∃m,n-k=m+1:=⟨n-k-1,by omega⟩
   have aa:n-(k+1)=m:=by omega
   rw[hm]at a;unfold EW at a;dsimp only at a;have r:=q.keep HX.out.1 HX.out.2;have c8:=d.c8;have RA:=d.RA;have VO:=d.VO;have f19:=d.EX 19;have ag:(k:Int)<(n:Int):=by omega
   have H:=Aa (d.dP k);have HM:=Aa aa;clear hm aa;by_cases B:Cw.FG s1.stat k=2
   ·rw[Ai B]at a
    rw[B]at H;cases hw:Ii s1 k with
    |none=>rw[hw]at a;cases a
    |some i=>
     rw[hw]at a;dsimp only at a;cases O:s1.ms[i]? with
     |none=>rw[O]at a;cases a
     |some yi=>
      rw[O]at a;dsimp only at a;have ab:=Cz O;have v:=d.ox i ab;have x1:=Lz (d.CW v O);have ah:=(d.CW v O).free 1;obtain⟨m1,m2⟩:=d.gT v;have HW:=Aa (d.Kq hw);obtain⟨C,E1⟩:=d.VX v O (-1);have HT:=Aa (C.Qc k);have D:=Aa (q.trans E1);have E:=Aa a;have F:=Aa (show j<(s1.CM i {yi with p:= -1}).ms.length from by show j<(s1.ms.set i _).length;rw[AV];exact b);have e8:=C.c8;have ai:=C.RA;clear C E1 d q a b hw O ab v r B;go_wp2_with(first|(go_at_call 58;refine H.out.mono ?_;rintro e o⟨rfl,rfl⟩)|(go_at_call 257;refine HW.out.mono ?_;rintro e o⟨rfl,rfl⟩)|(go_at_call 173;refine HT.out.mono ?_;rintro e o⟨rfl,x,c,f⟩;have af:=c.RA;have g:=Aa c;have l:=Aa (D.out.trans f);clear c f)|(go_at_call 191;refine(g.out.Ud _).mono ?_;rintro e o⟨rfl,ad,z,A⟩;have P:=Aa z;have Q:=Aa (l.out.trans A);clear z A));go_roundw
      case rel=>exact IJ.next u HM.out (by go_num) P.out Q.out E.out F.out
      case measure=>simp[intOf];omega
   ·rw[Ah B]at a
    by_cases K:Cw.FG s1.stat k=0
    ·rw[Ai K]at a
     rw[K]at H;have HT:=Aa (d.Qc k);have D:=Aa q;have E:=Aa a;have F:=Aa b;clear d q a b r B K;go_wp2_with(first|(go_at_call 58;refine H.out.mono ?_;rintro e o⟨rfl,rfl⟩)|(go_at_call 173;refine HT.out.mono ?_;rintro e o⟨rfl,x,c,f⟩;have af:=c.RA;have g:=Aa c;have l:=Aa (D.out.trans f);clear c f)|(go_at_call 191;refine(g.out.Ud _).mono ?_;rintro e o⟨rfl,ad,z,A⟩;have P:=Aa z;have Q:=Aa (l.out.trans A);clear z A));go_roundw
     case rel=>exact IJ.next u HM.out (by go_num) P.out Q.out E.out F.out
     case measure=>simp[intOf];omega
    ·rw[Ah K]at a
     by_cases R:Cw.FG s1.stat k=1
     ·rw[Ai R]at a
      rw[R]at H;cases hy:s1.ms[j]? with
      |none=>rw[hy]at a;cases a
      |some y1=>
       rw[hy]at a;dsimp only at a;have x1:=Lz (d.CW r hy);by_cases S:(k:Int)=y1.p
       ·rw[Ai S]at a
        rw[←S]at x1;have HT:=Aa (d.Qc k);have D:=Aa q;have E:=Aa a;have F:=Aa b;clear d q a b r B K R S hy;go_wp2_with(first|(go_at_call 58;refine H.out.mono ?_;rintro e o⟨rfl,rfl⟩)|(go_at_call 173;refine HT.out.mono ?_;rintro e o⟨rfl,x,c,f⟩;have g:=Aa c;have l:=Aa (D.out.trans f);clear c f));go_roundw
        case rel=>exact IJ.next u HM.out (by go_num) g.out l.out E.out F.out
        case measure=>simp[intOf];omega
       ·rw[Ah S]at a
        have hd:((k:Int)==y1.p)=false:=by simpa using S
        cases hw:Ii s1 k with
        |none=>rw[hw]at a;cases a
        |some i=>
         rw[hw]at a;dsimp only at a;obtain⟨s2,hq,a⟩:=bind_some a;have L:j<s2.ms.length:=by rw[OQ hq];exact b
         obtain⟨C,E1⟩:=d.L2 (wrap64 (s1.sc.wait+1));have HW:=Aa (C.Kq (p:=k) (k:=i) hw);have HA:=Aa (C.asks (C.ox i (SH (s:=s1) hw)) hq);have D:=Aa (q.trans E1);have E:=Aa a;have F:=Aa L;clear C E1 d q a b L r B K R S hy hw hq;generalize y1.p=yp at*
         generalize s1.sc.wait=wt at*
         go_wp2_with(first|(go_at_call 58;refine H.out.mono ?_;rintro e o⟨rfl,rfl⟩)|(go_at_call 257;refine HW.out.mono ?_;rintro e o⟨rfl,rfl⟩)|(go_at_call 258;refine HA.out.mono ?_;rintro e o⟨rfl,x,c,f⟩;have g:=Aa c;have l:=Aa (D.out.trans f);clear c f));go_roundw
         case rel=>exact IJ.next u HM.out (by go_num) g.out l.out E.out F.out
         case measure=>simp[intOf];omega
     ·rw[Ah R]at a
      have d2:(Cw.FG s1.stat k==2)=false:=by simpa using B
      have d0:(Cw.FG s1.stat k==0)=false:=by simpa using K
      have d1:(Cw.FG s1.stat k==1)=false:=by simpa using R
      have HR:=Aa d;have D:=Aa q;have E:=Aa a;have F:=Aa b;clear d q a b r B K R;generalize Cw.FG s1.stat k=st at*
      go_wp2_with(first|(go_at_call 58;refine H.out.mono ?_;rintro e o⟨rfl,rfl⟩));go_roundw
      case rel=>exact IJ.next u HM.out (by go_num) HR.out D.out E.out F.out
      case measure=>simp[intOf];omega
  ·obtain rfl:k=n:=by omega
   rw[Cg]at a;unfold EW at a;simp only[Ak]at a;subst a;have HR:=Aa (show Da mb V own w unit s1 (rC unit) wr from⟨rfl,X,d,q⟩);clear d q;go_wp2;go_end0;exact HR.out
theorem CC.Qr(h:CC mb V own w s){x:G}(e:own b=20+5*i)(c:s.gs[i]?=Z x)(u:Bool):CC mb V own (w.setCell ⟨b,17,N⟩ (ry u)) (s.CH i {x with begun:=u})∧Ext own w own (w.setCell ⟨b,17,N⟩ (ry u)):=by obtain⟨g,hw,j,k,d⟩:=h.Hi e c;have a:=h.cA e c;have f:=oset (Ds b w) 17 (ry u);exact⟨h.VK (Cz c) (by rw[←a];exact f) {x with begun:=u} (by rw[←a];exact⟨g,hw,j,SA k u,d⟩),Dx f (by omega)⟩
theorem CC.Uk(h:CC mb V own w s){x:G}(c:own b=20+5*i)(d:s.gs[i]?=Z x):w.cell? ⟨b,17,N⟩=Z (ry x.begun)∧w.frozen? ⟨b,17,N⟩=false:=by obtain⟨f,hw,g,a,e⟩:=h.Hi c d;exact⟨lD a,a.free 17⟩
theorem CC.eM(h:CC mb V own w s)(a:own b=20+5*i): ¬b=mb∧ ¬mb=b:=by have:=h.om;constructor<;>(rintro rfl;omega)
theorem Er{C6:Nat→Nat}{w':oZ}{cs:Array qY}{t:TypeId}(h:Cx w b cs t)(a:own b=0)(c:Ext own w C6 w'):Cx w' b cs t:=h.only c.only (fun d=>d.1 a)
def EE(op a b c n:Int):Obj:=rD #[I U op,I U a,I U b,I U c,I U n] 84
end
end
section
variable {mb:Nat} {V:Vr} {own:Nat→Nat} {w:oZ} {s:St}
variable {W wa w3:oZ} {v1 v2:qY} {gl il:List Int}
theorem SJ(x:Int):wrap64 x≤9223372036854775807:=by unfold wrap64;omega
theorem SK{c:Sc}(h:Cx w mb (Dz V c) 121):Cx ((w.setCell ⟨mb,20,N⟩ (J N)).setCell ⟨mb,18,N⟩ (ry rm)) mb (Dz V {c with CD:=0,Cy:=rm}) 121:=(h.set 20 (J N)).set 18 (ry rm)
theorem CC.Zf(h:CC mb V own w s):CC mb V own ((w.setCell ⟨mb,20,N⟩ (J N)).setCell ⟨mb,18,N⟩ (ry rm)) (s.CO {s.sc with CD:=0,Cy:=rm})∧Ext own w own ((w.setCell ⟨mb,20,N⟩ (J N)).setCell ⟨mb,18,N⟩ (ry rm)):=h.LA (oset (oset (Ds mb w) 20 (J N)) 18 (ry rm)) {s.sc with CD:=0,Cy:=rm} ⟨Zag 0,Zay _⟩ (SK h.D2)
def EF(a:List (List Int)):List Int:=a.map fun l=>(l.length:Int)
def gW(a:List (List Int))(w1:oZ)(t5 t29:qY)(wr:oZ):Prop:= ∃k:Nat,k≤a.length∧t29=I U k∧CF wr w1.heap.size t5 ((EF a).take k)∧qZ w1.heap.size w1 wr
theorem VY{a:List (List Int)}{w1 wr e:oZ}{k:Nat}{v v':qY}{o:Obj}{l:List Int}(b:k<a.length)(c:a[k]?.getD []=l)(g:CF wr w1.heap.size v ((EF a).take k))(d:qZ w1.heap.size w1 wr)(f:Ju (wr.alloc o) w1.heap.size v ((EF a).take k) [(l.length:Int)] v' e)(t29:qY)(h:t29=I U (k+1:Nat)):gW a w1 v' t29 e:=by
 refine⟨k+1,b,h,?_,?_⟩
 ·have:(EF a).take (k+1)=(EF a).take k++[(l.length:Int)]:=by rw[Ca];congr 1;unfold EF;rw[Bn,Ae b];rw[Ae b]at c;simp only[AQ]at c;simp[c]
  rw[this];exact f.1
 ·exact Below.grown (d.alloc d.size o) f.2.1 (by have:=d.size;simp;omega) (fun j i=>(g.lt j i).1)
def Qs(own:Nat→Nat)(W:oZ)(P:Nat)(v1 v2:qY)(gl il:List Int):Prop:=Cx W P #[v1,v2] 367∧own P=0∧CF W 0 v1 gl∧CF W 0 v2 il∧(∀j,v1.ownBlock=Z j→own j=0)∧(∀j,v2.ownBlock=Z j→own j=0)
theorem Qs.ext{C6:Nat→Nat}{W':oZ}{P:Nat}(h:Qs own W P v1 v2 gl il)(g:Ext own W C6 W'):Qs C6 W' P v1 v2 gl il:=by obtain⟨a,b,c,d,e,f⟩:=h;obtain⟨c1,i⟩:=Ee c e g;obtain⟨d1,d2⟩:=Ee d f g;exact⟨Er a b g,(g.same P a.lt).trans b,c1,d1,i,d2⟩
abbrev gX:Obj:=rD #[Y N 0 0,Y N 0 0] 367
def NN(mb:Nat)(V:Vr)(own:Nat→Nat)(wa:oZ)(s:St)(W:oZ)(P:Nat)(v1 v2:qY)(gl il:List Int):Prop:=CC mb V own W s∧Ext own wa own W∧Qs own W P v1 v2 gl il
theorem Zg{a:oZ}{P:Nat}(f:CC mb V own wa s)(h:qZ wa.heap.size wa a)(i:Cx a P #[Y N 0 0,Y N 0 0] 367)(b:wa.heap.size≤P)(o1:CF a wa.heap.size v1 gl)(o2:CF a wa.heap.size v2 il)(n1:v1.ownBlock≠Z P)(n2:v2.ownBlock≠Z P):NN mb V own wa s ((a.setCell ⟨P,0,N⟩ v1).setCell ⟨P,1,N⟩ v2) P v1 v2 gl il:=by have d:qZ wa.heap.size wa ((a.setCell ⟨P,0,N⟩ v1).setCell ⟨P,1,N⟩ v2):=(h.setCell b _).setCell b _;have g:Cv (fun j=>j=P) a ((a.setCell ⟨P,0,N⟩ v1).setCell ⟨P,1,N⟩ v2):=oset (oset (Ds P a) 0 v1) 1 v2;refine⟨f.below d,Ext.below d,(i.set 0 v1).set 1 v2,f.fresh _ b,(o1.off g (fun j c e=>n1 (by rw[c,show j=P from e]))).mono (Ap _),(o2.off g (fun j c e=>n2 (by rw[c,show j=P from e]))).mono (Ap _),fun j c=>f.fresh j (o1.lt j c).1,fun j c=>f.fresh j (o2.lt j c).1⟩
theorem VZ(b:CC mb V own wa s)(c:qZ wa.heap.size wa W)(f:qZ W.heap.size W w3)(o1:CF w3 W.heap.size v1 gl)(o2:CF w3 W.heap.size v2 il):NN mb V own wa s (w3.alloc (rD #[v1,v2] 367)) w3.heap.size v1 v2 gl il:=by have d:=c.trans (f.mono c.size);have a:qZ wa.heap.size wa (w3.alloc (rD #[v1,v2] 367)):=d.alloc d.size _;exact⟨b.below a,Ext.below a,Cx.new w3 _ 367,b.fresh _ d.size,(o1.below (Ct (rf _ _) _)).mono (Ap _),(o2.below (Ct (rf _ _) _)).mono (Ap _),fun j e=>b.fresh j (AE c.size (o1.lt j e).1),fun j e=>b.fresh j (AE c.size (o2.lt j e).1)⟩
theorem MN{P:Nat}(f:CC mb V own wa s)(a:qZ wa.heap.size wa W)(d:qZ W.heap.size W w3)(b:Cx W P #[Y N 0 0,Y N 0 0] 367)(c:wa.heap.size≤P)(o1:CF w3 W.heap.size v1 gl)(o2:CF w3 W.heap.size v2 il):NN mb V own wa s ((w3.setCell ⟨P,0,N⟩ v1).setCell ⟨P,1,N⟩ v2) P v1 v2 gl il:=Zg f (a.trans (d.mono a.size)) (b.below d b.lt) c (o1.mono a.size) (o2.mono a.size) (fun e=>by have g:=(o1.lt _ e).1;have h:=b.lt;omega) (fun e=>by have g:=(o2.lt _ e).1;have h:=b.lt;omega)
theorem F1(h:qZ wa.heap.size wa W):qZ wa.heap.size wa W.drew:=h.trans ⟨rfl,rfl,rfl,Al _,fun _ _=>rfl⟩
theorem Es{w2:oZ}(h:qZ wa.heap.size wa W)(a:qZ W.heap.size W w2):qZ wa.heap.size wa w2:=h.trans (a.mono h.size)
theorem DH(h:qZ wa.heap.size wa W)(o:Obj):qZ wa.heap.size wa (W.alloc o):=h.alloc h.size o
def pW(mb:Nat)(V:Vr)(own:Nat→Nat)(w:oZ)(P:Nat)(v1 v2:qY)(gl il:List Int)(s2:St)(t:qY)(wr:oZ):Prop:= ∃(k:Nat)(b:Vr)(a:Nat→Nat)(s1:St),k≤gl.length∧t=I U k∧CC mb b a wr s1∧Ext own w a wr∧Fx V b∧Qs a wr P v1 v2 gl il∧dS (gl.drop k) s1=Z s2
theorem Hs(me:Int): ∀(l:List Int)(i:Nat)(m:Int),(Dq me l i m).1.length+(Dq me l i m).2.length≤l.length
 | [],i,m=>by simp[Dq]
 |n::r,i,m=>by
  rw[nz.LB];split
  ·have:=Hs me r (i+1) m
   simp only[AB];omega
  ·split
   ·have:=Hs me r (i+1) (m-1)
    simp only[AB];omega
   ·have:=Hs me r (i+1) m
    simp only[AB];omega
theorem CC.oy(h:CC mb V own w s){p:Nat}(a:p<s.rings.length):(Ring.C3 (D5 s p).CG (D5 s p).row).length≤257:=by
 obtain⟨c,R,b⟩:=h.rings (by decide);have hw:=(b.E7.ring p a).RZ;rw[(b.is p a).1,(b.is p a).2]at hw;have d:(D5 s p).row.length≤256:=hw.1;unfold Ring.C3;rw[Aw];split
 ·simp only[AB,AF];omega
 ·simp only[AF];omega
def pX(mb:Nat)(V:Vr)(own:Nat→Nat)(w:oZ)(v2:qY)(il:List Int)(s2:St)(t:qY)(wr:oZ):Prop:= ∃(k:Nat)(b:Vr)(a:Nat→Nat)(s1:St),k≤il.length∧t=I U k∧CC mb b a wr s1∧Ext own w a wr∧Fx V b∧CF wr 0 v2 il∧(∀j,v2.ownBlock=Z j→a j=0)∧Jq (il.drop k) s1=Z s2
theorem CC.start(h:CC mb V own w s){xb j:Nat}{s':St}(hx:own xb=22+5*j)(p:G1 s j=Z s'):re prog 249 #[ptr mb,ptr xb] w (FY mb V own w unit s'):=by
 unfold G1 at p;cases hj:s.ms[j]? with
 |none=>rw[hj]at p;cases p
 |some y=>
 rw[hj]at p;dsimp only at p;replace p:=CQ p;obtain⟨⟨bp,bq⟩,p⟩:=p;obtain⟨e1,hb⟩:=h.gp bp bq;obtain⟨i,hi⟩: ∃i:Nat,(s.sc.CD-1).toNat=i:=⟨_,rfl⟩;rw[hi]at e1 hb p;have aw:i<s.gs.length:=by omega
 obtain⟨b,br⟩: ∃b,V.CP i=b:=⟨_,rfl⟩;rw[br]at e1 hb;have Jr:=h.Jr;rw[e1]at Jr;have f20:=h.EX 20;have JY:=h.JY;have f18:=h.EX 18;have bs:=h.XC hx hj;have bt:=h.eK hb (Ae aw);obtain⟨D,bu⟩:=h.Zf;obtain⟨s1,ah⟩: ∃s1,s1=s.CO {s.sc with CD:=0,Cy:=rm}:=⟨_,rfl⟩;have bw:s1.ms[j]?=Z y:=by rw[ah];exact hj
 have aq:i<s1.gs.length:=by rw[ah];exact aw
 rw[←ah]at D p;have ax:=D.Hm.2.2;have ab:(Ue s1.rings).length=s1.rings.length:=by unfold Ue;simp
 have c0:=D.c0;have HQ:=Aa D.YQ;have HH:=Aa (Ab D (Ab bu (Ab p (Ab bw aq))));have O:=Aa (Ab hx (Ab bs (Ab hb bt)));have cl:=Aa ab;have ay:(Ue s1.rings).length≤256:=by omega
 clear h D bu p hj bw hx bs hb bt bp bq hi aw aq ah br e1 ab ax;obtain⟨r,az⟩: ∃r,Ue s1.rings=r:=⟨_,rfl⟩;rw[az]at HQ cl ay;have cm:=Aa az;clear az;go_enter func249,ntmps249;go_wp2_with(go_at_call 60;refine HQ.out.mono ?_;rintro e w1⟨vq,rfl,a1,bz⟩;obtain⟨qa,qc,rfl⟩:=a1.len;have cn:=Aa a1;have a6:=Aa bz;clear a1 bz);clear Jr f20 JY f18;go_loopw [5,29] (fun t5 t29 wr=>gW r w1 t5 t29 wr) (fun _ t _=>r.length-(intOf t).toNat)
 case atStart=>exact⟨0,Ap _,rfl,CF.nil _ _,rf _ _⟩
 case round=>
  obtain⟨k,hk,rfl,hO,hB⟩:=hrel;by_cases a:k<r.length
  ·have b0:=cn.out.below hB
   obtain⟨_,g,u,rfl,cu,a7⟩:=b0.at k a;obtain⟨l,hl⟩: ∃l,r[k]?.getD []=l:=⟨_,rfl⟩;rw[hl]at a7;obtain⟨ua,uc,rfl⟩:=CY.Dh a7;have b1:(k:Int)<(r.length:Int):=by omega
   obtain⟨a5,c5,rfl⟩:=CY.Dh hO;have b2:((EF r).take k).length=k:=by unfold EF;rw[AN,Bg];omega
   have HO:=Aa hO;have HB:=Aa hB;have cp:=Aa hl;have dm:=hB.size;clear b0 a7 hO hB hl;go_wp2_with(at_builtin;refine Jf underlying22 CY.Dw w1.heap.size _ rfl _ _ rfl _ _ _ [(l.length:Int)] rfl rfl (HO.out.below (Ct (rf _ _) _)) (DB.Fc wr (l.length:Int)) (by simp;omega) (by rw[b2];simp;omega) ?_;intro v' w2 hA;obtain⟨g',cq,b3⟩:=hA.some;rw[b2]at b3;subst b3;have HA:=Aa hA;clear hA);go_roundw
   case rel=>exact VY a cp.out HO.out HB.out HA.out _ (by go_num)
   case measure=>simp[intOf];omega
  ·obtain rfl:k=r.length:=by omega
   rw[show(EF r).take r.length=EF r from AU (by simp[EF])]at hO;obtain⟨a5,c5,rfl⟩:=CY.Dh hO;have ar:(EF r).length=r.length:=by simp[EF]
   rw[ar]at hO⊢;have dn:wr.cell? ⟨xb,1,N⟩=Z (I U y.p):=Lz (((HH.out.1.below a6.out).below hB).CW O.out.1 HH.out.2.2.2.1);have Q:=Aa ((HH.out.1.below a6.out).below hB);have a8:=Aa ((HH.out.2.1.trans (Ext.below a6.out)).trans (Ext.below hB));have HO:=Aa hO;clear hO hB;have b4:Hid (∀W,qZ wr.heap.size wr W→re prog 298 #[ptr mb] W fun e w'=>e=rC (I U (GI s1))∧qZ W.heap.size W w'):=fun W hW=>((Q.out.below hW).free).mono (by rintro e w'⟨rfl,n,rfl⟩;exact⟨rfl,⟨rfl,rfl,rfl,Al _,fun _ _=>rfl⟩⟩);have au:(EF r).length≤100000:=by simp[EF];omega
   have ba:Hid (∀W,qZ wr.heap.size wr W→re prog 297 #[.slice a5 r.length c5,I U y.p,I U (GI s1)] W (nz.Zc (Hq (EF r) y.p (GI s1)) W)):=fun W hW=>nz.VV _ (EF r) y.p (GI s1) W (DB.Eh (HO.out.below hW)) au (SJ _);have ad:Hid (∀W,qZ wr.heap.size wr W→W.cell? ⟨xb,1,N⟩=Z (I U y.p)):=fun W hW=>Lz ((Q.out.below hW).CW (a8.out.keep O.out.1 O.out.2.1) HH.out.2.2.2.1);have av:=(Q.out.XC (a8.out.keep O.out.1 O.out.2.1) HH.out.2.2.2.1);have G:=Aa av;have dp: ¬xb=wr.heap.size:=by omega
   have dt: ¬wr.heap.size=xb:=by omega
   clear au c0 av;have p:=HH.out.2.2.1;rw[cm.out,show List.map (fun l=>(l.length:Int)) r=EF r from rfl]at p;obtain⟨⟨gl,il⟩,bb⟩: ∃pl,Hq (EF r) y.p (GI s1)=pl:=⟨_,rfl⟩;have du:gl.length≤256∧il.length≤256:=by have D:=Hs y.p (EF r) 0 (GI s1);have h2:Dq y.p (EF r) 0 (GI s1)=(gl,il):=bb;rw[h2,ar]at D;dsimp only at D;omega
   rw[bb]at p ba;dsimp only at p;replace p:=bind_some p;obtain⟨s2,d,p⟩:=p;have HS:=Aa (Ab d p);clear p d bb;go_wp2;generalize GI s1=fr at*
   go_region_held3(fun w'=>w'.cell? ⟨xb,1,N⟩=Z (I U y.p)) (go_keep) (first|(go_at_call 298;refine(b4.out _ (by repeat(first|exact rf _ _|apply DH|apply F1))).mono ?_;rintro e w2⟨rfl,ai⟩;have H:qZ wr.heap.size wr w2:=Es (by repeat(first|exact rf _ _|apply DH|apply F1)) ai;have kx:=ad.out _ H;have dv: ¬xb=w2.heap.size:=(by have D:=H.size;have h2:=G.out;omega);have dw: ¬w2.heap.size=xb:=(by have D:=H.size;have h2:=G.out;omega);first|(have R:Cx w2 wr.heap.size #[Y N 0 0,Y N 0 0] 367:=(Cx.new wr.drew #[Y N 0 0,Y N 0 0] 367).below ai (by simp);have q0:=R.cell 0;have q1:=R.cell 1;have q2:=R.free 0;have q3:=R.free 1;have bc:=Aa R;clear R;simp only[Ad,Ac,Ag]at q0 q1;have m:=Aa H;clear H ai)|(have m:=Aa H;clear H ai))|(go_at_call 297;refine(ba.out _ (by repeat(first|exact m.out|apply DH))).mono ?_;rintro e w3⟨v1,v2,rfl,o1,o2,c⟩;dsimp only at o1 o2;obtain⟨p1,r1,rfl⟩:=CY.Dh o1;obtain⟨p2,r2,rfl⟩:=CY.Dh o2;first|(have kz:=ad.out _ (Es m.out c);have cr: ¬xb=w3.heap.size:=(by have D:=(Es m.out c).size;have h2:=G.out;omega);have ct: ¬w3.heap.size=xb:=(by have D:=(Es m.out c).size;have h2:=G.out;omega);have C:=Aa (MN Q.out m.out c bc.out (Al _) o1 o2);have x:=bc.out.below c bc.out.lt;have q0:=x.cell 0;have q1:=x.cell 1;have q2:=x.free 0;have q3:=x.free 1;clear x;simp only[Ad,Ac,Ag]at q0 q1;clear o1 o2 c)|(have kz:=ad.out _ (Es (DH m.out gX) c);have C:=Aa (MN Q.out (DH m.out gX) c (Cx.new w2 _ 367) m.out.size o1 o2);have x:=(Cx.new w2 #[Y N 0 0,Y N 0 0] 367).below c (by simp);have q0:=x.cell 0;have q1:=x.cell 1;have q2:=x.free 0;have q3:=x.free 1;clear x;simp only[Ad,Ac,Ag]at q0 q1;clear o1 o2 c)|(have kz:=ad.out _ (Es m.out c);have cr: ¬xb=w3.heap.size:=(by have D:=(Es m.out c).size;have h2:=G.out;omega);have ct: ¬w3.heap.size=xb:=(by have D:=(Es m.out c).size;have h2:=G.out;omega);have C:=Aa (VZ Q.out m.out c o1 o2);clear o1 o2 c)))
   all_goals
    first
     |(have hx:Hid (NN mb V own wr s1 _ w3.heap.size _ _ gl il):=C;clear hx;generalize w3.alloc (rD #[.slice p1 gl.length r1,.slice p2 il.length r2] 367)=W at*;generalize w3.heap.size=P at*)
     |(have hx:Hid (NN mb V own wr s1 _ wr.heap.size _ _ gl il):=C;clear hx;generalize(w3.setCell ⟨wr.heap.size,0,N⟩ (.slice p1 gl.length r1)).setCell ⟨wr.heap.size,1,N⟩ (.slice p2 il.length r2)=W at*;generalize wr.heap.size=P at*)
     |(have hx:Hid (NN mb V own wr s1 _ w2.heap.size _ _ gl il):=C;clear hx;generalize(w3.setCell ⟨w2.heap.size,0,N⟩ (.slice p1 gl.length r1)).setCell ⟨w2.heap.size,1,N⟩ (.slice p2 il.length r2)=W at*;generalize w2.heap.size=P at*)
   all_goals
    have b5:=Aa C.out.1;have b7:=Aa (a8.out.trans C.out.2.1);have bd:=Aa C.out.2.2;have cv:W.cell? ⟨P,0,N⟩=Z (.slice p1 gl.length r1):=bd.out.1.cell 0;clear C b4 ba ad HO G;go_wp2;go_loopw [50] (fun t wr=>pW mb V own w P (.slice p1 gl.length r1) (.slice p2 il.length r2) gl il s2 t wr) (fun t _=>gl.length-(intOf t).toNat)
    case atStart=>exact⟨0,V,own,s1,Ap _,rfl,b5.out,b7.out,Fx.refl V,bd.out,HS.out.1⟩
    case round=>
     obtain⟨k,V1,b8,sA,hk,rfl,M,hE,hF,S,d⟩:=hrel;by_cases a:k<gl.length
     ·rcases S.2.2.1.open with⟨_,h0⟩|⟨gb,b9,hv,_,_,_,f⟩
      ·rw[h0]at a;simp at a
      simp only[Ar]at hv;obtain⟨rfl,_,rfl⟩:=hv;have cu:=f k a;rw[A0 a]at d;unfold dS at d;rw[show gl[k]?.getD 0=gl[k] by rw[Ae a];rfl]at cu;clear f;generalize gl[k]=n at*
      replace d:=bind_some d;obtain⟨⟨rb,s3⟩,ca,d⟩:=d;have c8:=M.c8;have HT:=Aa (M.ni n);have b1:(k:Int)<(gl.length:Int):=by omega
      have HE:=Aa hE;have o:=Aa (Ab hF (Ab S (Ab ca d)));clear M hE hF S ca d;go_wp2_with(first|(go_at_call 299;refine HT.out.mono ?_;rintro e w4⟨rfl,o4,z,E⟩;have T:=Aa z;have K:=Aa E;clear z E)|(go_at_call 293;refine(T.out.begin o.out.2.2.1).mono ?_;rintro e w5⟨rfl,V5,o5,A,F,ae⟩;have X:=Aa A;have aa:=Aa (K.out.trans F);have bf:=Aa ae;clear A F ae));go_roundw
      case rel=>exact⟨k+1,V5,o5,s3,by omega,by go_num,X.out,HE.out.trans aa.out,o.out.1.trans bf.out,o.out.2.1.ext aa.out,o.out.2.2.2⟩
      case measure=>simp[intOf];omega
     ·obtain rfl:k=gl.length:=by omega
      rw[Zat]at d;simp only[dS,Ak]at d;subst d;have HI:=HS.out.2;replace HI:=bind_some HI;obtain⟨s3,hid,B⟩:=HI;have cw:wr.cell? ⟨P,1,N⟩=Z (.slice p2 il.length r2):=S.1.cell 1;have HR:=Aa M;have HE:=Aa hE;have o:=Aa (Ab hF (Ab S (Ab hid B)));clear M hE hF S hid B cv b5 b7 bd;go_wp2;go_loopw [67] (fun t wr=>pX mb V own w (.slice p2 il.length r2) il s3 t wr) (fun t _=>il.length-(intOf t).toNat)
      case atStart=>exact⟨0,V1,b8,sA,Ap _,rfl,HR.out,HE.out,o.out.1,o.out.2.1.2.2.2.1,o.out.2.1.2.2.2.2.2,o.out.2.2.1⟩
      case round=>
       have cx:=Aa o.out.2.2.2;clear HR HE o cw;obtain⟨k,V2,dk,sB,hk,rfl,M,hE,hF,aj,bg,hid⟩:=hrel;by_cases a:k<il.length
       ·rcases aj.open with⟨_,h0⟩|⟨gb,b9,hv,_,_,_,f⟩
        ·rw[h0]at a;simp at a
        simp only[Ar]at hv;obtain⟨rfl,_,rfl⟩:=hv;have cu:=f k a;rw[A0 a]at hid;unfold Jq at hid;rw[show il[k]?.getD 0=il[k] by rw[Ae a];rfl]at cu;clear f;generalize il[k]=n at*
        replace hid:=CQ hid;obtain⟨⟨h0,D,h2⟩,hid⟩:=hid;dsimp only at hid;obtain⟨q,rfl⟩: ∃q:Nat,n=q:=⟨n.toNat,by omega⟩;rw[An]at hid;have hq:q<sB.rings.length:=by omega
        have cb:=M.oy hq;have c8:=M.c8;have HT:=Aa (M.ni q);have b1:(k:Int)<(il.length:Int):=by have:=a;omega
        have HE:=Aa hE;have o:=Aa (Ab hF (Ab aj (Ab bg hid)));have ak:=Aa (Ab hq (Ab cb h2));clear M hE hF aj bg hid h0 D h2 hq cb;go_wp2_with(first|(go_at_call 299;refine HT.out.mono ?_;rintro e w4⟨rfl,o4,z,E⟩;have dx:=z.RA;have T:=Aa z;have K:=Aa E;clear z E)|(go_at_call 48;refine(T.out.je _).mono ?_;rintro e w5⟨rfl,o5,A,F⟩;have a9:=A.c9;have a0:=A.c0;have X:=Aa A;have aa:=Aa (K.out.trans F);clear A F));go_region_held3(fun w'=>w'.cell? ⟨mb,9,N⟩=Z (ptr V2.all)∧w'.cell? ⟨mb,0,N⟩=Z (ptr V2.procs)) (go_keep) (first|(go_at_call 50;refine((X.out.drewN 1).ring q ak.out.1).mono ?_;rintro e w6⟨⟨rb,rfl,cc⟩,rfl⟩;have cy:=Aa cc;clear cc)|(go_at_call 300;refine((X.out.drewN 1).jg ak.out.1 cy.out).mono ?_;rintro e w7⟨v,rfl,bh,o6,L,af,cd⟩;obtain⟨va,vc,rfl⟩:=CY.Dh bh;have k0:=L.c0;have k9:=L.c9;have HV:=Aa (Ab bh cd);have bj:=Aa L;have bk:=Aa ((aa.out.drewN 1).trans af);clear L af bh cd)|(go_at_call 243;refine(bj.out.VL _ _ (DB.Eh HV.out.1) (fun _ j hj=>by rw[HV.out.2 j hj];decide) (by have cz:=ak.out.2.1;have c2:=ak.out.2.2;exact Am (Nat.add_lt_add_of_lt_of_le c2 cz) (by decide))).mono ?_;rintro e w8⟨rfl,o7,ao,cf⟩;have k0:=ao.c0;have k9:=ao.c9;have dc:=Aa ao;have bm:=Aa (bk.out.trans cf);clear ao cf))
        all_goals
         go_wp2;go_roundw
         case rel=>exact⟨k+1,V2,o7,_,by omega,by go_num,dc.out,HE.out.trans bm.out,o.out.1,(Ee o.out.2.1 o.out.2.2.1 bm.out).1,(Ee o.out.2.1 o.out.2.2.1 bm.out).2,o.out.2.2.2⟩
         case measure=>simp[intOf];omega
       ·obtain rfl:k=il.length:=by omega
        rw[Zat]at hid;simp only[Jq,Ak]at hid;subst hid;have ch:=hE.keep O.out.1 O.out.2.1;have df:=hE.keep O.out.2.2.1 O.out.2.2.2;have B:=cx.out;cases ag:sB.ms[j]? with
        |none=>rw[ag]at B;cases B
        |some y3=>
         rw[ag]at B;dsimp only at B;replace B:=bind_some B;obtain⟨s4,bn,cj⟩:=B;have c8:=M.c8;have x1:=Lz (M.CW ch ag);obtain⟨yp,hyp⟩: ∃yp,y3.p=yp:=⟨_,rfl⟩;rw[hyp]at x1 bn;have HT:=Aa ((M.drewN 1).ni yp);have HE:=Aa (hE.drewN 1);have o:=Aa (Ab hF (Ab bn (Ab cj (Ab ag hyp))));clear M hE hF ch df bn cj ag aj bg hyp;go_wp2;go_region_held3(fun w'=>w'.cell? ⟨mb,8,N⟩=Z (ptr V2.stat)∧w'.cell? ⟨xb,1,N⟩=Z (I U yp)) (go_keep) (first|(go_at_call 299;refine HT.out.mono ?_;rintro e w4⟨rfl,o4,z,E⟩;have k8:=z.c8;have K:=Aa (HE.out.trans E);have kx:=z.Y9 (K.out.keep O.out.1 O.out.2.1) o.out.2.2.2.1 o.out.2.2.2.2;have T:=Aa z;clear z E))
         all_goals
          have bo:=K.out.keep O.out.2.2.1 O.out.2.2.2;have dh:=Aa (T.out.release bo (Ae (T.out.lg b i bo)) o.out.2.1);clear bo k8 kx;go_wp2_with(first|(go_at_call 188;refine dh.out.mono ?_;rintro e w5⟨rfl,V5,o5,A,F,ae⟩;have X:=Aa A;have aa:=Aa (K.out.trans F);have bf:=Aa (o.out.1.trans ae);clear A F ae)|(go_at_call 247;refine(X.out.Y4 o.out.2.2.1).mono ?_;rintro e w6⟨rfl,V6,o6,L,af,ck⟩;have bj:=Aa L;have bk:=Aa (aa.out.trans af);have di:=Aa (bf.out.trans ck);clear L af ck));go_end0;exact⟨rfl,V6,o6,bj.out,bk.out,di.out⟩
end
end Go.Proofs.YtgadhchejmlfjaaGreatDoor.CX
