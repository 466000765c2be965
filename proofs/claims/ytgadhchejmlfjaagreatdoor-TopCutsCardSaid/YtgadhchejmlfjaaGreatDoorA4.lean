/- A part of the proof. -/
import Derived.Test.YtgadhchejmlfjaaGreatDoorA3
set_option linter.unusedVariables false
set_option maxRecDepth 20000
set_option maxHeartbeats 16000000
open Go.Value renaming int→I,pointer→J,slice→Y
open Go.IntKind renaming i64→U
open Option renaming none→N,some→Z
open Bool renaming false→rm,true→rq
open Go renaming Calls→re,Ending→rB,TypeId→rA,Value→qY,World→oZ
open Go.Ending renaming returned→rC
open Go.Obj renaming cells→rD
open Go.RowKit renaming Below→qZ
open Go.RowKit.Below renaming refl→rf
open Go.Value renaming agg→rE,bool→ry,string→rF,tuple→rG
namespace Go.Proofs.YtgadhchejmlfjaaGreatDoor.FM
open Go.Proofs.Tryz Go.RowKit Go.CL
open DX (row rows Laid Df)
section
variable {w0 W W':oZ} {wb j:Nat} {ws:List (List UInt8)} {cs:Array qY} {a b:Int}
theorem GB(ws:List (List UInt8))(w:oZ)(c:ws≠[])(h: ∀a∈ws,(32:UInt8)∉a) (g:(CZ 32 ws).length≤2100) (hm:Mx w) (n:Nat) (j:ws.length=n):re prog 322 #[rF ⟨(CZ 32 ws).toArray⟩,rF ⟨#[32]⟩] w fun e b=>e=rC (Y (Z ⟨w.heap.size,0,N⟩) n n)∧(∀i,i<ws.length→b.cell? ⟨w.heap.size,i,N⟩=Z (rF ⟨(ws[i]?.getD []).toArray⟩))∧w.heap.size<b.heap.size∧qZ w.heap.size w b:=by obtain⟨m,hm⟩:=hm;have d:=Li 32 ws c h;refine(F2.split ⟨(CZ 32 ws).toArray⟩ ⟨#[32]⟩ m w (by show(CZ 32 ws).toArray.size<_;simp;omega) hm (by decide)).mono ?_;rintro e b⟨rfl,rfl⟩;have k:0<ws.length:=Ci.2 c;rw[d.1,d.2,show ws.length-1+1=n by omega];refine⟨rfl,fun i f=>?_,by simp,Ct (rf _ _) _⟩;rw[(Cx.new w _ 9).cell i];simp[f]
structure IS (w0:oZ) (wb:Nat) (ws:List (List UInt8)) (j:Nat) (cs:Array qY) (W:oZ):Prop where
 wd:Wd W wb (w0.heap.size+1) ws j
 ins:Cx W w0.heap.size cs 84
 below:qZ w0.heap.size w0 W
 lt:w0.heap.size+1<wb
theorem IS.go(h:IS w0 wb ws j cs W)(a:qZ W.heap.size W W'):IS w0 wb ws j cs W':=⟨h.wd.below a,h.ins.below a h.ins.lt,h.below.trans (a.mono h.below.size),h.lt⟩
theorem IS.next{j':Nat}(h:IS w0 wb ws j cs W)(hw:Wd W' wb (w0.heap.size+1) ws j')(a:Cv (fun k=>k=wb) W W'):IS w0 wb ws j' cs W':=⟨hw,h.ins.only a (fun e=>by have:=h.lt;omega),h.below.trans ((a.toBelow (B:=w0.heap.size) h.below.size (fun k b=>by have:=h.lt;omega))),h.lt⟩
theorem IS.set(h:IS w0 wb ws j cs W)(i:Nat)(u:qY):IS w0 wb ws j (cs.setIfInBounds i u) (W.setCell ⟨w0.heap.size,i,N⟩ u):=⟨h.wd.only (S:=fun k=>k=w0.heap.size) (Cv.set (S:=fun k=>k=w0.heap.size) (Cv.refl _ _) (.inr rfl) _ _) (fun e=>by have:=h.lt;omega) (fun e=>by omega),h.ins.set i u,h.below.setCell (Al _) _,h.lt⟩
theorem IS.start{w w1:oZ}(n:Nat)(d:ws.length=n)(e: ∀i,i<ws.length→w1.cell? ⟨w.heap.size+1,i,N⟩=Z (rF ⟨(ws[i]?.getD []).toArray⟩)) (b:w.heap.size+1<w1.heap.size) (c:qZ (w.heap.size+1) (w.alloc (rD #[I U 0,I U 0,I U 0,I U 0,I U 0] 84)) w1):IS w w1.heap.size ws 0 #[I U 0,I U 0,I U 0,I U 0,I U 0] (w1.alloc (rD #[Y (Z ⟨w.heap.size+1,0,N⟩) n n,ry rq] 391)):=by
 have a:=Ct (rf w1.heap.size w1) (rD #[Y (Z ⟨w.heap.size+1,0,N⟩) n n,ry rq] 391);refine⟨⟨⟨0,fun _=>rfl,?_⟩,fun i f=>(a.cell (p:=⟨w.heap.size+1,i,N⟩) b).trans (e i f),?_,by omega⟩,?_,?_,b⟩
 ·rw[Nat.sub_zero,d];exact Cx.new w1 _ 391
 ·simp;omega
 ·exact(((Cx.new w _ 84).below c (by omega)).below a (by omega))
 ·exact(Ct (rf _ _) _).trans ((c.mono (by omega)).trans (a.mono (by omega)))
theorem IS.Iy(h:IS w0 wb ws j #[I U a,I U 0,I U 0,I U 0,I U b] W):IS w0 wb ws j #[I U a,I U 0,I U 0,I U 0,I U b] (((((W.setCell ⟨w0.heap.size,0,N⟩ (I U a)).setCell ⟨w0.heap.size,1,N⟩ (I U 0)).setCell ⟨w0.heap.size,2,N⟩ (I U 0)).setCell ⟨w0.heap.size,3,N⟩ (I U 0)).setCell ⟨w0.heap.size,4,N⟩ (I U b)):=by have:=((((h.set 0 (I U a)).set 1 (I U 0)).set 2 (I U 0)).set 3 (I U 0)).set 4 (I U b);simpa using this
theorem IS.held{o n:Nat}(h:IS w0 wb ws j #[I U a,I U 0,I U 0,I U 0,I U b] W)(c:Cx W wb #[Y (Z ⟨w0.heap.size+1,o,N⟩) 0 0,ry rq] 391):W.cell? ⟨w0.heap.size,0,N⟩=Z (I U a)∧W.cell? ⟨w0.heap.size,1,N⟩=Z (I U 0)∧W.cell? ⟨w0.heap.size,2,N⟩=Z (I U 0)∧W.cell? ⟨w0.heap.size,3,N⟩=Z (I U 0)∧W.cell? ⟨w0.heap.size,4,N⟩=Z (I U b)∧W.cell? ⟨wb,0,N⟩=Z (Y (Z ⟨w0.heap.size+1,o,N⟩) 0 0)∧W.cell? ⟨wb,1,N⟩=Z (ry rq):=⟨h.ins.cell 0,h.ins.cell 1,h.ins.cell 2,h.ins.cell 3,h.ins.cell 4,c.cell 0,c.cell 1⟩
theorem IS.mY{g:Array qY}{a b c d e:qY}(h:IS w0 wb ws j cs W)(i:Cx W wb g 391):Cx (((((W.setCell ⟨w0.heap.size,0,N⟩ a).setCell ⟨w0.heap.size,1,N⟩ b).setCell ⟨w0.heap.size,2,N⟩ c).setCell ⟨w0.heap.size,3,N⟩ d).setCell ⟨w0.heap.size,4,N⟩ e) wb g 391:=by
 have f:wb≠w0.heap.size:=by have:=h.lt;omega
 exact((((i.setOther f _).setOther f _).setOther f _).setOther f _).setOther f _
theorem IS.kS(h:IS w0 wb ws j cs W):IS w0 wb ws j cs (W.setCell ⟨wb,1,N⟩ (ry rq)):=by have c:Cv (fun k=>k=wb) W (W.setCell ⟨wb,1,N⟩ (ry rq)):=Cv.set (S:=fun k=>k=wb) (Cv.refl _ _) (.inr rfl) _ _;refine h.next (j':=j) ⟨?_,fun i d=>(AH (c.block _ h.wd.lt h.wd.ne)).trans (h.wd.str i d),by have:=h.wd.lt;simpa using this,h.wd.ne⟩ c;obtain⟨o,a,b⟩:=h.wd.Dp;exact⟨o,a,b.set 1 (ry rq)⟩
theorem TV(op n:Nat)(h dg:List UInt8)(w:oZ)(V:Laid w)(hm:Mx w)(W:op<24)(u:(row (op:Nat)).name=h)(X:(row (op:Nat)).CS=0)(ht:(row (op:Nat)).target=0)(q:(row (op:Nat)).number=rm)(i:h≠[42])(x:(32:UInt8)∉h)(y:Hz dg=rq)(z:GV dg=n)(A:(32:UInt8)∉dg)(hlen:(CZ 32 [h]).length≤2100):re prog 272 #[rF ⟨(CZ 32 [h]).toArray⟩] w fun e m=>e=rC (rG #[rE #[I U op,I U 0,I U 0,I U 0,I U 0],ry rm,ry rq])∧qZ w.heap.size w m:=by
 have K:(h== [42])=false:=by simpa using i
 have HD:=Aa (Ab y z);have L:=Aa (Ab V hm);have j:=Aa (Ab W (Ab u (Ab X (Ab q ht))));have M:=Cx.new w #[I U 0,I U 0,I U 0,I U 0,I U 0] 84;have B:=Ct (rf w.heap.size w) (rD #[I U 0,I U 0,I U 0,I U 0,I U 0] 84);have k:=GB [h] (w.alloc (rD #[I U 0,I U 0,I U 0,I U 0,I U 0] 84)) (by simp) (BR.2 ⟨x,Za9 _⟩) hlen (hm.below B) 1 rfl;rw[show(w.alloc (rD #[I U 0,I U 0,I U 0,I U 0,I U 0] 84)).heap.size=w.heap.size+1 by simp]at k;have C:=Aa k;clear V hm M B k W u X ht q i x y z A hlen;generalize CZ 32 [h]=txt at*
 go_enter func272,ntmps272;go_wp2_with(first|(go_at_call 322;refine C.out.mono ?_;rintro e G⟨rfl,O,r,l⟩;have g0:=(Ct (rf G.heap.size G) (rD #[Y (Z ⟨w.heap.size+1,0,N⟩) 1 1,ry rq] 391)).cell (p:=⟨w.heap.size+1,0,N⟩) r;rw[O 0 (by simp)]at g0;simp only[Ac,AQ]at g0;have P:=Aa (IS.start 1 rfl O r l);have z0:=(Cx.new G #[Y (Z ⟨w.heap.size+1,0,N⟩) 1 1,ry rq] 391).cell 0;simp only[Ad,Ac]at z0;clear O r l)|(go_at_call 323;refine(Ek _ _ [h] 0 _ P.out.wd (by simp) (by simp)).mono ?_;rintro e w3⟨rfl,hW,hO⟩;have Q:=Aa (P.out.next hW hO);clear hW hO)|(go_at_call 324;refine(cP.Jy op h _ (L.out.1.below Q.out.below) j.out.1 j.out.2.1).mono ?_;rintro e w4⟨rfl,l⟩;have f:=Q.out.go l;have H:=Aa (f.set 0 (I U op));have e0:=f.ins.cell 0;have e1:=f.ins.free 0;have e2:=H.out.ins.cell 0;simp only[Ad,Ac]at e0;simp only[Ba,Bj,Ad,Ac]at e2;clear l f)|(go_at_call 133;refine(DX.Iu op _ (L.out.1.below H.out.below)).mono ?_;rintro e w5⟨rfl,l⟩;rw[j.out.2.2.1];have HF:Hid (IS w _ [h] _ #[I U op,I U 0,I U 0,I U 0,I U 0] w5):=H.out.go l;clear l));clear Q e0 e1 e2 z0 g0 C K;try clear P
 try clear HB
 clear H;have R:=HF;clear HF;generalize G.heap.size=wb at*
 go_loopw [47] (fun t wr=>t=I U 0∧IS w wb [h] 1 #[I U op,I U 0,I U 0,I U 0,I U 0] wr) (fun _ _=>0)
 case atStart=>exact⟨rfl,R.out⟩
 case round=>obtain⟨rfl,S⟩:=hrel;have HI:=Aa S;have c0:=S.ins.cell 0;simp only[Ad,Ac]at c0;clear S;go_wp2_with(go_at_call 135;refine(J8 op _ (L.out.1.below HI.out.below) j.out.2.2.2.2).mono ?_;rintro e D⟨rfl,l⟩;rw[j.out.2.2.2.1];have HG:=Aa (HI.out.go l);clear l);clear c0;have f:=HG.out;obtain⟨o,_,hw⟩:=f.wd.Dp;have hw:Cx D wb #[Y (Z ⟨w.heap.size+1,o,N⟩) 0 0,ry rq] 391:=hw;have c0:=f.ins.cell 0;have c1:=f.ins.cell 1;have E:=f.ins.cell 2;have c3:=f.ins.cell 3;have c4:=f.ins.cell 4;have f0:=f.ins.free 0;have f1:=f.ins.free 1;have f2:=f.ins.free 2;have f3:=f.ins.free 3;have f4:=f.ins.free 4;have o0:=hw.cell 0;have o1:=hw.cell 1;simp only[Ad,Ac,Ag]at c0 c1 E c3 c4 o0 o1;have s:=f.mY (a:=I U op) (b:=I U 0) (c:=I U 0) (d:=I U 0) (e:=I U 0) hw;have HW:=Aa (Ab f.Iy s);have F:=Aa (IS.held (n:=0) (f.Iy.go (rf _ _).drew) s.drew);obtain⟨l0,l1,l2,l3,l4,l5,l6⟩:=F.out;clear f hw s F;go_region_held3(fun m=>m.cell? ⟨w.heap.size,0,N⟩=Z (I U op)∧m.cell? ⟨w.heap.size,1,N⟩=Z (I U 0)∧m.cell? ⟨w.heap.size,2,N⟩=Z (I U 0)∧m.cell? ⟨w.heap.size,3,N⟩=Z (I U 0)∧m.cell? ⟨w.heap.size,4,N⟩=Z (I U 0)∧m.cell? ⟨wb,0,N⟩=Z (Y (Z ⟨w.heap.size+1,o,N⟩) 0 0)∧m.cell? ⟨wb,1,N⟩=Z (ry rq)) (first|go_keep|with_reducible assumption|(refine⟨?_,?_,?_,?_,?_,?_,?_⟩<;>with_reducible assumption)) (fail);rename_i hh;clear hh l0 l1 l2 l3 l4 l5 l6 f0 f1 f2 f3 f4 c0 c1 E c3 c4 o0 o1;have g:=HW.out.1.go (rf _ _).drew;clear HW;generalize(((((D.setCell ⟨w.heap.size,0,N⟩ (I U op)).setCell ⟨w.heap.size,1,N⟩ (I U 0)).setCell ⟨w.heap.size,2,N⟩ (I U 0)).setCell ⟨w.heap.size,3,N⟩ (I U 0)).setCell ⟨w.heap.size,4,N⟩ (I U 0)).drew=WD at g⊢;have c0:=g.ins.cell 0;have c1:=g.ins.cell 1;have E:=g.ins.cell 2;have c3:=g.ins.cell 3;have c4:=g.ins.cell 4;have T:=Aa g.below;simp only[Ad,Ac,Ag]at c0 c1 E c3 c4;clear g;go_wp2;exact AG (v:=rG #[rE #[I U op,I U 0,I U 0,I U 0,I U 0],ry rm,ry rq]) (by simp[results,results272,go_sem,c0,c1,E,c3,c4]) rfl ⟨rfl,T.out⟩
theorem cS(op n:Nat)(h dg:List UInt8)(w:oZ)(hL:Laid w)(hm:Mx w)(ho:op<24)(u:(row (op:Nat)).name=h)(hr:(row (op:Nat)).CS=0)(ht:(row (op:Nat)).target=0)(q:(row (op:Nat)).number=rm)(i:h≠[42])(x:(32:UInt8)∉h)(y:Hz dg=rq)(z:GV dg=n)(A:(32:UInt8)∉dg)(hlen:(CZ 32 [[42],h]).length≤2100):re prog 272 #[rF ⟨(CZ 32 [[42],h]).toArray⟩] w fun e m=>e=rC (rG #[rE #[I U op,I U 0,I U 0,I U 0,I U 0],ry rq,ry rq])∧qZ w.heap.size w m:=by
 have O:(h== [42])=false:=by simpa using i
 have HD:=Aa (Ab y z);have P:=Aa (Ab hL hm);have j:=Aa (Ab ho (Ab u (Ab hr (Ab q ht))));have Q:=Cx.new w #[I U 0,I U 0,I U 0,I U 0,I U 0] 84;have B:=Ct (rf w.heap.size w) (rD #[I U 0,I U 0,I U 0,I U 0,I U 0] 84);have k:=GB [[42],h] (w.alloc (rD #[I U 0,I U 0,I U 0,I U 0,I U 0] 84)) (by simp) (BR.2 ⟨by decide,BR.2 ⟨x,Za9 _⟩⟩) hlen (hm.below B) 2 rfl;rw[show(w.alloc (rD #[I U 0,I U 0,I U 0,I U 0,I U 0] 84)).heap.size=w.heap.size+1 by simp]at k;have C:=Aa k;clear hL hm Q B k ho u hr ht q i x y z A hlen;generalize CZ 32 [[42],h]=txt at*
 go_enter func272,ntmps272;go_wp2_with(first|(go_at_call 322;refine C.out.mono ?_;rintro e K⟨rfl,R,r,l⟩;have g0:=(Ct (rf K.heap.size K) (rD #[Y (Z ⟨w.heap.size+1,0,N⟩) 2 2,ry rq] 391)).cell (p:=⟨w.heap.size+1,0,N⟩) r;rw[R 0 (by simp)]at g0;simp only[Ac,AQ]at g0;have S:=Aa (IS.start 2 rfl R r l);have z0:=(Cx.new K #[Y (Z ⟨w.heap.size+1,0,N⟩) 2 2,ry rq] 391).cell 0;simp only[Ad,Ac]at z0;clear R r l)|(go_at_call 323;first|(have T:=L;refine(Ek _ _ [[42],h] 1 _ L.out.wd (by simp) (by simp)).mono ?_;rintro e w3⟨rfl,D,E⟩;have V:=Aa (L.out.next D E);clear D E T)|(refine(Ek _ _ [[42],h] 0 _ S.out.wd (by simp) (by simp)).mono ?_;rintro e w2⟨rfl,D,E⟩;have L:=Aa (S.out.next D E);clear D E))|(go_at_call 324;refine(cP.Jy op h _ (P.out.1.below V.out.below) j.out.1 j.out.2.1).mono ?_;rintro e w4⟨rfl,l⟩;have f:=V.out.go l;have M:=Aa (f.set 0 (I U op));have e0:=f.ins.cell 0;have e1:=f.ins.free 0;have e2:=M.out.ins.cell 0;simp only[Ad,Ac]at e0;simp only[Ba,Bj,Ad,Ac]at e2;clear l f)|(go_at_call 133;refine(DX.Iu op _ (P.out.1.below M.out.below)).mono ?_;rintro e w5⟨rfl,l⟩;rw[j.out.2.2.1];have HF:Hid (IS w _ [[42],h] _ #[I U op,I U 0,I U 0,I U 0,I U 0] w5):=M.out.go l;clear l));clear V e0 e1 e2 z0 g0 C O;try clear S
 try clear L
 clear M;have W:=HF;clear HF;generalize K.heap.size=wb at*
 go_loopw [47] (fun t wr=>t=I U 0∧IS w wb [[42],h] 2 #[I U op,I U 0,I U 0,I U 0,I U 0] wr) (fun _ _=>0)
 case atStart=>exact⟨rfl,W.out⟩
 case round=>obtain⟨rfl,X⟩:=hrel;have HI:=Aa X;have c0:=X.ins.cell 0;simp only[Ad,Ac]at c0;clear X;go_wp2_with(go_at_call 135;refine(J8 op _ (P.out.1.below HI.out.below) j.out.2.2.2.2).mono ?_;rintro e F⟨rfl,l⟩;rw[j.out.2.2.2.1];have HG:=Aa (HI.out.go l);clear l);clear c0;have f:=HG.out;obtain⟨o,_,hw⟩:=f.wd.Dp;have hw:Cx F wb #[Y (Z ⟨w.heap.size+1,o,N⟩) 0 0,ry rq] 391:=hw;have c0:=f.ins.cell 0;have c1:=f.ins.cell 1;have G:=f.ins.cell 2;have c3:=f.ins.cell 3;have c4:=f.ins.cell 4;have f0:=f.ins.free 0;have f1:=f.ins.free 1;have f2:=f.ins.free 2;have f3:=f.ins.free 3;have f4:=f.ins.free 4;have o0:=hw.cell 0;have o1:=hw.cell 1;simp only[Ad,Ac,Ag]at c0 c1 G c3 c4 o0 o1;have s:=f.mY (a:=I U op) (b:=I U 0) (c:=I U 0) (d:=I U 0) (e:=I U 0) hw;have HW:=Aa (Ab f.Iy s);have H:=Aa (IS.held (n:=0) (f.Iy.go (rf _ _).drew) s.drew);obtain⟨l0,l1,l2,l3,l4,l5,l6⟩:=H.out;clear f hw s H;go_region_held3(fun m=>m.cell? ⟨w.heap.size,0,N⟩=Z (I U op)∧m.cell? ⟨w.heap.size,1,N⟩=Z (I U 0)∧m.cell? ⟨w.heap.size,2,N⟩=Z (I U 0)∧m.cell? ⟨w.heap.size,3,N⟩=Z (I U 0)∧m.cell? ⟨w.heap.size,4,N⟩=Z (I U 0)∧m.cell? ⟨wb,0,N⟩=Z (Y (Z ⟨w.heap.size+1,o,N⟩) 0 0)∧m.cell? ⟨wb,1,N⟩=Z (ry rq)) (first|go_keep|with_reducible assumption|(refine⟨?_,?_,?_,?_,?_,?_,?_⟩<;>with_reducible assumption)) (fail);rename_i T;clear T l0 l1 l2 l3 l4 l5 l6 f0 f1 f2 f3 f4 c0 c1 G c3 c4 o0 o1;have g:=HW.out.1.go (rf _ _).drew;clear HW;generalize(((((F.setCell ⟨w.heap.size,0,N⟩ (I U op)).setCell ⟨w.heap.size,1,N⟩ (I U 0)).setCell ⟨w.heap.size,2,N⟩ (I U 0)).setCell ⟨w.heap.size,3,N⟩ (I U 0)).setCell ⟨w.heap.size,4,N⟩ (I U 0)).drew=WD at g⊢;have c0:=g.ins.cell 0;have c1:=g.ins.cell 1;have G:=g.ins.cell 2;have c3:=g.ins.cell 3;have c4:=g.ins.cell 4;have aa:=Aa g.below;simp only[Ad,Ac,Ag]at c0 c1 G c3 c4;clear g;go_wp2;exact AG (v:=rG #[rE #[I U op,I U 0,I U 0,I U 0,I U 0],ry rq,ry rq]) (by simp[results,results272,go_sem,c0,c1,G,c3,c4]) rfl ⟨rfl,aa.out⟩
theorem cT(op n:Nat)(h dg:List UInt8)(w:oZ)(hL:Laid w)(hm:Mx w)(ho:op<24)(C:(row (op:Nat)).name=h)(hr:(row (op:Nat)).CS=1)(ht:(row (op:Nat)).target=0)(r:(row (op:Nat)).number=rq)(k:h≠[42])(D:(32:UInt8)∉h)(E:Hz dg=rq)(F:GV dg=n)(s:(32:UInt8)∉dg)(hlen:(CZ 32 [h,[114,48],dg]).length≤2100):re prog 272 #[rF ⟨(CZ 32 [h,[114,48],dg]).toArray⟩] w fun e l=>e=rC (rG #[rE #[I U op,I U 0,I U 0,I U 0,I U n],ry rm,ry rq])∧qZ w.heap.size w l:=by
 have V:(h== [42])=false:=by simpa using k
 have HD:=Aa (Ab E F);have X:=Aa (Ab hL hm);have m:=Aa (Ab ho (Ab C (Ab hr (Ab r ht))));have aa:=Cx.new w #[I U 0,I U 0,I U 0,I U 0,I U 0] 84;have G:=Ct (rf w.heap.size w) (rD #[I U 0,I U 0,I U 0,I U 0,I U 0] 84);have q:=GB [h,[114,48],dg] (w.alloc (rD #[I U 0,I U 0,I U 0,I U 0,I U 0] 84)) (by simp) (BR.2 ⟨D,BR.2 ⟨by decide,BR.2 ⟨s,Za9 _⟩⟩⟩) hlen (hm.below G) 3 rfl;rw[show(w.alloc (rD #[I U 0,I U 0,I U 0,I U 0,I U 0] 84)).heap.size=w.heap.size+1 by simp]at q;have H:=Aa q;clear hL hm aa G q ho C hr ht r k D E F s hlen;generalize CZ 32 [h,[114,48],dg]=txt at*
 go_enter func272,ntmps272;go_wp2_with(first|(go_at_call 322;refine H.out.mono ?_;rintro e S⟨rfl,hS,z,i⟩;have g0:=(Ct (rf S.heap.size S) (rD #[Y (Z ⟨w.heap.size+1,0,N⟩) 3 3,ry rq] 391)).cell (p:=⟨w.heap.size+1,0,N⟩) z;rw[hS 0 (by simp)]at g0;simp only[Ac,AQ]at g0;have HA:=Aa (IS.start 3 rfl hS z i);have z0:=(Cx.new S #[Y (Z ⟨w.heap.size+1,0,N⟩) 3 3,ry rq] 391).cell 0;simp only[Ad,Ac]at z0;clear hS z i)|(go_at_call 323;refine(Ek _ _ [h,[114,48],dg] 0 _ HA.out.wd (by simp) (by simp)).mono ?_;rintro e w3⟨rfl,u,x⟩;have HC:=Aa (HA.out.next u x);clear u x)|(go_at_call 324;refine(cP.Jy op h _ (X.out.1.below HC.out.below) m.out.1 m.out.2.1).mono ?_;rintro e w4⟨rfl,i⟩;have f:=HC.out.go i;have T:=Aa (f.set 0 (I U op));have e0:=f.ins.cell 0;have e1:=f.ins.free 0;have e2:=T.out.ins.cell 0;simp only[Ad,Ac]at e0;simp only[Ba,Bj,Ad,Ac]at e2;clear i f)|(go_at_call 133;refine(DX.Iu op _ (X.out.1.below T.out.below)).mono ?_;rintro e w5⟨rfl,i⟩;rw[m.out.2.2.1];have HF:Hid (IS w _ [h,[114,48],dg] _ #[I U op,I U 0,I U 0,I U 0,I U 0] w5):=T.out.go i;clear i));clear HC e0 e1 e2 z0 g0 H V;try clear HA
 try clear HB
 clear T;have ab:=HF;clear HF;generalize S.heap.size=wb at*
 have i0: ∀W,(Instr.index 344 (rE #[J (Z ⟨w.heap.size,1,N⟩),J (Z ⟨w.heap.size,2,N⟩),J (Z ⟨w.heap.size,3,N⟩)]) (I U 0)).run prog W= .ok (J (Z ⟨w.heap.size,1,N⟩)) W:=fun _=>by kernel_rfl
 go_loopw [47] (fun t wr=>(t=I U 0∧IS w wb [h,[114,48],dg] 1 #[I U op,I U 0,I U 0,I U 0,I U 0] wr)∨(t=I U 1∧IS w wb [h,[114,48],dg] 2 #[I U op,I U 0,I U 0,I U 0,I U 0] wr)) (fun t _=>1-(intOf t).toNat)
 case atStart=>exact .inl ⟨rfl,ab.out⟩
 case round=>
  rcases hrel with⟨rfl,y⟩|⟨rfl,y⟩
  ·have K:=Aa (y.go (rf _ _).drew)
   have c1:=y.ins.cell 1;have af:=y.ins.lt;simp only[Ad,Ac,Ag]at c1;clear y;go_wp2;go_region_held3(fun l=>l.cell? ⟨w.heap.size,1,N⟩=Z (I U 0)) (first|go_keep|with_reducible assumption) (first|(go_at_call 325;refine(TR wb _ [h,[114,48],dg] 1 _ K.out.wd rfl (by simp)).mono ?_;rintro e w7⟨rfl,u,x⟩;have j:=K.out.next u x;have f1:=j.ins.free 1;have c1:=j.ins.cell 1;have l1:=(j.set 1 (I U 0)).ins.cell 1;have l2:=((j.set 1 (I U 0)).go (rf _ _).drew).ins.cell 1;simp only[Ad,Ac,Ag]at c1;simp only[Ba,Bj,BZ,Ad,Ac,Ag]at l1 l2;have ad:=Aa j;clear u x j))
   all_goals
    go_wp2;exact⟨.inr ⟨rfl,by have:=ad.out.set 1 (I U 0);simpa using this⟩,by simp[intOf]⟩
  ·have K:=Aa y
   have c0:=y.ins.cell 0;simp only[Ad,Ac]at c0;clear y;go_wp2_with(first|(go_at_call 135;refine(J8 op _ (X.out.1.below K.out.below) m.out.2.2.2.2).mono ?_;rintro e w6⟨rfl,i⟩;rw[m.out.2.2.2.1];have HG:=Aa (K.out.go i);clear i)|(go_at_call 323;refine(Ek _ _ [h,[114,48],dg] 2 _ HG.out.wd (by simp) (by simp)).mono ?_;rintro e w7⟨rfl,u,x⟩;have HN:=Aa (HG.out.next u x);clear u x)|(go_at_call 326;refine(Fe dg _ HD.out.1).mono ?_;rintro e w8⟨rfl,i⟩;rw[HD.out.2];have L:=HN.out.go i;have A:=L.set 4 (I U n);obtain⟨o8,_,M⟩:=L.wd.Dp;have oo:=M.cell 1;obtain⟨o,_,hw⟩:=A.wd.Dp;have f4:=L.ins.free 4;have c4:=L.ins.cell 4;have O:=hw.cell 1;have fo:=hw.free 1;have HP:Hid (IS w wb [h,[114,48],dg] 3 #[I U op,I U 0,I U 0,I U 0,I U n] _):=A.kS;simp only[Ad,Ac,Ag]at c4 O oo;clear i L A hw M));clear c0 f4 c4 O fo oo;generalize((w8.setCell ⟨w.heap.size,4,N⟩ (I U n)).setCell ⟨wb,1,N⟩ (ry rq))=P at*
   have f:=HP.out;obtain⟨o,_,hw⟩:=f.wd.Dp;have hw:Cx P wb #[Y (Z ⟨w.heap.size+1,o,N⟩) 0 0,ry rq] 391:=hw;have c0:=f.ins.cell 0;have c1:=f.ins.cell 1;have Q:=f.ins.cell 2;have c3:=f.ins.cell 3;have c4:=f.ins.cell 4;have f0:=f.ins.free 0;have f1:=f.ins.free 1;have f2:=f.ins.free 2;have f3:=f.ins.free 3;have f4:=f.ins.free 4;have o0:=hw.cell 0;have O:=hw.cell 1;simp only[Ad,Ac,Ag]at c0 c1 Q c3 c4 o0 O;have B:=f.mY (a:=I U op) (b:=I U 0) (c:=I U 0) (d:=I U 0) (e:=I U n) hw;have HW:=Aa (Ab f.Iy B);have R:=Aa (IS.held (n:=0) (f.Iy.go (rf _ _).drew) B.drew);obtain⟨l0,l1,l2,l3,l4,l5,l6⟩:=R.out;clear f hw B R;go_region_held3(fun l=>l.cell? ⟨w.heap.size,0,N⟩=Z (I U op)∧l.cell? ⟨w.heap.size,1,N⟩=Z (I U 0)∧l.cell? ⟨w.heap.size,2,N⟩=Z (I U 0)∧l.cell? ⟨w.heap.size,3,N⟩=Z (I U 0)∧l.cell? ⟨w.heap.size,4,N⟩=Z (I U n)∧l.cell? ⟨wb,0,N⟩=Z (Y (Z ⟨w.heap.size+1,o,N⟩) 0 0)∧l.cell? ⟨wb,1,N⟩=Z (ry rq)) (first|go_keep|with_reducible assumption|(refine⟨?_,?_,?_,?_,?_,?_,?_⟩<;>with_reducible assumption)) (fail);rename_i hh;clear hh l0 l1 l2 l3 l4 l5 l6 f0 f1 f2 f3 f4 c0 c1 Q c3 c4 o0 O;have g:=HW.out.1.go (rf _ _).drew;clear HW;generalize(((((P.setCell ⟨w.heap.size,0,N⟩ (I U op)).setCell ⟨w.heap.size,1,N⟩ (I U 0)).setCell ⟨w.heap.size,2,N⟩ (I U 0)).setCell ⟨w.heap.size,3,N⟩ (I U 0)).setCell ⟨w.heap.size,4,N⟩ (I U n)).drew=WD at g⊢;have c0:=g.ins.cell 0;have c1:=g.ins.cell 1;have Q:=g.ins.cell 2;have c3:=g.ins.cell 3;have c4:=g.ins.cell 4;have ae:=Aa g.below;simp only[Ad,Ac,Ag]at c0 c1 Q c3 c4;clear g;go_wp2;exact AG (v:=rG #[rE #[I U op,I U 0,I U 0,I U 0,I U n],ry rm,ry rq]) (by simp[results,results272,go_sem,c0,c1,Q,c3,c4]) rfl ⟨rfl,ae.out⟩
end
theorem cU(op n:Nat)(h dg:List UInt8)(w:oZ)(hL:Laid w)(hm:Mx w)(ho:op<24)(B:(row (op:Nat)).name=h)(hr:(row (op:Nat)).CS=1)(ht:(row (op:Nat)).target=0)(r:(row (op:Nat)).number=rm)(j:h≠[42])(C:(32:UInt8)∉h)(D:Hz dg=rq)(E:GV dg=n)(F:(32:UInt8)∉dg)(hlen:(CZ 32 [[42],h,[114,48]]).length≤2100):re prog 272 #[rF ⟨(CZ 32 [[42],h,[114,48]]).toArray⟩] w fun e k=>e=rC (rG #[rE #[I U op,I U 0,I U 0,I U 0,I U 0],ry rq,ry rq])∧qZ w.heap.size w k:=by
 have S:(h== [42])=false:=by simpa using j
 have HD:=Aa (Ab D E);have T:=Aa (Ab hL hm);have l:=Aa (Ab ho (Ab B (Ab hr (Ab r ht))));have V:=Cx.new w #[I U 0,I U 0,I U 0,I U 0,I U 0] 84;have G:=Ct (rf w.heap.size w) (rD #[I U 0,I U 0,I U 0,I U 0,I U 0] 84);have m:=GB [[42],h,[114,48]] (w.alloc (rD #[I U 0,I U 0,I U 0,I U 0,I U 0] 84)) (by simp) (BR.2 ⟨by decide,BR.2 ⟨C,BR.2 ⟨by decide,Za9 _⟩⟩⟩) hlen (hm.below G) 3 rfl;rw[show(w.alloc (rD #[I U 0,I U 0,I U 0,I U 0,I U 0] 84)).heap.size=w.heap.size+1 by simp]at m;have H:=Aa m;clear hL hm V G m ho B hr ht r j C D E F hlen;generalize CZ 32 [[42],h,[114,48]]=txt at*
 go_enter func272,ntmps272;go_wp2_with(first|(go_at_call 322;refine H.out.mono ?_;rintro e P⟨rfl,X,y,q⟩;have g0:=(Ct (rf P.heap.size P) (rD #[Y (Z ⟨w.heap.size+1,0,N⟩) 3 3,ry rq] 391)).cell (p:=⟨w.heap.size+1,0,N⟩) y;rw[X 0 (by simp)]at g0;simp only[Ac,AQ]at g0;have HA:=Aa (IS.start 3 rfl X y q);have z0:=(Cx.new P #[Y (Z ⟨w.heap.size+1,0,N⟩) 3 3,ry rq] 391).cell 0;simp only[Ad,Ac]at z0;clear X y q)|(go_at_call 323;first|(have hh:=Q;refine(Ek _ _ [[42],h,[114,48]] 1 _ Q.out.wd (by simp) (by simp)).mono ?_;rintro e w3⟨rfl,s,u⟩;have HC:=Aa (Q.out.next s u);clear s u hh)|(refine(Ek _ _ [[42],h,[114,48]] 0 _ HA.out.wd (by simp) (by simp)).mono ?_;rintro e w2⟨rfl,s,u⟩;have Q:=Aa (HA.out.next s u);clear s u))|(go_at_call 324;refine(cP.Jy op h _ (T.out.1.below HC.out.below) l.out.1 l.out.2.1).mono ?_;rintro e w4⟨rfl,q⟩;have f:=HC.out.go q;have R:=Aa (f.set 0 (I U op));have e0:=f.ins.cell 0;have e1:=f.ins.free 0;have e2:=R.out.ins.cell 0;simp only[Ad,Ac]at e0;simp only[Ba,Bj,Ad,Ac]at e2;clear q f)|(go_at_call 133;refine(DX.Iu op _ (T.out.1.below R.out.below)).mono ?_;rintro e w5⟨rfl,q⟩;rw[l.out.2.2.1];have HF:Hid (IS w _ [[42],h,[114,48]] _ #[I U op,I U 0,I U 0,I U 0,I U 0] w5):=R.out.go q;clear q));clear HC e0 e1 e2 z0 g0 H S;try clear HA
 try clear Q
 clear R;have aa:=HF;clear HF;generalize P.heap.size=A at*
 have i0: ∀W,(Instr.index 344 (rE #[J (Z ⟨w.heap.size,1,N⟩),J (Z ⟨w.heap.size,2,N⟩),J (Z ⟨w.heap.size,3,N⟩)]) (I U 0)).run prog W= .ok (J (Z ⟨w.heap.size,1,N⟩)) W:=fun _=>by kernel_rfl
 go_loopw [47] (fun t wr=>(t=I U 0∧IS w A [[42],h,[114,48]] 2 #[I U op,I U 0,I U 0,I U 0,I U 0] wr)∨(t=I U 1∧IS w A [[42],h,[114,48]] 3 #[I U op,I U 0,I U 0,I U 0,I U 0] wr)) (fun t _=>1-(intOf t).toNat)
 case atStart=>exact .inl ⟨rfl,aa.out⟩
 case round=>
  rcases hrel with⟨rfl,x⟩|⟨rfl,x⟩
  ·have K:=Aa (x.go (rf _ _).drew)
   have c1:=x.ins.cell 1;have ae:=x.ins.lt;simp only[Ad,Ac,Ag]at c1;clear x;go_wp2;go_region_held3(fun k=>k.cell? ⟨w.heap.size,1,N⟩=Z (I U 0)) (first|go_keep|with_reducible assumption) (first|(go_at_call 325;refine(TR A _ [[42],h,[114,48]] 2 _ K.out.wd rfl (by simp)).mono ?_;rintro e w7⟨rfl,s,u⟩;have i:=K.out.next s u;have f1:=i.ins.free 1;have c1:=i.ins.cell 1;have l1:=(i.set 1 (I U 0)).ins.cell 1;have l2:=((i.set 1 (I U 0)).go (rf _ _).drew).ins.cell 1;simp only[Ad,Ac,Ag]at c1;simp only[Ba,Bj,BZ,Ad,Ac,Ag]at l1 l2;have ab:=Aa i;clear s u i))
   all_goals
    go_wp2;exact⟨.inr ⟨rfl,by have:=ab.out.set 1 (I U 0);simpa using this⟩,by simp[intOf]⟩
  ·have K:=Aa x
   have c0:=x.ins.cell 0;simp only[Ad,Ac]at c0;clear x;go_wp2_with(go_at_call 135;refine(J8 op _ (T.out.1.below K.out.below) l.out.2.2.2.2).mono ?_;rintro e L⟨rfl,q⟩;rw[l.out.2.2.2.1];have HG:=Aa (K.out.go q);clear q);clear c0;have f:=HG.out;obtain⟨o,_,hw⟩:=f.wd.Dp;have hw:Cx L A #[Y (Z ⟨w.heap.size+1,o,N⟩) 0 0,ry rq] 391:=hw;have c0:=f.ins.cell 0;have c1:=f.ins.cell 1;have M:=f.ins.cell 2;have c3:=f.ins.cell 3;have c4:=f.ins.cell 4;have f0:=f.ins.free 0;have f1:=f.ins.free 1;have f2:=f.ins.free 2;have f3:=f.ins.free 3;have f4:=f.ins.free 4;have o0:=hw.cell 0;have o1:=hw.cell 1;simp only[Ad,Ac,Ag]at c0 c1 M c3 c4 o0 o1;have z:=f.mY (a:=I U op) (b:=I U 0) (c:=I U 0) (d:=I U 0) (e:=I U 0) hw;have HW:=Aa (Ab f.Iy z);have O:=Aa (IS.held (n:=0) (f.Iy.go (rf _ _).drew) z.drew);obtain⟨l0,l1,l2,l3,l4,l5,l6⟩:=O.out;clear f hw z O;go_region_held3(fun k=>k.cell? ⟨w.heap.size,0,N⟩=Z (I U op)∧k.cell? ⟨w.heap.size,1,N⟩=Z (I U 0)∧k.cell? ⟨w.heap.size,2,N⟩=Z (I U 0)∧k.cell? ⟨w.heap.size,3,N⟩=Z (I U 0)∧k.cell? ⟨w.heap.size,4,N⟩=Z (I U 0)∧k.cell? ⟨A,0,N⟩=Z (Y (Z ⟨w.heap.size+1,o,N⟩) 0 0)∧k.cell? ⟨A,1,N⟩=Z (ry rq)) (first|go_keep|with_reducible assumption|(refine⟨?_,?_,?_,?_,?_,?_,?_⟩<;>with_reducible assumption)) (fail);rename_i hh;clear hh l0 l1 l2 l3 l4 l5 l6 f0 f1 f2 f3 f4 c0 c1 M c3 c4 o0 o1;have g:=HW.out.1.go (rf _ _).drew;clear HW;generalize(((((L.setCell ⟨w.heap.size,0,N⟩ (I U op)).setCell ⟨w.heap.size,1,N⟩ (I U 0)).setCell ⟨w.heap.size,2,N⟩ (I U 0)).setCell ⟨w.heap.size,3,N⟩ (I U 0)).setCell ⟨w.heap.size,4,N⟩ (I U 0)).drew=WD at g⊢;have c0:=g.ins.cell 0;have c1:=g.ins.cell 1;have M:=g.ins.cell 2;have c3:=g.ins.cell 3;have c4:=g.ins.cell 4;have ad:=Aa g.below;simp only[Ad,Ac,Ag]at c0 c1 M c3 c4;clear g;go_wp2;exact AG (v:=rG #[rE #[I U op,I U 0,I U 0,I U 0,I U 0],ry rq,ry rq]) (by simp[results,results272,go_sem,c0,c1,M,c3,c4]) rfl ⟨rfl,ad.out⟩
end Go.Proofs.YtgadhchejmlfjaaGreatDoor.FM
namespace Go.Proofs.YtgadhchejmlfjaaGreatDoor.LK
open Go.Proofs.Tryz Go.RowKit Go.CL
open Cw (Pr ys pz)
section
variable {w:oZ} {b g n cap:Nat} {l:List Pr} {F:Nat→Int}
structure Bx (w:oZ) (b:Nat) (v:qY) (l:List Pr) (F:Nat→Int):Prop where
 cs:Dv w b 65 213 (fun i=>if i=0 then v else I U (F (i-1)))
 row:w.ownsRow 0 222 2 v l.length (ys l)
 ne:v.ownBlock≠Z b
 at_: ∀i,i<l.length→0≤(l[i]?.getD pz).1∧(l[i]?.getD pz).1<64∧F (l[i]?.getD pz).1.toNat=i
 idx: ∀k,k<64→F k= -1∨ ∃i:Nat,F k=i∧i<l.length∧(l[i]?.getD pz).1=k
def Bf(b:Nat)(v:qY)(j:Nat):Prop:=j=b∨v.ownBlock=Z j
theorem DT(b:Nat)(v:qY)(l:List Pr)(F:Nat→Int)(w:oZ)(h:Bx w b v l F):re prog 398 #[J (Z ⟨b,0,N⟩)] w fun e c=>e=rC (I U l.length)∧w=c:=by
 have c0:=h.cs.cell (i:=0) (by decide);simp only[BM]at c0;obtain⟨a,cap,rfl⟩: ∃a cap,v= .slice a l.length cap:=by rcases Dr h.row with⟨rfl,d⟩|⟨g,cap,rfl,_⟩;exact⟨N,0,by rw[d]⟩;exact⟨_,cap,rfl⟩
 clear h;go_enter func398,ntmps398;go_wp2;go_ret;exact⟨rfl,rfl⟩
theorem Bx.cell(h:Bx w b (Y (Z ⟨g,0,N⟩) n cap) l F)(i:Nat)(c:i<l.length):w.cell? ⟨g,i*2,N⟩=Z (I U (l[i]?.getD pz).1)∧w.cell? ⟨g,i*2+1,N⟩=Z (I U (l[i]?.getD pz).2)∧g<w.heap.size∧n=l.length:=by
 rcases Dr h.row with⟨e,_⟩|⟨j,d,he,_,f,k,a⟩
 ·cases e
 ·cases he
  refine⟨?_,?_,f,rfl⟩
  ·rw[a _ (by omega),(Cw.XO l i c).1];rfl
  ·rw[a _ (by omega),(Cw.XO l i c).2];rfl
def Vi(a b:Int):Int:=if a<b then-1 else if b<a then 1 else 0
theorem kT(a b:Int)(w:oZ):re prog 407 #[I U a,I U b] w fun e f=>e=rC (I U (Vi a b))∧w=f:=by
 unfold Vi;have g:(a !=a)=false:=by simp
 have nb:(b !=b)=false:=by simp
 by_cases c:a<b
 ·rw[Ai c]
  have d1:decide (a<b)=true:=by simpa using c
  clear c;go_enter func407,ntmps407;go_wp2;go_ret;exact⟨rfl,rfl⟩
 ·rw[Ah c]
  have d1:decide (a<b)=false:=by simpa using c
  by_cases d:b<a
  ·rw[Ai d]
   have d2:decide (b<a)=true:=by simpa using d
   clear c d;go_enter func407,ntmps407;go_wp2;go_ret;exact⟨rfl,rfl⟩
  ·rw[Ah d]
   have d2:decide (b<a)=false:=by simpa using d
   clear c d;go_enter func407,ntmps407;go_wp2;go_ret;exact⟨rfl,rfl⟩
theorem iL(a b:Int)(w:oZ):re prog 408 #[I U a,I U b] w fun e f=>e=rC (I U (Vi a b))∧w=f:=by
 unfold Vi;have g:(a !=a)=false:=by simp
 have nb:(b !=b)=false:=by simp
 by_cases c:a<b
 ·rw[Ai c]
  have d1:decide (a<b)=true:=by simpa using c
  clear c;go_enter func408,ntmps408;go_wp2;go_ret;exact⟨rfl,rfl⟩
 ·rw[Ah c]
  have d1:decide (a<b)=false:=by simpa using c
  by_cases d:b<a
  ·rw[Ai d]
   have d2:decide (b<a)=true:=by simpa using d
   clear c d;go_enter func408,ntmps408;go_wp2;go_ret;exact⟨rfl,rfl⟩
  ·rw[Ah d]
   have d2:decide (b<a)=false:=by simpa using d
   clear c d;go_enter func408,ntmps408;go_wp2;go_ret;exact⟨rfl,rfl⟩
def Ot(w:oZ)(e:rB)(w':oZ):Prop:= ∃x:Int,e=rC (I U x)∧qZ w.heap.size w w'
def PD(w:oZ)(e:rB)(w':oZ):Prop:= ∃x:Bool,e=rC (ry x)∧qZ w.heap.size w w'
theorem iM(g:Nat)(x y:Int)(w:oZ)(c0:w.cell? ⟨g,0,N⟩=Z (I U x))(c1:w.cell? ⟨g,1,N⟩=Z (I U y)):re prog 406 #[Y (Z ⟨g,0,N⟩) 2 2] w (Ot w):=by
 by_cases a:x=0
 ·subst a
  by_cases hy:y=0
  ·subst hy
   go_enter func406,ntmps406;go_wp2;refine wp_loop_rounds 3 ?_;rw[rounds_succ];go_wp2;rw[rounds_succ];go_wp2;rw[rounds_succ];go_wp2;go_ret;exact⟨0,rfl,rf _ _⟩
  ·have d:(y !=0)=true:=by simpa using hy
   clear hy;go_enter func406,ntmps406;go_wp2;refine wp_loop_rounds 2 ?_;rw[rounds_succ];go_wp2;rw[rounds_succ];go_wp2;go_ret;exact⟨y,rfl,rf _ _⟩
 ·have d:(x !=0)=true:=by simpa using a
  clear a;go_enter func406,ntmps406;go_wp2;refine wp_loop_rounds 1 ?_;rw[rounds_succ];go_wp2;go_ret;exact⟨x,rfl,rf _ _⟩
theorem iO{x y:Int}{t:rA}(h:Cx w g #[I U x,I U y] t):re prog 406 #[Y (Z ⟨g,0,N⟩) 2 2] w (Ot w):=iM g x y w (h.cell 0) (h.cell 1)
theorem PE(a b c d:Int)(w:oZ):re prog 405 #[rE #[I U a,I U b],rE #[I U c,I U d]] w (Ot w):=by
 have i:w.heap.size<w.heap.size+1+1+1:=by omega
 have j:w.heap.size<w.heap.size+1+1:=by omega
 have k:w.heap.size<w.heap.size+3:=by omega
 have l:w.heap.size<w.heap.size+2:=by omega
 go_enter func405,ntmps405;go_wp2;go_region_held3(fun f=>f.cell? ⟨w.heap.size,0,N⟩=Z (I U a)∧f.cell? ⟨w.heap.size,1,N⟩=Z (I U b)∧f.cell? ⟨w.heap.size+1,0,N⟩=Z (I U c)∧f.cell? ⟨w.heap.size+1,1,N⟩=Z (I U d)) (go_keep) (first|(go_at_call 407;refine(kT _ _ _).mono ?_;rintro e g⟨rfl,rfl⟩)|(go_at_call 408;refine(iL _ _ _).mono ?_;rintro e g⟨rfl,rfl⟩)|(go_at_call 406;refine(iO (Cx.drew (Cx.Iq #[I U (Vi b d),I U (Vi a c)] 3 (by simp)))).mono ?_;rintro e g⟨x,rfl,h⟩;obtain⟨c1,f1⟩:=Ft h));go_wp2;go_ret;exact⟨x,rfl,Cu (Ct (Ct (Ct (rf _ _) _) _) _) (F5 h)⟩
theorem X8(b g n cap:Nat)(l:List Pr)(F:Nat→Int)(i j:Nat)(w:oZ)(h:Bx w b (Y (Z ⟨g,0,N⟩) n cap) l F)(d:i<l.length)(f:j<l.length):re prog 401 #[J (Z ⟨b,0,N⟩),I U i,I U j] w (PD w):=by
 obtain⟨i0,i1,k,rfl⟩:=h.cell i d;obtain⟨m,o,_,_⟩:=h.cell j f;have c0:=h.cs.cell (i:=0) (by decide);simp only[BM]at c0;have p:=h.cs.lt;have q:(i:Int)<(l.length:Int):=by omega
 have r:(j:Int)<(l.length:Int):=by omega
 generalize l[i]?.getD pz=x at*
 generalize l[j]?.getD pz=y at*
 generalize l.length=n at*
 clear h;go_enter func401,ntmps401;go_wp2;go_region_held3(fun a=>a.cell? ⟨b,0,N⟩=Z (Y (Z ⟨g,0,N⟩) n cap)∧a.cell? ⟨g,i*2,N⟩=Z (I U x.1)∧a.cell? ⟨g,i*2+1,N⟩=Z (I U x.2)∧a.cell? ⟨g,j*2,N⟩=Z (I U y.1)∧a.cell? ⟨g,j*2+1,N⟩=Z (I U y.2)) (go_keep) (first|(go_at_call 405;refine(PE _ _ _ _ _).mono ?_;rintro e s⟨z,rfl,c⟩;obtain⟨c1,f1⟩:=Ft (F5 c)));go_wp2;go_ret;exact⟨_,rfl,F5 c⟩
theorem X9{e:rA}(h:w.ownsRow 0 e 2 (Y (Z ⟨g,0,N⟩) n cap) l.length (ys l))(i:Nat)(b:i<l.length)(x:Pr):((w.setCell ⟨g,i*2,N⟩ (I U x.1)).setCell ⟨g,i*2+1,N⟩ (I U x.2)).ownsRow 0 e 2 (Y (Z ⟨g,0,N⟩) n cap) (l.set i x).length (ys (l.set i x)):=by
 obtain⟨p,⟨c,_⟩|⟨q,a,cur,he,d,f,j,hm,k,m⟩⟩:=h
 ·cases c
 ·simp only[Ar,Ak,BF]at he
  obtain⟨⟨rfl,_⟩,rfl,rfl⟩:=he;have o:Cx w g cur e:=f;refine⟨by rw[AV,Cw.Mj,AV],.inr ⟨g,cap,_,by rw[AV],d,(o.set (i*2) (I U x.1)).set (i*2+1) (I U x.2),by rw[AV];exact j,hm,by simpa using k,?_⟩⟩;rw[AV,Cw.XS l x i b,←m];simp[Zca]
theorem LU{e:rA}(h:w.ownsRow 0 e 2 (Y (Z ⟨g,0,N⟩) n cap) l.length (ys l))(i:Nat):w.frozen? ⟨g,i,N⟩=false:=by
 obtain⟨f,⟨b,_⟩|⟨j,a,cur,he,k,c,m,hm,o,p⟩⟩:=h
 ·cases b
 ·simp only[Ar,Ak,BF]at he
  obtain⟨⟨rfl,_⟩,rfl,rfl⟩:=he;have d:Cx w g cur e:=c;exact d.free i
def Jm(l:List Pr)(i j:Nat):List Pr:=(l.set i (l[j]?.getD pz)).set j (l[i]?.getD pz)
def J9(F:Nat→Int)(l:List Pr)(i j:Nat):Nat→Int:=fun k=>if k=(l[i]?.getD pz).1.toNat then j else if k=(l[j]?.getD pz).1.toNat then i else F k
def kU(b:Nat)(v:qY)(l:List Pr)(F:Nat→Int)(w:oZ)(e:rB)(w':oZ):Prop:=e=rC (rG #[])∧Bx w' b v l F∧Cv (Bf b v) w w'
def PF(b g i j kx a:Nat)(x2 c:Int)(w:oZ):World:=(((((w.setCell ⟨g,i*2,N⟩ (I U a)).setCell ⟨g,i*2+1,N⟩ (I U c)).setCell ⟨g,j*2,N⟩ (I U kx)).setCell ⟨g,j*2+1,N⟩ (I U x2)).setCell ⟨b,1+a,N⟩ (I U i)).setCell ⟨b,1+kx,N⟩ (I U j)
theorem Vj(b g n cap i j kx a:Nat)(x2 k l m:Int)(w:oZ)(c0:w.cell? ⟨b,0,N⟩=Z (Y (Z ⟨g,0,N⟩) n cap))(i0:w.cell? ⟨g,i*2,N⟩=Z (I U kx))(i1:w.cell? ⟨g,i*2+1,N⟩=Z (I U x2))(t:w.cell? ⟨g,j*2,N⟩=Z (I U a))(u:w.cell? ⟨g,j*2+1,N⟩=Z (I U k))(f1:w.frozen? ⟨g,i*2,N⟩=rm)(f2:w.frozen? ⟨g,i*2+1,N⟩=rm)(f3:w.frozen? ⟨g,j*2,N⟩=rm)(f4:w.frozen? ⟨g,j*2+1,N⟩=rm)(a1:w.cell? ⟨b,1+a,N⟩=Z (I U m))(a2:w.cell? ⟨b,1+kx,N⟩=Z (I U l))(f5:w.frozen? ⟨b,1+a,N⟩=rm)(f6:w.frozen? ⟨b,1+kx,N⟩=rm)(o: ¬g=b)(p: ¬b=g)(f:i<n)(h:j<n)(c:i≠j)(q:kx<64)(hy:a<64)(d:kx≠a):re prog 404 #[J (Z ⟨b,0,N⟩),I U i,I U j] w fun e r=>e=rC (rG #[])∧r=(PF b g i j kx a x2 k w).drew.drew:=by
 have v:(i:Int)<(n:Int):=by omega
 have x:(j:Int)<(n:Int):=by omega
 have y:(kx:Int)<64:=by omega
 have z:(a:Int)<64:=by omega
 have A: ¬i*2=j*2:=by omega
 have B: ¬j*2=i*2:=by omega
 have n3: ¬i*2+1=j*2:=by omega
 have n4: ¬j*2=i*2+1:=by omega
 have C: ¬i*2=j*2+1:=by omega
 have n6: ¬j*2+1=i*2:=by omega
 have D: ¬i=j:=c;have E: ¬j=i:=fun e=>c e.symm;have F: ¬kx=a:=d;have s: ¬a=kx:=fun e=>d e.symm;clear f h q hy;unfold PF;go_enter func404,ntmps404;go_wp2;go_region
 go_wp2;go_region
 go_end0;exact⟨rfl,rfl⟩
theorem Bx.drew{v:qY}(h:Bx w b v l F):Bx w.drew b v l F:=⟨h.cs,h.row,h.ne,h.at_,h.idx⟩
theorem I2(l:List Pr)(i j:Nat):(Jm l i j).length=l.length:=by simp[Jm]
theorem Fy(l:List Pr)(i j k:Nat)(c:i<l.length)(d:j<l.length):(Jm l i j)[k]?.getD pz=if k=j then l[i]?.getD pz else if k=i then l[j]?.getD pz else l[k]?.getD pz:=by
 unfold Jm;by_cases a:k=j
 ·subst a;rw[Ai rfl,Aj (by simpa using d)];rfl
 ·rw[Ah a,Ao (fun e=>a e.symm)]
  by_cases b:k=i
  ·subst b;rw[Ai rfl,Aj c];rfl
  ·rw[Ah b,Ao (fun e=>b e.symm)]
theorem Bx.swap(h:Bx w b (Y (Z ⟨g,0,N⟩) n cap) l F){i j kx c:Nat}{x2 y:Int}(p:i<l.length)(q:j<l.length)(t:i≠j)(r:l[i]?.getD pz=((kx:Int),x2))(s:l[j]?.getD pz=((c:Int),y)):Bx (PF b g i j kx c x2 y w) b (Y (Z ⟨g,0,N⟩) n cap) (Jm l i j) (J9 F l i j):=by
 have a:g≠b:=fun e=>h.ne (by rw[e];rfl);obtain⟨A,B,z⟩:=h.at_ i p;obtain⟨C,D,y3⟩:=h.at_ j q;rw[r]at A B z;rw[s]at C D y3;simp only[An]at z y3;have u:kx≠c:=fun e=>t (by rw[e,y3]at z;omega);unfold PF;refine⟨?_,?_,h.ne,?_,?_⟩
 ·refine(((((((h.cs.setOther (BT a) _).setOther (BT a) _).setOther (BT a) _).setOther (BT a) _).set (i:=1+c) (by omega) _).set (i:=1+kx) (by omega) _)).congr fun k d=>?_
  simp only[J9,r,s,An];by_cases f:k=1+kx
  ·subst f;simp
  ·rw[Ah f]
   by_cases o:k=1+c
   ·subst o
    simp[show¬c=kx from fun e=>u e.symm]
   ·rw[Ah o]
    by_cases E:k=0
    ·simp[E]
    ·have v: ¬k-1=kx:=by omega
     have a2: ¬k-1=c:=by omega
     simp[E,v,a2]
 ·have r1:=X9 h.row i p ((c:Int),y)
  have G:=X9 r1 j (by simpa using q) ((kx:Int),x2);have H:(l.set i ((c:Int),y)).set j ((kx:Int),x2)=Jm l i j:=by unfold Jm;rw[r,s]
  rw[←H];exact Dd (Dd G ((Cv.refl (fun k=>k=b) _).set (.inr rfl) _ _) (fun k d e=>a (by cases d;exact e))) ((Cv.refl (fun k=>k=b) _).set (.inr rfl) _ _) (fun k d e=>a (by cases d;exact e))
 ·intro k d
  rw[I2]at d;rw[Fy l i j k p q];simp only[J9,r,s,An];by_cases f:k=j
  ·subst f;rw[Ai rfl];exact⟨A,B,by simp⟩
  ·rw[Ah f]
   by_cases o:k=i
   ·subst o;rw[Ai rfl];exact⟨C,D,by simp[show¬c=kx from fun e=>u e.symm]⟩
   ·rw[Ah o]
    obtain⟨z0,K,z2⟩:=h.at_ k d;refine⟨z0,K,?_⟩;have v: ¬(l[k]?.getD pz).1.toNat=kx:=fun e=>by rw[e,z]at z2;omega
    have a2: ¬(l[k]?.getD pz).1.toNat=c:=fun e=>by rw[e,y3]at z2;omega
    rw[Ah v,Ah a2];exact z2
 ·intro k d
  simp only[J9,r,s,An,I2];by_cases f:k=kx
  ·subst f;exact .inr ⟨j,by simp,q,by rw[Fy l i j j p q,Ai rfl,r]⟩
  ·rw[Ah f]
   by_cases o:k=c
   ·subst o;exact .inr ⟨i,by simp,p,by rw[Fy l i j i p q,Ah t,Ai rfl,s]⟩
   ·rw[Ah o]
    rcases h.idx k d with L|⟨m,M,O,x⟩
    ·exact .inl L
    ·refine .inr ⟨m,M,O,?_⟩
     have v: ¬m=j:=fun e=>o (by subst e;rw[s]at x;simp at x;omega);have a2: ¬m=i:=fun e=>f (by subst e;rw[r]at x;simp at x;omega);rw[Fy l i j m p q,Ah v,Ah a2];exact x
theorem PG(b g n cap:Nat)(l:List Pr)(F:Nat→Int)(i j:Nat)(w:oZ)(h:Bx w b (Y (Z ⟨g,0,N⟩) n cap) l F)(o:i<l.length)(p:j<l.length)(a:i≠j):re prog 404 #[J (Z ⟨b,0,N⟩),I U i,I U j] w (kU b (Y (Z ⟨g,0,N⟩) n cap) (Jm l i j) (J9 F l i j) w):=by obtain⟨y,z,q⟩:=h.at_ i o;obtain⟨A,B,y3⟩:=h.at_ j p;obtain⟨f,c,s⟩: ∃(k:Nat)(c:Int),l[i]?.getD pz=((k:Int),c):=⟨(l[i]?.getD pz).1.toNat,(l[i]?.getD pz).2,Prod.ext (by simp;omega) rfl⟩;obtain⟨m,C,t⟩: ∃(k:Nat)(c:Int),l[j]?.getD pz=((k:Int),c):=⟨(l[j]?.getD pz).1.toNat,(l[j]?.getD pz).2,Prod.ext (by simp;omega) rfl⟩;obtain⟨i0,i1,D,E⟩:=h.cell i o;obtain⟨u,v,_,_⟩:=h.cell j p;rw[s]at i0 i1 y z q;rw[t]at u v A B y3;simp only[An]at q y3;have r:f≠m:=fun e=>a (by rw[e,y3]at q;omega);have d: ¬g=b:=fun e=>h.ne (by rw[e];rfl);have c0:=h.cs.cell (i:=0) (by decide);simp only[BM]at c0;have x:=h.cs.cell (i:=1+m) (by omega);have a2:=h.cs.cell (i:=1+f) (by omega);simp only[show¬1+m=0 by omega,show¬1+f=0 by omega,BH]at x a2;refine(Vj b g n cap i j f m c C _ _ w c0 i0 i1 u v (LU h.row _) (LU h.row _) (LU h.row _) (LU h.row _) x a2 (h.cs.free _) (h.cs.free _) d (fun e=>d e.symm) (by omega) (by omega) a (by omega) (by omega) r).mono ?_;rintro e G⟨rfl,rfl⟩;refine⟨rfl,((h.swap o p a s t).drew).drew,?_⟩;unfold PF;exact((((((((Cv.refl (Bf b (Y (Z ⟨g,0,N⟩) n cap)) w).set (.inr (.inr rfl)) _ _).set (.inr (.inr rfl)) _ _).set (.inr (.inr rfl)) _ _).set (.inr (.inr rfl)) _ _).set (.inr (.inl rfl)) _ _).set (.inr (.inl rfl)) _ _).drew).drew
end
section
variable {b n m g c cap:Nat} {v:qY} {D:Nat→Option Int} {q:Pr} {w w':oZ}
theorem iP(a:Addr)(w:oZ):(method 571 224 (J (Z a)) "Len").run prog w= .ok (398,J (Z a)) w:=by kernel_rfl
theorem gM(a:Addr)(w:oZ):(method 571 224 (J (Z a)) "Less").run prog w= .ok (401,J (Z a)) w:=by kernel_rfl
theorem Ya(a:Addr)(w:oZ):(method 571 224 (J (Z a)) "Swap").run prog w= .ok (404,J (Z a)) w:=by kernel_rfl
theorem kV(a:Addr)(w:oZ):(method 571 224 (J (Z a)) "Push").run prog w= .ok (403,J (Z a)) w:=by kernel_rfl
theorem nO(a:Addr)(w:oZ):(method 571 224 (J (Z a)) "Pop").run prog w= .ok (402,J (Z a)) w:=by kernel_rfl
structure Hx (b:Nat) (v:qY) (D:Nat→Option Int) (n m:Nat) (q:Pr) (w:oZ):Prop where
 bx: ∃l F,Bx w b v l F∧l.length=n∧(∀i,i<n→D (l[i]?.getD pz).1.toNat=Z (l[i]?.getD pz).2)∧(∀k,k<64→F k= -1→D k=N)∧(m<n→l[m]?.getD pz=q)
theorem Hx.only{S:Nat→Prop}(h:Hx b v D n m q w)(o:Cv S w w')(c: ∀j,Bf b v j→ ¬S j):Hx b v D n m q w':=by obtain⟨l,F,a,r⟩:=h.bx;exact⟨l,F,⟨a.cs.only o (c b (.inl rfl)),Dd a.row o (fun j d=>c j (.inr d)),a.ne,a.at_,a.idx⟩,r⟩
theorem Hx.below(h:Hx b v D n m q w)(o:qZ w.heap.size w w'):Hx b v D n m q w':=h.only (S:=fun _=>False) ((Cv.refl _ w).below o) (fun _ _ x=>x)
theorem Hx.less(h:Hx b (Y (Z ⟨g,0,N⟩) c cap) D n m q w)(i j:Nat)(d:i<n)(e:j<n):re prog 401 #[J (Z ⟨b,0,N⟩),I U i,I U j] w (PD w):=by obtain⟨l,F,a,f,r⟩:=h.bx;exact X8 b g c cap l F i j w a (by omega) (by omega)
def TW(b:Nat)(v:qY)(D:Nat→Option Int)(n m:Nat)(q:Pr)(w:oZ)(e:rB)(w':oZ):Prop:=e=rC (rG #[])∧Hx b v D n m q w'∧Cv (Bf b v) w w'
theorem Hx.swap(h:Hx b (Y (Z ⟨g,0,N⟩) c cap) D n m q w)(i j:Nat)(y:i<n)(z:j<n)(r:i≠j)(s:i≠m)(t:j≠m):re prog 404 #[J (Z ⟨b,0,N⟩),I U i,I U j] w (TW b (Y (Z ⟨g,0,N⟩) c cap) D n m q w):=by
 obtain⟨l,F,A,B,u,C,E⟩:=h.bx;have a:i<l.length:=by omega
 have d:j<l.length:=by omega
 refine(PG b g c cap l F i j w A a d r).mono ?_;rintro e w'⟨rfl,v,G⟩;refine⟨rfl,⟨Jm l i j,J9 F l i j,v,by rw[I2];exact B,?_,?_,?_⟩,G⟩
 ·intro k x
  rw[Fy l i j k a d];by_cases o:k=j
  ·rw[Ai o];exact u i y
  ·rw[Ah o]
   by_cases p:k=i
   ·rw[Ai p];exact u j z
   ·rw[Ah p];exact u k x
 ·intro k x f
  unfold J9 at f;by_cases o:k=(l[i]?.getD pz).1.toNat
  ·rw[Ai o]at f;omega
  ·rw[Ah o]at f
   by_cases p:k=(l[j]?.getD pz).1.toNat
   ·rw[Ai p]at f;omega
   ·rw[Ah p]at f;exact C k x f
 ·intro hm
  rw[Fy l i j m a d,Ah (fun e=>t e.symm),Ah (fun e=>s e.symm)];exact E hm
theorem RU(b g c cap:Nat)(D:Nat→Option Int)(n m:Nat)(q:Pr)(j:Nat)(w:oZ)(h:Hx b (Y (Z ⟨g,0,N⟩) c cap) D n m q w)(F:j<n)(hm:j<m)(G:n≤64):re prog 195 #[.iface 224 (J (Z ⟨b,0,N⟩)),I U j] w (TW b (Y (Z ⟨g,0,N⟩) c cap) D n m q w):=by
 have v:=gM ⟨b,0,N⟩;have y:=Ya ⟨b,0,N⟩;go_enter func195,ntmps195;go_wp2;go_loopw [1] (fun t wr=> ∃k:Nat,k≤j∧t=I U k∧Hx b (Y (Z ⟨g,0,N⟩) c cap) D n m q wr∧Cv (Bf b (Y (Z ⟨g,0,N⟩) c cap)) w wr) (fun t _=>(intOf t).toNat)
 case atStart=>exact⟨j,Al _,rfl,h,Cv.refl _ _⟩
 case round=>
  obtain⟨k,H,rfl,r,s⟩:=hrel;have l:=Aa r;have o:=Aa s;clear r s h;by_cases z:k=0
  ·subst z
   go_wp2;go_end0;exact⟨rfl,l.out,o.out⟩
  ·obtain⟨i,A⟩: ∃i:Nat,i=(k-1)/2:=⟨_,rfl⟩
   have B:i<k:=by omega
   have K:((k:Int)-1)/2=i:=by omega
   have C:((i:Int)==(k:Int))=false:=by rw[Au];omega
   have E:=Aa (l.out.less k i (by omega) (by omega));have L:(1:Int)≤k:=by omega
   clear A;go_wp2_with(first|(go_at_call 401;refine E.out.mono ?_;rintro e M⟨x,rfl,a⟩))
   ·go_end0
    exact⟨rfl,l.out.below a,o.out.below a⟩
   ·refine((l.out.below a).swap i k (by omega) (by omega) (by omega) (by omega) (by omega)).mono ?_
    rintro e u⟨rfl,d,f⟩;have p:Hid (i≤j∧Hx b (Y (Z ⟨g,0,N⟩) c cap) D n m q u∧Cv (Bf b (Y (Z ⟨g,0,N⟩) c cap)) w u):=⟨by omega,d,(o.out.below a).trans f⟩;clear d f a;go_wp2;go_roundw
    case rel=>exact⟨i,p.out.1,rfl,p.out.2.1,p.out.2.2⟩
    case measure=>simp[intOf];omega
def kW(b:Nat)(v:qY)(D:Nat→Option Int)(n m:Nat)(q:Pr)(w:oZ)(e:rB)(w':oZ):Prop:= ∃x:Bool,e=rC (ry x)∧Hx b v D n m q w'∧Cv (Bf b v) w w'
theorem PH(b g c cap:Nat)(D:Nat→Option Int)(n m:Nat)(q:Pr)(i0 n0:Nat)(w:oZ)(h:Hx b (Y (Z ⟨g,0,N⟩) c cap) D n m q w)(O:i0<n0)(aa:n0≤n)(hm:n0≤m)(hn:n≤64):re prog 194 #[.iface 224 (J (Z ⟨b,0,N⟩)),I U i0,I U n0] w (kW b (Y (Z ⟨g,0,N⟩) c cap) D n m q w):=by
 have ab:=gM ⟨b,0,N⟩;have ad:=Ya ⟨b,0,N⟩;go_enter func194,ntmps194;go_wp2;go_loopw [7] (fun t wr=> ∃k:Nat,k<n0∧t=I U k∧Hx b (Y (Z ⟨g,0,N⟩) c cap) D n m q wr∧Cv (Bf b (Y (Z ⟨g,0,N⟩) c cap)) w wr) (fun t _=>n0-(intOf t).toNat)
 case atStart=>exact⟨i0,O,rfl,h,Cv.refl _ _⟩
 case round=>
  obtain⟨k,hk,rfl,T,V⟩:=hrel;have F:=Aa T;have P:=Aa V;clear T V h;obtain⟨o,v⟩: ∃j:Nat,j=2*k+1:=⟨_,rfl⟩;obtain⟨s,z⟩: ∃j:Nat,j=2*k+2:=⟨_,rfl⟩;have e1:2*(k:Int)+1=o:=by omega
  have e2:(o:Int)+1=s:=by omega
  have d0:decide ((o:Int)<0)=false:=by simp
  by_cases Q:o<n0
  ·have d1:decide (n0≤o)=false:=by simp;omega
   have A:=Aa (fun W(B:Hx b (Y (Z ⟨g,0,N⟩) c cap) D n m q W)=>B.less o k (by omega) (by omega));have G:=Aa (fun W(B:Hx b (Y (Z ⟨g,0,N⟩) c cap) D n m q W)=>B.swap k o (by omega) (by omega) (by omega) (by omega) (by omega));by_cases M:s<n0
   ·have d2:decide (s<n0)=true:=by simpa using M
    have H:=Aa (F.out.less s o (by omega) (by omega));have R:=Aa (fun W(B:Hx b (Y (Z ⟨g,0,N⟩) c cap) D n m q W)=>B.less s k (by omega) (by omega));have S:=Aa (fun W(B:Hx b (Y (Z ⟨g,0,N⟩) c cap) D n m q W)=>B.swap k s (by omega) (by omega) (by omega) (by omega) (by omega));have C:=Aa (show(k<o∧k<s)∧o<n0∧s<n0 by omega);clear v z Q M;go_wp2_with(first|(go_at_call 401;refine H.out.mono ?_;rintro e w1⟨x,rfl,E⟩;have u:=Aa (F.out.below E);have K:=Aa (P.out.below E);clear E H))
    ·skip
     refine(R.out _ u.out).mono ?_;rintro e X⟨y,rfl,a⟩;have d:=Aa (u.out.below a);have f:=Aa (K.out.below a);clear a;cases y
     ·go_wp2
      go_ret;exact⟨_,rfl,d.out,f.out⟩
     ·go_wp2_with(first|(go_at_call 404;refine(S.out _ d.out).mono ?_;rintro e w3⟨rfl,i,l⟩;have p:=Aa i;have r:=Aa (f.out.trans l);clear i l))
      go_roundw
      case rel=>exact⟨s,by have:=C.out;omega,rfl,p.out,r.out⟩
      case measure=>have:=C.out;simp[intOf];omega
    ·skip
     refine(A.out _ u.out).mono ?_;rintro e X⟨y,rfl,a⟩;have d:=Aa (u.out.below a);have f:=Aa (K.out.below a);clear a;cases y
     ·go_wp2
      go_ret;exact⟨_,rfl,d.out,f.out⟩
     ·go_wp2_with(first|(go_at_call 404;refine(G.out _ d.out).mono ?_;rintro e w3⟨rfl,i,l⟩;have p:=Aa i;have r:=Aa (f.out.trans l);clear i l))
      go_roundw
      case rel=>exact⟨o,by have:=C.out;omega,rfl,p.out,r.out⟩
      case measure=>have:=C.out;simp[intOf];omega
   ·have d2:decide (s<n0)=false:=by simpa using M
    have C:=Aa (show k<o∧o<n0 by omega);have L:=Aa (A.out _ F.out);clear v z Q M A;go_wp2_with(first|(go_at_call 401;refine L.out.mono ?_;rintro e X⟨y,rfl,a⟩;have d:=Aa (F.out.below a);have f:=Aa (P.out.below a);clear a L))
    ·go_ret
     exact⟨_,rfl,d.out,f.out⟩
    ·refine(G.out _ d.out).mono ?_
     rintro e w3⟨rfl,i,l⟩;have p:=Aa i;have r:=Aa (f.out.trans l);clear i l;go_wp2;go_roundw
     case rel=>exact⟨o,by have:=C.out;omega,rfl,p.out,r.out⟩
     case measure=>have:=C.out;simp[intOf];omega
  ·have d1:decide (n0≤o)=true:=by simp;omega
   clear v z e2 Q;go_wp2;go_ret;exact⟨_,rfl,F.out,P.out⟩
theorem Hx.len(h:Hx b v D n m q w):re prog 398 #[J (Z ⟨b,0,N⟩)] w fun e w'=>e=rC (I U n)∧w=w':=by obtain⟨l,F,a,c,r⟩:=h.bx;have:=DT b v l F w a;rwa [c]at this
theorem cV(b g c cap:Nat)(D:Nat→Option Int)(n m:Nat)(q:Pr)(i:Nat)(w:oZ)(h:Hx b (Y (Z ⟨g,0,N⟩) c cap) D n m q w)(f:i<n)(hm:n≤m)(j:n≤64):re prog 346 #[.iface 224 (J (Z ⟨b,0,N⟩)),I U i] w (TW b (Y (Z ⟨g,0,N⟩) c cap) D n m q w):=by
 have t:=iP ⟨b,0,N⟩;have u:=Aa h.len;have v:=Aa (PH b g c cap D n m q i n w h f (Al _) hm j);have y:=Aa (fun W(z:Hx b (Y (Z ⟨g,0,N⟩) c cap) D n m q W)=>RU b g c cap D n m q i W z f (by omega) j);clear h f hm j;go_enter func346,ntmps346;go_wp2_with(first|(go_at_call 398;refine u.out.mono ?_;rintro e A⟨rfl,rfl⟩)|(go_at_call 194;refine v.out.mono ?_;rintro e B⟨x,rfl,o,p⟩;have r:=Aa o;have s:=Aa p;clear o p))
 ·refine(y.out _ r.out).mono ?_
  rintro e C⟨rfl,a,d⟩;have k:=Aa a;have l:=Aa (s.out.trans d);clear a d;go_wp2;go_end0;exact⟨rfl,k.out,l.out⟩
 ·go_end0
  exact⟨rfl,r.out,s.out⟩
end
variable {w:oZ} {g n cap b:Nat} {l:List Pr}
theorem Yb(b g n cap kx:Nat)(x2 a:Int)(w:oZ)(c0:w.cell? ⟨b,0,N⟩=Z (Y (Z ⟨g,0,N⟩) (n+1) cap))(f0:w.frozen? ⟨b,0,N⟩=rm)(i0:w.cell? ⟨g,n*2,N⟩=Z (I U kx))(i1:w.cell? ⟨g,n*2+1,N⟩=Z (I U x2))(a1:w.cell? ⟨b,1+kx,N⟩=Z (I U a))(f1:w.frozen? ⟨b,1+kx,N⟩=rm)(c: ¬g=b)(d: ¬b=g)(h:b<w.heap.size)(i:g<w.heap.size)(j:kx<64)(k:n<64)(l:n+1≤cap):re prog 402 #[J (Z ⟨b,0,N⟩)] w fun e f=>e=rC (.iface 222 (rE #[I U kx,I U x2]))∧f=(((w.setCell ⟨b,0,N⟩ (Y (Z ⟨g,0,N⟩) n cap)).setCell ⟨b,1+kx,N⟩ (I U (-1))).alloc (rD #[I U kx,I U x2] 222)).drew:=by
 have m:(kx:Int)<64:=by omega
 have o:(n:Int)≤(cap:Int):=by omega
 have p:(n:Int)+1-1=n:=by omega
 have q:(n:Int)<(n:Int)+1:=by omega
 have r: ¬b=w.heap.size:=by omega
 have s: ¬g=w.heap.size:=by omega
 go_enter func402,ntmps402;go_wp2;go_region
 go_wp2;go_ret;exact⟨rfl,rfl⟩
theorem iQ{e:rA}{q:Pr}(h:w.ownsRow 0 e 2 (Y (Z ⟨g,0,N⟩) n cap) (l++[q]).length (ys (l++[q]))):w.ownsRow 0 e 2 (Y (Z ⟨g,0,N⟩) l.length cap) l.length (ys l):=by
 obtain⟨k,⟨c,_⟩|⟨m,a,cur,he,d,f,i,hm,j,b⟩⟩:=h
 ·cases c
 ·simp only[Ar,Ak,BF]at he
  obtain⟨⟨rfl,_⟩,rfl,rfl⟩:=he;simp only[Aw,AB,AF]at i hm b;refine⟨Cw.Mj l,.inr ⟨g,cap,cur,rfl,d,f,by omega,hm,j,?_⟩⟩;have:=Aq (List.take (l.length*2)) b;rw[Zb5,Cw.KH,List.take_left' (Cw.Mj l)]at this;rw[←this];congr 1;omega
theorem F7(l:List Pr)(q:Pr)(i:Nat)(h:i<l.length):(l++[q])[i]?.getD pz=l[i]?.getD pz:=by rw[AD h]
theorem Iz(l:List Pr)(q:Pr):(l++[q])[l.length]?.getD pz=q:=by simp
theorem Bx.pop{q:Pr}{F:Nat→Int}{kx:Nat}(h:Bx w b (Y (Z ⟨g,0,N⟩) n cap) (l++[q]) F)(j:q.1=kx):Bx ((w.setCell ⟨b,0,N⟩ (Y (Z ⟨g,0,N⟩) l.length cap)).setCell ⟨b,1+kx,N⟩ (I U (-1))) b (Y (Z ⟨g,0,N⟩) l.length cap) l (fun k=>if k=kx then-1 else F k):=by
 have d:g≠b:=fun e=>h.ne (by rw[e];rfl);obtain⟨s,t,f⟩:=h.at_ l.length (by simp);rw[Iz,j]at s t f;simp only[An]at f;refine⟨?_,?_,h.ne,?_,?_⟩
 ·refine((h.cs.set (i:=0) (by decide) _).set (i:=1+kx) (by omega) _).congr fun k a=>?_
  by_cases c:k=1+kx
  ·subst c;simp
  ·rw[Ah c]
   by_cases o:k=0
   ·simp[o]
   ·have u: ¬k-1=kx:=by omega
    simp[o,u]
 ·exact Dd (Dd (iQ h.row) ((Cv.refl (fun k=>k=b) _).set (.inr rfl) _ _) (fun k a e=>d (by cases a;exact e))) ((Cv.refl (fun k=>k=b) _).set (.inr rfl) _ _) (fun k a e=>d (by cases a;exact e))
 ·intro i v
  obtain⟨z0,p,z2⟩:=h.at_ i (by simp;omega);rw[F7 l q i v]at z0 p z2;refine⟨z0,p,?_⟩;rw[Ah (fun e=>by rw[e,f]at z2;omega)];exact z2
 ·intro k a
  by_cases c:k=kx
  ·exact .inl (Ai c)
  ·simp only[Ah c]
   rcases h.idx k a with x|⟨m,y,z,r⟩
   ·exact .inl x
   ·have hm:m<l.length:=by
     rcases AY m l.length with hm|hm
     ·exact hm
     ·obtain rfl:m=l.length:=by simp at z;omega
      rw[Iz,j]at r;exact absurd (by omega) c
    exact .inr ⟨m,y,hm,by rw[←F7 l q m hm];exact r⟩
theorem Bx.only{S:Nat→Prop}{w':oZ}{v:qY}{F:Nat→Int}(h:Bx w b v l F)(o:Cv S w w')(a: ∀j,Bf b v j→ ¬S j):Bx w' b v l F:=⟨h.cs.only o (a b (.inl rfl)),Dd h.row o (fun j c=>a j (.inr c)),h.ne,h.at_,h.idx⟩
theorem RV(l:List Pr)(n:Nat)(q:Pr)(d:l.length=n+1)(b:l[n]?.getD pz=q):l=l.take n++[q]:=by
 have a:l.take (n+1)=l.take n++[l[n]'(by omega)]:=A8 (by omega);rw[AU (by omega)]at a;have c:l[n]'(by omega)=q:=by rw[←b,Ae (by omega)];rfl
 rw[c]at a;exact a
def nQ(b g cap:Nat)(c:Nat)(D:Nat→Option Int)(n:Nat)(q:Pr)(w:oZ)(e:rB)(w':oZ):Prop:=(∃v,e=rC v)∧Hx b (Y (Z ⟨g,0,N⟩) n cap) (fun k=>if k=q.1.toNat then N else D k) n n q w'∧Cv (Bf b (Y (Z ⟨g,0,N⟩) c cap)) w w'
theorem Hx.pop{c:Nat}{D:Nat→Option Int}{q:Pr}(h:Hx b (Y (Z ⟨g,0,N⟩) c cap) D (n+1) n q w)(A:n<64):re prog 402 #[J (Z ⟨b,0,N⟩)] w (nQ b g cap c D n q w):=by
 obtain⟨l,F,a,B,C,E,G⟩:=h.bx;have p:=G (by omega);obtain⟨L,r⟩: ∃L,L=l.take n:=⟨_,rfl⟩;have s:=RV l n q B p;rw[←r]at s;have f:L.length=n:=by rw[r,AN];omega
 subst s;obtain⟨H,K,t⟩:=a.at_ n (by omega);rw[p]at H K t;obtain⟨d,j⟩: ∃k:Nat,q.1=k:=⟨q.1.toNat,by omega⟩;obtain⟨i0,i1,M,S⟩:=a.cell n (by omega);rw[p,j]at i0;rw[p]at i1;have m: ¬g=b:=fun e=>a.ne (by rw[e];rfl);have c0:=a.cs.cell (i:=0) (by decide);simp only[BM]at c0;have u:=a.cs.cell (i:=1+d) (by omega);simp only[show¬1+d=0 by omega,BH]at u;have o:n+1≤cap:=by
  obtain⟨_,⟨O,_⟩|⟨T,v,cur,he,_,_,P,_⟩⟩:=a.row
  ·cases O
  ·simp only[Ar]at he;omega
 obtain rfl:c=n+1:=by omega
 refine(Yb b g n cap d q.2 _ w c0 (a.cs.free _) i0 i1 u (a.cs.free _) m (fun e=>m e.symm) a.cs.lt M (by omega) A o).mono ?_;rintro e V⟨rfl,rfl⟩;have y:=a.pop (kx:=d) j;rw[f]at y;refine⟨⟨_,rfl⟩,⟨L,_,y.only (((Cv.refl (fun _=>False) _).alloc _).drew) (fun _ _ x=>x),f,?_,?_,fun x=>absurd x (Zbq _)⟩,?_⟩
 ·intro i W
  have:=C i (by omega);rw[F7 L q i (by omega)]at this;obtain⟨z0,X,z2⟩:=a.at_ i (by omega);rw[F7 L q i (by omega)]at z2;rw[Ah (fun e=>by rw[e,t]at z2;omega)];exact this
 ·intro k Q z
  by_cases R:k=d
  ·rw[Ai (by omega)]
  ·rw[Ah R]at z
   rw[Ah (by omega)];exact E k Q z
 ·exact((((Cv.refl (Bf b (Y (Z ⟨g,0,N⟩) (n+1) cap)) w).set (.inr (.inl rfl)) _ _).set (.inr (.inl rfl)) _ _).alloc _).drew
end Go.Proofs.YtgadhchejmlfjaaGreatDoor.LK
