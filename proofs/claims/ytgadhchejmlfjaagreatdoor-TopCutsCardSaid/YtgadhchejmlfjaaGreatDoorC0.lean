/- A part of the proof. -/
import Derived.Test.YtgadhchejmlfjaaGreatDoorB9
set_option linter.unusedVariables false
set_option maxRecDepth 20000
set_option maxHeartbeats 16000000
open Go.Value renaming int→I,pointer→J,slice→Y
open Go.IntKind renaming i64→U
open Option renaming none→N,some→Z
open Bool renaming false→rm,true→rq
open Go renaming TypeId→rA,Value→qY,World→oZ
open Go.Ending renaming returned→rC
open Go.Obj renaming cells→rD
open Go.RowKit renaming Below→qZ
open Go.RowKit.Below renaming refl→rf
open Go.Value renaming agg→rE,bool→ry,tuple→rG
open List renaming replicate→rj
namespace Go.Proofs.YtgadhchejmlfjaaGreatDoor.CX
open Go.Proofs.Tryz Go.RowKit Go.CL
theorem jN:(prog.underlying 133).map (fun d=>match d with| .func .. =>rq|_=>rm)=Z true:=by kernel_rfl
theorem Ux: ∃a b c,prog.underlying 133=Z (.func a b c):=by
 have h:=jN;cases hu:prog.underlying 133 with
 |none=>rw[hu]at h;cases h
 |some d=>
  rw[hu]at h;cases d
  case func a b c=>exact⟨a,b,c,rfl⟩
  all_goals simp at h
theorem jO(w:oZ):(binOp .neq 133 .nilFunc .nilFunc).run prog w= .ok (ry rm) w:=by
 obtain⟨a,b,c,hu⟩:=Ux;have h: ∀d:Nat,(Op.equalIn (d+1) 133 .nilFunc .nilFunc).run prog w= .ok rq w:=fun d=>by simp[Op.equalIn,Ch hu]
 simp only[binOp];simp[Op.equal,Op.maxDepth,h 9999]
theorem fz(w:oZ)(k:Go.Fn):(binOp .neq 133 (.func k #[] #[]) .nilFunc).run prog w= .ok (ry rq) w:=by
 obtain⟨a,b,c,hu⟩:=Ux;have h: ∀d:Nat,(Op.equalIn (d+1) 133 (.func k #[] #[]) .nilFunc).run prog w= .ok rm w:=fun d=>by simp[Op.equalIn,Ch hu]
 simp only[binOp];simp[Op.equal,Op.maxDepth,h 9999]
end Go.Proofs.YtgadhchejmlfjaaGreatDoor.CX
namespace Go
section
variable {P:Program} {ops:Array Oper} {Q:Exit→Act→oZ→Prop} {md:Region.Mode} {S:oZ→Prop} {m:Nat}
variable {i fuel:Nat} {oi om o:Oper} {v:qY} {listed:Array Bool} {a:Act} {w:oZ}
def DN(P:Program)(md:Region.Mode)(ops:Array Oper)(Q:Exit→Act→oZ→Prop)(S:oZ→Prop)(m:Nat):Nat→Array Bool→Act→oZ→Prop
 |0,listed,a,w=>Region.ready md ops listed=[]∧Q .normal a w
 |fuel+1,listed,a,w=>
  (Region.ready md ops listed=[]→Q .normal a w)∧
  ∀i∈Region.ready md ops listed,wpOp P ops Q i (fun a' b=>((listed.setIfInBounds i rq).getD m rq=rm→S b)∧DN P md ops Q S m fuel (listed.setIfInBounds i rq) a' b) a w
theorem MT: ∀(fuel:Nat)(listed:Array Bool)(a:Act)(w:oZ),DN P md ops Q S m fuel listed a w→wpAny P md ops Q fuel listed a w
 |0,_,_,_,h=>h
 |fuel+1,_,_,_,h=>⟨h.1,fun i b=>wpOp_mono (fun a' c d=>MT fuel _ a' c d.2) (h.2 i b)⟩
theorem OV(E:ops[i]?=Z oi)(n: ∀(j:Nat)(o:Oper) cs b,ops[j]?=Z o→o.op≠ .select cs b) (W: ∀c a w,Q (.panic c) (a.put oi.dst v) w→Q (.panic c) a w) (F:ops[m]?=Z om) (G: ∃e∈om.after,Region.binds md e=rq∧e.on=i) (K:m≠i): ∀(fuel:Nat)(listed:Array Bool)(a:Act)(w:oZ),(∀j oj,ops[j]?=Z oj→j≠i→listed.getD j rq=rm→(∀e∈oj.after,Region.binds md e=rq→e.on≠i)→oi.apart ops oj=rq)→i∈Region.ready md ops listed→YieldsIf P ops S oi v a→S w→listed.getD m rq=rm→DN P md ops Q S m fuel (listed.setIfInBounds i rq) (a.put oi.dst v) w→DN P md ops Q S m (fuel+1) listed a w:=by
 intro fuel;induction fuel with
 |zero=>
  intro listed a w _ r hy u s H;refine⟨fun h=>(by rw[h]at r;cases r),fun j C=>?_⟩;by_cases d:j=i
  ·subst d;exact hy.wpOp E u ⟨fun _=>u,H⟩
  ·have:=ready_mono C d
   rw[H.1]at this;cases this
 |succ fuel X=>
  intro listed a w f r hy u s H;refine⟨fun h=>(by rw[h]at r;cases r),fun j C=>?_⟩;by_cases d:j=i
  ·subst d;exact hy.wpOp E u ⟨fun _=>u,H⟩
  ·have t:=H.2 j (ready_mono C d)
   obtain⟨p,oj,g,x⟩:=mem_ready.1 C;have q: ∀e∈oj.after,Region.binds md e=rq→e.on≠i:=fun e he L heq=>by
    have t:=x e he L;have V:=(mem_ready.1 r).1;rw[heq]at t;rcases AY i listed.size with M|M
    ·simp[M]at V t;rw[V]at t;cases t
    ·simp[Zad M]at t
   have y:j≠m:=fun e=>by subst e;rw[F]at g;cases g;obtain⟨e,he,L,ho⟩:=G;exact q e he L ho
   have O:(listed.setIfInBounds j rq).getD m rq=false:=by rw[getD_set_ne rq y];exact s
   have z:((listed.setIfInBounds i rq).setIfInBounds j rq).getD m rq=false:=by rw[getD_set_ne rq y,getD_set_ne rq (BT K)];exact s
   have h2:=wpOp_putIf g (f j oj g d p q) (fun cs b=>n i oi cs b E) (fun cs b=>n j oj cs b g) W hy t
   have l: ∀k ok,ops[k]?=Z ok→k≠i→(listed.setIfInBounds j rq).getD k rq=rm→
     (∀e∈ok.after,Region.binds md e=rq→e.on≠i)→oi.apart ops ok=true:=fun k ok hk R A T=>by
    refine f k ok hk R ?_ T;by_cases B:j=k
    ·subst B;exact p
    ·rw[getD_set_ne rq B]at A;exact A
   refine wpOp_mono (fun a' w' D=>⟨fun _=>D.2.1 z,X (listed.setIfInBounds j rq) a' w' l (ready_mono r (BT d)) D.1 (D.2.1 z) O ?_⟩) h2;rw[Zbc _ _ d];exact D.2.2
theorem DV(j:ops[i]?=Z oi)(d:ops[m]?=Z om)(f:(om.after.any fun e=>Region.binds md e&&e.on==i)=rq) (b:(m !=i&& !listed.getD m rq)=rq) (k:Region.noSelect ops=rq) (l:Region.free md ops listed i=rq) (n:(Region.ready md ops listed).contains i=rq) (o: ∀c a w,Q (.panic c) (a.put oi.dst v) w→Q (.panic c) a w) (hy:YieldsIf P ops S oi v a) (p:S w) (h:DN P md ops Q S m fuel (listed.setIfInBounds i rq) (a.put oi.dst v) w):DN P md ops Q S m (fuel+1) listed a w:=by simp only[AP,bne_iff_ne,ne_eq,Zap]at b;obtain⟨e,he,g⟩:=Array.any_eq_true'.1 f;simp only[AP,Za2]at g;exact OV j (Region.noSelect_spec k) o d ⟨e,he,g.1,g.2⟩ b.1 fuel listed a w (Region.free_spec j l) (by simpa using n) hy p b.2 h
theorem Np(D:ops[i]?=Z oi)(l: ∀(j:Nat)(o:Oper) cs b,ops[j]?=Z o→o.op≠ .select cs b) (M: ∀c a w,Q (.panic c) (a.put oi.dst v) w→Q (.panic c) a w) (p:m≠i): ∀(fuel:Nat)(listed:Array Bool)(a:Act)(w:oZ),(∀j oj,ops[j]?=Z oj→j≠i→listed.getD j rq=rm→(∀e∈oj.after,Region.binds md e=rq→e.on≠i)→oi.apart ops oj=rq)→i∈Region.ready md ops listed→YieldsIf P ops (fun _=>True) oi v a→(listed.getD m rq=rm→S w)→DN P md ops Q S m fuel (listed.setIfInBounds i rq) (a.put oi.dst v) w→DN P md ops Q S m (fuel+1) listed a w:=by
 intro fuel;induction fuel with
 |zero=>
  intro listed a w _ q hy E H;refine⟨fun h=>(by rw[h]at q;cases q),fun j B=>?_⟩;by_cases d:j=i
  ·subst d;exact hy.wpOp D trivial ⟨fun h=>E (by rw[getD_set_ne rq (BT p)]at h;exact h),H⟩
  ·have:=ready_mono B d
   rw[H.1]at this;cases this
 |succ fuel O=>
  intro listed a w f q hy E H;refine⟨fun h=>(by rw[h]at q;cases q),fun j B=>?_⟩;by_cases d:j=i
  ·subst d;exact hy.wpOp D trivial ⟨fun h=>E (by rw[getD_set_ne rq (BT p)]at h;exact h),H⟩
  ·have r:=H.2 j (ready_mono B d)
   obtain⟨n,oj,s,u⟩:=mem_ready.1 B;have x: ∀e∈oj.after,Region.binds md e=rq→e.on≠i:=fun e he R heq=>by
    have r:=u e he R;have L:=(mem_ready.1 q).1;rw[heq]at r;rcases AY i listed.size with F|F
    ·simp[F]at L r;rw[L]at r;cases r
    ·simp[Zad F]at r
   have T:=wpOp_putIf s (f j oj s d n x) (fun cs b=>l i oi cs b D) (fun cs b=>l j oj cs b s) M hy r
   have g: ∀k ok,ops[k]?=Z ok→k≠i→(listed.setIfInBounds j rq).getD k rq=rm→
     (∀e∈ok.after,Region.binds md e=rq→e.on≠i)→oi.apart ops ok=true:=fun k ok V G y K=>by
    refine f k ok V G ?_ K;by_cases z:j=k
    ·subst z;exact n
    ·rw[getD_set_ne rq z]at y;exact y
   have A: ∀t,(((listed.setIfInBounds i rq).setIfInBounds j rq).getD m rq=rm→S t)→((listed.setIfInBounds j rq).getD m rq=rm→S t):=fun t h hm=>h (by rw[Zbc _ _ (BT d),getD_set_ne rq (BT p)];exact hm);refine wpOp_mono (fun a' t C=>⟨A t C.2.1,O (listed.setIfInBounds j rq) a' t g (ready_mono q (BT d)) C.1 (A t C.2.1) ?_⟩) T;rw[Zbc _ _ d];exact C.2.2
theorem EZ(d:ops[i]?=Z oi)(b:(m !=i)=rq)(e:Region.noSelect ops=rq)(f:Region.free md ops listed i=rq)(g:(Region.ready md ops listed).contains i=rq)(j: ∀c a w,Q (.panic c) (a.put oi.dst v) w→Q (.panic c) a w) (hy:Yields P ops oi v a) (k:listed.getD m rq=rm→S w) (h:DN P md ops Q S m fuel (listed.setIfInBounds i rq) (a.put oi.dst v) w):DN P md ops Q S m (fuel+1) listed a w:=Np d (Region.noSelect_spec e) j (by simpa using b) fuel listed a w (Region.free_spec d f) (by simpa using g) hy.yieldsIf k h
theorem tk(i:Nat)(d:ops[i]?=Z oi)(b:(m !=i&&(Region.noSelect ops&&(Region.free md ops listed i&&((Region.ready md ops listed).contains i&&Region.wanted oi (yielded ops a.tmps)))))=rq)(e: ∀c a w,Q (.panic c) (a.put oi.dst v) w→Q (.panic c) a w) (hy: ∀w,(execOp a.eval oi).run P w= .ok (.value v) w) (f:listed.getD m rq=rm→S w) (h:DN P md ops Q S m fuel (listed.setIfInBounds i rq) (a.put oi.dst v) w):DN P md ops Q S m (fuel+1) listed a w:=by simp only[AP]at b;exact EZ d b.1 b.2.1 b.2.2.1 b.2.2.2.1 e (.inl ⟨b.2.2.2.2,hy⟩) f h
theorem fA(i:Nat)(d:ops[i]?=Z oi)(b:(m !=i&&(Region.noSelect ops&&(Region.free md ops listed i&&((Region.ready md ops listed).contains i&&(Region.wanted oi (yielded ops a.tmps)&&listed.getD m rq)))))=rq)(f: ∀c a w,Q (.panic c) (a.put oi.dst v) w→Q (.panic c) a w) (hy: ∀w,(execOp a.eval oi).run P w= .ok (.value v) w) (h:DN P md ops Q S m fuel (listed.setIfInBounds i rq) (a.put oi.dst v) w):DN P md ops Q S m (fuel+1) listed a w:=by simp only[AP]at b;exact EZ d b.1 b.2.1 b.2.2.1 b.2.2.2.1 f (.inl ⟨b.2.2.2.2.1,hy⟩) (fun e=>by rw[b.2.2.2.2.2]at e;cases e) h
theorem nB(i:Nat)(d:ops[i]?=Z oi)(b:(m !=i&&(Region.noSelect ops&&(Region.free md ops listed i&&((Region.ready md ops listed).contains i&&(!Region.wanted oi (yielded ops a.tmps)&&listed.getD m rq)))))=rq)(f: ∀c a w,Q (.panic c) (a.put oi.dst undef) w→Q (.panic c) a w) (h:DN P md ops Q S m fuel (listed.setIfInBounds i rq) (a.put oi.dst undef) w):DN P md ops Q S m (fuel+1) listed a w:=by simp only[AP,Zap]at b;exact EZ d b.1 b.2.1 b.2.2.1 b.2.2.2.1 f (.inr ⟨b.2.2.2.2.1,rfl⟩) (fun e=>by rw[b.2.2.2.2.2]at e;cases e) h
def DF(P:Program)(md:Region.Mode)(ops:Array Oper)(Q:Exit→Act→oZ→Prop)(S:oZ→Prop)(m fuel:Nat)(listed:Array Bool)(a:Act)(w:oZ)(rs:List Nat):Prop:= ∀i∈rs,wpOp P ops Q i (fun a' b=>((listed.setIfInBounds i rq).getD m rq=rm→S b)∧DN P md ops Q S m fuel (listed.setIfInBounds i rq) a' b) a w
theorem DF.nil:DF P md ops Q S m fuel listed a w []:=fun _ h=>by cases h
theorem DF.cons{rs:List Nat}(d:ops[i]?=Z o)(h: ∀b:Act→oZ→Prop,(∀a w,((listed.setIfInBounds i rq).getD m rq=rm→S w)∧DN P md ops Q S m fuel (listed.setIfInBounds i rq) a w→b a w)→if Region.wanted o (yielded ops a.tmps)=rq then Oper.wp P o a w b Q else b (a.put o.dst undef) w) (e:DF P md ops Q S m fuel listed a w rs):DF P md ops Q S m fuel listed a w (i::rs):=fun j c=>by
 rcases Bv.1 c with rfl|c
 ·exact wpOp_step d (fun b f=>h b (fun a w g=>f a w g))
 ·exact e j c
theorem Hv{rs:List Nat}(c:Region.ready md ops listed=rs)(b:rs≠[])(h:DF P md ops Q S m fuel listed a w rs):DN P md ops Q S m (fuel+1) listed a w:=⟨fun d=>absurd (c▸d) b,c▸h⟩
theorem Ij(i:Nat)(c:Region.ready md ops listed=[i])(d:ops[i]?=Z o)(h: ∀b:Act→oZ→Prop,(∀a w,((listed.setIfInBounds i rq).getD m rq=rm→S w)∧DN P md ops Q S m fuel (listed.setIfInBounds i rq) a w→b a w)→if Region.wanted o (yielded ops a.tmps)=rq then Oper.wp P o a w b Q else b (a.put o.dst undef) w):DN P md ops Q S m (fuel+1) listed a w:=Hv c (by simp) (DF.cons d h DF.nil)
theorem GM(b:Region.ready md ops listed=[])(h:Q .normal a w): ∀fuel,DN P md ops Q S m fuel listed a w
 |0=>⟨b,h⟩
 |_+1=>⟨fun _=>h,by rw[b];simp⟩
theorem GN{id:Nat}(m:Nat)(S:oZ→Prop)(hm:P.follows .mixedOrders=rq)(h:DN P .any ops Q S m ops.size (Array.replicate ops.size rm) a w.drew):(Code.region id ops rq).wp P Q a w:=wp_region_any hm (MT _ _ _ _ h)
end
end Go
namespace Go.Proofs.YtgadhchejmlfjaaGreatDoor.CX
open Go.Proofs.Tryz Go.RowKit Go.CL
section
section
variable {mb:Nat} {V:Vr} {own:Nat→Nat} {w:oZ} {s:St}
variable {W:oZ} {u0 u1 u2 u3 u4:qY}
def ig(s1:St)(pick:Int):Option St:=
  match s1.ms[(D3 pick s1.ms.length).toNat]? with
  |none=>N
  |some y=>
    if y.phase=0 then Z s1
    else if(D3 pick s1.ms.length).toNat<64 then
      let s2:St:={s1 with box:=Ki s1.box (D3 pick s1.ms.length).toNat s1.sc.now,ms:=s1.ms.set (D3 pick s1.ms.length).toNat {y with CR:=Ih s1.box (D3 pick s1.ms.length).toNat s1.sc.now||y.CR}}
      if y.phase=1 then Kj s2 (D3 pick s1.ms.length).toNat
      else if y.phase=2 then OM s2 (D3 pick s1.ms.length).toNat
      else if y.phase=3 then Lx s2 (D3 pick s1.ms.length).toNat
      else if y.phase=4 then Qg s2 (D3 pick s1.ms.length).toNat
      else if y.phase=5 then Kn s2 (D3 pick s1.ms.length).toNat
      else Z s1
    else N
theorem ZR(s:St)(a dl dr:Int):IF s a dl dr=ig (CX.NV s a dl dr) a:=rfl
def mz(mb:Nat)(V:Vr)(own:Nat→Nat)(w:oZ)(s':St)(e:Ending)(w':oZ):Prop:=e=rC (rG #[rE #[I U s'.sc.kind,I U s'.sc.eg,I U s'.sc.JW,I U s'.sc.JX,I U s'.sc.en],ry s'.sc.seen])∧ ∃b a,CC mb b a w' s'∧Ext own w a w'∧Fw V b
theorem jP{b:Nat}{x0 x1 x2 x3 x4:qY}{t:rA}(h:Cx W b #[x0,x1,x2,x3,x4] t):Cx (((((W.setCell ⟨b,0,N⟩ u0).setCell ⟨b,1,N⟩ u1).setCell ⟨b,2,N⟩ u2).setCell ⟨b,3,N⟩ u3).setCell ⟨b,4,N⟩ u4) b #[u0,u1,u2,u3,u4] t:=ZO (ZN (ZM (ZL (ZK h))))
theorem ZS{b:Nat}:Cv (fun j=>j=b) W (((((W.setCell ⟨b,0,N⟩ u0).setCell ⟨b,1,N⟩ u1).setCell ⟨b,2,N⟩ u2).setCell ⟨b,3,N⟩ u3).setCell ⟨b,4,N⟩ u4):=oset (oset (oset (oset (oset (Ds b W) 0 _) 1 _) 2 _) 3 _) 4 _
theorem ZT{b:Nat}{q:Bool}{tmps:Array qY}{Q:Ending→oZ→Prop}(h:Cx W b #[u0,u1,u2,u3,u4] 38)(t4:tmps[4]?.getD undef=ptr b)(t5:tmps[5]?.getD undef=ry q)(c:Q (rC (rG #[rE #[u0,u1,u2,u3,u4],ry q])) W):bodyPost prog f11 Q Exit.ret {tmps:=tmps,defers:=[]} W:=by have a:=h.cell 0;have k1:=h.cell 1;have k2:=h.cell 2;have k3:=h.cell 3;have k4:=h.cell 4;simp only[Ad,Ag,Ac]at a k1 k2 k3 k4;exact AG (v:=rG #[rE #[u0,u1,u2,u3,u4],ry q]) (by simp[results,results11,go_sem,t4,t5,a,k1,k2,k3,k4]) rfl c
def oM(mb:Nat)(V:Vr)(own:Nat→Nat)(w:oZ)(s':St)(W:oZ)(b:Nat):Prop:= ∃(c:Vr)(a:Nat→Nat),CC mb c a W s'∧Ext own w a W∧Fw V c∧a b=0∧ ∃u0 u1 u2 u3 u4,Cx W b #[u0,u1,u2,u3,u4] 38
theorem NW{a:Nat→Nat}{d:Vr}{e:oZ}{c:Nat}{s':St}(R:CC mb d a W s')(g:Ext own w own e)(E:Ext own e a W)(F:Fw V d)(b: ∃u0 u1 u2 u3 u4,Cx e c #[u0,u1,u2,u3,u4] 38) (o:own c=0):oM mb V own w s' W c:=by obtain⟨u0,u1,u2,u3,u4,f⟩:=b;exact⟨d,a,R,g.trans E,F,(E.same c f.lt).trans o,u0,u1,u2,u3,u4,Er f o E⟩
theorem CC.step(h:CC mb V own w s){O dl dr:Int}{s':St}(t:IF s O dl dr=Z s'):Calls prog 11 #[ptr mb,rE #[I U O,I U dl,I U dr]] w (mz mb V own w s'):=by
  rw[ZR]at t;have hE:=jM h O dl dr;obtain⟨W0,ad⟩: ∃W0,(w.alloc (rD #[I U O,I U dl,I U dr] 36)).alloc (rD #[I U 0,I U 0,I U 0,I U 0,I U 0] 38)=W0:=⟨_,rfl⟩;have hb:qZ w.heap.size w W0:=by rw[←ad];exact Ct (Ct (rf _ _) _) _
  have F:=h.below hb;have od:=F.od;have kD:=F.kD;have gS:=F.gS;have YY:=F.YY;have ev:=F.ev;have ew:=F.ew;have eA:=F.eA;have YZ:=F.YZ;have eB:=F.eB;have eC:=F.eC;have fr:=fun k=>F.EX k;have b3:Cx W0 w.heap.size #[I U O,I U dl,I U dr] 36:=by rw[←ad];exact(Cx.new w _ 36).below (Ct (rf _ _) _) (by simp)
  have l0:=b3.cell 0;have l1:=b3.cell 1;have l2:=b3.cell 2;simp only[Ad,Ac,Ag]at l0 l1 l2;have bu:=h.Nc;have n1: ¬mb=w.heap.size:=by omega
  have n2: ¬w.heap.size=mb:=by omega
  rw[ad]at hE;obtain⟨nw,bc⟩: ∃nw,s.sc.now=nw:=⟨_,rfl⟩;rw[bc]at hE YY;have G:=Aa hE;have HS:=Aa t;clear h t hE hb F b3 bu bc;go_enter func11,ntmps11;go_wp2;change Code.wp prog _ _ _ (QL W0 mb (wrap64 (nw+1)) O dl dr);clear od kD gS YY ev ew eA YZ eB eC fr l0 l1 l2;generalize QL W0 mb (wrap64 (nw+1)) O dl dr=W at*
  clear ad;obtain⟨L,ai⟩: ∃L,w.heap.size+1=L:=⟨_,rfl⟩;rw[ai]at G⊢;have bw:Hid (¬L<w.heap.size):=by rw[←ai];exact Nat.not_lt.2 (Bh _)
  clear ai;obtain⟨L3,bd⟩: ∃L3,w.heap.size=L3:=⟨_,rfl⟩;rw[bd]at G n1 n2⊢;clear bd;generalize CX.NV s O dl dr=B at*
  have t:=HS.out;clear HS;unfold ig at t;obtain⟨jj,aj⟩: ∃jj:Nat,D3 O B.ms.length=jj:=⟨(D3 O B.ms.length).toNat,by have:=Of O B.ms.length;omega⟩;rw[aj,An]at t;cases hj:B.ms[jj]? with
  |none=>rw[hj]at t;cases t
  |some y=>
  rw[hj]at t;dsimp only at t;have ak:=Cz hj;obtain⟨g,cap,bf,gc,bz,b0⟩:=G.out.Gx.SC ak;have c6:=G.out.Gx.c6;rw[bf]at c6;have l0:=G.out.oL.cell 0;simp only[Ad,Ac]at l0;have ae:=G.out.Gx.ox jj ak;obtain⟨H,bg⟩: ∃H,V.DP jj=H:=⟨_,rfl⟩;rw[bg]at gc ae;have HMod:=Aa (fun(w:oZ)=>Sd.L1 O B.ms.length w (by have:=G.out.Gx.Hm.2.1;omega));rw[aj]at HMod;have qj:(jj:Int)<(B.ms.length:Int):=by omega
  have m64:=G.out.Gx.Hm.2.1;have HJ:=Aa (Ab hj (Ab ae (G.out.Gx.CU ae (by omega))));clear bf bz b0 hj ae bg ak;generalize hn:B.ms.length=n at*
  clear hn aj;go_region_held3(fun a=>a.cell? ⟨mb,6,N⟩=Z (Y (Z ⟨g,0,N⟩) n cap)∧a.cell? ⟨L3,0,N⟩=Z (I U O)∧a.cell? ⟨g,jj,N⟩=Z (ptr H)) (go_keep) (first|(go_at_call 53;refine(HMod.out _).mono ?_;rintro e w6⟨rfl,rfl⟩));have E:=Aa G.out.Gx.drew;have P:=Aa (G.out.ext.trans (Ext.below DU));have Q:Hid (∃u0 u1 u2 u3 u4,Cx W.drew L #[u0,u1,u2,u3,u4] 38):=G.out.QK;have R:=Aa G.out.WE;have x:Hid (B.ms[jj]?=Z y∧own H=22+5*jj∧H<W.drew.heap.size):=HJ.out;have b5:=Aa G.out.WE;rename_i hh;clear hh G HJ HMod c6 l0 gc n1 n2;generalize W.drew=W1 at*
  obtain⟨p,S⟩: ∃p,y.phase=p:=⟨_,rfl⟩;rw[S]at t;by_cases F: ¬(1≤p∧p≤5)
  case' pos=>
    have bh:B=s':=by
      by_cases e:p=0
      ·rw[Ai e]at t;exact Bk t
      · rw[Ah e]at t
        split at t
        · rw[Ah (by omega),Ah (by omega),Ah (by omega),Ah (by omega),Ah (by omega)]at t
          exact Bk t
        ·cases t
    have T:=Aa (E.out.does x.out.2.1 x.out.1 S);rw[show NU p= .nilFunc by unfold NU;(repeat' split)<;>first|rfl|(exfalso;omega)]at T;have bj:=jO W1;have q:=Aa (NW E.out P.out (Ext.refl _ _) (Fw.refl V) Q.out R.out);rw[bh]at q;clear t S bh;go_wp2_with(go_at_call 54;refine T.out.mono ?_;rintro e w8⟨rfl,rfl⟩)
  case' neg=>
    have F:1≤p∧p≤5:=Classical.not_not.1 F;rw[Ah (show¬p=0 by omega),Ai (show jj<64 by omega)]at t;obtain⟨z,M⟩: ∃z,B.sc.now=z:=⟨_,rfl⟩;obtain⟨db,ao⟩: ∃db,Ih B.box jj z=db:=⟨_,rfl⟩;rw[M,ao]at t;obtain⟨S2,aq⟩: ∃S2,S2=({B with box:=Ki B.box jj z,ms:=B.ms.set jj {y with phase:=p,CR:=db||y.CR}}:St):=⟨_,rfl⟩;have bk:(if p=1 then Kj S2 jj else if p=2 then OM S2 jj else if p=3 then Lx S2 jj else if p=4 then Qg S2 jj else if p=5 then Kn S2 jj else Z B)=Z s':=by rw[aq];exact t
    clear t;have af:p=1∨p=2∨p=3∨p=4∨p=5:=by omega
    have T:=Aa (E.out.does x.out.2.1 x.out.1 S);have ah:Hid (∀W',qZ W1.heap.size W1 W'→Calls prog 55 #[ptr V.box,I U jj,I U z] W' (Da mb V own W' (ry db) {B with box:=Ki B.box jj z})):=fun W' hW=>by rw[←ao];exact(E.out.below hW).due jj (by omega) z
    have kC:=E.out.kC;have YY:=E.out.YY;rw[M]at YY;have x0:=nk (E.out.CW x.out.2.1 x.out.1);have bm: ∀(W:oZ)(v:qY),(W.setCell ⟨H,4,N⟩ v).cell? ⟨H,0,N⟩=W.cell? ⟨H,0,N⟩:=fun W v=>B9 W _ _ v (by simp);have m1: ¬H=mb:=by have:=E.out.om;have:=x.out.2.1;rintro rfl;omega
    have m2: ¬mb=H:=fun e=>m1 e.symm;obtain⟨ar,au⟩: ∃ar,y.CR=ar:=⟨_,rfl⟩;have av:Hid (∀(r:Nat→Nat)(w6:oZ)(v:Bool),v=(db||ar)→r H=22+5*jj→CC mb V r w6 {B with box:=Ki B.box jj z}→CC mb V r (w6.setCell ⟨H,4,N⟩ (ry v)) S2∧Ext r w6 r (w6.setCell ⟨H,4,N⟩ (ry v))):=fun r w6 v hv hx hR=>by have k:=hR.QJ (y:=y) hx x.out.1 v;rw[aq,au,←hv,←S];exact k
    have b1:=Aa au;have HK:=Aa bk;have b7:=Aa M;clear aq M ao au bk F;obtain⟨kf,bn,af⟩: ∃kf,NU p= .func (.func kf) #[] #[]∧((p=1∧kf=117)∨(p=2∧kf=118)∨(p=3∧kf=119)∨(p=4∧kf=120)∨(p=5∧kf=121)):=by rcases af with rfl|rfl|rfl|rfl|rfl<;>exact⟨_,rfl,by simp⟩
    rw[bn]at T;have bj:=fz W1 (.func kf);have X:=Aa af;clear bn af S;cases db;case' true=>have aw:=Aa (fun o W=>av.out o W rq rfl)
    case' false=>have aw:=Aa (fun o W=>av.out o W ar rfl)
    all_goals
     go_wp2_with(go_at_call 54;refine T.out.mono ?_;rintro e w6⟨rfl,rfl⟩);have d:Hid (w6.drew.cell? ⟨mb,13,N⟩=Z (ptr V.box)∧w6.drew.cell? ⟨mb,17,N⟩=Z (I U z)∧w6.drew.cell? ⟨H,0,N⟩=Z (I U jj)):=Ab kC (Ab YY x0);refine GN 13 (fun a=>a.cell? ⟨mb,13,N⟩=Z (ptr V.box)∧a.cell? ⟨mb,17,N⟩=Z (I U z)∧a.cell? ⟨H,0,N⟩=Z (I U jj)) (by kernel_rfl) ?_;refine tk 0 (v:=?_) rfl (by kernel_rfl) (fun _ _ _ h=>h) ?_ (fun _=>d.out) ?_;rotate_left
     ·intro a;go_simp;try(with_reducible rfl)
     refine tk 1 (v:=?_) rfl (by kernel_rfl) (fun _ _ _ h=>h) ?_ (fun _=>d.out) ?_;rotate_left
     ·intro a;go_simp;try(with_reducible rfl)
     refine tk 2 (v:=?_) rfl (by kernel_rfl) (fun _ _ _ h=>h) ?_ (fun _=>d.out) ?_;rotate_left
     ·intro a;go_simp;try(with_reducible rfl)
     refine tk 3 (v:=?_) rfl (by kernel_rfl) (fun _ _ _ h=>h) ?_ (fun _=>d.out) ?_;rotate_left
     ·intro a;go_simp;try(with_reducible rfl)
     refine tk 5 (v:=?_) rfl (by kernel_rfl) (fun _ _ _ h=>h) ?_ (fun _=>d.out) ?_;rotate_left
     ·intro a;go_simp;try(with_reducible rfl)
     refine tk 6 (v:=?_) rfl (by kernel_rfl) (fun _ _ _ h=>h) ?_ (fun _=>d.out) ?_;rotate_left
     ·intro a;go_simp;try(with_reducible rfl)
     refine tk 7 (v:=?_) rfl (by kernel_rfl) (fun _ _ _ h=>h) ?_ (fun _=>d.out) ?_;rotate_left
     ·intro a;go_simp;try(with_reducible rfl)
     refine tk 9 (v:=?_) rfl (by kernel_rfl) (fun _ _ _ h=>h) ?_ (fun _=>d.out) ?_;rotate_left
     ·intro a;go_simp;try(with_reducible rfl)
     refine tk 10 (v:=?_) rfl (by kernel_rfl) (fun _ _ _ h=>h) ?_ (fun _=>d.out) ?_;rotate_left
     ·intro a;go_simp;try(with_reducible rfl)
     refine tk 11 (v:=?_) rfl (by kernel_rfl) (fun _ _ _ h=>h) ?_ (fun _=>d.out) ?_;rotate_left
     ·intro a;go_simp;try(with_reducible rfl)
     refine DV (i:=4) (v:=?_) rfl rfl (by kernel_rfl) (by kernel_rfl) (by kernel_rfl) (by kernel_rfl) (by kernel_rfl) (fun _ _ _ h=>h) (Or.inl ⟨by kernel_rfl,?_⟩) d.out ?_;rotate_left
     ·intro a hw';obtain⟨s0,s1,s2⟩:=hw';go_simp;try(with_reducible rfl)
     refine DV (i:=8) (v:=?_) rfl rfl (by kernel_rfl) (by kernel_rfl) (by kernel_rfl) (by kernel_rfl) (by kernel_rfl) (fun _ _ _ h=>h) (Or.inl ⟨by kernel_rfl,?_⟩) d.out ?_;rotate_left
     ·intro a hw';obtain⟨s0,s1,s2⟩:=hw';go_simp;try(with_reducible rfl)
     refine DV (i:=12) (v:=?_) rfl rfl (by kernel_rfl) (by kernel_rfl) (by kernel_rfl) (by kernel_rfl) (by kernel_rfl) (fun _ _ _ h=>h) (Or.inl ⟨by kernel_rfl,?_⟩) d.out ?_;rotate_left
     ·intro a hw';obtain⟨s0,s1,s2⟩:=hw';go_simp;try(with_reducible rfl)
     refine Ij 13 (by kernel_rfl) rfl fun K hK=>?_;go_simp;go_wp2_with(go_at_call 55;refine(ah.out _ (by first|exact rf _ _|exact DU|exact DA _)).mono ?_;rintro e w7⟨rfl,r,ax,ay⟩;have ag:=ay.keep x.out.2.1 x.out.2.2;have az:=ax.CW ag x.out.1;have k4:=nt az;rw[b1.out]at k4;have b2:=az.free 4;obtain⟨bo,bp⟩:=aw.out r w7 ag ax;have c:=Aa (Ab bo ag);have ab:=Aa ((Ext.below DU).trans (ay.trans bp));clear ax ay az bo bp ag);refine⟨(fun h=>absurd (h.symm.trans (show _=rq by kernel_rfl)) Cp),?_⟩;clear d;refine fA 14 (v:=?_) rfl (by kernel_rfl) (fun _ _ _ h=>h) ?_ ?_;rotate_left
     ·intro a;go_simp;try(with_reducible rfl)
    case' _=>
     refine fA 15 (v:=?_) rfl (by kernel_rfl) (fun _ _ _ h=>h) ?_ ?_;rotate_left
     ·intro a;go_simp;try(with_reducible rfl)
     refine fA 16 (v:=?_) rfl (by kernel_rfl) (fun _ _ _ h=>h) ?_ ?_;rotate_left
     ·intro a;go_simp;try(with_reducible rfl)
     refine fA 17 (v:=?_) rfl (by kernel_rfl) (fun _ _ _ h=>h) ?_ ?_;rotate_left
     ·intro a;go_simp;try(with_reducible rfl)
     refine Ij 18 (by kernel_rfl) rfl fun K hK=>?_;go_simp;refine hK _ _ ⟨(fun h=>absurd (h.symm.trans (show _=rq by kernel_rfl)) Cp),?_⟩;clear hK K
    rotate_left;case' _=>refine nB 15 rfl (by kernel_rfl) (fun _ _ _ h=>h) ?_;refine nB 16 rfl (by kernel_rfl) (fun _ _ _ h=>h) ?_;refine nB 17 rfl (by kernel_rfl) (fun _ _ _ h=>h) ?_;refine nB 18 rfl (by kernel_rfl) (fun _ _ _ h=>h) ?_
    all_goals
     refine fA 19 (v:=?_) rfl (by kernel_rfl) (fun _ _ _ h=>h) ?_ ?_;rotate_left
     ·intro a;go_simp;try(with_reducible rfl)
     refine fA 20 (v:=?_) rfl (by kernel_rfl) (fun _ _ _ h=>h) ?_ ?_;rotate_left
     ·intro a;go_simp;try(with_reducible rfl)
     refine fA 21 (v:=?_) rfl (by kernel_rfl) (fun _ _ _ h=>h) ?_ ?_;rotate_left
     ·intro a;go_simp;try(with_reducible rfl)
     refine Ij 22 (by kernel_rfl) rfl fun K hK=>?_;go_simp;refine hK _ _ ⟨(fun h=>absurd (h.symm.trans (show _=rq by kernel_rfl)) Cp),?_⟩;clear hK K;refine GM (by kernel_rfl) ?_ _;clear x0 kC YY bm ah av aw T bj m1 m2 k4 b2;rcases X.out with⟨rfl,rfl⟩|⟨rfl,rfl⟩|⟨rfl,rfl⟩|⟨rfl,rfl⟩|⟨rfl,rfl⟩;case' inl=>have C:=HK.out;rw[Ai rfl]at C;have HC:=Aa (c.out.1.look c.out.2 C);clear C HK X c;go_wp2_with(go_at_call 117;refine HC.out.mono ?_;rintro e w8⟨rfl,V8,o8,f,l,m⟩;have q:=Aa (NW f P.out (ab.out.trans l) m.toFw Q.out R.out);clear f l m)
     case' inr.inl=>have C:=HK.out;rw[Ah (by decide),Ai rfl]at C;have HC:=Aa (c.out.1.run c.out.2 C);clear C HK X c;go_wp2_with(go_at_call 118;refine HC.out.mono ?_;rintro e w8⟨rfl,V8,o8,f,l,m⟩;have q:=Aa (NW f P.out (ab.out.trans l) m Q.out R.out);clear f l m)
     case' inr.inr.inl=>have C:=HK.out;rw[Ah (by decide),Ah (by decide),Ai rfl]at C;have HC:=Aa (c.out.1.stop c.out.2 C);clear C HK X c;go_wp2_with(go_at_call 119;refine HC.out.mono ?_;rintro e w8⟨rfl,V8,o8,f,l,m⟩;have q:=Aa (NW f P.out (ab.out.trans l) m.toFw Q.out R.out);clear f l m)
     case' inr.inr.inr.inl=>have C:=HK.out;rw[Ah (by decide),Ah (by decide),Ah (by decide),Ai rfl]at C;have HC:=Aa (c.out.1.Eg c.out.2 C);clear C HK X c;go_wp2_with(go_at_call 120;refine HC.out.mono ?_;rintro e w8⟨rfl,V8,o8,f,l,m⟩;have q:=Aa (NW f P.out (ab.out.trans l) m.toFw Q.out R.out);clear f l m)
     case' inr.inr.inr.inr=>have C:=HK.out;rw[Ah (by decide),Ah (by decide),Ah (by decide),Ah (by decide),Ai rfl]at C;have HC:=Aa (c.out.1.call c.out.2 C);clear C HK X c;go_wp2_with(go_at_call 121;refine HC.out.mono ?_;rintro e w8⟨rfl,V8,o8,f,l,m⟩;have q:=Aa (NW f P.out (ab.out.trans l) m.toFw Q.out R.out);clear f l m)
  all_goals
      obtain⟨V9,o9,D,bq,br,bs,u0,u1,u2,u3,u4,u⟩:=q.out;have ev:=D.ev;have ew:=D.ew;have eA:=D.eA;have YZ:=D.YZ;have eB:=D.eB;have eC:=D.eC;have t0:=u.cell 0;have t1:=u.cell 1;have t2:=u.cell 2;have t3:=u.cell 3;have t4:=u.cell 4;have f0:=u.free 0;have f1:=u.free 1;have f2:=u.free 2;have f3:=u.free 3;have f4:=u.free 4;simp only[Ad,Ac,Ag]at t0 t1 t2 t3 t4;have m1: ¬L=mb:=by have:=D.om;rintro rfl;omega
      have m2: ¬mb=L:=fun e=>m1 e.symm;have aa:=Aa (Ab D (Ab bq (Ab br (Ab bs u))));clear D bq br bs u q;obtain⟨z0,a1⟩: ∃z0,s'.sc.kind=z0:=⟨_,rfl⟩;obtain⟨z1,a6⟩: ∃z1,s'.sc.eg=z1:=⟨_,rfl⟩;obtain⟨z2,a7⟩: ∃z2,s'.sc.JW=z2:=⟨_,rfl⟩;obtain⟨z3,a8⟩: ∃z3,s'.sc.JX=z3:=⟨_,rfl⟩;obtain⟨z4,ba⟩: ∃z4,s'.sc.en=z4:=⟨_,rfl⟩;obtain⟨z5,bb⟩: ∃z5,s'.sc.seen=z5:=⟨_,rfl⟩;rw[a1]at ev;rw[a6]at ew;rw[a7]at eA;rw[a8]at YZ;rw[ba]at eB;rw[bb]at eC;have HZ:=Aa (Ab a1 (Ab a6 (Ab a7 (Ab a8 (Ab ba bb)))));clear a1 a6 a7 a8 ba bb;go_region_held3(fun a=>a.cell? ⟨mb,21,N⟩=Z (I U z0)∧a.cell? ⟨mb,22,N⟩=Z (I U z1)∧a.cell? ⟨mb,23,N⟩=Z (I U z2)∧a.cell? ⟨mb,24,N⟩=Z (I U z3)∧a.cell? ⟨mb,25,N⟩=Z (I U z4)∧a.cell? ⟨mb,26,N⟩=Z (ry z5)) (go_keep) (fail);clear ev ew eA YZ eB eC t0 t1 t2 t3 t4 f0 f1 f2 f3 f4;rename_i hh;clear hh;have A:=jP (u0:=I U z0) (u1:=I U z1) (u2:=I U z2) (u3:=I U z3) (u4:=I U z4) aa.out.2.2.2.2;have hO:=ZS (W:=w8) (b:=L) (u0:=I U z0) (u1:=I U z1) (u2:=I U z2) (u3:=I U z3) (u4:=I U z4);have bt:=(aa.out.1.loc hO (fun j hj=>by rw[show j=L from hj];exact aa.out.2.2.2.1)).drew;have A':=Hc A;have b4:=hO.drew;generalize(((((w8.setCell ⟨L,0,N⟩ (I U z0)).setCell ⟨L,1,N⟩ (I U z1)).setCell ⟨L,2,N⟩ (I U z2)).setCell ⟨L,3,N⟩ (I U z3)).setCell ⟨L,4,N⟩ (I U z4)).drew=b8 at*
      go_wp2;exact ZT A' rfl rfl (by obtain⟨rfl,rfl,rfl,rfl,rfl,rfl⟩:=HZ.out;exact⟨rfl,V9,o9,bt,⟨aa.out.2.1.only.andThen b4 (fun j hj t=>by rw[show j=L from t]at hj⊢;exact absurd hj bw.out),aa.out.2.1.same⟩,aa.out.2.2.1⟩)
end
end
open cN (es)
section
variable {mb:Nat} {V:Vr} {own:Nat→Nat} {w:oZ} {s:St}
variable {l:List (Int×Int×Int)}
def mA(s:St):List Value:=[I U s.sc.kind,I U s.sc.eg,I U s.sc.JW,I U s.sc.JX,I U s.sc.en]
def FD:List (Int×Int×Int)→St→Option (List St×St)
 | [],s=>Z ([],s)
 |x::l,s=>(IF s x.1 x.2.1 x.2.2).bind fun s1=>(FD l s1).map fun o=>(if s1.sc.seen then s1::o.1 else o.1,o.2)
def G5(w:oZ)(lb a:Nat)(l:List (Int×Int×Int)):Prop:= ∀k,k<l.length→w.cell? ⟨lb,a+k*3,N⟩=Z (I U (l[k]?.getD (0,0,0)).1)∧w.cell? ⟨lb,a+k*3+1,N⟩=Z (I U (l[k]?.getD (0,0,0)).2.1)∧w.cell? ⟨lb,a+k*3+2,N⟩=Z (I U (l[k]?.getD (0,0,0)).2.2)
theorem jQ:(prog.info? 38).map (fun i=>(i.zero,i.size,i.bytes))=Z (Z (rE #[I U 0,I U 0,I U 0,I U 0,I U 0]),5,40):=by kernel_rfl
theorem oN(w:oZ)(a b c d e:qY)(t:rA): ∀(j:Nat)(u:qY),[a,b,c,d,e][j]?=Z u→(w.alloc (rD #[a,b,c,d,e] t)).cell? ((⟨w.heap.size,0,N⟩:Addr).add j)=Z u:=by have h:=Cx.new w #[a,b,c,d,e] t;intro j u hu;rw[show((⟨w.heap.size,0,N⟩:Addr).add j)=⟨w.heap.size,j,N⟩from by rw[Ay,AO]];rw[h.cell j,←hu];simp
theorem oO(a b c d e:Int): ∀x∈([I U a,I U b,I U c,I U d,I U e]:List qY),x.oneCell'=true:=by intro x f;simp at f;rcases f with rfl|rfl|rfl|rfl|rfl<;>rfl
def oP(mb:Nat)(V:Vr)(own:Nat→Nat)(w:oZ)(l:List (Int×Int×Int))(out:List St)(s':St)(t4 t14:qY)(wr:oZ):Prop:=
 ∃(k:Nat)(d r:List St)(b:Vr)(a:Nat→Nat)(s1:St),k≤l.length∧t14=I U k∧out=d++r∧d.length≤k∧FD (l.drop k) s1=Z (r,s')∧CC mb b a wr s1∧Ext own w a wr∧Fw V b∧
  wr.ownsRow w.heap.size 38 5 t4 d.length (d.flatMap mA)∧ ∀j,t4.ownBlock=Z j→a j=0
theorem jR{a:Nat→Nat}{wr:oZ}{lb e:Nat}(g:G5 w lb e l)(b:lb<w.heap.size)(c:own lb=0∨own lb=14)(h:Ext own w a wr):G5 wr lb e l:=fun k j=>by have d: ∀i,wr.cell? ⟨lb,i,N⟩=w.cell? ⟨lb,i,N⟩:=fun i=>AH (h.only.block lb b (fun f=>c.elim f.1 f.2));rw[d,d,d];exact g k j
theorem NX{k:Nat}{s1 s':St}{r:List St}(c:k<l.length)(h:FD (l.drop k) s1=Z (r,s')): ∃s2 a,IF s1 (l[k]?.getD (0,0,0)).1 (l[k]?.getD (0,0,0)).2.1 (l[k]?.getD (0,0,0)).2.2=Z s2∧FD (l.drop (k+1)) s2=Z (a,s')∧r=if s2.sc.seen then s2::a else a:=by
 rw[A0 c]at h;unfold FD at h;obtain⟨s2,d,h⟩:=bind_some h;cases b:FD (l.drop (k+1)) s2 with
 |none=>rw[b]at h;cases h
 |some o=>
  rw[b]at h;simp only[BA,Ak,AM]at h;obtain⟨e,f⟩:=h;refine⟨s2,o.1,?_,?_,e.symm⟩
  ·rw[Ae c];exact d
  ·rw[b,←f]
theorem Uy{a b:Nat→Nat}{wr w1:oZ}{base n:Nat}{v:qY}{xs:List qY}(d:wr.ownsRow base 38 5 v n xs)(e: ∀j,v.ownBlock=Z j→a j=0) (f:Ext a wr b w1):w1.ownsRow base 38 5 v n xs∧ ∀j,v.ownBlock=Z j→b j=0:=⟨Dd d f.only (fun j c g=>g.1 (e j c)),fun j c=>(f.same j (Az d j c).2).trans (e j c)⟩
def qt(own:Nat→Nat)(w:oZ)(a:Option Addr)(l:List (Int×Int×Int)):Prop:=l.length=0∨ ∃b c,a=Z ⟨b,c,N⟩∧G5 w b c l∧b<w.heap.size∧(own b=0∨own b=14)
theorem CC.runs(h:CC mb V own w s){a:Option Addr}{lc:Nat}{out:List St}{s':St}(hs:FD l s=Z (out,s'))(hE:qt own w a l)(aj:l.length≤65536):Calls prog 69 #[ptr mb,.slice a l.length lc] w fun e w'=> ∃v W b,e=rC v∧w'.ownsRow w.heap.size 38 5 v out.length (out.flatMap mA)∧(∀j,v.ownBlock=Z j→b j=0)∧CC mb W b w' s'∧Ext own w b w'∧Fw V W:=by
 have H0:=Aa (Ab h (Ab hs hE));clear h hs hE;go_enter func69,ntmps69;go_wp2;generalize L:l.length=X at*
 have g:=Aa L;clear L;go_loopw [4,14] (fun t4 t14 wr=>oP mb V own w l out s' t4 t14 wr) (fun _ t _=>X-(intOf t).toNat)
 case atStart=>exact⟨0,[],out,V,own,s,Ap _,rfl,rfl,Al _,H0.out.2.1,H0.out.1,Ext.refl _ _,Fw.refl V,AL w w.heap.size 38 5,by simp[Value.ownBlock]⟩
 case round=>
  obtain⟨k,d,r,W,b,s1,hk,rfl,n,hd,p,M,K,hF,hO,ho⟩:=hrel;rw[g.out]at hk;by_cases F:k<X
  ·have ak:(k:Int)<(X:Int):=by omega
   obtain⟨lb,lo,rfl,O,G,P⟩:=H0.out.2.2.resolve_left (by rw[g.out];omega);have Q:=jR O G P K;obtain⟨p0,p1,p2⟩:=Q k (by rw[g.out];exact F);obtain⟨s2,r2,B,E,hr⟩:=NX (by rw[g.out];exact F) p;obtain⟨x,hx⟩: ∃x,l[k]?.getD (0,0,0)=x:=⟨_,rfl⟩;rw[hx]at p0 p1 p2 B;obtain⟨x0,x1,x2⟩:=x;simp only at p0 p1 p2 B;have R:=Aa ((M.alloc (rD #[I U x0,I U x1,I U x2] 36)).step B);have f:=Aa (Ab M (Ab K (Ab hF (Ab hO (Ab ho (Ab E (Ab hr (Ab n hd))))))));have ai:lb<wr.heap.size:=Am G K.only.size;clear O G P B p E hr n hd M K hF Q hO ho hx hk;cases C:s2.sc.seen with
   |false=>
    go_wp2_with(go_at_call 11;refine R.out.mono ?_;rintro e A⟨rfl,V2,c,u,y,z⟩;rw[C];have i:=Aa (Ab u (Ab y z));clear u y z);go_roundw
    case rel=>have m:Ext b wr c (A.alloc (rD #[I U s2.sc.kind,I U s2.sc.eg,I U s2.sc.JW,I U s2.sc.JX,I U s2.sc.en] 38)):=((Ext.refl b wr).alloc _).trans (i.out.2.1.trans ((Ext.refl c A).alloc _));obtain⟨aa,ab⟩:=Uy f.out.2.2.2.1 f.out.2.2.2.2.1 m;have D:=f.out.2.1.trans m;have e:=f.out.2.2.2.2.2.2.1;rw[C,Ah (by decide)]at e;exact⟨k+1,d,r2,V2,c,s2,by rw[g.out];omega,by go_num,by rw[←e];exact f.out.2.2.2.2.2.2.2.1,by have:=f.out.2.2.2.2.2.2.2.2;omega,f.out.2.2.2.2.2.1,i.out.1.alloc _,D,f.out.2.2.1.trans i.out.2.2,aa,ab⟩
    case measure=>simp[intOf];omega
   |true=>
    go_wp2_with(first|(go_at_call 11;refine R.out.mono ?_;rintro e A⟨rfl,V2,c,u,y,z⟩;rw[C];have m:Ext b wr c ((A.alloc (rD #[I U s2.sc.kind,I U s2.sc.eg,I U s2.sc.JW,I U s2.sc.JX,I U s2.sc.en] 38)).alloc (rD #[I U s2.sc.kind,I U s2.sc.eg,I U s2.sc.JW,I U s2.sc.JX,I U s2.sc.en] 38)):=((Ext.refl b wr).alloc _).trans (y.trans (((Ext.refl c A).alloc _).trans ((Ext.refl c _).alloc _)));have o:=Aa (Uy f.out.2.2.2.1 f.out.2.2.2.2.1 m);have S:w.heap.size≤((A.alloc (rD #[I U s2.sc.kind,I U s2.sc.eg,I U s2.sc.JW,I U s2.sc.JX,I U s2.sc.en] 38)).alloc (rD #[I U s2.sc.kind,I U s2.sc.eg,I U s2.sc.JW,I U s2.sc.JX,I U s2.sc.en] 38)).heap.size:=(f.out.2.1.trans m).only.size;have ad:=Aa S;have n5:=oN (A.alloc (rD #[I U s2.sc.kind,I U s2.sc.eg,I U s2.sc.JW,I U s2.sc.JX,I U s2.sc.en] 38)) (I U s2.sc.kind) (I U s2.sc.eg) (I U s2.sc.JW) (I U s2.sc.JX) (I U s2.sc.en) 38;rw[show(A.alloc (rD #[I U s2.sc.kind,I U s2.sc.eg,I U s2.sc.JW,I U s2.sc.JX,I U s2.sc.en] 38)).heap.size=A.heap.size+1 by simp]at n5;have ae:=Aa n5;have i:=Aa (Ab (u.alloc (rD #[I U s2.sc.kind,I U s2.sc.eg,I U s2.sc.JW,I U s2.sc.JX,I U s2.sc.en] 38)) (Ab m (Ab z u)));clear u y z m S n5)|(at_builtin;refine Jg underlying147 jQ rfl (by decide) (by decide) w.heap.size _ rfl _ _ rfl _ d.length (d.flatMap mA) ⟨A.heap.size+1,0,N⟩ 1 [I U s2.sc.kind,I U s2.sc.eg,I U s2.sc.JW,I U s2.sc.JX,I U s2.sc.en] rfl rfl (.inl o.out.1) rfl ae.out (oO _ _ _ _ _) ad.out (by have q1:=f.out.2.2.2.2.2.2.2.2;omega) ?_;intro v' w3 hA;have HA:=Aa hA;clear hA));go_roundw
    case rel=>
     have T:=i.out.1.alloc (rD #[I U s2.sc.kind,I U s2.sc.eg,I U s2.sc.JW,I U s2.sc.JX,I U s2.sc.en] 38);have D:=f.out.2.1.trans i.out.2.1;have af:=Cv.grown (Cv.refl _ _) HA.out.2.1 (fun j H=>Or.inr H);have ag:=T.loc af (fun j H=>o.out.2 j H);have ah:Ext own w c _:=⟨Cv.grown D.only HA.out.2.1 (fun j H=>.inl (Az o.out.1 j H).1),D.same⟩;have e:=f.out.2.2.2.2.2.2.1;rw[C,Ai rfl]at e;refine⟨k+1,d++[s2],r2,V2,c,s2,by rw[g.out];omega,by go_num,by rw[f.out.2.2.2.2.2.2.2.1,e];simp,by have:=f.out.2.2.2.2.2.2.2.2;simp;omega,f.out.2.2.2.2.2.1,ag,ah,f.out.2.2.1.trans i.out.2.2.1,?_,?_⟩
     ·have q:=HA.out.1
      rw[Aw,Zbz];simpa[mA]using q
     ·intro j H
      rcases HA.out.2.2 j H with h1|h1
      ·exact o.out.2 j h1
      ·exact T.fresh j h1
    case measure=>simp[intOf];omega
  ·obtain rfl:k=X:=by omega
   rw[Zae (by rw[g.out];exact Al _)]at p;unfold FD at p;simp only[Ak,AM]at p;obtain⟨rfl,rfl⟩:=p;rw[Cf]at n;subst n;have f:=Aa (Ab M (Ab K (Ab hF (Ab hO ho))));clear M K hF hO ho F hd hk;go_wp2;go_ret;exact⟨_,W,b,rfl,f.out.2.2.2.1,f.out.2.2.2.2,f.out.1,f.out.2.1,f.out.2.2.1⟩
end
end Go.Proofs.YtgadhchejmlfjaaGreatDoor.CX
namespace Go.Proofs.YtgadhchejmlfjaaGreatDoor
open Go.RowKit Go.CL
variable {w w':oZ} {base size n j:Nat} {e t:rA} {v:qY} {xs:List qY} {cs:Array qY} {T:List rA}
theorem De(h:w.ownsRow base e size v n xs)(a:v.ownBlock=Z j): ∃cs,Cx w j cs e:=by
 obtain⟨_,⟨rfl,_⟩|⟨g,cap,cur,rfl,_,b,_⟩⟩:=h
 ·cases a
 ·cases a;exact⟨cur,b⟩
theorem C4{a b:Array qY}{s:rA}(d:Cx w j a s)(c:Cx w j b t):s=t:=by unfold Cx at d c;rw[d]at c;cases c;rfl
theorem L9{g:Nat}(h:Cx w g cs e)(b:base≤g)(a:cs.size=n*size)(hm:n≤1000000):w.ownsRow base e size (Y (Z ⟨g,0,N⟩) n n) n cs.toList:=⟨by simpa using a,.inr ⟨g,n,cs,rfl,b,h,Al _,by unfold maxLen;omega,a,by rw[←a];exact AU (by simp)⟩⟩
theorem DE(h:w.ownsRow base e size v n xs): ∃a c,v= .slice a n c:=by
 rcases Dr h with⟨rfl,b⟩|⟨g,cap,rfl,_⟩
 ·exact⟨N,0,by rw[b]⟩
 ·exact⟨_,cap,rfl⟩
theorem FE(h:w.ownsRow base e size v n xs)(f:0<n): ∃g cap cur,v=Y (Z ⟨g,0,N⟩) n cap∧base≤g∧Cx w g cur e∧cur.toList.take (n*size)=xs:=by
 obtain⟨_,⟨_,i⟩|⟨g,cap,cur,a,b,c,_,_,_,d⟩⟩:=h
 ·omega
 ·exact⟨g,cap,cur,a,b,c,d⟩
structure KT (T:List rA) (w w':oZ):Prop where
 size:w.heap.size≤w'.heap.size
 keep: ∀{j:Nat}{cs:Array qY}{t:rA},Cx w j cs t→t∉T→Cx w' j cs t
theorem KT.refl(T:List rA)(w:oZ):KT T w w:=⟨Al _,fun h _=>h⟩
theorem KT.trans{a b c:oZ}(h:KT T a b)(k:KT T b c):KT T a c:=⟨AE h.size k.size,fun e d=>k.keep (h.keep e d) d⟩
theorem KT.below(a:qZ w.heap.size w w'):KT T w w':=⟨a.size,fun h _=>h.below a h.lt⟩
theorem KT.set{b:Nat}(c:Cx w b cs t)(d:t∈T)(i:Nat)(u:qY):KT T w (w.setCell ⟨b,i,N⟩ u):=⟨by simp[World.setCell],fun{j f t'} h a=>h.setOther (fun e=>by subst e;rw[C4 h c]at a;exact a d) _⟩
theorem KT.grown(h:w.ownsRow base e size v n xs)(a:w.grownBy w' v.ownBlock)(he:e∈T):KT T w w':=⟨a.size,fun{j cs t} b c=>b.kept a (fun e'=>by obtain⟨d,q⟩:=De h e'.symm;rw[C4 b q]at c;exact c he)⟩
theorem KT.row(k:KT T w w')(h:w.ownsRow base e size v n xs)(he:e∉T):w'.ownsRow base e size v n xs:=by
 obtain⟨a,b|⟨g,cap,cur,c,d,f,r⟩⟩:=h
 ·exact⟨a,.inl b⟩
 ·exact⟨a,.inr ⟨g,cap,cur,c,d,k.keep f he,r⟩⟩
end Go.Proofs.YtgadhchejmlfjaaGreatDoor
namespace Go.Proofs.YtgadhchejmlfjaaGreatDoor.CX
open Go.Proofs.Tryz Go.RowKit Go.CL
open Cw (Pr pz)
def IM(n:Nat):Array Value:=madeCells #[ry rm,ry rm,I U 0] (n*3)
theorem fB(n:Nat)(f:n≤100000)(w:oZ):(Instr.makeSlice 118 (I U (n:Int)) (I U (n:Int))).run prog w= .ok (Y (Z ⟨w.heap.size,0,N⟩) n n) (w.alloc (rD (IM n) 139)):=by obtain⟨i,b,a⟩:=Ax.1 Uw;simp only[AM]at a;obtain⟨c,d,e⟩:=a;have h:=run_make (P:=prog) w 118 139 i _ underlying118 b c .i64 .i64 (n:Int) (n:Int) (by omega) (Zag _) (by rw[e];omega) (by omega);rw[d]at h;simp only[An]at h;exact h
theorem ZU(n:Nat):(IM n).toList=EN (rj n p0):=by
 have e:(IM n).toList.length=n*3:=by rw[Zbb,IM,size_madeCells]
 have f:(EN (rj n p0)).length=n*3:=by rw[MA,Cd]
 refine BC fun j=>?_;rcases AY j (n*3)with a|a
 ·have c:(IM n).toList[j]?=Z ((#[ry rm,ry rm,I U 0]:Array qY)[j%3]!):=by rw[AW,IM,madeCells,Array.getElem?_map,Array.getElem?_range,Ai a];rfl
  rw[c];obtain⟨b,a2,a3⟩:=OH (rj n p0) (j/3) (by rw[Cd];omega);have d:(rj n p0)[j/3]?.getD p0=p0:=by rw[BE];split<;>rfl
  rw[d]at b a2 a3;have g:=Nat.div_add_mod j 3;rcases(show j%3=0∨j%3=1∨j%3=2 by omega)with h|h|h
  ·rw[show j=j/3*3 by omega,b,show(j/3*3)%3=0 by omega];rfl
  ·rw[show j=j/3*3+1 by omega,a2,show(j/3*3+1)%3=1 by omega];rfl
  ·rw[show j=j/3*3+2 by omega,a3,show(j/3*3+2)%3=2 by omega];rfl
 ·rw[A9 (by omega),A9 (by omega)]
theorem jS(n:Nat)(c:n≤100000)(w:oZ):G8 (w.alloc (rD (IM n) 139)) (Y (Z ⟨w.heap.size,0,N⟩) n n) (rj n p0):=by
 have a:(rj n p0).length=n:=Cd;have b:(IM n).size=n*3:=by rw[IM,size_madeCells]
 refine⟨w.heap.size,n,IM n,by rw[a],Cx.new w _ 139,by rw[a];exact Al _,by rw[b];exact Al _,by unfold maxLen;omega,.inl b.symm,?_⟩;rw[a,AU (by rw[Zbb,b];exact Al _),ZU]
def ZV(pv:qY)(p t a im ip s x ab n:Nat):Vr:={procs:=p,stat:=t,all:=a,GG:=im,FC:=ip,CA:=s,box:=x,Lu:=Y N 0 0,Mz:=Y N 0 0,ED:=Y (Z ⟨ab,0,N⟩) n n,Gb:=pv,CP:=fun _=>0,DP:=fun _=>0,Gw:=fun i=>i}
theorem ZW{o0:Nat→Nat}{w w2 l g d c f m b:oZ}{P:List Fn}{pv Q tv:qY}{R:Nat→CV.Rn}{xb a cg cm:Nat}(hO:nA o0 w pv P)(C:a≤256)(n:qZ w.heap.size w w2)(T:CV.Hh l w2.heap.size Q a R)(hz: ∀i,i<a→(R i).CG=0∧(R i).row=[]) (D: ∀j,CV.Pf w2.heap.size Q a R j→w2.heap.size≤j) (o:qZ w2.heap.size w2 l) (E:Cw.Tb g l.heap.size tv (rj a (0,-1))) (p:qZ l.heap.size l g) (F:g.alloc (rD #[Y N 0 0,Y N 0 0] 203)=d) (t:Idle.St c (d.heap.size+1) d.heap.size 64 []) (q:qZ d.heap.size d c) (u:Idle.St f (c.heap.size+1) c.heap.size 256 []) (r:qZ c.heap.size c f) (G:f.alloc (rD #[I U 0,Y N 0 0] 207)=m) (hx:m.heap.size≤xb) (v:LK.Bx b xb (Y N 0 0) [] (fun _=> -1)) (s:qZ m.heap.size m b): ∃own,CC b.heap.size (ZV pv w2.heap.size l.heap.size g.heap.size (d.heap.size+1) (c.heap.size+1) f.heap.size xb (b.heap.size+1) a) own ((b.alloc (rD #[ptr w2.heap.size,pv,I U a,I U cg,I U cm,Y N 0 0,Y N 0 0,Y (Z ⟨b.heap.size+1,0,N⟩) a a,ptr l.heap.size,ptr g.heap.size,ptr (d.heap.size+1),ptr (c.heap.size+1),ptr f.heap.size,ptr xb,I U 0,I U 0,I U 0,I U 0,ry rm,I U 0,J N,I U 0,I U 0,I U 0,I U 0,I U 0,ry rm] 121)).alloc (rD (IM a) 139)) (lS P a a cg cm)∧ ∀j,j<w.heap.size→own j=o0 j:=by
 have y:qZ g.heap.size g d:=by rw[←F];exact Ct (rf _ _) _
 have z:qZ f.heap.size f m:=by rw[←G];exact Ct (rf _ _) _
 have hQ:CY.Queue d g.heap.size (fun j=>j=g.heap.size) []:=by rw[←F];exact CY.Queue.new g
 have H:Dc.Sm m f.heap.size 0 (Y N 0 0) []:=by rw[←G];exact Dc.Sm.new f
 have aa:d.heap.size=g.heap.size+1:=by rw[←F];simp
 have ad:m.heap.size=f.heap.size+1:=by rw[←G];simp
 obtain⟨M,A⟩: ∃M:Array qY,M=#[ptr w2.heap.size,pv,I U a,I U cg,I U cm,Y N 0 0,Y N 0 0,Y (Z ⟨b.heap.size+1,0,N⟩) a a,ptr l.heap.size,ptr g.heap.size,ptr (d.heap.size+1),ptr (c.heap.size+1),ptr f.heap.size,ptr xb,I U 0,I U 0,I U 0,I U 0,ry rm,I U 0,J N,I U 0,I U 0,I U 0,I U 0,I U 0,ry rm]:=⟨_,rfl⟩;rw[←A];have K:M=Dz (ZV pv w2.heap.size l.heap.size g.heap.size (d.heap.size+1) (c.heap.size+1) f.heap.size xb (b.heap.size+1) a) (lR a cg cm):=by rw[A];rfl
 have L:qZ b.heap.size b ((b.alloc (rD M 121)).alloc (rD (IM a) 139)):=Ct (Ct (rf _ _) _) _;have W:=L;have X:=s.trans (W.mono s.size);have b7:=z.trans (X.mono z.size);have b6:=r.trans (b7.mono r.size);have b5:=q.trans (b6.mono q.size);have b4:=y.trans (b5.mono y.size);have b3:=p.trans (b4.mono p.size);have hB:qZ w.heap.size w ((b.alloc (rD M 121)).alloc (rD (IM a) 139)):=n.trans ((o.trans (b3.mono o.size)).mono n.size);have sz:((b.alloc (rD M 121)).alloc (rD (IM a) 139)).heap.size=b.heap.size+1+1:=by simp
 have B:G8 ((b.alloc (rD M 121)).alloc (rD (IM a) 139)) (Y (Z ⟨b.heap.size+1,0,N⟩) a a) (rj a p0):=by have:=jS a (by omega) (b.alloc (rD M 121));simpa using this
 have O:Cx ((b.alloc (rD M 121)).alloc (rD (IM a) 139)) b.heap.size (Dz (ZV pv w2.heap.size l.heap.size g.heap.size (d.heap.size+1) (c.heap.size+1) f.heap.size xb (b.heap.size+1) a) (lR a cg cm)) 121:=by rw[←K];exact(Cx.new b M 121).alloc _
 have s2:=n.size;have s3:=o.size;have s4:=p.size;have s6:=q.size;have s7:=r.size;have s9:=s.size;have l6:d.heap.size+1<c.heap.size∧d.heap.size<c.heap.size:=by have h:d.heap.size+1<c.heap.size:=t.1.lt;exact⟨h,by omega⟩
 have l7:c.heap.size+1<f.heap.size∧c.heap.size<f.heap.size:=by have h:c.heap.size+1<f.heap.size:=u.1.lt;exact⟨h,by omega⟩
 exact jx (V:=ZV pv w2.heap.size l.heap.size g.heap.size (d.heap.size+1) (c.heap.size+1) f.heap.size xb (b.heap.size+1) a) (a1:=l.heap.size) (a2:=g.heap.size) (a3:=d.heap.size) (a4:=c.heap.size) (a5:=f.heap.size) (a6:=m.heap.size) (a7:=b.heap.size) (ab:=b.heap.size+1)
  hO hB C rfl rfl rfl rfl rfl
  (T.below b3) hz (fun j k=>⟨AE s2 (D j k),T.lt k⟩)
  (E.below b4) (fun j k=>⟨E.ge k,E.lt k⟩)
  (hQ.below b5) (fun j k=>by have e:j=g.heap.size:=k;omega)
  (t.below b6) (fun j k=>by
   rcases k with h|h
   ·have e:j=d.heap.size+1:=h;omega
   ·have e:j=d.heap.size:=h;omega)
  (u.below b7) (fun j k=>by
   rcases k with h|h
   ·have e:j=c.heap.size+1:=h;omega
   ·have e:j=c.heap.size:=h;omega)
  (H.below X) (fun j k=>by
   rcases k with h|h
   ·have e:j=f.heap.size:=h;omega
   ·cases h)
  (v.only (S:=fun _=>False) ((Cv.refl _ b).below W) (fun _ _ x=>x)) ⟨hx,v.cs.lt⟩
  O (Al _) B (Nat.lt_succ_self _) (by rw[sz];omega) (by omega)
end Go.Proofs.YtgadhchejmlfjaaGreatDoor.CX
