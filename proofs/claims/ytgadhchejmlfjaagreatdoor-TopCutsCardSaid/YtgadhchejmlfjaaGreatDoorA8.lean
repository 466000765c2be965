/- A part of the proof. -/
import Derived.Test.YtgadhchejmlfjaaGreatDoorA0
set_option linter.unusedVariables false
set_option maxRecDepth 20000
set_option maxHeartbeats 16000000
open Go.Value renaming int→I,pointer→J,slice→Y
open Go.IntKind renaming i64→U
open Option renaming none→N,some→Z
open Bool renaming false→rm,true→rq
open Go renaming Calls→re,Ending→rB,TypeId→rA,Value→qY,World→oZ
open Go.Ending renaming returned→rC
open Go.Obj renaming cells→rD
open Go.RowKit renaming Below→qZ
open Go.RowKit.Below renaming refl→rf
open Go.Value renaming bool→ry,ownBlock→ru,tuple→rG
open Go.World renaming setCell→rh
namespace Go.CL
def LM(a b:Int):Int:=if a<0∨b<0 then 0 else(Nat.gcd a.toNat b.toNat:Nat)
theorem Yx(x y:Nat):LM x y=(Nat.gcd x y:Nat):=by unfold LM;rw[Ah (by omega)];simp
theorem Yy(x y:Nat):Nat.gcd y (x%y)=Nat.gcd x y:=by rw[Nat.gcd_comm y (x%y),←Nat.gcd_rec y x,Nat.gcd_comm]
def KR(n:Int)(k:Nat):List Int:=((List.range k).map (fun i:Nat=>(i:Int)+1)).filter fun i=>LM i n==1
def EK(n:Int):List Int:=if n<1∨1024<n then []else KR n n.toNat
theorem Yz(n:Int)(k:Nat)(h:(LM ((k:Int)+1) n==1)=rq):KR n (k+1)=KR n k++[(k:Int)+1]:=by unfold KR;rw[B7,Cj,Zax];simp[h]
theorem dF(n:Int)(k:Nat)(h:(LM ((k:Int)+1) n==1)=rm):KR n (k+1)=KR n k:=by unfold KR;rw[B7,Cj,Zax];simp[h]
theorem PX(n:Int)(k:Nat):(KR n k).length≤k:=by unfold KR;have:=Ce (fun i=>LM i n==1) ((List.range k).map (fun i:Nat=>(i:Int)+1));simpa using this
theorem YA{n:Int}(a:1≤n)(b:n≤1024):0<(EK n).length:=by
 have:(1:Int)∈EK n:=by unfold EK;rw[Ah (by omega)];unfold KR;refine List.mem_filter.2 ⟨B8.2 ⟨0,BN.2 (by omega),by simp⟩,?_⟩;unfold LM;rw[Ah (by omega)];simp
 exact List.length_pos_of_mem this
theorem PY(n:Int):(EK n).length≤1024:=by
 unfold EK;split
 ·simp
 ·rename_i h
  have:=PX n n.toNat;omega
def DJ(n:Int):Prop:=n<1∨256<n
instance (n:Int):Decidable (DJ n):=by unfold DJ;infer_instance
def F9(n:Int):Int:=if DJ n then 0 else n*(EK n).length
def gN(n d:Int):Int:=(EK n)[(d/n).toNat]?.getD 0
def FI(n draw:Int):List Int:=if DJ n then []else H3 n (D3 draw (F9 n)%n) (gN n (D3 draw (F9 n)))
def EH(n self draw:Int):List Int:=(FI n draw).filter (fun p=>p !=self)
theorem PZ{n:Int}(h: ¬DJ n):n≤F9 n:=by
 have a:=h;unfold DJ at a;unfold F9;rw[Ah h];have:=YA (n:=n) (by omega) (by omega)
 calc n=n*1:=by omega
  _≤n*((EK n).length:Int):=Int.mul_le_mul_of_nonneg_left (by omega) (by omega)
theorem T6{n:Int}:F9 n≤262144:=by
 unfold F9;split
 ·omega
 ·rename_i h
  unfold DJ at h;have:=PY n
  calc n*((EK n).length:Int)≤256*((EK n).length:Int):=Int.mul_le_mul_of_nonneg_right (by omega) (by omega)
   _≤262144:=by omega
theorem dG{n d:Int}(h: ¬DJ n)(b:0≤d)(a:d<F9 n):(d/n).toNat<(EK n).length∧0≤d%n∧d%n<n∧0≤d/n:=by have c:=h;unfold DJ at c;unfold F9 at a;rw[Ah h]at a;refine⟨?_,Zbd _ (by omega),Zaw _ (by omega),Zbw b (by omega)⟩;have:d/n<(EK n).length:=Int.ediv_lt_of_lt_mul (by omega) (by rw[Int.mul_comm];exact a);have:=Zbw b (show 0≤n by omega);omega
theorem Sb(n draw:Int):(FI n draw).length≤1024:=by
 unfold FI;split
 ·simp
 ·exact KG _ _ _
end Go.CL
namespace Go.Proofs.YtgadhchejmlfjaaGreatDoor.Sd
section
open Go.Proofs.Tryz Go.RowKit Go.Shelf Go.CL
attribute [local go_sem] Oper.semAt_some
variable {b c m:Nat}
theorem L1(i n:Int)(w:oZ)(c:n≤4611686018427387904):re prog 53 #[I U i,I U n] w fun e a=>e=rC (I U (D3 i n))∧w=a:=by
 by_cases h:n<1
 ·go_enter func53,ntmps53
  go_wp2;go_ret;exact⟨by simp[D3,h],rfl⟩
 ·have b:1≤n:=by omega
  clear h;have d:(n==0)=false:=by simp;omega
  go_enter func53,ntmps53;go_wp2;go_ret;refine⟨Gy ?_,rfl⟩;have f:=Zb4 i (show(0:Int)<n by omega);have g:=Int.tmod_lt_of_pos i (show(0:Int)<n by omega);rw[IntWalk.wrap64_in _ ⟨by omega,by omega⟩,Pq i n b,D3,Ah (by omega)]
theorem Se(F:Fence)(n:Nat)(d:F.fn 332)(f:F.round=N)(a b c:Int)(w:oZ):CallsIn F n prog 332 #[I U a,I U b,I U c] w fun e g=>e=rC (.func (.func 357) #[] #[J (Z ⟨w.heap.size,0,N⟩),J (Z ⟨w.heap.size+1+1,0,N⟩),J (Z ⟨w.heap.size+1,0,N⟩)])∧g=((w.alloc (rD #[I U a] 3)).alloc (rD #[I U b] 3)).alloc (rD #[I U c] 3):=by
 refine Zaf func332 rfl d ?_ f;simp only[ntmps332,Bd,AB,AF,Nat.reduceAdd,Nat.reduceSub,Br,Bt,BK,Bw,Bq,Bo];gi_wp2
 go_ret;exact⟨rfl,rfl⟩
theorem ja(F:Fence)(m:Nat)(a:F.fn 53)(b:F.round=N)(i n:Int)(w:oZ)(c:1≤n)(f:n≤4611686018427387904):CallsIn F m prog 53 #[I U i,I U n] w fun e d=>e=rC (I U (D3 i n))∧w=d:=by
 have g:(n==0)=false:=by simp;omega
 refine Zaf func53 rfl a ?_ b;simp only[ntmps53,Bd,AB,AF,Nat.reduceAdd,Nat.reduceSub,Br,Bt,BK,Bw,Bq,Bo];gi_wp2
 go_ret;refine⟨Gy ?_,rfl⟩;have h:=Zb4 i (show(0:Int)<n by omega);have j:=Int.tmod_lt_of_pos i (show(0:Int)<n by omega);rw[IntWalk.wrap64_in _ ⟨by omega,by omega⟩,Pq i n c,D3,Ah (by omega)]
def JD(b c:Nat)(W W':oZ):Prop:=(∀v,W.cell? ⟨b,0,N⟩=Z v→W'.cell? ⟨b,0,N⟩=Z v)∧(∀v,W.cell? ⟨c,0,N⟩=Z v→W'.cell? ⟨c,0,N⟩=Z v)
theorem YB{A B C:oZ}(h:JD b c A B)(k:JD b c B C):JD b c A C:=⟨fun v a=>k.1 v (h.1 v a),fun v a=>k.2 v (h.2 v a)⟩
theorem YC{w:oZ}(W:oZ)(l:Nat)(o a:Obj)(_:w.heap.size≤l)(h:W.heap[l]?=Z o)(f:o.isCells=rm)(_:o.isWalk=rm):JD b c W (W.putObj l a):=⟨fun _ d=>cell_kept d (grownBy_putObj' W l a) (fun r e=>by cases e;exact⟨o,h,f⟩),fun _ d=>cell_kept d (grownBy_putObj' W l a) (fun r e=>by cases e;exact⟨o,h,f⟩)⟩
theorem VC{k:Nat}(h:k≤m):List.range k<+:List.range m:=⟨(List.range (m-k)).map (k+ ·),by rw[←List.range_add];congr 1;omega⟩
theorem Si(m:Nat)(start step:Int)(k:Nat):(List.range (k+1)).map (Ei m start step)=(List.range k).map (Ei m start step)++[Ei m start step k]:=by rw[B7,Cj];rfl
theorem YD(F:Fence)(n:Nat)(p:F.fn 357)(q:F.fn 53)(c:F.round=N)(X:2≤n)(l o Bs z:Nat)(m:Nat)(start step:Int)(C:1≤m)(D:m≤1024)(E:1≤step)(G:step≤1024)(a A:List Int→oZ→Prop)(H: ∀pre x W,a pre W→pre.length<m→YieldAt F (n-1) prog l #[I U x] W fun e b=>(e=rC (ry rq)∧a (pre++[x]) b∧JD o Bs W b)∨(e=rC (ry rm)∧A (pre++[x]) b)) (W:oZ) (r:W.cell? ⟨o,0,N⟩=Z (I U m)) (s:W.cell? ⟨Bs,0,N⟩=Z (I U step)) (K:W.cell? ⟨z,0,N⟩=Z (I U start)) (L:a [] W):CallsIn F n prog 357 #[.func (.yield l) #[] #[],J (Z ⟨o,0,N⟩),J (Z ⟨Bs,0,N⟩),J (Z ⟨z,0,N⟩)] W fun e b=>(∃v,e=rC v)∧((∃ys,ys=(List.range m).map (Ei m start step)∧a ys b)∨(∃pre,pre<+:(List.range m).map (Ei m start step)∧A pre b)):=by
 refine Zaf func357 rfl p ?_ c;simp only[ntmps357,Bd,AB,AF,Nat.reduceAdd,Nat.reduceSub,Br,Bt,BK,Bw,Bq,Bo];have M:1≤n:=by omega
 have O:1≤n-1:=by omega
 have P:decide ((m:Int)<1)=false:=by simp;omega
 have Q:decide ((1024:Int)<m)=false:=by simp;omega
 have R:decide (step<1)=false:=by simp;omega
 have S:decide ((1024:Int)<step)=false:=by simp;omega
 gi_wp2_with (gi_at_call 53;refine(ja F (n-1) q c _ _ _ (by omega) (by omega)).mono ?_;rintro e w'⟨rfl,rfl⟩)
 gi_loopw [5,24] (fun at_ i wr=> ∃k:Nat,k≤m∧at_=I U (Ei m start step k)∧i=I U k∧wr.cell? ⟨o,0,N⟩=Z (I U m)∧wr.cell? ⟨Bs,0,N⟩=Z (I U step)∧a ((List.range k).map (Ei m start step)) wr)
  (fun _ i _=>m-(intOf i).toNat)
 case atStart=>exact⟨0,Ap _,by rw[Ps _ _ _ (by omega)],rfl,r,s,L⟩
 case round=>
  obtain⟨k,hk,rfl,rfl,t,u,d⟩:=hrel;by_cases w:k<m
  ·have w0:=UW m start step k (by omega)
   have w1:=UX m start step k (by omega);have T:=Aa (Pt m start step k);have B:=Aa (Si m start step k);obtain⟨fn,tmps,assign,body,hy,V⟩:=H _ (Ei m start step k) wr d (by simp;exact w);gi_wp2
   refine V.mono ?_;rintro e W3(⟨rfl,y,f⟩|⟨rfl,g⟩)
   ·have h:=f.1 _ t
    have j:=f.2 _ u;gi_wp2
    go_roundw
    case rel=>exact⟨k+1,by omega,by rw[T.out],by go_num,h,j,by rw[B.out];exact y⟩
    case measure=>simp[intOf];omega
   ·gi_wp2
    refine AG (results_none rfl _ _ _) rfl ?_;exact⟨⟨_,rfl⟩,.inr ⟨_,by rw[←B.out];exact List.IsPrefix.map _ (VC (by omega)),g⟩⟩
  ·obtain rfl:k=m:=by omega
   gi_wp2
   go_end0;exact⟨⟨_,rfl⟩,.inl ⟨_,rfl,d⟩⟩
theorem VD(F:Fence)(n:Nat)(a:F.fn 357)(b:F.round=N)(l h Bs i:Nat)(m step:Int)(c:FT m step)(W:oZ)(j:W.cell? ⟨h,0,N⟩=Z (I U m))(k:W.cell? ⟨Bs,0,N⟩=Z (I U step)):CallsIn F n prog 357 #[.func (.yield l) #[] #[],J (Z ⟨h,0,N⟩),J (Z ⟨Bs,0,N⟩),J (Z ⟨i,0,N⟩)] W fun e o=>(∃v,e=rC v)∧W=o:=by
 by_cases q:m<1
 ·have d:decide (m<1)=true:=by simp;omega
  refine Zaf func357 rfl a ?_ b;simp only[ntmps357,Bd,AB,AF,Nat.reduceAdd,Nat.reduceSub,Br,Bt,BK,Bw,Bq,Bo];gi_wp2
  refine AG (results_none rfl _ _ _) rfl ?_;exact⟨⟨_,rfl⟩,rfl⟩
 ·have d:decide (m<1)=false:=by simp;omega
  by_cases r:1024<m
  ·have f:decide (1024<m)=true:=by simp;omega
   refine Zaf func357 rfl a ?_ b;simp only[ntmps357,Bd,AB,AF,Nat.reduceAdd,Nat.reduceSub,Br,Bt,BK,Bw,Bq,Bo];gi_wp2
   refine AG (results_none rfl _ _ _) rfl ?_;exact⟨⟨_,rfl⟩,rfl⟩
  ·have f:decide (1024<m)=false:=by simp;omega
   by_cases s:step<1
   ·have g:decide (step<1)=true:=by simp;omega
    refine Zaf func357 rfl a ?_ b;simp only[ntmps357,Bd,AB,AF,Nat.reduceAdd,Nat.reduceSub,Br,Bt,BK,Bw,Bq,Bo];gi_wp2
    refine AG (results_none rfl _ _ _) rfl ?_;exact⟨⟨_,rfl⟩,rfl⟩
   ·have g:decide (step<1)=false:=by simp;omega
    have t:1024<step:=by unfold FT at c;omega
    have p:decide (1024<step)=true:=by simp;omega
    refine Zaf func357 rfl a ?_ b;simp only[ntmps357,Bd,AB,AF,Nat.reduceAdd,Nat.reduceSub,Br,Bt,BK,Bw,Bq,Bo];gi_wp2
    refine AG (results_none rfl _ _ _) rfl ?_;exact⟨⟨_,rfl⟩,rfl⟩
theorem VE{start step:Int}(h: ¬FT m step):H3 m start step=(List.range m).map (Ei m start step):=by unfold H3;rw[Ah h];simp
theorem Sj(F:Fence)(n:Nat)(f:F.fn 357)(i:F.fn 53)(g:F.round=N)(r:2≤n)(c Bs d:Nat)(a start step:Int)(w:oZ)(s:c<w.heap.size)(t:Bs<w.heap.size)(u:d<w.heap.size)(c1:w.cell? ⟨c,0,N⟩=Z (I U a))(v:w.cell? ⟨Bs,0,N⟩=Z (I U step))(c3:w.cell? ⟨d,0,N⟩=Z (I U start)):SeqStopsK F n prog 357 #[J (Z ⟨c,0,N⟩),J (Z ⟨Bs,0,N⟩),J (Z ⟨d,0,N⟩)] (fun x:Int=>#[I U x]) (JD c Bs) (fun ys=>ys=H3 a start step) (fun pre=>pre<+:H3 a start step) (H3 a start step).length w:=by
 intro l b y W j _ _ o q;have d1:=(j.cell (p:=⟨c,0,N⟩) s).trans c1;have d2:=(j.cell (p:=⟨Bs,0,N⟩) t).trans v;have d3:=(j.cell (p:=⟨d,0,N⟩) u).trans c3;by_cases h:FT a step
 ·refine(VD F n f g l c Bs d a step h W d1 d2).mono ?_
  rintro e D⟨z,rfl⟩;exact⟨z,.inl ⟨[],by simp[H3,h],q⟩⟩
 ·have k:=h
  unfold FT at k;obtain⟨m,rfl⟩:=AA (show 0≤a by omega);rw[VE h]at o⊢;exact YD F n f i g r l c Bs d m start step (by omega) (by omega) (by omega) (by omega) b y (fun pre x A B C=>o pre x A B (by simpa using C)) W d1 d2 d3 q
end
section
open Go.Proofs.Tryz Go.RowKit Go.Shelf Go.CL
attribute [local go_sem] Oper.semAt_some
variable {size R B:Nat} {xs:List qY}
theorem Dw:(prog.info? 3).map (fun i=>(i.zero,i.size,i.bytes))=Z (Z (I U 0),1,8):=by kernel_rfl
theorem Fj{w:oZ}{base a:Nat}{e:rA}{v:qY}{n:Nat}(h:w.ownsRow base e size v n xs)(c:a≤base):w.ownsRow a e size v n xs:=by
 obtain⟨b,d|⟨g,cap,cur,f,i,j,r⟩⟩:=h
 ·exact⟨b,.inl d⟩
 ·exact⟨b,.inr ⟨g,cap,cur,f,AE c i,j,r⟩⟩
theorem KO{W w1:oZ}{Ms:Nat}{t e:rA}{v v':qY}{k m:Nat}{ys:List qY}{tmp:Obj}(n:Boxed W B t v)(g:t≠e)(d:W.ownsRow R e size v k xs)(f:Ms≤W.heap.size)(o:Ms≤B)(j:Ms≤R)(a:w1.ownsRow R e size v' m ys)(c:(W.alloc tmp).grownBy w1 v.ownBlock):Boxed w1 B t v∧Boxed (w1.setCell ⟨B,0,N⟩ v') B t v'∧(w1.setCell ⟨B,0,N⟩ v').ownsRow R e size v' m ys∧KeepsOthers W (w1.setCell ⟨B,0,N⟩ v')∧qZ Ms W (w1.setCell ⟨B,0,N⟩ v')∧ ∀b,b<R→b≠B→b<W.heap.size→(w1.setCell ⟨B,0,N⟩ v').heap[b]?=W.heap[b]?:=by obtain⟨l,p,_,q,r⟩:=n.appended g (Fj d j) f o (Fj a j) c;refine⟨l,p,a.kept (grownBy_setCell' w1 B v') (.inr (l.not_row g a).symm),q,r,fun b s h i=>?_⟩;rw[Zah _ _ _ b h,c.block b (by simp;omega) ?_,Cn _ _ _ i];intro e;have:=(d.lt b e.symm).1;omega
theorem VF{b c:Nat}{W W':oZ}(h: ∀k,k<R→k≠B→k<W.heap.size→W'.heap[k]?=W.heap[k]?) (f:b≠B) (g:c≠B) (d:b<R) (e:c<R):JD b c W W':=⟨fun _ a=>(AH (h b d f (EJ a))).trans a,fun _ a=>(AH (h c e g (EJ a))).trans a⟩
def D9(L:List Int)(w:oZ)(e:rB)(w':oZ):Prop:= ∃v,e=rC v∧CF w' w.heap.size v L∧qZ w.heap.size w w'
end
section
open Go.Proofs.Tryz Go.RowKit Go.CL
theorem dH(a b:Int)(w:oZ)(h:a<0∨b<0):re prog 356 #[I U a,I U b] w fun e d=>e=rC (I U (LM a b))∧ ∃n,d=w.drewN n:=by
 have c:LM a b=0:=by unfold LM;rw[Ai h]
 rw[c];clear c;by_cases f:a<0
 ·go_enter func356,ntmps356
  go_wp2;go_step3;go_wp2;try rw[Bp]
  go_ret;exact⟨rfl,0,rfl⟩
 ·have g:b<0:=by omega
  clear h;go_enter func356,ntmps356;go_wp2;go_step3;go_wp2;try rw[Bp]
  go_ret;exact⟨rfl,0,rfl⟩
theorem YE(x y:Nat)(w:oZ):re prog 356 #[I U x,I U y] w fun e d=>e=rC (I U (Nat.gcd x y:Nat))∧ ∃n,d=w.drewN n:=by
 have f:decide ((x:Int)<0)=false:=by simp
 have g:decide ((y:Int)<0)=false:=by simp
 go_enter func356,ntmps356;go_wp2;go_step3;go_wp2;go_step3;go_wp2;go_loopw [0,1] (fun a b wr=> ∃(p q n:Nat),a=I U p∧b=I U q∧Hid (Nat.gcd p q=Nat.gcd x y)∧wr=w.drewN n) (fun _ b _=>(intOf b).toNat)
 case atStart=>exact⟨x,y,0,rfl,rfl,rfl,rfl⟩
 case round=>
  obtain⟨p,q,n,rfl,rfl,c,rfl⟩:=hrel;by_cases h:q=0
  ·subst h
   go_wp2;rw[Bp];go_ret;exact⟨Gy (by rw[←c.out];simp),n,rfl⟩
  ·have i:((q:Int)==0)=false:=by simp;omega
   have j:=Aa (Yy p q);have k:p%q<q:=Zbn _ (by omega);go_wp2;go_quiet(fail)
   go_wp2;refine⟨⟨q,p%q,n+nq,rfl,rfl,j.out.trans c.out,by rw[World.drewN_drewN]⟩,?_⟩;simp only[intOf];omega
theorem T7(a b:Int)(w:oZ):re prog 356 #[I U a,I U b] w fun e c=>e=rC (I U (LM a b))∧ ∃n,c=w.drewN n:=by
 by_cases h:a<0∨b<0
 ·exact dH a b w h
 ·obtain⟨x,rfl⟩:=AA (show 0≤a by omega)
  obtain⟨y,rfl⟩:=AA (show 0≤b by omega);rw[Yx];exact YE x y w
theorem OC(n:Int)(w:oZ):re prog 331 #[I U n] w (D9 (EK n) w):=by
 by_cases h:n<1∨1024<n
 ·have u:EK n=[]:=by unfold EK;rw[Ai h]
  rw[u];clear u;by_cases M:n<1
  ·go_enter func331,ntmps331
   go_wp2;go_ret;exact⟨_,rfl,CF.nil _ _,rf _ _⟩
  ·have O:1024<n:=by omega
   clear h;go_enter func331,ntmps331;go_wp2;go_ret;exact⟨_,rfl,CF.nil _ _,rf _ _⟩
 ·have x:EK n=KR n n.toNat:=by unfold EK;rw[Ah h]
  rw[x];clear x;obtain⟨m,rfl⟩:=AA (show 0≤n by omega);simp only[An];have A:1≤m:=by omega
  have B:m≤1024:=by omega
  clear h;have C:decide ((m:Int)<1)=false:=by simp;omega
  have D:decide ((1024:Int)<(m:Int))=false:=by simp;omega
  obtain⟨i0,E,q,r,s⟩:=info_parts Dw;go_enter func331,ntmps331;go_wp2;go_loopw [2,3] (fun v i wr=> ∃k:Nat,k≤m∧i=I U ((k:Int)+1)∧CF wr w.heap.size v (KR m k)∧qZ w.heap.size w wr) (fun _ i _=>m+1-(intOf i).toNat)
  case atStart=>exact⟨0,Ap _,rfl,CF.nil _ _,rf _ _⟩
  case round=>
   obtain⟨k,P,rfl,b,c⟩:=hrel;have F:=PX m k;by_cases G:k<m
   ·cases y:(LM ((k:Int)+1) m==1)
    ·have t:=Aa (dF m k y)
     go_wp2_with fail;refine(T7 _ _ _).mono ?_;rintro e H⟨rfl,p,rfl⟩;go_wp2_with fail;go_roundw
     case rel=>exact⟨k+1,by omega,by go_num,by rw[t.out];exact b.drewN _,BX c _⟩
     case measure=>simp[intOf];omega
    ·have t:=Aa (Yz m k y)
     go_wp2_with fail;refine(T7 _ _ _).mono ?_;rintro e H⟨rfl,p,rfl⟩;have a:=b.drewN p;have d:=BX c p;generalize wr.drewN p=K at*
     clear b c;unfold CF at a;go_wp2_with(at_builtin;refine wpList_append_own _ rfl _ _ 22 rfl w.heap.size 3 i0 (I U 0) 1 8 underlying22 E q r s rfl (by decide) _ _ _ rfl (a.alloc _) ⟨K.heap.size,0,N⟩ 1 1 [I U ((k:Int)+1)] rfl rfl (cell_one_new _ _ _) (by simp[Value.oneCell']) (by unfold maxLen;omega) (by omega) (by have:=d.size;simp;omega) ?_;intro L z f g _);have o:CF z w.heap.size L (KR m (k+1)):=by rw[t.out];unfold CF;simpa using f
     have l:qZ w.heap.size w z:=CI (Ct d _) g (fun j e=>(a.lt j e).1);go_roundw
     case rel=>exact⟨k+1,by omega,by go_num,o,l⟩
     case measure=>simp[intOf];omega
   ·obtain rfl:k=m:=by omega
    go_wp2;go_ret;exact⟨_,rfl,b,c⟩
end
open Go.Proofs.Tryz Go.RowKit Go.CL
theorem dI{w:oZ}{v:qY}{l:List Int}(h:Sl w v l)(c:l≠[]): ∃b off cap,v=Y (Z ⟨b,off,N⟩) l.length cap∧b<w.heap.size∧ ∀i,i<l.length→w.cell? ⟨b,off+i,N⟩=Z (I U (l[i]?.getD 0)):=by
 obtain⟨a,cap,rfl,_,d|⟨b,off,rfl,e,f⟩⟩:=h
 ·exact absurd d c
 ·exact⟨b,off,cap,rfl,e,f⟩
end Go.Proofs.YtgadhchejmlfjaaGreatDoor.Sd
namespace Go.Proofs.YtgadhchejmlfjaaGreatDoor.P0
section
open Go.Proofs.Tryz Go.RowKit Go.CL Go.Shelf Sd
end
section
open Go.Proofs.Tryz Go.RowKit Go.CL Go.Shelf Sd
theorem YF{n draw:Int}(h: ¬DJ n): ∃m D q r:Nat,n=m∧1≤m∧m≤256∧D3 draw (F9 n)=D∧q<(EK m).length∧r<m∧(D:Int)≤262144∧(D:Int).tdiv m=q∧(D:Int)/m=q∧(D:Int).tmod m=r∧(D:Int)%m=r∧FI n draw=H3 m r (((EK m)[q]?).getD 0):=by have d:=h;unfold DJ at d;obtain⟨m,rfl⟩:=AA (show 0≤n by omega);have hw:=PZ h;have e:=T6 (n:=(m:Int));have f:=Of draw (F9 m);have b:=TN draw (F9 m) (by omega);obtain⟨D,a⟩:=AA f;rw[a]at b;have c:=(dG h (show(0:Int)≤D by omega) b).1;rw[←Int.natCast_ediv,An]at c;refine⟨m,D,D/m,D%m,rfl,by omega,by omega,a,c,Zbn _ (by omega),by omega,rfl,rfl,rfl,rfl,?_⟩;unfold FI gN;rw[Ah h,a,←Int.natCast_ediv,An];rfl
end
section
open Go.Proofs.Tryz Go.RowKit Go.CL Go.Shelf Sd
attribute [local go_sem] Oper.semAt_some
theorem KN{P:Program}{c:Code}{K:Act→oZ→Prop}{Q:Exit→Act→oZ→Prop}{a:Act}{w:oZ}(h:c.wp P (Exit.then K (fun _ _ _=>False)) a w):c.wp P (Exit.then K Q) a w:=Code.wp_mono (fun e a w h=>by cases e<;>first|exact h|exact h.elim) h
theorem YG(a:Int)(w:oZ)(f:1≤a)(g:a≤256):re prog 289 #[I U a] w fun e b=>e=rC (ry rq)∧w=b:=by
 have c:decide (1≤a)=true:=by simp;omega
 have d:decide (a≤256)=true:=by simp;omega
 go_enter func289,ntmps289;go_wp2;go_ret;exact⟨rfl,rfl⟩
theorem Sk(m D q r:Nat)(s draw:Int)(w:oZ)(ad:1≤m)(ae:m≤256)(HD:Hid (D3 draw (F9 m)=D))(j:q<(EK m).length)(af:r<m)(hD:(D:Int)≤262144)(e1:(D:Int).tdiv m=q)(e2:(D:Int)/m=q)(e3:(D:Int).tmod m=r)(e4:(D:Int)%m=r)(HS:Hid ((EK m)[q]?.getD 0=s)):re prog 290 #[I U m,I U draw] w (D9 (H3 m r s) w):=by
 have k:=T6 (n:=(m:Int));have hlen:=PY m;have F:EK m≠[]:=by intro h;simp[h]at j
 have o: ¬DJ m:=by unfold DJ;omega
 have G:=PZ o;have A:Hid (F9 m=m*(EK m).length):=by show _=_;unfold F9;rw[Ah o]
 have H:(m:Int)*((EK m).length:Int)≤262144:=by rw[←A.out];exact k
 have p:1≤(m:Int)*((EK m).length:Int):=by rw[←A.out];omega
 have ag:decide (1≤(m:Int))=true:=by simp;omega
 have ah:decide ((m:Int)≤256)=true:=by simp;omega
 have ai:((m:Int)==0)=false:=by rw[Au];omega
 have e5:IntKind.i64.wrap (q:Int)=q:=Zaa _ (by omega);have L:(q:Int)<((EK m).length:Int):=by omega
 refine(callsIn_wide (n:=4)).1 ?_;refine callsIn_of_wp_marks func290 rfl trivial ?_ rfl;simp only[ntmps290,Bd,AB,AF,Nat.reduceAdd,Nat.reduceSub,Br,Bt,BK,Bw,Bq,Bo];refine wpIn_wide.2 ?_;go_wp2_with(first|(go_at_call 331;refine(OC _ _).mono ?_;rintro e a⟨v,rfl,ho,t⟩;obtain⟨b,off,cap,rfl,aj,d⟩:=dI (Sl.Eh ho) F;have cq:=d q j;rw[HS.out]at cq;clear d)|(go_at_call 53;refine(L1 _ _ _ (by omega)).mono ?_;rintro e w2⟨rfl,rfl⟩;rw[←A.out,HD.out])|(go_at_call 289;refine(YG _ _ (by omega) (by omega)).mono ?_;rintro e w0⟨rfl,rfl⟩));refine KN ?_;go_region_with (go_at_call 332;refine(callsIn_wide.1 (Se Fence.wide 4 trivial rfl _ _ _ _)).mono ?_;rintro e w'⟨rfl,rfl⟩)
 all_goals go_wp2
 all_goals
  clear cq H p k A L e1 e2 e3 e4 e5 HD HS G;refine(wpIn_wide (n:=4)).1 ?_;obtain⟨i0,hi,M,O,P⟩:=info_parts Dw;have bO:=Boxed.new a 22 (Y N 0 0);have b1:=Boxed.new (a.alloc (rD #[Y N 0 0] 22)) 3 (I U m);have b2:=Boxed.new ((a.alloc (rD #[Y N 0 0] 22)).alloc (rD #[I U m] 3)) 3 (I U r);have b3:=Boxed.new (((a.alloc (rD #[Y N 0 0] 22)).alloc (rD #[I U m] 3)).alloc (rD #[I U r] 3)) 3 (I U s);simp only[World.size_alloc]at b1 b2 b3;have Q:qZ a.heap.size a ((((a.alloc (rD #[Y N 0 0] 22)).alloc (rD #[I U m] 3)).alloc (rD #[I U r] 3)).alloc (rD #[I U s] 3)).drew:=(Ct (Ct (Ct (Ct (rf _ _) _) _) _) _).drew
  refine wpIn_rangeFunc_ownG rfl (by decide) (gf:=357) (lb:=#[J (Z ⟨a.heap.size+1,0,N⟩),J (Z ⟨a.heap.size+1+1+1,0,N⟩),J (Z ⟨a.heap.size+1+1,0,N⟩)]) rfl trivial (enters_of func357 (by kernel_rfl) rfl)
   (Sj Fence.wide (4-1) trivial trivial rfl (by decide) (a.heap.size+1) (a.heap.size+1+1+1) (a.heap.size+1+1) m r s _ (by simp<;>omega) (by simp<;>omega) (by simp<;>omega) ((b1.alloc _).alloc _).cell b3.cell (b2.alloc _).cell) YB YC (rf _ _).drew (fun _=>rfl)
   (fun(pre:List Int) W=>(∃v,Boxed W a.heap.size 22 v∧W.ownsRow (a.heap.size+4) 3 1 v pre.length (pre.map (I U))∧True)∧qZ a.heap.size a W∧a.heap.size+4≤W.heap.size)
   (fun _ _ _=>False)
   (OwnFrom.and (Own.from (holdsRow_own (a.heap.size+4) a.heap.size 22 3 1 (fun pre:List Int=>pre.length) (fun pre=>pre.map (I U)) (fun _ _=>True)) _) (OwnFrom.and (ownFrom_below (Al _) (by simp<;>omega)) (fun _ _ _ _ R hg _=>AE R hg.size)))
   (fun _ _ _ _ _ R _ _=>R)
   ⟨⟨_,((bO.alloc _).alloc _).alloc _,AL _ _ _ _,trivial⟩,Q,by simp<;>omega⟩
   (fun x=>{tmps:=#[I U m,I U draw,undef,undef,Y N 0 0,Y (Z ⟨b,off,N⟩) (EK m).length cap,I U D,J (Z ⟨a.heap.size,0,N⟩),I U x,I U m,ry rq,ry rm,I U m,Y (Z ⟨b,off,N⟩) (EK m).length cap,I U draw,I U m,Y (Z ⟨b,off,N⟩) (EK m).length cap,I U ((EK m).length:Nat),I U (F9 m),I U D,I U m,I U D,I U m,I U r,Y (Z ⟨b,off,N⟩) (EK m).length cap,I U D,I U m,I U q,J (Z ⟨b,off+q,N⟩),I U s,.func (.func 357) #[] #[J (Z ⟨a.heap.size+1,0,N⟩),J (Z ⟨a.heap.size+1+1+1,0,N⟩),J (Z ⟨a.heap.size+1+1,0,N⟩)],I U x,undef,undef,undef,undef,undef],defers:=[]}) ?assign ?body ?done ?stop
  case assign=>
   intro l x W K u;gi_wp2
   exact u
  case body=>
   rintro l pre x W⟨⟨v,B,f,_⟩,C,hS⟩ak;have ao:=KG m r s;have hc:=B.cell;gi_wp2_with (gi_at_builtin;refine wpListIn_append_own _ rfl _ _ 22 rfl (a.heap.size+4) 3 i0 (I U 0) 1 8 underlying22 hi M O P rfl (by decide) _ _ _ rfl (f.alloc _) ⟨W.heap.size,0,N⟩ 1 1 [I U x] rfl rfl (cell_one_new _ _ _) (by simp[Value.oneCell']) (by unfold maxLen;omega) (by omega) (by simp;omega) ?_;intro v' w3 g i _;obtain⟨g',aa,rfl⟩:=ownsRow_succ g;obtain⟨y,S,T,V,z,X⟩:=KO (Ms:=a.heap.size) B (by decide) f C.size (Al _) (by omega) g i;have aq:=y.cell;have ar:=y.frozen)
   exact⟨V.from _,VF X (by omega) (by omega) (by omega) (by omega),⟨_,S,by simpa using T,trivial⟩,C.trans z,AE hS z.size⟩
  case done=>rintro E ys W hE rfl⟨⟨v,B,f,_⟩,C,hS⟩u;have hc:=B.cell;go_wp2;refine⟨by simp,.inl ⟨_,_,rfl,run_takeDeferred u,?_⟩⟩;exact⟨_,results_tmp rfl _ _ _,v,rfl,ownsRow_putObj (Fj f (by have:=t.size;omega)) _ u rfl,Cu t (C.trans (belowK_b (w:=a) (Al _) W E _ _ (by simp at hE;omega) u rfl rfl))⟩
  case stop=>rintro E c pre W _ _ h _;exact h.elim
theorem VG(n draw:Int)(w:oZ):re prog 290 #[I U n,I U draw] w (D9 (FI n draw) w):=by
 by_cases h:DJ n
 ·have e:FI n draw=[]:=by unfold FI;rw[Ai h]
  rw[e];clear e;unfold DJ at h;by_cases t:n<1
  ·clear h
   have f:decide (1≤n)=false:=by simp;omega
   go_enter func290,ntmps290;go_wp2;go_ret;exact⟨_,rfl,CF.nil _ _,rf _ _⟩
  ·have u:256<n:=by omega
   clear h;have f:decide (1≤n)=true:=by simp;omega
   have g:decide (n≤256)=false:=by simp;omega
   go_enter func290,ntmps290;go_wp2;go_ret;exact⟨_,rfl,CF.nil _ _,rf _ _⟩
 ·obtain⟨m,D,q,r,rfl,a,b,i,c,d,j,k,l,o,p,s⟩:=YF (draw:=draw) h
  rw[s];exact Sk m D q r _ draw w a b i c d j k l o p rfl
end
open Go.Proofs.Tryz Go.RowKit Go.CL Sd
theorem P1(L:List Int)(self:Int)(k:Nat)(h:k<L.length):(L.take (k+1)).filter (fun p=>p !=self)=(L.take k).filter (fun p=>p !=self)++(if L[k]?.getD 0 !=self then [L[k]?.getD 0]else []):=by
 rw[A8 h,Zax];simp only[h,Ae,AQ];by_cases a:(L[k] !=self)=rq
 ·simp[a]
 ·simp[a]
theorem Sn(n self draw:Int)(w:oZ):re prog 245 #[I U n,I U self,I U draw] w (D9 (EH n self draw) w):=by
 by_cases h:DJ n
 ·have D:EH n self draw=[]:=by unfold EH FI;rw[Ai h];rfl
  rw[D];clear D;unfold DJ at h;by_cases Q:n<1
  ·clear h
   have E:decide (1≤n)=false:=by simp;omega
   go_enter func245,ntmps245;go_wp2;go_step3;go_wp2;try rw[Bp]
   go_ret;exact⟨_,rfl,CF.nil _ _,rf _ _⟩
  ·have R:256<n:=by omega
   clear h;have E:decide (1≤n)=true:=by simp;omega
   have u:decide (n≤256)=false:=by simp;omega
   go_enter func245,ntmps245;go_wp2;go_step3;go_wp2;try rw[Bp]
   go_ret;exact⟨_,rfl,CF.nil _ _,rf _ _⟩
 ·unfold EH
  have hlen:=Sb n draw;have K:=Aa (VG n draw);generalize FI n draw=L at*
  unfold DJ at h;have y:1≤n:=by omega
  have z:n≤256:=by omega
  clear h;have E:decide (1≤n)=true:=by simp;omega
  have u:decide (n≤256)=true:=by simp;omega
  go_enter func245,ntmps245;go_wp2;go_step3;go_wp2_with(first|(go_at_call 289;refine(YG _ _ y z).mono ?_;rintro e w0⟨rfl,rfl⟩));go_step3;go_wp2_with fail;refine(K.out _).mono ?_;rintro e r⟨v,rfl,F,s⟩;have A:=Sl.Eh F;clear F;obtain⟨a,cap,rfl,_,t⟩:=A;have B:=Aa t;clear t;go_wp2_with fail;go_loopw [6,16] (fun v i wr=> ∃k:Nat,k≤L.length∧i=I U k∧CF wr r.heap.size v ((L.take k).filter (fun p=>p !=self))∧qZ r.heap.size r wr) (fun _ i _=>L.length-(intOf i).toNat)
  case atStart=>exact⟨0,Ap _,rfl,CF.nil _ _,rf _ _⟩
  case round=>
   obtain⟨k,S,rfl,c,d⟩:=hrel;have M:((L.take k).filter (fun p=>p !=self)).length≤k:=AE (Ce _ _) (by rw[AN];omega);by_cases g:k<L.length
   ·rcases B.out with O|⟨b,off,rfl,C,f⟩
    ·simp[O]at g
    have G:=Aa (P1 L self k g);have c0:=(d.cell (p:=⟨b,off+k,N⟩) C).trans (f k g);clear f;generalize L[k]?.getD 0=x at*
    cases H:(x==self)
    ·have l:(x !=self)=true:=by simp[bne,H]
     go_wp2_with(at_builtin;refine iB underlying22 Dw r.heap.size wr x rfl _ _ rfl _ _ rfl rfl c d.size (by omega) ?_;intro T P m o _);have q:qZ r.heap.size r P:=CI d o (fun j e=>(c.lt j e).1);go_roundw
     case rel=>exact⟨k+1,by omega,by go_num,by rw[G.out,Ai l];exact m,q⟩
     case measure=>simp[intOf];omega
    ·have l:(x !=self)=false:=by simp[bne,H]
     go_wp2_with fail;go_roundw
     case rel=>exact⟨k+1,by omega,by go_num,by rw[G.out,Ah (by simp[l]),Cf];exact c,d⟩
     case measure=>simp[intOf];omega
   ·obtain rfl:k=L.length:=by omega
    go_wp2;try rw[Bp]
    go_ret;rw[BJ]at c;exact⟨_,rfl,c.mono s.size,Cu s d⟩
end Go.Proofs.YtgadhchejmlfjaaGreatDoor.P0
namespace Go.CL
open Go.RowKit
section
variable {P:Program} {t:rA} (ht:P.underlying t=Z (.slice 3)) (DC:(P.info? 3).map (fun i=>(i.zero,i.size,i.bytes))=Z (Z (I U 0),1,8))
include ht DC
omit DC in
end
end Go.CL
namespace Go.Proofs.YtgadhchejmlfjaaGreatDoor.Ref
open Go.Proofs.Tryz Go.RowKit Go.CL
theorem Dw:(prog.info? 3).map (fun i=>(i.zero,i.size,i.bytes))=Z (Z (I U 0),1,8):=by kernel_rfl
def lj(L:List Int)(w:oZ)(e:rB)(w':oZ):Prop:= ∃v,e=rC v∧CF w' w.heap.size v L∧qZ w.heap.size w w'
end Go.Proofs.YtgadhchejmlfjaaGreatDoor.Ref
namespace Go.CL
open Go.RowKit
def VH(w:oZ)(v:qY)(l:List Int):Prop:=CF w 0 v l∨(DB w v l∧ ∃a,v=Y (Z a) l.length l.length)
theorem VH.gO{w:oZ}{v:qY}{l:List Int}(h:VH w v l):DB w v l:=h.elim DB.Eh (fun x=>x.1)
theorem VH.off{S:Nat→Prop}{w w':oZ}{v:qY}{l:List Int}(h:VH w v l)(k:Cv S w w')(a:H4 S v):VH w' v l:=by
 rcases h with h|⟨h,b⟩
 ·exact .inl (h.off k a)
 ·exact .inr ⟨h.only k a,b⟩
theorem VH.nil(w:oZ):VH w (Y N 0 0) []:=.inl (CF.nil _ _)
section
variable {P:Program} {t:rA} (ht:P.underlying t=Z (.slice 3)) (DC:(P.info? 3).map (fun i=>(i.zero,i.size,i.bytes))=Z (Z (I U 0),1,8))
include ht DC
theorem nS(W:oZ){ops:Array Oper}{rest:List Oper}{o:Oper}{a:Act}{Q:Exit→Act→oZ→Prop}(n:o.guard=N)(s y:Operand)(F:o.op= .call {callee:=.builtin .append,args:=#[s,y],argTypes:=#[t,t]})(v:qY)(l:List Int)(x:Int)(p:Nat)(G:a.eval s=v)(hy:a.eval y=Y (Z ⟨p,0,N⟩) 1 1)
  (c:VH W v l) (A:W.cell? ⟨p,0,N⟩=Z (I U x)) (hlen:l.length<10000000)
  (h: ∀d w',CF w' 0 d (l++[x])→W.grownBy w' v.ownBlock→(∀j,d.ownBlock=Z j→v.ownBlock=Z j∨W.heap.size≤j)→(∃g cap,d=Y (Z ⟨g,0,N⟩) (l.length+1) cap)→wpList P ops Q rest (a.put o.dst d) w'):
  wpList P ops Q (o::rest) a W:=by
 have hu:DB W (Y (Z ⟨p,0,N⟩) 1 1) [x]:=⟨_,1,rfl,⟨(fun h=>by cases h),Al _⟩,by simp[maxLen],.inr ⟨p,0,rfl,EJ A,fun i B=>by
  have:i=0:=by simpa using B
  subst this;simpa using A⟩⟩
 rcases c with c|⟨O,H,rfl⟩
 ·refine Jf ht DC 0 W n s y F v l _ [x] G hy c hu (Ap _) (by simp;omega) ?_
  intro d w' w;exact h d w' w.1 w.2.1 w.2.2 w.some
 ·obtain⟨i0,B,C,D,E⟩:=info_parts DC
  refine wpList_plain n fun K R=>?_;have holds: ∀(j:Nat)(u:qY),(l.map (I U))[j]?=Z u→W.cell? (H.add j)=Z u:=by
   intro j u e;rw[Bn]at e;obtain⟨z,L,rfl⟩:=Ax.1 e;have q:j<l.length:=(Af.1 L).1;rcases O.open with⟨f,_⟩|⟨_,_,_,f⟩|⟨b,off,M,he,_,_,_,S⟩
   ·simp at f
   ·simp[f]at q
   ·simp only[Ar,Ak]at he
    obtain⟨rfl,_,_⟩:=he;rw[Ay,S j q,L];rfl
  obtain⟨d,w',T,V,r⟩:=Cq (P:=P) W t o.type 3 i0 (I U 0) 1 8 ht B C D E rfl (by decide) H l.length l.length (l.map (I U)) (by simp) holds ⟨p,0,N⟩ 1 1 [I U x] rfl (fun j u e=>by
    cases j with
    |zero=>simp at e;subst e;rw[Ay];exact A
    |succ j=>simp at e) (by omega) (by unfold maxLen;omega) (by omega)
  have m:CF w' W.heap.size d (l++[x]):=by unfold CF;simpa using V
  unfold Oper.wp;simp[execOp,F,resolve,invoke,builtin,G,hy,T,Result.andThen];refine R _ _ (h d w' (m.mono (Ap _)) ⟨r.os,r.tape,r.output,r.size,fun k X _=>r.block k X (by simp)⟩ (fun j e=>.inr (m.lt j e).1) ?_);rcases m.open with⟨_,f⟩|⟨g,cap,f,_⟩
  ·simp at f
  ·exact⟨g,cap,by rw[f];simp⟩
end
def FX:List Int→Int→Int
 | [],_=> -1
 |x::l,g=>if x=g then 0 else if FX l g<0 then-1 else FX l g+1
theorem So(l:List Int)(g:Int)(k:Nat)(a:k<l.length)(he:l[k]?.getD 0=g)(b: ∀i,i<k→l[i]?.getD 0≠g):FX l g=k:=by
 induction l generalizing k with
 |nil=>simp at a
 |cons x l d=>
  cases k with
  |zero=>simp at he;simp[FX,he]
  |succ k=>have c:=b 0 (by omega);simp at c;have e:=d k (by simpa using a) (by simpa using he) (fun i f=>by have:=b (i+1) (by omega);simpa using this);unfold FX;rw[Ah c,e,Ah (by omega)];omega
theorem VI(l:List Int)(g:Int)(a: ∀i,i<l.length→l[i]?.getD 0≠g):FX l g= -1:=by
 induction l with
 |nil=>rfl
 |cons x l c=>have b:=a 0 (by simp);simp at b;unfold FX;rw[Ah b,c (fun i d=>by have:=a (i+1) (by simpa using d);simpa using this)];rfl
theorem P2(l:List Int)(g:Int):(FX l g<0↔g∉l):=by
 induction l with
 |nil=>simp[FX]
 |cons x l b=>
  unfold FX;by_cases a:x=g
  ·simp[a]
  ·rw[Ah a]
   have: ¬g=x:=fun e=>a e.symm;simp only[Bv,this,false_or];rw[←b];split<;>omega
end Go.CL
namespace Go.Proofs.YtgadhchejmlfjaaGreatDoor.Dc
open Go.Proofs.Tryz Go.RowKit Go.CL Ref
section
variable {v:qY} {b:Nat} {w w':oZ} {ow:Int} {l:List Int}
structure Sm (w:oZ) (b:Nat) (ow:Int) (v:qY) (l:List Int):Prop where
 Dp:Cx w b #[I U ow,v] 207
 row:VH w v l
 ne:v.ownBlock≠Z b
 live: ∀j,v.ownBlock=Z j→j<w.heap.size
def Sf(b:Nat)(v:qY)(j:Nat):Prop:=j=b∨v.ownBlock=Z j
theorem P3(h:v.ownBlock≠Z b):H4 (fun j=>j=b) v:=fun j a e=>h (by rw[a,e])
theorem Sm.only{S:Nat→Prop}(h:Sm w b ow v l)(o:Cv S w w')(c: ∀j,Sf b v j→ ¬S j):Sm w' b ow v l:=⟨h.Dp.only o (c b (.inl rfl)),h.row.off o (fun j a=>c j (.inr a)),h.ne,fun j a=>Am (h.live j a) o.size⟩
theorem Sm.below(h:Sm w b ow v l)(o:qZ w.heap.size w w'):Sm w' b ow v l:=h.only (S:=fun _=>False) ((Cv.refl _ w).below o) (fun _ _ x=>x)
theorem Sm.cell0(h:Sm w b ow v l):w.cell? ⟨b,0,N⟩=Z (I U ow):=h.Dp.cell 0
theorem Sm.Jn(h:Sm w b ow v l):w.cell? ⟨b,1,N⟩=Z v:=h.Dp.cell 1
theorem Sm.T8(h:Sm w b ow v l)(x:Int):Sm (w.setCell ⟨b,0,N⟩ (I U x)) b x v l:=⟨h.Dp.RH,h.row.off ((Cv.refl (fun j=>j=b) w).set (.inr rfl) _ _) (P3 h.ne),h.ne,fun j a=>by have:=h.live j a;simpa[rh]using this⟩
theorem Sm.setRow{v':qY}{l':List Int}(h:Sm w b ow v l)(c:VH w v' l')(a:v'.ownBlock≠Z b)(d: ∀j,v'.ownBlock=Z j→j<w.heap.size):Sm (w.setCell ⟨b,1,N⟩ v') b ow v' l':=⟨h.Dp.Mh,c.off ((Cv.refl (fun j=>j=b) w).set (.inr rfl) _ _) (P3 a),a,fun j e=>by have:=d j e;simpa[rh]using this⟩
def pQ(b:Nat)(v v':qY)(w:oZ):Prop:= ∀j,v'.ownBlock=Z j→v.ownBlock=Z j∨w.heap.size≤j
def Sp(b:Nat)(ow:Int)(v:qY)(l:List Int)(w w':oZ):Prop:= ∃a,Sm w' b ow a l∧Cv (Sf b v) w w'∧pQ b v a w
theorem GA(w:oZ):re prog 46 #[] w fun e w'=>e=rC (J (Z ⟨w.heap.size,0,N⟩))∧w.alloc (rD #[I U 0,Y N 0 0] 207)=w':=by go_enter func46,ntmps46;go_wp2;go_ret;exact⟨rfl,rfl⟩
theorem Sm.new(w:oZ):Sm (w.alloc (rD #[I U 0,Y N 0 0] 207)) w.heap.size 0 (Y N 0 0) []:=⟨Cx.new w _ 207,VH.nil _,by simp[ru],by simp[ru]⟩
theorem D0(u:qY)(l:List Int)(w:oZ)(h:DB w u l)(v:l.length<10000000):re prog 288 #[u] w (lj l w):=by
 have hlen:([]:List Int).length+l.length<100000000:=by simp;omega
 have d:=Aa hlen;have i:=Aa h;have k:=fun(w:oZ)(a:Option Addr)(n c o p:Nat)=>Zam (P:=prog) w 22 3 a n c o p underlying22;clear hlen;rcases h.open with⟨rfl,rfl⟩|⟨x,cap,rfl,rfl⟩|⟨y,off,cap,rfl,q,m,r,b⟩
 ·clear h
  go_enter func288,ntmps288;go_wp2;go_ret;exact⟨_,rfl,CF.nil _ _,rf _ _⟩
 ·clear h
  go_enter func288,ntmps288;go_wp2_with(at_builtin;refine Jf underlying22 Dw w.heap.size _ rfl _ _ rfl (Y (Z ⟨w.heap.size,0,N⟩) 0 0) [] _ [] rfl rfl (CF.new (w:=w) (l:=[]) (by simp)) (i.out.alloc _) (by simp) (by simp) ?_;intro s t e;have f:=Aa e;clear e);go_ret;exact⟨_,rfl,f.out.1,CI (Ct (rf _ _) _) f.out.2.1 (fun j g=>by simp[ru]at g;omega)⟩
 ·clear h b
  go_enter func288,ntmps288;go_wp2_with(at_builtin;refine Jf underlying22 Dw w.heap.size _ rfl _ _ rfl (Y (Z ⟨w.heap.size,0,N⟩) 0 0) [] _ l rfl rfl (CF.new (w:=w) (l:=[]) (by simp)) (i.out.alloc _) (by simp) d.out ?_;intro s t e;have f:=Aa e;clear e);go_ret;exact⟨_,rfl,f.out.1,CI (Ct (rf _ _) _) f.out.2.1 (fun j g=>by simp[ru]at g;omega)⟩
theorem ER(x g:Int)(gb:Nat)(w:oZ)(a:w.cell? ⟨gb,0,N⟩=Z (I U g)):re prog 358 #[I U x,J (Z ⟨gb,0,N⟩)] w fun e w'=>e=rC (ry (x==g))∧w=w':=by go_enter func358,ntmps358;go_wp2;go_ret;exact⟨rfl,rfl⟩
theorem Ox(u:qY)(l:List Int)(g:Int)(gb:Nat)(w:oZ)(h:DB w u l)(z:l.length<10000000)(n:w.cell? ⟨gb,0,N⟩=Z (I U g)):re prog 219 #[u,.func (.func 358) #[] #[J (Z ⟨gb,0,N⟩)]] w fun e w'=>e=rC (I U (FX l g))∧w=w':=by
 obtain⟨a,cap,rfl⟩:=h.len;have p:=Aa h;clear h;go_enter func219,ntmps219;go_wp2;go_loop [8] (fun i=> ∃k:Nat,k≤l.length∧i=I U k∧Hid (∀i,i<k→l[i]?.getD 0≠g)) (fun i=>l.length-(intOf i).toNat)
 case atStart=>exact⟨0,Ap _,rfl,fun i q=>by omega⟩
 case round=>
  obtain⟨k,A,rfl,f⟩:=hrel;by_cases c:k<l.length
  ·rcases p.out.open with⟨_,j⟩|⟨_,_,_,j⟩|⟨B,off,o,he,_,_,r,b⟩
   ·simp[j]at c
   ·simp[j]at c
   simp only[Ar]at he;obtain⟨rfl,_,rfl⟩:=he;have s:=b k c;clear b;by_cases d:l[k]?.getD 0=g
   ·have m:=Aa (So l g k c d f.out)
    rw[d]at s;have t:(g==g)=true:=by simp
    clear d;go_wp2_with(go_at_call 358;refine(ER _ _ _ _ n).mono ?_;rintro e w'⟨rfl,rfl⟩);go_ret;exact⟨Gy m.out.symm,rfl⟩
   ·have v:(l[k]?.getD 0==g)=false:=by rw[Au];exact d
    have x:Hid (∀i,i<k+1→l[i]?.getD 0≠g):=fun i q=>by
     by_cases e:i=k
     ·subst e;exact d
     ·exact f.out i (by omega)
    generalize l[k]?.getD 0=y at*
    clear d;go_wp2_with(go_at_call 358;refine(ER _ _ _ _ n).mono ?_;rintro e w'⟨rfl,rfl⟩);go_round
    case rel=>exact⟨k+1,by omega,by go_num,x.out⟩
    case measure=>simp[intOf];omega
  ·obtain rfl:k=l.length:=by omega
   have m:=Aa (VI l g f.out);go_wp2;go_ret;exact⟨Gy m.out.symm,rfl⟩
def G6(l:List Int)(g:Int)(w:oZ)(e:rB)(w':oZ):Prop:=e=rC (I U (FX l g))∧qZ w.heap.size w w'
theorem NB(b:Nat)(ow:Int)(v:qY)(l:List Int)(g:Int)(w:oZ)(h:Sm w b ow v l)(a:l.length<10000000):re prog 335 #[J (Z ⟨b,0,N⟩),I U g] w (G6 l g w):=by have c:=h.Dp.lt;have c1:(w.alloc (rD #[I U g] 3)).cell? ⟨b,1,N⟩=Z v:=(h.below (Ct (rf _ _) _)).Jn;have d:=Aa (Ox v l g w.heap.size (w.alloc (rD #[I U g] 3)) (h.row.gO.alloc _) a ((Cx.new w #[I U g] 3).cell 0));clear h;go_enter func335,ntmps335;go_wp2_with fail;refine d.out.mono ?_;rintro e f⟨rfl,rfl⟩;go_wp2_with fail;go_ret;exact⟨rfl,Ct (rf _ _) _⟩
end
def OD(ow g:Int):Int:=if g<1 then ow else if ow=0 then g else ow
def Ni(ow g:Int):Bool:=if g<1 then rm else if ow=0 then rq else decide (ow=g)
def YH(g:Int):Int:=if g<1 then 1 else 0
def OE(ow:Int)(l:List Int)(g:Int):List Int:=if g<1 then l else if ow=0 then l else if ow=g then l else if g∈l then l else l++[g]
def T9(b:Nat)(ow:Int)(v:qY)(l:List Int)(g:Int)(w:oZ)(e:rB)(w':oZ):Prop:=e=rC (rG #[ry (Ni ow g),I U (YH g)])∧Sp b (OD ow g) v (OE ow l g) w w'
theorem Sp.same{b:Nat}{ow:Int}{v:qY}{l:List Int}{w w':oZ}(h:Sm w' b ow v l)(o:Cv (Sf b v) w w'):Sp b ow v l w w':=⟨v,h,o,fun _ h=>.inl h⟩
theorem P4(b:Nat)(ow:Int)(v:qY)(l:List Int)(g:Int)(w:oZ)(h:Sm w b ow v l)(hl:l.length<1000000):re prog 294 #[J (Z ⟨b,0,N⟩),I U g] w (T9 b ow v l g w):=by
 have c0:=h.cell0;have f0:=h.Dp.free 0;have V:=h.Dp.lt;unfold T9 OD Ni YH OE;by_cases n:g<1
 ·simp only[n,BM]
  have W:decide (g<1)=true:=by simpa using n
  have o:=Aa h;clear h;go_enter func294,ntmps294;go_wp2;go_ret2;exact⟨rfl,Sp.same o.out (Cv.refl _ _)⟩
 have W:decide (g<1)=false:=by simpa using n
 simp only[n,BH];by_cases t:ow=0
 ·subst t
  simp only[BM];have o:=Aa (h.T8 g);clear h n;go_enter func294,ntmps294;go_wp2;go_ret2;exact⟨rfl,Sp.same o.out ((Cv.refl (Sf b v) w).set (.inr (.inl rfl)) _ _)⟩
 have X:(ow==0)=false:=by rw[Au];exact t
 simp only[t,BH];by_cases p:ow=g
 ·have G:(ow==g)=true:=by rw[Za2];exact p
  simp only[p,BM,decide_true];have o:Hid (Sm w b g v l):=by rw[←p];exact h
  clear h p t n;go_enter func294,ntmps294;go_wp2;go_ret2;exact⟨rfl,Sp.same o.out (Cv.refl _ _)⟩
 have G:(ow==g)=false:=by rw[Au];exact p
 simp only[p,BH,decide_false];have u:=Aa (NB b ow v l g w h (by omega));have hm:=P2 l g;have o:=Aa h;by_cases a:g∈l
 ·have H:decide (FX l g<0)=false:=by rw[decide_eq_false_iff_not,hm];simpa using a
  simp only[a,BM];clear h p t n hm a;generalize c:FX l g=ix at*
  unfold G6 at u;rw[c]at u;clear c;go_enter func294,ntmps294;go_wp2_with fail;refine u.out.mono ?_;rintro e m⟨rfl,d⟩;have f:=Aa d;clear d;go_wp2_with fail;go_ret2;exact⟨rfl,Sp.same (o.out.below f.out) ((Cv.refl _ _).below f.out)⟩
 ·have H:decide (FX l g<0)=true:=by rw[Bc,hm];exact a
  simp only[a,BH];clear h p t n hm a;generalize c:FX l g=ix at*
  unfold G6 at u;rw[c]at u;clear c;go_enter func294,ntmps294;go_wp2_with fail;refine u.out.mono ?_;rintro e m⟨rfl,d⟩;have f:=Aa d;have y:=o.out.below d;have d1:=y.Jn;have R:=y.Dp.lt;have K:Hid (VH (m.alloc (rD #[I U g] 3)) v l):=y.row.off ((Cv.refl (fun _=>False) m).alloc _) (fun _ _ x=>x);have HT:Hid ((m.alloc (rD #[I U g] 3)).cell? ⟨m.heap.size,0,N⟩=Z (I U g)):=(Cx.new m #[I U g] 3).cell 0;have q:=Aa y;clear d y;go_wp2_with(at_builtin;refine nS underlying22 Dw (m.alloc (rD #[I U g] 3)) rfl _ _ rfl v l g m.heap.size rfl rfl K.out HT.out (by omega) ?_;intro v' L z A r M;have i:Cv (fun j=>v.ownBlock=Z j) m L:=((Cv.refl _ m).alloc _).grown A (fun j e=>.inr e);have k:=q.out.Dp.only i (fun e=>q.out.ne e);have e1:=k.cell 1;have ef:=k.free 1;have S:=k.lt;have B:v'.ownBlock≠Z b:=(fun e=>by rcases r b e with s|s;exact q.out.ne s;simp at s;omega);have C:=Aa z;have D:=Aa i;have O:=Aa r;have P:=Aa k;have E:=Aa B;obtain⟨g',T,rfl⟩:=M;simp only[Ad,Ac,Ag]at e1;clear z A r i k B);go_ret2;have Q:Cv (Sf b v) w L:=((Cv.refl (Sf b v) w).below f.out).andThen D.out (fun j _ F=>.inr F);refine⟨rfl,_,⟨P.out.Mh,.inl (C.out.off ((Cv.refl (fun j=>j=b) L).set (.inr rfl) _ _) (P3 E.out)),E.out,fun j F=>by have:=(C.out.lt j F).2;simpa[rh]using this⟩,Q.set (.inr (.inl rfl)) _ _,fun j F=>?_⟩;rcases O.out j F with s|s
  ·exact .inl s
  ·right
   have:=f.out.size;simp at s;omega
def dJ(ow g:Int):Int:=if g<1 then 9 else if ow=g then 0 else 9
def P5(ow:Int)(l:List Int)(g:Int):Int:=if g<1 then 0 else if ow=g then l.headD 0 else 0
def P6(ow:Int)(l:List Int)(g:Int):Int:=if g<1 then ow else if ow=g then l.headD 0 else ow
def P7(ow:Int)(l:List Int)(g:Int):List Int:=if g<1 then l else if ow=g then l.tail else l
def Ua(b:Nat)(ow:Int)(v:qY)(l:List Int)(g:Int)(w:oZ)(e:rB)(w':oZ):Prop:=e=rC (rG #[I U (P5 ow l g),I U (dJ ow g)])∧Sp b (P6 ow l g) v (P7 ow l g) w w'
theorem Sp.cells{b:Nat}{ow x:Int}{v v':qY}{l l':List Int}{w:oZ}(h:Sm w b ow v l)(e:VH w v' l')(c:v'.ownBlock≠Z b)(d: ∀j,v'.ownBlock=Z j→v.ownBlock=Z j):Sp b x v l' w (((w.setCell ⟨b,0,N⟩ (I U 0)).setCell ⟨b,0,N⟩ (I U x)).setCell ⟨b,1,N⟩ v'):=by have f:=(h.T8 0).T8 x;refine⟨v',f.setRow (e.off (((Cv.refl (fun j=>j=b) w).set (.inr rfl) _ _).set (.inr rfl) _ _) (P3 c)) c (fun j a=>by have:=h.live j (d j a);simpa[rh]using this),(((Cv.refl (Sf b v) w).set (.inr (.inl rfl)) _ _).set (.inr (.inl rfl)) _ _).set (.inr (.inl rfl)) _ _,fun j a=>.inl (d j a)⟩
theorem Ir(b:Nat)(ow:Int)(v:qY)(l:List Int)(g:Int)(w:oZ)(h:Sm w b ow v l)(F:l.length<1000000):re prog 261 #[J (Z ⟨b,0,N⟩),I U g] w (Ua b ow v l g w):=by
 have c0:=h.cell0;have c1:=h.Jn;have f0:=h.Dp.free 0;have f1:=h.Dp.free 1;have G:=h.Dp.lt;unfold Ua P6 P5 dJ P7;by_cases f:g<1
 ·simp only[f,BM]
  have H:decide (g<1)=true:=by simpa using f
  have n:=Aa h;clear h;go_enter func261,ntmps261;go_wp2;go_ret2;exact⟨rfl,Sp.same n.out (Cv.refl _ _)⟩
 have H:decide (g<1)=false:=by simpa using f
 simp only[f,BH];by_cases u:ow=g
 ·subst u
  have y:(ow !=ow)=false:=by simp
  simp only[BM];cases l with
  |nil=>obtain⟨a,cap,rfl⟩:=h.row.gO.len;have n:=Aa (h.T8 0);clear h f;go_enter func261,ntmps261;go_wp2;go_ret2;exact⟨rfl,Sp.same n.out ((Cv.refl (Sf b _) w).set (.inr (.inl rfl)) _ _)⟩
  |cons x r=>
   rcases h.row.gO.open with⟨_,z⟩|⟨_,_,_,z⟩|⟨p,o,cap,rfl,q,s,K,c⟩
   ·cases z
   ·cases z
   have L:=c 0 (by simp);simp only[Zb3,Ac,AQ]at L;have d:(x::r).length=r.length+1:=by simp
   have A:p≠b:=fun e=>h.ne (by rw[e];rfl);have E: ¬b=p:=fun e=>A e.symm;rw[d]at s c1 F;have k:=h.row.gO;rw[d]at h;have M:decide ((0:Int)<(r.length:Int)+1)=true:=by rw[Bc];omega
   have R:(1:Int)≤(r.length:Int)+1:=by omega
   have S:(r.length:Int)+1≤(cap:Int):=by omega
   have T:(1:Int)≤(cap:Int):=by omega
   have V:r.length+1≤cap:=by omega
   have W:(0:Int)<(r.length:Int)+1:=by omega
   by_cases m:r=[]
   ·subst m
    have B:=Aa (Sp.cells (x:=x) (v':=Y (Z ⟨p,o,N⟩) 0 0) (l':=[]) h (.inr ⟨DB.TO _ _ _,_,rfl⟩) h.ne (fun j C=>C));clear h c k d f q;simp only[AF,AO]at*
    go_enter func261,ntmps261;go_wp2_with fail;go_region
    all_goals
     go_wp2;go_ret2;obtain⟨t,s1,s2,D⟩:=B.out;exact⟨rfl,t,⟨s1.Dp,s1.row,s1.ne,s1.live⟩,⟨s2.os,s2.tape,s2.output,s2.size,s2.block⟩,D⟩
   ·have P:0<r.length:=Ci.2 m
    have i:DB w (Y (Z ⟨p,o+1,N⟩) r.length r.length) r:=k.drop 1 (by simp) (by simp) (Al _);have B:=Aa (Sp.cells (x:=x) (v':=Y (Z ⟨p,o+1,N⟩) r.length r.length) (l':=r) h (.inr ⟨i,_,rfl⟩) h.ne (fun j C=>C));have Q: ¬r.length=0:=by omega
    clear h c k d f q i m;go_enter func261,ntmps261;go_wp2_with fail;go_region
    all_goals
     go_wp2;go_ret2;obtain⟨t,s1,s2,D⟩:=B.out;exact⟨rfl,t,⟨s1.Dp,s1.row,s1.ne,s1.live⟩,⟨s2.os,s2.tape,s2.output,s2.size,s2.block⟩,D⟩
 ·have y:(ow !=g)=true:=by simpa using u
  simp only[u,BH];have n:=Aa h;clear h u f;go_enter func261,ntmps261;go_wp2;go_ret2;exact⟨rfl,Sp.same n.out (Cv.refl _ _)⟩
end Go.Proofs.YtgadhchejmlfjaaGreatDoor.Dc
namespace Go.Proofs.YtgadhchejmlfjaaGreatDoor.D4
open Go.Proofs.Tryz Go.RowKit Go.CL
def Dm(x:Int):Prop:=x=0∨x=1∨x=2∨x=3∨x=4∨x=5∨x=6∨x=9∨x=11∨x=12∨x=13
def EU(x:Int):Int:=if 8≤x then x-8 else x
def pw(s:Int):Int:=((2^s.toNat:Nat):Int)
def pa(f:Int):Int:=if f=0 then 2 else if f=1 then 36 else if f=2 then 122 else if f=3 then 6 else if f=4 then 2 else if f=5 then 2 else 0
def VJ(f t:Int):Bool:=bits .and .i64 (pa f) (pw t) !=0
def Lt(x t:Int):Int:=if VJ (EU x) t then(if 8≤x∧t≠1 then 7 else 0)else 9
def NC(x t:Int):Int:=if VJ (EU x) t then(if 8≤x∧t≠1 then x else if 8≤x then t+8 else t)else x
def Ub(x t:Int):Int:=if Lt x t=0 then NC x t else 0
theorem Dm.facts{x:Int}(h:Dm x):bits .andNot .i64 x 8=EU x∧bits .and .i64 x 8=(if 8≤x then 8 else 0)∧0≤EU x∧EU x≤6∧(8≤x→bits .and .i64 58 (pw (EU x))≠0):=by rcases h with rfl|rfl|rfl|rfl|rfl|rfl|rfl|rfl|rfl|rfl|rfl<;>decide+kernel
theorem dK(s:Int)(a:0≤s)(b:s≤6)(w:oZ):Sem.run prog (Op.shift BinOp.shl IntKind.i64 1 IntKind.i64 s) w= .ok (I U (pw s)) w:=by
 have:s=0∨s=1∨s=2∨s=3∨s=4∨s=5∨s=6:=by omega
 rcases this with rfl|rfl|rfl|rfl|rfl|rfl|rfl
 all_goals(refine Eq.trans ?_ rfl;kernel_rfl)
theorem Sr(s:Int)(w:oZ):re prog 220 #[I U s] w fun e a=>e=rC (ry (decide (0≤s∧s≤6)))∧w=a:=by
 by_cases h:0≤s
 ·go_enter func220,ntmps220
  go_wp2;go_ret;exact⟨by simp[h],rfl⟩
 ·have b:decide (0≤s)=false:=by simpa using h
  rw[show decide (0≤s∧s≤6)=rm by simp[h]];go_enter func220,ntmps220;go_wp2;go_ret;exact⟨rfl,rfl⟩
theorem I5(s:Int)(w:oZ)(a:0≤s)(b:s≤6):re prog 220 #[I U s] w fun e c=>e=rC (ry rq)∧w=c:=by have:=Sr s w;rwa [show decide (0≤s∧s≤6)=rq by simp[a,b]]at this
theorem OG(s:Int)(w:oZ)(a:0≤s)(b:s≤6):re prog 221 #[I U s] w fun e c=>e=rC (I U (pw s))∧w=c:=by have h:=dK s a b;clear a b;go_enter func221,ntmps221;go_wp2;go_ret;exact⟨rfl,rfl⟩
theorem ER(x:Int)(w:oZ)(h:Dm x):re prog 152 #[I U x] w fun e c=>e=rC (ry rq)∧w=c:=by
 obtain⟨f1,f2,f3,f4,f5⟩:=h.facts;clear h f2;by_cases a:8≤x
 ·have d:(x==EU x)=false:=by rw[Au];unfold EU;rw[Ai a];omega
  have f:(bits .and .i64 58 (pw (EU x)) !=0)=true:=by simpa using f5 a
  generalize EU x=s at*
  clear f5 a;go_enter func152,ntmps152;go_wp2_with(first|(go_at_call 220;refine(I5 _ _ (by assumption) (by assumption)).mono ?_;rintro e b⟨rfl,rfl⟩)|(go_at_call 221;refine(OG _ _ (by assumption) (by assumption)).mono ?_;rintro e b⟨rfl,rfl⟩));go_ret;exact⟨rfl,rfl⟩
 ·have d:(x==EU x)=true:=by rw[Za2];unfold EU;rw[Ah a]
  generalize EU x=s at*
  clear f5 a;go_enter func152,ntmps152;go_wp2_with(go_at_call 220;refine(I5 _ _ (by assumption) (by assumption)).mono ?_;rintro e b⟨rfl,rfl⟩);go_ret;exact⟨rfl,rfl⟩
theorem FB(x:Int)(w:oZ)(h:Dm x):re prog 96 #[I U x] w fun e a=>e=rC (ry (decide (8≤x)))∧w=a:=by
 obtain⟨f1,f2,f3,f4,f5⟩:=h.facts;have b:=Aa (ER x);have c:(bits .and .i64 x 8 !=0)=decide (8≤x):=by rw[f2];split<;>simp[*]
 clear f1 f2 f3 f4 f5;go_enter func96,ntmps96;go_wp2_with(go_at_call 152;refine(b.out _ h).mono ?_;rintro e d⟨rfl,rfl⟩);go_ret;exact⟨rfl,rfl⟩
theorem P8(x:Int)(w:oZ)(h:Dm x):re prog 226 #[I U x] w fun e a=>e=rC (I U (EU x))∧w=a:=by obtain⟨f1,f2,f3,f4,f5⟩:=h.facts;have b:=Aa (ER x);clear f2 f3 f4 f5;go_enter func226,ntmps226;go_wp2_with(go_at_call 152;refine(b.out _ h).mono ?_;rintro e c⟨rfl,rfl⟩);go_ret;exact⟨rfl,rfl⟩
theorem P9(w:oZ):re prog 283 #[] w fun e a=>e=rC (.agg #[I U 2,I U 36,I U 122,I U 6,I U 2,I U 2,I U 0])∧qZ w.heap.size w a:=by
 have b:bits .or .i64 4 32=36:=by decide+kernel
 have c:bits .or .i64 2 8=10:=by decide+kernel
 have d:bits .or .i64 10 16=26:=by decide+kernel
 have f:bits .or .i64 26 32=58:=by decide+kernel
 have o5:bits .or .i64 58 64=122:=by decide+kernel
 have o6:bits .or .i64 4 2=6:=by decide+kernel
 go_enter func283,ntmps283;go_wp2;exact AG (v:=.agg #[I U 2,I U 36,I U 122,I U 6,I U 2,I U 2,I U 0]) (by simp[results,results283,go_sem]) rfl ⟨rfl,(rf _ _).alloc (Al _) _⟩
def J4(b:Bool)(w:oZ)(e:rB)(w':oZ):Prop:=e=rC (ry b)∧qZ w.heap.size w w'
theorem dL(f:Int)(a:0≤f)(b:f≤6)(w:oZ):(Instr.index 361 (.agg #[I U 2,I U 36,I U 122,I U 6,I U 2,I U 2,I U 0]) (I U f)).run prog w= .ok (I U (pa f)) w:=by
 have:f=0∨f=1∨f=2∨f=3∨f=4∨f=5∨f=6:=by omega
 rcases this with rfl|rfl|rfl|rfl|rfl|rfl|rfl
 all_goals(refine Eq.trans ?_ rfl;kernel_rfl)
theorem dM(f t:Int)(w:oZ)(b:0≤f)(c:f≤6)(t0:0≤t)(t6:t≤6):re prog 237 #[I U f,I U t] w (J4 (VJ f t) w):=by
 have d:=dL f b c;unfold VJ;go_enter func237,ntmps237;go_wp2;go_region_with (first|(go_at_call 220;refine(I5 _ _ (by assumption) (by assumption)).mono ?_;rintro e a⟨rfl,rfl⟩)|(go_at_call 221;refine(OG _ _ (by assumption) (by assumption)).mono ?_;rintro e a⟨rfl,rfl⟩)|(go_at_call 283;refine(P9 _).mono ?_;rintro e a⟨rfl,g⟩))
 all_goals
  go_wp2;go_ret;exact⟨rfl,F5 (by assumption)⟩
theorem YI(x t:Int)(w:oZ)(h:Dm x)(t1:1≤t)(t6:t≤6):re prog 170 #[I U x,I U t] w fun e n=>e=rC (rG #[I U (Ub x t),I U (Lt x t)])∧qZ w.heap.size w n:=by
 obtain⟨f1,f2,f3,f4,f5⟩:=h.facts;have b:=Aa (fun w=>dM (EU x) t w f3 f4 (by omega) t6);have g:=Aa (fun w=>I5 t w (by omega) t6);have o:bits .or .i64 t 0=t∧bits .or .i64 1 8=9:=by
  have:t=1∨t=2∨t=3∨t=4∨t=5∨t=6:=by omega
  rcases this with rfl|rfl|rfl|rfl|rfl|rfl<;>decide+kernel
 obtain⟨r,u⟩:=o;have i:=Aa (fun w=>ER x w h);have j:=Aa (fun w=>FB x w h);have k:=Aa (fun w=>P8 x w h);clear f1 f3 f4 f5;unfold Ub Lt NC;generalize EU x=s at*
 by_cases hm:VJ s t=rq
 ·simp only[hm,BM]
  by_cases c:8≤x
  ·have p:decide (8≤x)=true:=by simpa using c
   simp only[c,BM,true_and]at f2⊢;by_cases l:t=1
   ·subst l
    simp only[BM,ne_eq,not_true_eq_false,BH,Int.reduceAdd];have d:Hid (∀w,re prog 237 #[I U s,I U 1] w (J4 rq w)):=by have:=b.out;rwa [hm]at this
    clear h hm c b;go_enter func170,ntmps170;go_wp2_with(first|(go_at_call 152;refine(i.out _).mono ?_;rintro e a⟨rfl,rfl⟩)|(go_at_call 220;refine(g.out _).mono ?_;rintro e a⟨rfl,rfl⟩)|(go_at_call 226;refine(k.out _).mono ?_;rintro e a⟨rfl,rfl⟩)|(go_at_call 237;refine(d.out _).mono ?_;rintro e a⟨rfl,m⟩)|(go_at_call 96;refine(j.out _).mono ?_;rintro e a⟨rfl,rfl⟩));go_ret2;exact⟨rfl,‹_›⟩
   ·have q:(t !=1)=true:=by simpa using l
    simp only[l,ne_eq,not_false_eq_true,BM,show¬((7:Int)=0) by decide,BH];have d:Hid (∀w,re prog 237 #[I U s,I U t] w (J4 rq w)):=by have:=b.out;rwa [hm]at this
    clear h hm c b l;go_enter func170,ntmps170;go_wp2_with(first|(go_at_call 152;refine(i.out _).mono ?_;rintro e a⟨rfl,rfl⟩)|(go_at_call 220;refine(g.out _).mono ?_;rintro e a⟨rfl,rfl⟩)|(go_at_call 226;refine(k.out _).mono ?_;rintro e a⟨rfl,rfl⟩)|(go_at_call 237;refine(d.out _).mono ?_;rintro e a⟨rfl,m⟩)|(go_at_call 96;refine(j.out _).mono ?_;rintro e a⟨rfl,rfl⟩));go_ret2;exact⟨rfl,‹_›⟩
  ·have p:decide (8≤x)=false:=by simpa using c
   simp only[c,BH,false_and,BM]at f2⊢;have d:Hid (∀w,re prog 237 #[I U s,I U t] w (J4 rq w)):=by have:=b.out;rwa [hm]at this
   clear h hm c b;go_enter func170,ntmps170;go_wp2_with(first|(go_at_call 152;refine(i.out _).mono ?_;rintro e a⟨rfl,rfl⟩)|(go_at_call 220;refine(g.out _).mono ?_;rintro e a⟨rfl,rfl⟩)|(go_at_call 226;refine(k.out _).mono ?_;rintro e a⟨rfl,rfl⟩)|(go_at_call 237;refine(d.out _).mono ?_;rintro e a⟨rfl,m⟩)|(go_at_call 96;refine(j.out _).mono ?_;rintro e a⟨rfl,rfl⟩));go_ret2;exact⟨rfl,‹_›⟩
 ·have f:VJ s t=false:=by simpa using hm
  simp only[f,B6,BH,show¬((9:Int)=0) by decide];have d:Hid (∀w,re prog 237 #[I U s,I U t] w (J4 rm w)):=by have:=b.out;rwa [f]at this
  clear h hm f b;go_enter func170,ntmps170;go_wp2_with(first|(go_at_call 152;refine(i.out _).mono ?_;rintro e a⟨rfl,rfl⟩)|(go_at_call 220;refine(g.out _).mono ?_;rintro e a⟨rfl,rfl⟩)|(go_at_call 226;refine(k.out _).mono ?_;rintro e a⟨rfl,rfl⟩)|(go_at_call 237;refine(d.out _).mono ?_;rintro e a⟨rfl,m⟩)|(go_at_call 96;refine(j.out _).mono ?_;rintro e a⟨rfl,rfl⟩));go_ret2;exact⟨rfl,‹_›⟩
end Go.Proofs.YtgadhchejmlfjaaGreatDoor.D4
