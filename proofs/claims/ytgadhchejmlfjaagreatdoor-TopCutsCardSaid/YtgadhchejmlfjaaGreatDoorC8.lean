/- A part of the proof. -/
import Derived.Test.YtgadhchejmlfjaaGreatDoorC2
import Derived.Test.YtgadhchejmlfjaaGreatDoorC7
set_option linter.unusedVariables false
set_option maxRecDepth 20000
set_option maxHeartbeats 16000000
open Go.Value renaming int→I,pointer→J,slice→Y
open Go.IntKind renaming i64→U
open Option renaming none→N,some→Z
open Bool renaming false→rm,true→rq
open Go renaming Calls→re,TypeId→rA,Value→qY,World→oZ
open Go.Ending renaming returned→rC
open Go.Obj renaming cells→rD
open Go.RowKit renaming Below→qZ
open Go.RowKit.Below renaming drew→rk,refl→rf
open Go.Value renaming agg→rE,bool→ry
open Go.World renaming setCell→rh
namespace Go.Proofs.YtgadhchejmlfjaaGreatDoor.CX
open Go.RowKit Go.CL
open Vm (CN)
open EO (Jw Ef RS PC Fi)
open DX (row rows Df)
theorem kh{op:Int}(h:(row op).name.isEmpty=rm):0≤op∧op≤23:=by
 unfold row at h;by_cases a:0≤op
 ·refine⟨a,Int.not_lt.1 fun b=>?_⟩
  rw[Ai a,A9 (by show 24≤op.toNat;omega)]at h;cases h
 ·rw[Ah a]at h
  cases h
theorem bB{op:Int}(h:(row op).ends=rq):op=6∨op=9∨op=14:=by
 have k: ∀k:Fin 24,(rows[k.val]?.getD Df).ends=rq→k.val=6∨k.val=9∨k.val=14:=by decide
 unfold row at h;by_cases a:0≤op
 ·rw[Ai a]at h
  by_cases b:op.toNat<24
  ·have:=k ⟨op.toNat,b⟩ h
   simp only at this;omega
  ·rw[A9 (by show 24≤op.toNat;omega)]at h
   cases h
 ·rw[Ah a]at h
  cases h
theorem Pa{r k n:Int}(h:Ef r k n=rq):Fa r:=by
 unfold Ef at h;split at h
 ·exact Cc h
 ·have:=Cc h
  subst this;exact⟨by decide,by decide⟩
theorem gy{f:Fn}{nf:Nat}{i:CN}(h:Jw i.op i.a i.b i.c i.n f.code.length nf=rq):ir f nf i:=by
 unfold Jw at h;simp only[AP,Zap]at h;obtain⟨⟨d,g,j,k⟩,b⟩:=h;have c:=kh d;refine⟨c.1,c.2,Pa g,Pa j,Pa k,fun e=>?_,fun e=>?_⟩
 ·have a:(row i.op).target=1:=by rcases e with e|e<;>rw[e]<;>rfl
  rw[a,Ah (by decide),Ah (by decide)]at b;exact Cc b
 ·have a:(row i.op).target=2:=by rcases e with e|e<;>rw[e]<;>rfl
  rw[a,Ah (by decide),Ai rfl]at b;exact Cc b
theorem ki{f:Fn}{nf:Nat}(h:PC f.code f.safe nf=rq):mK nf f:=by
 unfold PC at h;simp only[AP,Bc]at h;obtain⟨⟨⟨⟨l,d,g⟩,b⟩,m⟩,a⟩:=h;refine⟨⟨l,d⟩,g,fun i x j=>?_⟩;obtain⟨k,n⟩:=Af.1 j;have c:=Be.1 b i (BN.2 k);unfold Fi at c;rw[j]at c;simp only[AP]at c;refine⟨gy c.1,?_⟩;by_cases o:i+1<f.code.length
 ·exact .inr (.inr (.inr o))
 ·rw[show f.code.length-1=i by omega,j]at a
  rcases bB a with e|e|e
  ·exact .inl e
  ·exact .inr (.inl e)
  ·exact .inr (.inr (.inl e))
theorem kj{p:List (List CN×List Bool)}(h:RS p=rq):WW (p.map fun f=>⟨f.1,f.2⟩):=by
 unfold RS at h;simp only[AP,Bc]at h;refine⟨by rw[Bg];exact h.1.1,fun k f a=>?_⟩;rw[Bn]at a;cases b:p[k]? with
 |none=>rw[b]at a;cases a
 |some g=>rw[b]at a;cases a;rw[Bg];exact ki (Be.1 h.2 g (A7 b))
theorem Rr: ∀(k:Nat)(l:List Int),(∀x∈l,(k:Int)<x)→k≤255→Kw k l=((List.range k).map fun(i:Nat)=>(i:Int)+1)++l
 |0,l,_,_=>rfl
 |k+1,l,h,c=>by
  have a:Idle.Ig 256 l ((k+1:Nat):Int)=((k+1:Nat):Int)::l:=by
   unfold Idle.Ig;refine Ah fun e=>?_;rcases e with e|e|e
   ·omega
   ·omega
   ·have:=h _ e;omega
  show Kw k (Idle.Ig 256 l ((k+1:Nat):Int))=_;rw[a,Rr k _ (fun x b=>by
   rcases Bv.1 b with e|e
   ·rw[e];omega
   ·have:=h x e;omega) (by omega),B7,Cj]
  simp
theorem gz(a:List Fn)(n:Nat)(cg cm:Int)(f:n+1≤256):NY a (n+1) cg cm=JH a ((n+1:Nat):Int) cg cm:=by
 have b:Kw (n+1-1) []=(List.range n).map fun(i:Nat)=>(i:Int)+1:=by rw[show n+1-1=n from rfl,Rr n [] (fun x c=>by cases c) (by omega),Cf]
 have d:QM (n+1)=(1,0)::List.replicate n (0,-1):=by unfold QM Cw.LS Cw.Di;rw[Ah (fun e=>by have:=e.2;revert this;decide),Ai ⟨by decide,by simp⟩];rfl
 unfold NY;rw[b,d];rfl
end Go.Proofs.YtgadhchejmlfjaaGreatDoor.CX
namespace Go.Proofs.YtgadhchejmlfjaaGreatDoor.EO
open Go.Proofs.Tryz Go.RowKit Go.CL
open Vm (CN)
theorem K2(a:Option Addr)(pc:Nat)(x y z:Int)(p:List (List CN×List Bool))(w:oZ)(h:Xp w a p):re prog 14 #[rE #[.slice a p.length pc],rE #[I U x,I U y,I U z]] w fun e G=>e=rC (ry (RS p&&KE x y z))∧qZ w.heap.size w G:=by
 have v:=Aa h;clear h;have r:=Ct (Ct (rf w.heap.size w) (rD #[.slice a p.length pc] 26)) (rD #[I U x,I U y,I U z] 34);have n:Cx ((w.alloc (rD #[.slice a p.length pc] 26)).alloc (rD #[I U x,I U y,I U z] 34)) w.heap.size #[.slice a p.length pc] 26:=(Cx.new w _ 26).below (Ct (rf _ _) _) (by simp);have q:Cx ((w.alloc (rD #[.slice a p.length pc] 26)).alloc (rD #[I U x,I U y,I U z] 34)) (w.heap.size+1) #[I U x,I U y,I U z] 34:=by have k:=Cx.new (w.alloc (rD #[.slice a p.length pc] 26)) #[I U x,I U y,I U z] 34;simpa using k
 obtain⟨g,s⟩: ∃g,(w.alloc (rD #[.slice a p.length pc] 26)).alloc (rD #[I U x,I U y,I U z] 34)=g:=⟨_,rfl⟩;rw[s]at r n q;have l:=Aa r;have t:Hid (∀W,qZ g.heap.size g W→W.cell? ⟨w.heap.size,0,N⟩=Z (.slice a p.length pc)∧W.cell? ⟨w.heap.size+1,0,N⟩=Z (I U x)∧W.cell? ⟨w.heap.size+1,1,N⟩=Z (I U y)∧W.cell? ⟨w.heap.size+1,2,N⟩=Z (I U z)):=fun W A=>by have k2:=n.below A n.lt;have k3:=q.below A q.lt;exact⟨k2.cell 0,k3.cell 0,k3.cell 1,k3.cell 2⟩
 clear r n q;obtain⟨H,i⟩: ∃o,RS p=o:=⟨_,rfl⟩;obtain⟨B,j⟩: ∃o,KE x y z=o:=⟨_,rfl⟩;rw[i,j];have H1:=Aa i;have K:=Aa j;clear i j;obtain⟨C,D,E,F⟩:=t.out g (rf _ _);cases H
 ·go_enter func14,ntmps14
  go_wp2_with(go_at_call 63;refine(Rq a pc p _ (v.out.below (by first|exact l.out|exact rk l.out))).mono ?_;rintro e m⟨⟨L,M,f,rfl,d⟩,b⟩;have c:Hid (qZ g.heap.size g m):=Aa (by first|exact b|exact Below.trans (rk (rf _ _)) b);obtain⟨C,D,E,F⟩:=t.out m c.out;have f0:(f==0)=false:=Au.2 fun e=>Bool.noConfusion (H1.out.symm.trans (d.1 e));clear b d);go_ret;exact⟨rfl,Cu l.out c.out⟩
 ·go_enter func14,ntmps14
  go_wp2_with(first|(go_at_call 63;refine(Rq a pc p _ (v.out.below (by first|exact l.out|exact rk l.out))).mono ?_;rintro e m⟨⟨L,M,f,rfl,d⟩,b⟩;have c:Hid (qZ g.heap.size g m):=Aa (by first|exact b|exact Below.trans (rk (rf _ _)) b);obtain⟨C,D,E,F⟩:=t.out m c.out;obtain rfl:f=0:=d.2 H1.out;clear b d)|(go_at_call 64;refine(Xq x y z _).mono ?_;rintro e O⟨⟨f,rfl,d⟩,b⟩;rw[K.out]at d;have u:=Aa (Cu c.out b);have P:(f==0)=B:=(by by_cases e:f=0;exact(Za2.2 e).trans (d.1 e).symm;cases B;exact Au.2 e;exact absurd (d.2 rfl) e);clear d b));go_ret;exact⟨rfl,Cu l.out u.out⟩
end Go.Proofs.YtgadhchejmlfjaaGreatDoor.EO
namespace Go.Proofs.YtgadhchejmlfjaaGreatDoor.Rt
open Go.Proofs.Tryz Go.RowKit Go.CL
open Pm
section
variable {w:oZ} {xs:List qY} {m base n cap g:Nat}
theorem It:(prog.info? 36).map (fun i=>(i.zero,i.size,i.bytes))=Z (Z (rE #[I U 0,I U 0,I U 0]),3,24):=by kernel_rfl
def XF(w:oZ)(b o:Nat)(ys:List qY):Prop:=b<w.heap.size∧ ∀(j:Nat)(x:qY),ys[j]?=Z x→w.cell? ⟨b,o+j,N⟩=Z x
theorem XF.below{w':oZ}{b o:Nat}{ys:List qY}(h:XF w b o ys)(a:qZ w.heap.size w w'):XF w' b o ys:=⟨Am h.1 a.size,fun j x c=>(a.cell (p:=⟨b,o+j,N⟩) h.1).trans (h.2 j x c)⟩
theorem bC(b d e c ty:Nat)(w:oZ):(Builtin.append_ #[52,52] ty #[Y (Z ⟨b,0,N⟩) 0 0,Y (Z ⟨d,e,N⟩) 0 c]).run prog w= .ok (Y (Z ⟨b,0,N⟩) 0 0) w:=by obtain⟨i,f,_⟩:=Ax.1 It;have k:=run_append_room_cells (P:=prog) (w:=w) 52 ty 36 i underlying52 f b 0 0 0 ⟨d,e,N⟩ 0 c [] (by simp) (fun j u a=>by cases a) (fun u hu=>by cases hu) (Al _) (fun j a=>by cases a) (fun j a=>by cases a);simpa[World.setCells]using k
theorem D0(f g m c:Nat)(ys:List qY)(w:oZ)(r:m≤1000)(d:ys.length=m*3)(b:XF w f g ys):re prog 66 #[Y (Z ⟨f,g,N⟩) m c] w fun e i=> ∃v,e=rC v∧i.ownsRow w.heap.size 36 3 v m ys∧qZ w.heap.size w i:=by
 have l:=fun(w:oZ)(a:Option Addr)(n c s t:Nat)=>Zam (P:=prog) w 52 36 a n c s t underlying52;have h:=Aa (Ab b d);clear b d;by_cases hm:m=0
 ·subst hm
  go_enter func66,ntmps66;go_wp2_with(at_builtin;refine Za1 _ rfl _ _ 52 52 rfl _ _ rfl rfl _ _ (bC _ _ _ _ _ _) ?_);go_ret;obtain rfl:ys=[]:=A3.1 (by rw[h.out.2]);exact⟨_,rfl,L9 (n:=0) (size:=3) (Cx.new w #[] 36) (Al _) rfl (by decide),Ct (rf _ _) _⟩
 ·go_enter func66,ntmps66
  go_wp2_with(at_builtin;refine QZ underlying52 It rfl (by decide) (by decide) _ rfl _ _ rfl ⟨w.heap.size,0,N⟩ ⟨f,g,N⟩ m c ys rfl rfl (by omega) h.out.2 (fun j x k=>by rw[Ay];exact((Ct (rf w.heap.size w) _).cell (p:=⟨f,g+j,N⟩) h.out.1.1).trans (h.out.1.2 j x k)) (by omega) ?_;intro z i o q;have u:=Aa o;have y:=Aa q;clear o q);go_ret;exact⟨_,rfl,DZ u.out (by simp),CI (Ct (rf _ _) _) y.out (fun j k=>by cases k)⟩
theorem UK{j:Nat}{x:qY}(h:(xs.take m)[j]?=Z x):xs[j]?=Z x:=by
 rw[Co]at h;split at h
 ·exact h
 ·cases h
theorem gA{P:Program}{W:oZ}{ops:Array Oper}{o:Oper}{a:Act}{K:Act→oZ→Prop}{Q:Exit→Act→oZ→Prop}{E:Prop}(b:o.guard=N)(s x:Operand)(t tn:rA)(e:o.op= .call {callee:=.builtin .append,args:=#[s,x],argTypes:=#[t,tn]})(c d:qY)(f:a.eval s=c)(g:a.eval x=d)(v':qY)(w':oZ)(i:(Builtin.append_ #[t,tn] o.type #[c,d]).run P W= .ok v' w')
  (h:K (a.put o.dst v') w'):if Region.wanted o (yielded ops a.tmps)=rq then Oper.wp P o a W K Q else E:=by
 rw[Ai (by simp[Region.wanted,b])];exact Lib.wp_append_run W s x t tn e c d f g v' w' i h
theorem Md(W:oZ)(ty base:Nat)(v:qY)(n:Nat)(xs ys:List qY)(b f m c:Nat)(o:W.ownsRow base 36 3 v n xs)(p:XF W b f ys)(g:ys.length=m*3)(a: ∀x∈ys,x.oneCell'=rq) (q:base≤W.heap.size) (y:n+m≤100000): ∃e d,(Builtin.append_ #[52,52] ty #[v,Y (Z ⟨b,f,N⟩) m c]).run prog W= .ok e d∧d.ownsRow base 36 3 e (n+m) (xs++ys)∧W.grownBy d v.ownBlock:=by obtain⟨i0,r,l⟩:=Ax.1 It;simp only[AM]at l;obtain⟨h,i,k⟩:=l;obtain⟨e,d,s,t,u,_⟩:=run_append_own (P:=prog) W base 52 ty 36 i0 (rE #[I U 0,I U 0,I U 0]) 3 24 underlying52 r h i k (by decide) (by decide) v n xs o ⟨b,f,N⟩ m c ys g (fun j x w=>by rw[Ay];exact p.2 j x w) a (by unfold maxLen;omega) (by omega) q;exact⟨e,d,s,t,u⟩
theorem Lf{m i c:Nat}(h:w.ownsRow base 36 3 (Y (Z ⟨g,0,N⟩) n cap) n xs)(l:0<n):XF w g (i*3) (xs.drop (i*3))∧n≤cap:=by
 obtain⟨r,b,cur,he,s,d,o⟩:=FE h l;obtain⟨_,⟨p,_⟩|⟨g2,e,f,a,_,_,q,_⟩⟩:=h
 ·cases p
 simp only[Ar,Ak,BF,and_true,true_and]at he a;obtain⟨rfl,rfl⟩:=he;obtain⟨rfl,rfl⟩:=a;refine⟨⟨d.lt,fun j x k=>?_⟩,q⟩;rw[Zai,←o]at k;rw[d.cell,←AW];exact UK k
theorem Ru(h:w.ownsRow base 36 3 (Y (Z ⟨g,0,N⟩) n cap) n xs)(b:0<n):XF w g 0 (xs.take m):=by obtain⟨a,d⟩:=(Lf (i:=0) (m:=0) (c:=0) h b).1;refine⟨a,fun j x e=>d j x ?_⟩;rw[Zb2,Za5];exact UK e
def ints(xs:List qY):Prop:= ∀x∈xs,x.oneCell'=rq
theorem Rv(g n cap i:Nat)(base:Nat)(xs:List qY)(w:oZ)(h:w.ownsRow base 36 3 (Y (Z ⟨g,0,N⟩) n cap) n xs)(K:i<n)(L:n≤1000)(f:ints xs):re prog 68 #[Y (Z ⟨g,0,N⟩) n cap,I U i] w fun e b=> ∃v,e=rC v∧b.ownsRow w.heap.size 36 3 v (i+(n-(i+1))) (xs.take (i*3)++xs.drop ((i+1)*3))∧qZ w.heap.size w b:=by
 have l:xs.length=n*3:=h.1;have z:=Ru (m:=i*3) h (by omega);have t:=(Lf (i:=i+1) (m:=0) (c:=0) h (by omega)).1;have A:=(Lf (i:=i+1) (m:=0) (c:=0) h (by omega)).2;obtain⟨q,u,o⟩: ∃q,(cap=i+1∧q=0∨ ¬cap=i+1∧q=(i+1)*3)∧XF w g q (xs.drop ((i+1)*3)):=by
  by_cases r:cap=i+1
  ·refine⟨0,.inl ⟨r,rfl⟩,t.1,fun j x s=>?_⟩
   rw[Zae (by omega)]at s;cases s
  ·exact⟨_,.inr ⟨r,rfl⟩,t⟩
 have d1: ¬(i:Int)<0:=by omega
 have d2:decide ((n:Int)≤(i:Int))=false:=by simp;omega
 have d3:i≤cap:=by omega
 have d4:(i:Int)+1≤(n:Int):=by omega
 have d5:(i:Int)≤(i:Int)+1:=by omega
 have d6:0≤(i:Int)+1:=by omega
 have M:IntKind.i64.wrap ((i:Int)+1)=((i+1:Nat):Int):=by rw[Zav];omega
 have F:Hid (∀W c,qZ w.heap.size w W→re prog 66 #[Y (Z ⟨g,0,N⟩) i c] W fun e b=> ∃v,e=rC v∧b.ownsRow W.heap.size 36 3 v i (xs.take (i*3))∧qZ W.heap.size W b):=fun W c a=>D0 g 0 i c _ W (by omega) (by simp;omega) (z.below a);have k:=Aa (Ab o (Ab l f));clear h z t l f o;rcases u with⟨r,rfl⟩|⟨r,rfl⟩;have C:=Aa (fun(W:oZ)(v:qY)(B:Nat)(d:W.ownsRow B 36 3 v i (xs.take (i*3)))(y:B≤W.heap.size)(a:qZ w.heap.size w W)=>Md W 52 B v i (xs.take (i*3)) (xs.drop ((i+1)*3)) g 0 (n-(i+1)) 0 d (k.out.1.below a) (by rw[BW,k.out.2.1];omega) (fun x f=>k.out.2.2 x (Za3 f)) y (by omega));rotate_left;have C:=Aa (fun(W:oZ)(v:qY)(B:Nat)(d:W.ownsRow B 36 3 v i (xs.take (i*3)))(y:B≤W.heap.size)(a:qZ w.heap.size w W)=>Md W 52 B v i (xs.take (i*3)) (xs.drop ((i+1)*3)) g ((i+1)*3) (n-(i+1)) (cap-(i+1)) d (k.out.1.below a) (by rw[BW,k.out.2.1];omega) (fun x f=>k.out.2.2 x (Za3 f)) y (by omega))
 all_goals
  go_enter func68,ntmps68;go_wp2_with fail;go_region_law(first|(obtain⟨G,b,D,o⟩:=C.out H _ _ p.out.1 p.out.2.1.size p.out.2.2;refine gA rfl (.tmp 18) (.tmp 22) 52 52 rfl _ _ (by simp[Act.eval]) (by simp[Act.eval]) G b D ?_;have E:=Aa o;clear o D)|(go_simp;go_wp2_with(go_at_call 66;refine(F.out _ _ (by repeat(first|exact rf _ _|refine rk ?_))).mono ?_;rintro e H⟨v1,rfl,d,a⟩;obtain⟨O,c1,rfl⟩:=DE d;have p:=Aa (Ab d (Ab a (Cu (rk (rf w.heap.size w)) a)));clear d a)))
  all_goals
   go_wp2;go_ret;exact⟨_,rfl,DZ E.out.1 (by simp),CI p.out.2.2 E.out.2 (fun j s=>(Az p.out.1 j s).1)⟩
theorem Xs(w:oZ)(n:Nat)(e:0<n)(h:n≤100000)(ty:rA): ∃cap a,(Builtin.append_ #[52,3] ty #[Y N 0 0,I U n]).run prog w= .ok (Y (Z ⟨w.heap.size,0,N⟩) n cap) a∧a.ownsRow w.heap.size 36 3 (Y (Z ⟨w.heap.size,0,N⟩) 0 cap) 0 []∧qZ w.heap.size w a:=by obtain⟨i0,f,d⟩:=Ax.1 It;simp only[AM]at d;obtain⟨b,g,c⟩:=d;have k:=Lib.run_append_nil_zeros (P:=prog) w 52 3 ty 36 i0 _ .i64 .i64 underlying52 underlying3 f b n e (by omega) (by omega) (by rw[c];omega);refine⟨_,_,k,?_,Ct (rk (rf _ _)) _⟩;have i:=grownCap_ge w n 0 36;refine⟨rfl,.inr ⟨w.heap.size,_,_,rfl,Al _,Cx.new w.drew _ 36,Ap _,grownCap_le_maxLen w n 0 36 (by unfold maxLen;omega),?_,by simp⟩⟩;rw[Array.size_append,size_zeroCells,size_zeroCells,show(Value.cells (rE #[I U 0,I U 0,I U 0])).size=3 from rfl];omega
theorem Kd(n:Nat)(w:oZ)(g:n≤100000):re prog 128 #[Y N 0 0,I U n] w fun e a=> ∃v,e=rC v∧a.ownsRow w.heap.size 36 3 v 0 []∧qZ w.heap.size w a:=by
 have d1: ¬(n:Int)<0:=by omega
 have i:IntKind.i64.wrap ((n:Int)-0)=n:=by rw[Zav];omega
 by_cases h:n=0
 ·subst h
  go_enter func128,ntmps128;go_wp2;go_ret;exact⟨_,rfl,AL _ _ _ _,rf _ _⟩
 ·have d2:decide ((0:Int)<(n:Int))=true:=by simp;omega
  obtain⟨cap,a,b,c,d⟩:=Xs w n (by omega) g 52;have f:=Aa (Ab c d);clear c d;go_enter func128,ntmps128;go_wp2_with(at_builtin;refine Za1 _ rfl _ _ 52 3 rfl _ _ rfl rfl _ _ b ?_;clear b);go_ret;exact⟨_,rfl,f.out.1,f.out.2⟩
end
def qD(w:oZ)(m1 m2:Nat)(a b:List qY)(t6 t27:qY)(wr:oZ):Prop:= ∃(k n:Nat)(xs:List qY),t27=I U k∧wr.ownsRow w.heap.size 36 3 t6 n xs∧qZ w.heap.size w wr∧(k=0∧0=n∧[]=xs∨k=1∧m1=n∧a=xs∨k=2∧m1+m2=n∧a++b=xs)
theorem TG(vb x o1 m1 c1 y o2 m2 C:Nat)(a d:List qY)(w:oZ)(z:w.cell? ⟨vb,0,N⟩=Z (Y (Z ⟨x,o1,N⟩) m1 c1))(A:w.cell? ⟨vb,1,N⟩=Z (Y (Z ⟨y,o2,N⟩) m2 C))(f:vb<w.heap.size)(i:XF w x o1 a)(l:XF w y o2 d)(m:a.length=m1*3)(o:d.length=m2*3)(q:ints a)(r:ints d)(hm:m1+m2≤1000)(vc:Nat):re prog 67 #[Y (Z ⟨vb,0,N⟩) 2 vc] w fun e B=> ∃v,e=rC v∧B.ownsRow w.heap.size 36 3 v (m1+m2) (a++d)∧qZ w.heap.size w B:=by
 have H:Hid (∀W,qZ w.heap.size w W→(W.cell? ⟨vb,0,N⟩=Z (Y (Z ⟨x,o1,N⟩) m1 c1)∧W.cell? ⟨vb,1,N⟩=Z (Y (Z ⟨y,o2,N⟩) m2 C))∧vb<W.heap.size):=fun W D=>⟨⟨(D.cell (p:=⟨vb,0,N⟩) f).trans z,(D.cell (p:=⟨vb,1,N⟩) f).trans A⟩,Am f D.size⟩;have M:=Aa (fun W=>Kd (m1+m2) W (by omega));have O:=Aa (fun(W:oZ)(v:qY)(c:W.ownsRow w.heap.size 36 3 v 0 [])(b:qZ w.heap.size w W)=>Md W 52 w.heap.size v 0 [] a x o1 m1 c1 c (i.below b) m q b.size (by omega));have E:=Aa (fun(W:oZ)(v:qY)(c:W.ownsRow w.heap.size 36 3 v m1 a)(b:qZ w.heap.size w W)=>Md W 52 w.heap.size v m1 a d y o2 m2 C c (l.below b) o r b.size (by omega));have K:=Aa hm;clear i l m o q r hm;go_enter func67,ntmps67;go_wp2;go_loopw [3,11] (fun t3 t11 wr=> ∃k s:Nat,t11=I U k∧t3=I U s∧w=wr∧(k=0∧0=s∨k=1∧m1=s∨k=2∧m1+m2=s)) (fun _ t _=>2-(intOf t).toNat)
 case atStart=>exact⟨0,0,rfl,rfl,rfl,.inl ⟨rfl,rfl⟩⟩
 case round=>
  obtain⟨k,s,rfl,rfl,rfl,⟨rfl,rfl⟩|⟨rfl,rfl⟩|⟨rfl,rfl⟩⟩:=hrel
  ·have F:wrap64 (m1:Int)=m1:=by have:=K.out;unfold wrap64;omega
   have d1: ¬(m1:Int)<0:=by omega
   go_wp2;go_roundw
   case rel=>exact⟨1,m1,by go_num,by rw[F],by first|trivial|rfl,.inr (.inl ⟨rfl,rfl⟩)⟩
   case measure=>simp[intOf]
  ·have F:wrap64 ((m1:Int)+(m2:Int))=(m1:Int)+(m2:Int):=by have:=K.out;unfold wrap64;omega
   have d1: ¬(m1:Int)+(m2:Int)<0:=by omega
   go_wp2;go_roundw
   case rel=>exact⟨2,m1+m2,by go_num,by rw[F];simp,by first|trivial|rfl,.inr (.inr ⟨rfl,rfl⟩)⟩
   case measure=>simp[intOf]
  ·clear z A
   go_wp2_with(go_at_call 128;refine(M.out _).mono ?_;rintro e Q⟨v,rfl,c,b⟩;have L:=Aa (Ab c b);clear c b);go_loopw [6,27] (fun t6 t27 wr=>qD w m1 m2 a d t6 t27 wr) (fun _ t _=>2-(intOf t).toNat)
   case atStart=>exact⟨0,0,[],rfl,L.out.1,L.out.2,.inl ⟨rfl,rfl,rfl⟩⟩
   case round=>
    obtain⟨k,n,xs,rfl,c,b,⟨rfl,rfl,rfl⟩|⟨rfl,rfl,rfl⟩|⟨rfl,rfl,rfl⟩⟩:=hrel
    ·obtain⟨⟨z,A⟩,f⟩:=H.out _ b
     obtain⟨P,B,u,g⟩:=O.out _ _ c b;have h:=Aa (Ab c (Ab b g));clear c b g;go_wp2_with(at_builtin;refine Za1 _ rfl _ _ 52 52 rfl _ _ rfl rfl _ _ u ?_;clear u);go_roundw
     case rel=>exact⟨1,0+m1,[]++a,by go_num,h.out.2.2.1,CI h.out.2.1 h.out.2.2.2 (fun j G=>(Az h.out.1 j G).1),.inr (.inl ⟨rfl,by omega,rfl⟩)⟩
     case measure=>simp[intOf]
    ·obtain⟨⟨z,A⟩,f⟩:=H.out _ b
     obtain⟨P,B,u,g⟩:=E.out _ _ c b;have h:=Aa (Ab c (Ab b g));clear c b g;go_wp2_with(at_builtin;refine Za1 _ rfl _ _ 52 52 rfl _ _ rfl rfl _ _ u ?_;clear u);go_roundw
     case rel=>exact⟨2,_,_,by go_num,h.out.2.2.1,CI h.out.2.1 h.out.2.2.2 (fun j G=>(Az h.out.1 j G).1),.inr (.inr ⟨rfl,rfl,rfl⟩)⟩
     case measure=>simp[intOf]
    ·go_wp2
     go_ret;exact⟨_,rfl,c,b⟩
end Go.Proofs.YtgadhchejmlfjaaGreatDoor.Rt
namespace Go.Proofs.YtgadhchejmlfjaaGreatDoor.CX
open Go.Proofs.Tryz Go.RowKit Go.CL
section
variable {α:Type} {i sb:Nat} {w0 W w3:oZ} {hv:Int} {v:Nat→qY} {n:Nat→Nat} {X:Nat→List qY} {ys:List qY}
def iy(i:Nat):TypeId:=if i=2 then 50 else if i=9 then 4 else 3
def kK(i:Nat):Nat:=if i=2 then 12 else 1
theorem kk(i:Nat):iy i≠45:=by
 unfold iy;split
 ·decide
 ·split<;>decide
def up(f:Nat→α)(i:Nat)(x:α):Nat→α:=fun j=>if j=i then x else f j
theorem Jc(f:Nat→α)(i:Nat)(x:α):up f i x i=x:=Ai rfl
theorem Gu(f:Nat→α){j:Nat}(x:α)(h:j≠i):up f i x j=f j:=Ah h
def bD(hv:Int)(v:Nat→qY):Array Value:=#[I U hv,v 1,v 2,v 3,v 4,Y N 0 0,v 6,v 7,v 8,v 9,Y N 0 0]
def TH(i:Nat):Prop:=i=1∨i=2∨i=3∨i=4∨i=6∨i=7∨i=8∨i=9
theorem gB(hv:Int)(v:Nat→qY)(i:Nat)(x:qY)(a:TH i):(bD hv v).setIfInBounds i x=bD hv (up v i x):=by rcases a with rfl|rfl|rfl|rfl|rfl|rfl|rfl|rfl<;>simp[bD,up]
theorem bE(hv:Int)(v:Nat→qY)(i:Nat)(a:TH i):(bD hv v)[i]?=Z (v i):=by rcases a with rfl|rfl|rfl|rfl|rfl|rfl|rfl|rfl<;>simp[bD]
structure Nd (w0:oZ) (sb:Nat) (hv:Int) (v:Nat→qY) (n:Nat→Nat) (X:Nat→List qY) (W:oZ):Prop where
 below:qZ w0.heap.size w0 W
 FH:w0.heap.size≤sb
 Dp:Cx W sb (bD hv v) 45
 row: ∀i,W.ownsRow w0.heap.size (iy i) (kK i) (v i) (n i) (X i)
 apart: ∀i j b,i≠j→(v i).ownBlock=Z b→(v j).ownBlock≠Z b
theorem Nd.out(h:Nd w0 sb hv v n X W)(i:Nat):(v i).ownBlock≠Z sb:=fun e=>by obtain⟨cs,a⟩:=De (h.row i) e;exact kk i (C4 a h.Dp)
theorem Nd.go{W':oZ}(h:Nd w0 sb hv v n X W)(a:qZ W.heap.size W W'):Nd w0 sb hv v n X W':=⟨h.below.trans (a.mono h.below.size),h.FH,h.Dp.below a h.Dp.lt,fun i=>CJ (h.row i) a,h.apart⟩
theorem Nd.slice(h:Nd w0 sb hv v n X W)(i:Nat): ∃a c,v i= .slice a (n i) c:=DE (h.row i)
theorem Nd.at_(h:Nd w0 sb hv v n X W)(a:TH i):W.cell? ⟨sb,i,N⟩=Z (v i):=(h.Dp.cell i).trans (bE hv v i a)
theorem Nd.cB(h:Nd w0 sb hv v n X W){v':qY}(a:Dn W w0.heap.size (iy i) (kK i) (v i) (n i) (X i) ys v' w3):Cx w3 sb (bD hv v) 45:=h.Dp.only (Cv.grown (S:=fun j=>(v i).ownBlock=Z j) (Cv.refl _ W) a.2.1 (fun j b=>.inr b)) (h.out i)
theorem Nd.app(h:Nd w0 sb hv v n X W)(u:TH i){v':qY}(g:Dn W w0.heap.size (iy i) (kK i) (v i) (n i) (X i) ys v' w3):Nd w0 sb hv (up v i v') (up n i (n i+1)) (up X i (X i++ys)) (w3.setCell ⟨sb,i,N⟩ v'):=by
 have w:Cv (fun j=>(v i).ownBlock=Z j) W w3:=Cv.grown (Cv.refl _ W) g.2.1 (fun j d=>.inr d);have oS:Cv (fun j=>j=sb) w3 (w3.setCell ⟨sb,i,N⟩ v'):=Cv.set (S:=fun j=>j=sb) (Cv.refl _ w3) (.inr rfl) i v';have r:=h.cB g;have x:=h.Dp.lt;have s:v'.ownBlock≠Z sb:=fun e=>by
  rcases g.2.2 sb e with o|o
  ·exact h.out i o
  ·omega
 refine⟨(CI h.below g.2.1 (fun j d=>(Az (h.row i) j d).1)).setCell h.FH _,h.FH,?_,fun j=>?_,fun a c b f m l=>?_⟩
 ·rw[←gB hv v i v' u];exact r.set i v'
 ·by_cases d:j=i
  ·subst d
   rw[Jc,Jc,Jc];exact Dd g.1 oS (fun k p e=>s (by rw[p,show k=sb from e]))
  ·rw[Gu _ _ d,Gu _ _ d,Gu _ _ d]
   exact Dd (Dd (h.row j) w (fun k p e=>h.apart j i k d p e)) oS (fun k p e=>h.out j (by rw[p,show k=sb from e]))
 ·by_cases o:a=i
  ·subst o
   rw[Jc]at m;rw[Gu _ _ (BT f)]at l;rcases g.2.2 b m with q|q
   ·exact h.apart a c b f q l
   ·have:=(Az (h.row c) b l).2;omega
  ·rw[Gu _ _ o]at m
   by_cases q:c=i
   ·subst q
    rw[Jc]at l;rcases g.2.2 b l with t|t
    ·exact h.apart a c b f m t
    ·have:=(Az (h.row a) b m).2;omega
   ·rw[Gu _ _ q]at l
    exact h.apart a c b f m l
theorem Nd.new(w:oZ)(hv:Int):Nd w w.heap.size hv (fun _=>Y N 0 0) (fun _=>0) (fun _=>[]) (w.alloc (rD (bD hv fun _=>Y N 0 0) 45)):=⟨Ct (rf _ _) _,Al _,Cx.new w _ 45,fun i=>AL _ _ _ _,fun i j b _ h=>by cases h⟩
theorem Nd.step(h:Nd w0 sb hv v n X W)(i:Nat)(e:rA)(z:Nat)(l:TH i)(he:iy i=e)(o:kK i=z): ∃a c,(∀b,qZ W.heap.size W b→b.cell? ⟨sb,i,N⟩=Z (.slice a (n i) c))∧(∀b,qZ W.heap.size W b→b.ownsRow w0.heap.size e z (.slice a (n i) c) (n i) (X i))∧(∀b,qZ W.heap.size W b→w0.heap.size≤b.heap.size)∧ ∀(b:oZ)(ys:List qY)(f:qY)(w3:oZ),qZ W.heap.size W b→Dn b w0.heap.size e z (.slice a (n i) c) (n i) (X i) ys f w3→(qZ w0.heap.size w0 w3∧(∀m,qZ w3.heap.size w3 m→m.cell? ⟨sb,i,N⟩=Z (.slice a (n i) c))∧(w3.frozen? ⟨sb,i,N⟩=rm))∧Nd w0 sb hv (up v i f) (up n i (n i+1)) (up X i (X i++ys)) (w3.setCell ⟨sb,i,N⟩ f):=by
 subst he o;obtain⟨a,c,g⟩:=h.slice i;refine⟨a,c,fun b d=>?_,fun b d=>?_,fun b d=>(h.go d).below.size,fun b ys f w3 d k=>?_⟩
 ·rw[←g];exact(h.go d).at_ l
 ·rw[←g];exact(h.go d).row i
 ·rw[←g]at k
  have hm:=(h.go d).cB k;refine⟨⟨CI (h.go d).below k.2.1 (fun j p=>(Az (h.row i) j p).1),fun m q=>?_,hm.free i⟩,(h.go d).app l k⟩;rw[←g];exact((hm.below q hm.lt).cell i).trans (bE hv v i l)
end
section
variable {gp x0 x1 x2 x3 x4 x5 x6 x7 x8 x9 F3:qY} {w0 W:oZ} {hv:Int} {m b:Nat}
theorem Dw:(prog.info? 3).map (fun i=>(i.zero,i.size,i.bytes))=Z (Z (I U 0),1,8):=by kernel_rfl
theorem km:(prog.info? 50).map (fun i=>(i.zero,i.size,i.bytes))=Z (Z (rE #[I U 0,I U 0,I U 0,I U 0,I U 0,I U 0,I U 0,I U 0,I U 0,I U 0,Y N 0 0,ry rm]),12,112):=by kernel_rfl
theorem aE(w:oZ)(l:List qY)(t:rA): ∀(j:Nat)(u:qY),l[j]?=Z u→(w.alloc (rD l.toArray t)).cell? ((⟨w.heap.size,0,N⟩:Addr).add j)=Z u:=by have h:=Cx.new w l.toArray t;intro j u hu;rw[show((⟨w.heap.size,0,N⟩:Addr).add j)=⟨w.heap.size,j,N⟩from by rw[Ay,AO]];rw[h.cell j,←hu];simp
theorem bF(W:oZ){a:Bool}(h:(a=rm∧gp=J N)∨(a=rq∧ ∃b:Nat,gp=J (Z ⟨b,0,N⟩))):(binOp .neq 119 gp (J N)).run prog W= .ok (ry a) W:=by
 rcases h with⟨rfl,rfl⟩|⟨rfl,b,rfl⟩
 ·kernel_rfl
 ·rfl
theorem bG(W:oZ)(x y:Operand){a:Bool}(h:(a=rm∧gp=J N)∨(a=rq∧ ∃b:Nat,gp=J (Z ⟨b,0,N⟩))):(eqGuard .neq 119 x y gp (J N)).run prog W= .ok () W:=by rcases h with⟨rfl,rfl⟩|⟨rfl,b,rfl⟩<;>simp[eqGuard]
def LQ(w0:oZ)(hv:Int)(m:Nat)(W:oZ):Prop:= ∃v n X,Nd w0 w0.heap.size hv v n X W∧ ∀j,n j≤m
theorem LQ.below(h:LQ w0 hv m W):qZ w0.heap.size w0 W:=by obtain⟨v,n,X,h,_⟩:=h;exact h.below
theorem LQ.go{W':oZ}(h:LQ w0 hv m W)(a:qZ W.heap.size W W'):LQ w0 hv m W':=by obtain⟨v,n,X,h,k⟩:=h;exact⟨v,n,X,h.go a,k⟩
theorem LQ.step(h:LQ w0 hv m W)(i:Nat)(e:rA)(z:Nat)(o:TH i)(he:iy i=e)(p:kK i=z): ∃a f c X,f≤m∧(∀b,qZ W.heap.size W b→b.cell? ⟨w0.heap.size,i,N⟩=Z (.slice a f c)∧b.ownsRow w0.heap.size e z (.slice a f c) f X∧w0.heap.size≤b.heap.size)∧ ∀(b:oZ)(ys:List qY)(l:qY)(d:oZ),qZ W.heap.size W b→Dn b w0.heap.size e z (.slice a f c) f X ys l d→qZ w0.heap.size w0 d∧d.cell? ⟨w0.heap.size,i,N⟩=Z (.slice a f c)∧d.frozen? ⟨w0.heap.size,i,N⟩=rm∧LQ w0 hv (m+1) (d.setCell ⟨w0.heap.size,i,N⟩ l):=by
  obtain⟨v,n,X,h,k⟩:=h;obtain⟨a,c,k1,k2,k3,k4⟩:=h.step i e z o he p;refine⟨a,n i,c,X i,k i,fun b g=>⟨k1 b g,k2 b g,k3 b g⟩,fun b ys l d g q=>?_⟩;obtain⟨⟨r,s,t⟩,u⟩:=k4 b ys l d g q;exact⟨r,s d (rf _ _),t,_,_,_,u,fun j=>by
    have:=k j;have:=k i;by_cases e:j=i
    ·rw[e,Jc];omega
    ·rw[Gu _ _ e];omega⟩
def oU(w0 W:oZ)(hv:Int)(m i:Nat)(e:rA)(z:Nat)(a:Option Addr)(nn c:Nat)(X:List qY):Prop:=nn<100000000∧(∀b,qZ W.heap.size W b→b.cell? ⟨w0.heap.size,i,N⟩=Z (.slice a nn c)∧b.ownsRow w0.heap.size e z (.slice a nn c) nn X∧w0.heap.size≤b.heap.size)∧
      ∀(b:oZ)(ys:List qY)(f:qY)(d:oZ),qZ W.heap.size W b→Dn b w0.heap.size e z (.slice a nn c) nn X ys f d→
        qZ w0.heap.size w0 d∧d.cell? ⟨w0.heap.size,i,N⟩=Z (.slice a nn c)∧d.frozen? ⟨w0.heap.size,i,N⟩=rm∧LQ w0 hv (m+1) (d.setCell ⟨w0.heap.size,i,N⟩ f)
theorem LQ.st(h:LQ w0 hv m W)(i:Nat)(e:rA)(z:Nat)(d:TH i)(he:iy i=e)(f:kK i=z)(hm:m<100000000)(ys:List qY): ∃a b c X,Hid (oU w0 W hv m i e z a b c X)∧W.cell? ⟨w0.heap.size,i,N⟩=Z (.slice a b c)∧(W.alloc (rD ys.toArray e)).cell? ⟨w0.heap.size,i,N⟩=Z (.slice a b c):=by obtain⟨a,b,c,X,g,k1,k2⟩:=h.step i e z d he f;exact⟨a,b,c,X,⟨by omega,k1,k2⟩,(k1 _ (rf _ _)).1,(k1 _ (Ct (rf _ _) _)).1⟩
theorem oU.kn{i:Nat}{e:rA}{z:Nat}{a:Option Addr}{nn c:Nat}{X:List qY}(h:oU w0 W hv m i e z a nn c X){t:rA}{B:qY}{d:Nat}(F:prog.underlying t=Z (.slice e))(DC:(prog.info? e).map (fun i=>(i.zero,i.size,i.bytes))=Z (Z B,z,d)) (l:B.cells.size=z) (n:0<z) (p:d≤1000) (q:oZ) (ys:List qY) {r:oZ} (u:qZ W.heap.size W r) (G: ∀a,r.cell? a=(q.alloc (rD ys.toArray e)).cell? a) {ops:Array Oper} {o:Oper} {A:Act} {K:Act→oZ→Prop} {Q:Exit→Act→oZ→Prop} {E:Prop} (v:o.guard=N) (s y:Operand) (H:o.op= .call {callee:=.builtin .append,args:=#[s,y],argTypes:=#[t,t]}) {C:Nat} (L:A.eval s= .slice a nn c) (hy:A.eval y=Y (Z ⟨q.heap.size,0,N⟩) 1 C) (w:ys.length=z) (f: ∀x∈ys,x.oneCell'=rq)
    (M: ∀g k b,qZ w0.heap.size w0 b→b.cell? ⟨w0.heap.size,i,N⟩=Z (.slice a nn c)→b.frozen? ⟨w0.heap.size,i,N⟩=rm→Hid (LQ w0 hv (m+1) (b.setCell ⟨w0.heap.size,i,N⟩ (Y (Z ⟨g,0,N⟩) (nn+1) k)))→K (A.put o.dst (Y (Z ⟨g,0,N⟩) (nn+1) k)) b):
    if Region.wanted o (yielded ops A.tmps)=rq then Oper.wp prog o A r K Q else E:=
  J2 F DC l n p w0.heap.size _ v _ _ H _ nn X _ C ys L hy (.inl (h.2.1 _ u).2.1) w (fun j x O=>by rw[G];exact aE q ys e j x O) f (h.2.1 _ u).2.2 h.1 fun S b D=>by obtain⟨z2,z0,P,R⟩:=h.2.2 _ _ _ _ u D;obtain⟨g,k,rfl⟩:=D.some;exact M g k b z2 z0 P R
theorem bH{v:Nat→qY}{q l:qY}(h:Cx W b (bD hv v) 45):Cx ((W.setCell ⟨b,5,N⟩ q).setCell ⟨b,10,N⟩ l) b #[I U hv,v 1,v 2,v 3,v 4,q,v 6,v 7,v 8,v 9,l] 45:=(h.set 5 q).set 10 l
theorem ko{t:rA}(h:Cx W b #[x0,x1,x2,x3,x4,x5,x6,x7,x8,x9,F3] t):Cx (rh (rh (rh (rh (rh (rh (rh (rh (rh (rh (rh W ⟨b,0,N⟩ x0) ⟨b,1,N⟩ x1) ⟨b,2,N⟩ x2) ⟨b,3,N⟩ x3) ⟨b,4,N⟩ x4) ⟨b,5,N⟩ x5) ⟨b,6,N⟩ x6) ⟨b,7,N⟩ x7) ⟨b,8,N⟩ x8) ⟨b,9,N⟩ x9) ⟨b,10,N⟩ F3) b #[x0,x1,x2,x3,x4,x5,x6,x7,x8,x9,F3] t:=by have d:Cx (rh W ⟨b,0,N⟩ x0) b #[x0,x1,x2,x3,x4,x5,x6,x7,x8,x9,F3] t:=h.set 0 x0;have e:Cx (rh (rh W ⟨b,0,N⟩ x0) ⟨b,1,N⟩ x1) b #[x0,x1,x2,x3,x4,x5,x6,x7,x8,x9,F3] t:=d.set 1 x1;have f:Cx (rh (rh (rh W ⟨b,0,N⟩ x0) ⟨b,1,N⟩ x1) ⟨b,2,N⟩ x2) b #[x0,x1,x2,x3,x4,x5,x6,x7,x8,x9,F3] t:=e.set 2 x2;have g:Cx (rh (rh (rh (rh W ⟨b,0,N⟩ x0) ⟨b,1,N⟩ x1) ⟨b,2,N⟩ x2) ⟨b,3,N⟩ x3) b #[x0,x1,x2,x3,x4,x5,x6,x7,x8,x9,F3] t:=f.set 3 x3;have i:Cx (rh (rh (rh (rh (rh W ⟨b,0,N⟩ x0) ⟨b,1,N⟩ x1) ⟨b,2,N⟩ x2) ⟨b,3,N⟩ x3) ⟨b,4,N⟩ x4) b #[x0,x1,x2,x3,x4,x5,x6,x7,x8,x9,F3] t:=g.set 4 x4;have j:Cx (rh (rh (rh (rh (rh (rh W ⟨b,0,N⟩ x0) ⟨b,1,N⟩ x1) ⟨b,2,N⟩ x2) ⟨b,3,N⟩ x3) ⟨b,4,N⟩ x4) ⟨b,5,N⟩ x5) b #[x0,x1,x2,x3,x4,x5,x6,x7,x8,x9,F3] t:=i.set 5 x5;have k:Cx (rh (rh (rh (rh (rh (rh (rh W ⟨b,0,N⟩ x0) ⟨b,1,N⟩ x1) ⟨b,2,N⟩ x2) ⟨b,3,N⟩ x3) ⟨b,4,N⟩ x4) ⟨b,5,N⟩ x5) ⟨b,6,N⟩ x6) b #[x0,x1,x2,x3,x4,x5,x6,x7,x8,x9,F3] t:=j.set 6 x6;have l:Cx (rh (rh (rh (rh (rh (rh (rh (rh W ⟨b,0,N⟩ x0) ⟨b,1,N⟩ x1) ⟨b,2,N⟩ x2) ⟨b,3,N⟩ x3) ⟨b,4,N⟩ x4) ⟨b,5,N⟩ x5) ⟨b,6,N⟩ x6) ⟨b,7,N⟩ x7) b #[x0,x1,x2,x3,x4,x5,x6,x7,x8,x9,F3] t:=k.set 7 x7;have m:Cx (rh (rh (rh (rh (rh (rh (rh (rh (rh W ⟨b,0,N⟩ x0) ⟨b,1,N⟩ x1) ⟨b,2,N⟩ x2) ⟨b,3,N⟩ x3) ⟨b,4,N⟩ x4) ⟨b,5,N⟩ x5) ⟨b,6,N⟩ x6) ⟨b,7,N⟩ x7) ⟨b,8,N⟩ x8) b #[x0,x1,x2,x3,x4,x5,x6,x7,x8,x9,F3] t:=l.set 8 x8;have a:Cx (rh (rh (rh (rh (rh (rh (rh (rh (rh (rh W ⟨b,0,N⟩ x0) ⟨b,1,N⟩ x1) ⟨b,2,N⟩ x2) ⟨b,3,N⟩ x3) ⟨b,4,N⟩ x4) ⟨b,5,N⟩ x5) ⟨b,6,N⟩ x6) ⟨b,7,N⟩ x7) ⟨b,8,N⟩ x8) ⟨b,9,N⟩ x9) b #[x0,x1,x2,x3,x4,x5,x6,x7,x8,x9,F3] t:=m.set 9 x9;have c:Cx (rh (rh (rh (rh (rh (rh (rh (rh (rh (rh (rh W ⟨b,0,N⟩ x0) ⟨b,1,N⟩ x1) ⟨b,2,N⟩ x2) ⟨b,3,N⟩ x3) ⟨b,4,N⟩ x4) ⟨b,5,N⟩ x5) ⟨b,6,N⟩ x6) ⟨b,7,N⟩ x7) ⟨b,8,N⟩ x8) ⟨b,9,N⟩ x9) ⟨b,10,N⟩ F3) b #[x0,x1,x2,x3,x4,x5,x6,x7,x8,x9,F3] t:=a.set 10 F3;exact c
theorem kq:Cv (fun j=>j=b) W (rh (rh (rh (rh (rh (rh (rh (rh (rh (rh (rh W ⟨b,0,N⟩ x0) ⟨b,1,N⟩ x1) ⟨b,2,N⟩ x2) ⟨b,3,N⟩ x3) ⟨b,4,N⟩ x4) ⟨b,5,N⟩ x5) ⟨b,6,N⟩ x6) ⟨b,7,N⟩ x7) ⟨b,8,N⟩ x8) ⟨b,9,N⟩ x9) ⟨b,10,N⟩ F3):=(Cv.set (S:=fun j=>j=b) (Cv.set (S:=fun j=>j=b) (Cv.set (S:=fun j=>j=b) (Cv.set (S:=fun j=>j=b) (Cv.set (S:=fun j=>j=b) (Cv.set (S:=fun j=>j=b) (Cv.set (S:=fun j=>j=b) (Cv.set (S:=fun j=>j=b) (Cv.set (S:=fun j=>j=b) (Cv.set (S:=fun j=>j=b) (Cv.set (S:=fun j=>j=b) (Cv.refl _ W) (.inr rfl) 0 x0) (.inr rfl) 1 x1) (.inr rfl) 2 x2) (.inr rfl) 3 x3) (.inr rfl) 4 x4) (.inr rfl) 5 x5) (.inr rfl) 6 x6) (.inr rfl) 7 x7) (.inr rfl) 8 x8) (.inr rfl) 9 x9) (.inr rfl) 10 F3)
def pF(w0:oZ)(hv:Int)(W:oZ):Prop:= ∃c d c1 a2 e f a3 n3 c3 a4 n4 c4 a5 g c5 h n6 c6 i j c7 k l c8 a9 m c9 a b Ui,Cx W w0.heap.size #[I U hv,.slice c d c1,.slice a2 e f,.slice a3 n3 c3,.slice a4 n4 c4,.slice a5 g c5,.slice h n6 c6,.slice i j c7,.slice k l c8,.slice a9 m c9,.slice a b Ui] 45∧qZ w0.heap.size w0 W
theorem LQ.fin(h:LQ w0 hv m W)(a:Option Addr)(qn b:Nat)(c:Option Addr)(d lc:Nat):pF w0 hv ((W.setCell ⟨w0.heap.size,5,N⟩ (.slice a qn b)).setCell ⟨w0.heap.size,10,N⟩ (.slice c d lc)):=by obtain⟨v,n,X,h,_⟩:=h;have e:=bH (q:=.slice a qn b) (l:=.slice c d lc) h.Dp;obtain⟨s,c1,f⟩:=h.slice 1;obtain⟨a2,t,g⟩:=h.slice 2;obtain⟨a3,c3,i⟩:=h.slice 3;obtain⟨a4,c4,j⟩:=h.slice 4;obtain⟨u,c6,k⟩:=h.slice 6;obtain⟨w,c7,o⟩:=h.slice 7;obtain⟨x,c8,p⟩:=h.slice 8;obtain⟨a9,c9,r⟩:=h.slice 9;rw[f,g,i,j,k,o,p,r]at e;exact⟨_,_,_,_,_,_,_,_,_,_,_,_,_,_,_,_,_,_,_,_,_,_,_,_,_,_,_,_,_,_,e,(h.below.setCell (Al _) _).setCell (Al _) _⟩
theorem LQ.two(h:LQ w0 hv m W):W.cell? ⟨w0.heap.size,5,N⟩=Z (Y N 0 0)∧W.frozen? ⟨w0.heap.size,5,N⟩=rm∧W.cell? ⟨w0.heap.size,10,N⟩=Z (Y N 0 0)∧W.frozen? ⟨w0.heap.size,10,N⟩=false:=by obtain⟨v,n,X,h,_⟩:=h;exact⟨h.Dp.cell 5,h.Dp.free 5,h.Dp.cell 10,h.Dp.free 10⟩
section
variable {mb:Nat} {V:Vr} {own:Nat→Nat} {w:oZ} {s:St}
def iz(s:St)(w:oZ)(e:Ending)(w':oZ):Prop:= ∃l:List qY,l.length=10∧e=rC (rE (I U s.sc.CD::l).toArray)∧qZ w.heap.size w w'
theorem CC.bI(h:CC mb V own w s)(hg:0<s.gs.length)(hm:0<s.ms.length)(ha:s.rings.length≤s.asked.length)(X:s.all.length<1000000):re prog 12 #[ptr mb] w (iz s w):=by
 have z:Hid (∀W,qZ w.heap.size w W→CC mb V own W s):=fun W u=>h.below u;have g:=Aa h.Hm;have bg:=Aa X;obtain⟨gg,cq,ab,_⟩:=h.grow hg;have b4:Hid (∀(k:Nat)(W:oZ),k<s.gs.length→qZ w.heap.size w W→W.cell? ⟨gg,k,N⟩=Z (ptr (V.CP k))∧gg<W.heap.size):=fun k W hk u=>by obtain⟨g',c',e,h1,h2,_⟩:=(h.below u).grow hk;rw[ab]at e;simp only[Ar,Ak,BF,and_true,true_and]at e;rw[e.1];exact⟨h1,h2⟩
 obtain⟨mg,cr,ad,_⟩:=h.SC hm;have b5:Hid (∀(k:Nat)(W:oZ),k<s.ms.length→qZ w.heap.size w W→W.cell? ⟨mg,k,N⟩=Z (ptr (V.DP k))∧mg<W.heap.size):=fun k W hk u=>by obtain⟨g',c',e,h1,h2,_⟩:=(h.below u).SC hk;rw[ad]at e;simp only[Ar,Ak,BF,and_true,true_and]at e;rw[e.1];exact⟨h1,h2⟩
 obtain⟨⟨ag,bh,cw,L,ae,b7,b8,b9,ca,bj⟩,_⟩:=h.EL (by decide);have cb:Hid (∀(k:Nat)(W:oZ),k<s.asked.length→qZ w.heap.size w W→W.cell? ⟨ag,k*3+2,N⟩=Z (I U (s.asked[k]?.getD p0).count)):=fun k W hk u=>by have hb:=ae.below u ae.lt;rw[hb.cell,←AW,←AK (show k*3+2<s.asked.length*3 by omega),bj];exact(OH s.asked k hk).2.2
 have cc:=Aa ha;have cd:=Aa ab;have cf:=Aa ad;have ch:=Aa L;have lm:=h.Nc;have cx: ¬w.heap.size=mb:=by omega
 have HH:=Aa h;have hold:=h.hold;clear h ha X ab ad L ae b7 b8 b9 ca bj;have cy:=Aa hg;have cz:=Aa hm;clear hg hm;generalize A:s.gs.length=ng at*
 generalize bk:s.rings.length=np at*
 generalize bm:s.ms.length=nm at*
 generalize cj:s.asked.length=na at*
 have af:=Aa A;have ck:=Aa bk;have ah:=Aa bm;clear A bk bm cj;have bn:Hid (∀E:Int,0≤E∧E≤ng→ ∃(gp:qY)(hb:Bool),Eb V.CP E=gp∧((hb=rm∧gp=J N∧E=0)∨(hb=rq∧ ∃b:Nat,gp=J (Z ⟨b,0,N⟩)∧b<w.heap.size∧ ∀W,qZ w.heap.size w W→W.cell? ⟨b,0,N⟩=Z (I U E)))):=fun E hy=>by
  by_cases h0:E=0
  ·exact⟨J N,rm,by rw[Eb,Ai h0],.inl ⟨rfl,rfl,h0⟩⟩
  ·obtain⟨R,bo⟩: ∃R:Nat,E=(R:Int)+1:=⟨(E-1).toNat,by omega⟩
   have bp:R<s.gs.length:=by rw[af.out];omega
   refine⟨J (Z ⟨V.CP R,0,N⟩),rq,by rw[Eb,Ah h0,bo,show((R:Int)+1-1).toNat=R by omega],.inr ⟨rfl,V.CP R,rfl,?_,fun W u=>?_⟩⟩
   ·obtain⟨_,_,_,hx,_⟩:=HH.out.gs (by decide) R bp;exact hx.lt
   ·obtain⟨_,_,dc,bq,_⟩:=(z.out W u).gs (by decide) R bp
    rw[bo];exact kE bq
 obtain⟨gp,hb,br,F⟩:=bn.out s.sc.CD hold;have M:=Aa F;have G:(hb=rm∧gp=J N)∨(hb=rq∧ ∃b:Nat,gp=J (Z ⟨b,0,N⟩)):=by rcases F with⟨a,b,_⟩|⟨a,b,c,_⟩;exact .inl ⟨a,b⟩;exact .inr ⟨a,b,c⟩
 have O: ∀W,(binOp .neq 119 gp (J N)).run prog W= .ok (ry hb) W:=fun W=>bF W G;have A: ∀(W:oZ)(x y:Operand),(eqGuard .neq 119 x y gp (J N)).run prog W= .ok () W:=fun W x y=>bG W x y G;clear G;have Jr:=(HH.out.alloc (rD (bD 0 fun _=>Y N 0 0) 45)).Jr;rw[br]at Jr;unfold bD at Jr;dsimp only at Jr;clear br F hold;go_enter func12,ntmps12;go_upto_if 16 with fail
 go_cut [15,16]from 17 to 24 (fun kD gS K=>LQ w s.sc.CD (2*0) K)
 case first=>
  clear O A;rcases M.out with⟨rfl,rfl,h0⟩|⟨rfl,b,rfl,ai,P⟩
  ·go_wp2_with fail
   go_meet
   case rel=>rw[h0];exact⟨_,_,_,Nd.new w 0,fun _=>Al _⟩
  ·have df: ¬w.heap.size=b:=by omega
   have q0:=P (w.alloc (rD #[I U 0,Y N 0 0,Y N 0 0,Y N 0 0,Y N 0 0,Y N 0 0,Y N 0 0,Y N 0 0,Y N 0 0,Y N 0 0,Y N 0 0] 45)) (Ct (rf _ _) _);obtain⟨C,H⟩: ∃C,s.sc.CD=C:=⟨_,rfl⟩;rw[H]at q0;have aj:=Aa H;clear P ai H;go_wp2_with fail;go_meet
   case rel=>rw[aj.out];exact⟨_,_,_,Nd.new w C,fun _=>Al _⟩
 case rest=>
  have ak:Hid (LQ w s.sc.CD (2*0) wc):=Aa hcut;obtain⟨C,H⟩: ∃C,s.sc.CD=C:=⟨_,rfl⟩;have c5:=(z.out wc hcut.below).c5;rw[cd.out]at c5;rw[H]at ak;have aj:=Aa H;clear hcut O A Jr M H;go_wp2;go_loopw [30] (fun t wr=> ∃k:Nat,k≤ng∧t=I U k∧LQ w C (2*k) wr) (fun t _=>ng-(intOf t).toNat)
  case atStart=>exact⟨0,Ap _,rfl,ak.out⟩
  case round=>
   obtain⟨k,hk,rfl,v⟩:=hrel;clear ak;by_cases o:k<ng
   ·have dh:(k:Int)<(ng:Int):=by omega
    obtain⟨q0,ql⟩:=b4.out k wr o v.below;obtain⟨x,hx⟩: ∃x,s.gs[k]?.getD g0=x:=⟨_,rfl⟩;obtain⟨_,_,sv,n,bs,ao,_⟩:=HH.out.gs (by decide) k (by rw[af.out];exact o);rw[hx]at n ao;have cl:=Aa ao;have cm:Hid (x.stack.length≤16):=Aa (by rw[←hx];exact bs);have aq:Hid (∀f,qZ w.heap.size w f→f.cell? ⟨V.CP k,1,N⟩=Z (I U x.word)∧f.cell? ⟨V.CP k,2,N⟩=Z (I U x.fn)∧f.cell? ⟨V.CP k,3,N⟩=Z (I U x.Dt)∧f.cell? ⟨V.CP k,4,N⟩=Z (I U (rg x 0))∧f.cell? ⟨V.CP k,5,N⟩=Z (I U (rg x 1))∧f.cell? ⟨V.CP k,6,N⟩=Z (I U (rg x 2))∧f.cell? ⟨V.CP k,7,N⟩=Z (I U (rg x 3))∧f.cell? ⟨V.CP k,8,N⟩=Z (I U (rg x 4))∧f.cell? ⟨V.CP k,9,N⟩=Z (I U (rg x 5))∧f.cell? ⟨V.CP k,10,N⟩=Z (I U (rg x 6))∧f.cell? ⟨V.CP k,11,N⟩=Z (I U (rg x 7))∧f.cell? ⟨V.CP k,12,N⟩=Z sv∧f.cell? ⟨V.CP k,13,N⟩=Z (ry x.done)):=fun f u=>by have n:=n.below u n.lt;exact⟨n.cell 1,n.cell 2,n.cell 3,n.cell 4,n.cell 5,n.cell 6,n.cell 7,n.cell 8,n.cell 9,n.cell 10,n.cell 11,n.cell 12,n.cell 13⟩
    generalize V.CP k=b at*
    have l:=Aa v;clear hx v n ao bs;go_wp2;go_cut []from 34 to 42 (fun K=>LQ w C (2*k+1) K)
    case first=>
     obtain⟨a,Q,c,XX,r,s0,s2⟩:=l.out.st 1 3 1 (by simp[TH]) rfl rfl (by have:=g.out;omega) [I U x.word];have s1:=(aq.out _ l.out.below).1;go_region_law(first|((refine r.out.kn underlying22 Dw rfl (by decide) (by decide) wr [I U x.word] (by repeat(first|exact rf _ _|refine rk ?_|refine Ct ?_ _)) (fun _=>by rfl) (by rfl) _ _ (by rfl) (by simp[Act.eval]) (by rfl) rfl (by simp[Value.oneCell']) ?_;intro g5 B w5 m z0 z1 D;have z2:=(aq.out _ m).1;clear m)))
     all_goals(go_wp2;go_meet)
     all_goals exact D.out
    case rest=>
     have l:=Aa hcut;clear hcut;go_wp2;obtain⟨a,Q,c,XX,r,s0,-⟩:=l.out.st 2 50 12 (by simp[TH]) rfl rfl (by have:=g.out;omega) [];obtain⟨m2,m3,m4,m5,m6,m7,m8,m9,m10,m11,m12,m13⟩:=(aq.out _ l.out.below).2;go_region_law(first|((refine r.out.kn underlying41 km rfl (by decide) (by decide) w6 [I U x.fn,I U x.Dt,I U (rg x 0),I U (rg x 1),I U (rg x 2),I U (rg x 3),I U (rg x 4),I U (rg x 5),I U (rg x 6),I U (rg x 7),.slice sa x.stack.length sc,ry x.done] (Ct ar _) (fun _=>by rfl) (by rfl) _ _ (by rfl) (by simp[Act.eval]) (by rfl) rfl (by simp[Value.oneCell']) ?_;intro g5 B w5 m z0 z1 D;clear m))|(go_simp;go_wp2_with(go_at_call 56;refine(Vm.Fg _ _ _ _ _ _ _ _ _ _ _ _ _ _ (cl.out.below (l.out.below.trans ((by repeat(first|exact rf _ _|refine rk ?_):qZ wc.heap.size wc _).mono l.out.below.size))) (by have:=cm.out;omega)).mono ?_;rintro e w6⟨v',rfl,bt,au⟩;obtain⟨sa,sc,rfl⟩:=Vm.Eo bt;have ar:qZ wc.heap.size wc w6:=(by first|exact au|exact((rf _ _).drew).trans au);have y0:=(r.out.2.1 _ ar).1;have y1:=(r.out.2.1 _ (Ct ar (rD #[I U x.fn,I U x.Dt,I U (rg x 0),I U (rg x 1),I U (rg x 2),I U (rg x 3),I U (rg x 4),I U (rg x 5),I U (rg x 6),I U (rg x 7),.slice sa x.stack.length sc,ry x.done] 50))).1;clear bt au)))
     all_goals go_wp2
     all_goals have hw:wrap64 ((k:Int)+1)=((k+1:Nat):Int):=by have:=g.out;unfold wrap64;omega
     all_goals rw[hw]
     all_goals clear hw
     all_goals exact⟨⟨k+1,by omega,rfl,D.out⟩,by show ng-(k+1)<ng-k;omega⟩
   ·obtain rfl:k=ng:=by omega
    have HL:=Aa v;have c0:=(z.out wr v.below).c0;clear v hk o;go_wp2_with(go_at_call 57;refine((z.out _ HL.out.below).NG).mono ?_;rintro e w6⟨rfl,rfl⟩;rw[ck.out]);go_loopw [59] (fun t wr=> ∃i:Nat,i≤np∧t=I U i∧LQ w C (2*k+3*i) wr) (fun t _=>np-(intOf t).toNat)
    case atStart=>exact⟨0,Ap _,rfl,HL.out⟩
    case round=>
     obtain⟨i,hi,rfl,v⟩:=hrel;clear HL c0;by_cases o:i<np
     ·have di:(i:Int)<(np:Int):=by omega
      have bu:i<na:=by have:=cc.out;omega
      have ct:(i:Int)<(na:Int):=by omega
      obtain⟨cn,bw⟩: ∃cn,(s.asked[i]?.getD p0).count=cn:=⟨_,rfl⟩;have aw:Hid (∀f,qZ w.heap.size w f→f.cell? ⟨mb,7,N⟩=Z (Y (Z ⟨ag,0,N⟩) na bh)∧f.cell? ⟨ag,i*3+2,N⟩=Z (I U cn)∧f.cell? ⟨mb,8,N⟩=Z (ptr V.stat)):=fun f u=>⟨by rw[←ch.out];exact(z.out f u).c7,by rw[←bw];exact cb.out i f bu u,(z.out f u).c8⟩;have l:=Aa v;clear v bw bu;go_wp2;go_cut []from 62 to 72 (fun K=>LQ w C (2*k+3*i+1) K)
      case first=>
       obtain⟨a,Q,c,XX,r,s0,s2⟩:=l.out.st 3 3 1 (by simp[TH]) rfl rfl (by have:=g.out;omega) [I U (Cw.FG s.stat i)];have m8:=(aw.out _ l.out.below).2.2;go_region_law(first|((refine r.out.kn underlying22 Dw rfl (by decide) (by decide) wr [I U (Cw.FG s.stat i)] (by repeat(first|exact rf _ _|refine rk ?_|refine Ct ?_ _)) (fun _=>by rfl) (by rfl) _ _ (by rfl) (by simp[Act.eval]) (by rfl) rfl (by simp[Value.oneCell']) ?_;intro g5 B w5 m z0 z1 D;clear m))|(go_simp;go_wp2_with(go_at_call 58;refine((z.out _ (by first|exact l.out.below|exact l.out.below.drew)).dP i).mono ?_;rintro e w6⟨rfl,rfl⟩)))
       all_goals(go_wp2;go_meet)
       all_goals exact D.out
      case rest=>
       have l:=Aa hcut;clear hcut;go_wp2;go_cut []from 73 to 83 (fun K=>LQ w C (2*k+3*i+1+1) K)
       case first=>
        obtain⟨a,Q,c,XX,r,s0,s2⟩:=l.out.st 4 3 1 (by simp[TH]) rfl rfl (by have:=g.out;omega) [I U (Cw.Ic s.stat i)];have m8:=(aw.out _ l.out.below).2.2;go_region_law(first|((refine r.out.kn underlying22 Dw rfl (by decide) (by decide) wc [I U (Cw.Ic s.stat i)] (by repeat(first|exact rf _ _|refine rk ?_|refine Ct ?_ _)) (fun _=>by rfl) (by rfl) _ _ (by rfl) (by simp[Act.eval]) (by rfl) rfl (by simp[Value.oneCell']) ?_;intro g5 B w5 m z0 z1 D;clear m))|(go_simp;go_wp2_with(go_at_call 59;refine((z.out _ (by first|exact l.out.below|exact l.out.below.drew)).jc i).mono ?_;rintro e w6⟨rfl,rfl⟩)))
        all_goals(go_wp2;go_meet)
        all_goals exact D.out
       case rest=>
        have l:=Aa hcut;clear hcut;go_wp2;obtain⟨a,Q,c,XX,r,s0,s2⟩:=l.out.st 6 3 1 (by simp[TH]) rfl rfl (by have:=g.out;omega) [I U cn];obtain⟨m7,ma,_⟩:=aw.out _ l.out.below;go_region_law(first|((refine r.out.kn underlying22 Dw rfl (by decide) (by decide) wc [I U cn] (by repeat(first|exact rf _ _|refine rk ?_|refine Ct ?_ _)) (fun _=>by rfl) (by rfl) _ _ (by rfl) (by simp[Act.eval]) (by rfl) rfl (by simp[Value.oneCell']) ?_;intro g5 B w5 m z0 z1 D;clear m)))
        all_goals go_wp2
        all_goals have hw:wrap64 ((i:Int)+1)=((i+1:Nat):Int):=by have:=g.out;unfold wrap64;omega
        all_goals rw[hw]
        all_goals clear hw
        all_goals exact⟨⟨i+1,by omega,rfl,D.out⟩,by show np-(i+1)<np-i;omega⟩
     ·obtain rfl:i=np:=by omega
      have HL:=Aa v;have c6:=(z.out wr v.below).c6;rw[cf.out]at c6;clear v hi o;go_wp2;go_loopw [103] (fun t wr=> ∃j:Nat,j≤nm∧t=I U j∧LQ w C (2*k+3*i+3*j) wr) (fun t _=>nm-(intOf t).toNat)
      case atStart=>exact⟨0,Ap _,rfl,HL.out⟩
      case round=>
       obtain⟨j,hj,rfl,v⟩:=hrel;clear HL c6;by_cases o:j<nm
       ·have dk:(j:Int)<(nm:Int):=by omega
        obtain⟨q0,ql⟩:=b5.out j wr o v.below;obtain⟨y,hy⟩: ∃y,s.ms[j]?=Z y:=⟨_,Ae (by rw[ah.out];exact o)⟩;have ax:0≤y.g∧y.g≤k:=by have q:=(z.out w (rf _ _)).mg j (by rw[ah.out];exact o);rw[hy,af.out]at q;exact q
        obtain⟨yp,hyp⟩: ∃yp,y.p=yp:=⟨_,rfl⟩;obtain⟨yh,bz⟩: ∃yh,y.phase=yh:=⟨_,rfl⟩;obtain⟨E,ay⟩: ∃E,y.g=E:=⟨_,rfl⟩;have az:Hid (∀f,qZ w.heap.size w f→f.cell? ⟨V.DP j,1,N⟩=Z (I U yp)∧f.cell? ⟨V.DP j,2,N⟩=Z (Eb V.CP E)∧f.cell? ⟨V.DP j,3,N⟩=Z (I U yh)):=fun f u=>by have n:=(z.out f u).ms (by decide) j (by rw[ah.out];exact o);rw[hy]at n;rw[←hyp,←bz,←ay];exact⟨n.cell 1,n.cell 2,n.cell 3⟩
        rw[ay]at ax;generalize V.DP j=xb at*
        have x2:=(az.out wr v.below).2.1;have l:=Aa v;clear v hy hyp bz ay;obtain⟨S,ba,aa,F⟩:=bn.out E ax;have M:=Aa F;have G:(ba=rm∧S=J N)∨(ba=rq∧ ∃b:Nat,S=J (Z ⟨b,0,N⟩)):=by rcases F with⟨a,b,_⟩|⟨a,b,c,_⟩;exact .inl ⟨a,b⟩;exact .inr ⟨a,b,c⟩
        have O: ∀W,(binOp .neq 119 S (J N)).run prog W= .ok (ry ba) W:=fun W=>bF W G;have A: ∀(W:oZ)(x y:Operand),(eqGuard .neq 119 x y S (J N)).run prog W= .ok () W:=fun W x y=>bG W x y G;clear G;rw[aa]at x2;clear aa F ax;go_upto_if 111 with fail
        go_cut [8,110,111]from 112 to 118 (fun c8 cu cv K=>(∃T:Int,c8=I U T)∧wr=K)
        case first=>
         clear O A;rcases M.out with⟨rfl,rfl,h0⟩|⟨rfl,b,rfl,ai,P⟩
         ·go_wp2_with fail
          go_meet
          case rel=>exact⟨⟨0,rfl⟩,rfl⟩
         ·have q1:=P wr l.out.below
          clear P ai;go_wp2_with fail;go_meet
          case rel=>exact⟨⟨E,rfl⟩,rfl⟩
        case rest=>
         obtain⟨⟨T,rfl⟩,rfl⟩:=hcut;clear O A M x2;go_wp2;go_cut []from 119 to 127 (fun K=>LQ w C (2*k+3*i+3*j+1) K)
         case first=>
          obtain⟨a,Q,c,XX,r,s0,s2⟩:=l.out.st 7 3 1 (by simp[TH]) rfl rfl (by have:=g.out;omega) [I U yp];have m1:=(az.out _ l.out.below).1;go_region_law(first|((refine r.out.kn underlying22 Dw rfl (by decide) (by decide) wr [I U yp] (by repeat(first|exact rf _ _|refine rk ?_|refine Ct ?_ _)) (fun _=>by rfl) (by rfl) _ _ (by rfl) (by simp[Act.eval]) (by rfl) rfl (by simp[Value.oneCell']) ?_;intro g5 B w5 m z0 z1 D;clear m)))
          all_goals(go_wp2;go_meet)
          all_goals exact D.out
         case rest=>
          have l:=Aa hcut;clear hcut;obtain⟨a,Q,c,XX,r,s0,-⟩:=l.out.st 8 3 1 (by simp[TH]) rfl rfl (by have:=g.out;omega) [];go_wp2_with(at_builtin;refine Jg underlying22 Dw rfl (by decide) (by decide) w.heap.size _ rfl _ _ rfl (.slice a Q c) Q XX ⟨wc.heap.size,0,N⟩ 1 [I U T] rfl rfl (.inl (r.out.2.1 _ (by repeat(first|exact rf _ _|refine rk ?_|refine Ct ?_ _))).2.1) rfl (aE _ [I U T] 3) (by simp[Value.oneCell']) (r.out.2.1 _ (by repeat(first|exact rf _ _|refine rk ?_|refine Ct ?_ _))).2.2 (by have:=r.out.1;omega) ?_;intro v' w5 hA;obtain⟨m,z0,z1,b0⟩:=r.out.2.2 _ _ _ _ (by repeat(first|exact rf _ _|refine rk ?_|refine Ct ?_ _)) hA;obtain⟨g5,B,rfl⟩:=hA.some;have D:=Aa b0;clear m b0 hA);generalize w5.setCell ⟨w.heap.size,8,N⟩ (Y (Z ⟨g5,0,N⟩) (Q+1) B)=W3 at*
          have l:=D;clear r s0 z0 z1 D;obtain⟨a,Q,c,XX,r,s0,s2⟩:=l.out.st 9 4 1 (by simp[TH]) rfl rfl (by have:=g.out;omega) [ry (yh==0)];have m3:=(az.out _ l.out.below).2.2;go_region_law(first|((refine r.out.kn underlying43 Pm.QR rfl (by decide) (by decide) W3 [ry (yh==0)] (by repeat(first|exact rf _ _|refine rk ?_|refine Ct ?_ _)) (fun _=>by rfl) (by rfl) _ _ (by rfl) (by simp[Act.eval]) (by rfl) rfl (by simp[Value.oneCell']) ?_;intro g5 B w5 m z0 z1 D;clear m)))
          all_goals go_wp2
          all_goals have hw:wrap64 ((j:Int)+1)=((j+1:Nat):Int):=by have:=g.out;unfold wrap64;omega
          all_goals rw[hw]
          all_goals clear hw
          all_goals exact⟨⟨j+1,by omega,rfl,D.out⟩,by show nm-(j+1)<nm-j;omega⟩
       ·obtain rfl:j=nm:=by omega
        have l:=Aa v;clear v hj o;have n0:=(z.out wr l.out.below).c0;have n9:=(z.out wr l.out.below).c9;go_wp2;go_cut []from 145 to 156 (fun K=>pF w C K)
        case first=>
         have HN:Hid (∀f,qZ w.heap.size w f→f.cell? ⟨mb,0,N⟩=Z (ptr V.procs)∧f.cell? ⟨mb,9,N⟩=Z (ptr V.all)):=fun f u=>⟨(z.out f u).c0,(z.out f u).c9⟩;go_region_law(first|(go_simp;go_wp2_with(first|(go_at_call 60;refine((z.out _ (by first|exact l.out.below|exact l.out.below.drew)).YQ).mono ?_;rintro e w6⟨qv,rfl,⟨vs,b1⟩,n⟩;obtain⟨qa,qc,rfl⟩:=DE b1.1;have bb:=Aa (l.out.go (by first|exact n|exact(rf wr.heap.size wr).drew.trans n));have n9:=(HN.out _ bb.out.below).2;clear b1 n)|(go_at_call 61;refine((z.out _ bb.out.below).lr (by have:=bg.out;omega)).mono ?_;rintro e w7⟨av,rfl,L,n⟩;obtain⟨la,lc,rfl⟩:=CY.Dh L;have b2:=Aa (bb.out.go n);obtain⟨z5,u5,dm,u10⟩:=b2.out.two;have HE:=Aa (b2.out.fin qa (Ue s.rings).length qc la s.all.length lc);clear L n))))
         all_goals(go_wp2;go_meet)
         all_goals exact HE.out
        case rest=>obtain⟨a1,n1,c1,a2,n2,c2,a3,n3,c3,a4,n4,c4,a5,n5,c5,a6,n6,c6,a7,n7,c7,a8,n8,c8,a9,bc,c9,bd,bf,Ui,d,b3⟩:=hcut;have k0:=d.cell 0;have k1:=d.cell 1;have k2:=d.cell 2;have k3:=d.cell 3;have k4:=d.cell 4;have k5:=d.cell 5;have k6:=d.cell 6;have k7:=d.cell 7;have k8:=d.cell 8;have k9:=d.cell 9;have Rz:=d.cell 10;have f0:=d.free 0;have f1:=d.free 1;have f2:=d.free 2;have f3:=d.free 3;have f4:=d.free 4;have f5:=d.free 5;have f6:=d.free 6;have f7:=d.free 7;have f8:=d.free 8;have f9:=d.free 9;have f10:=d.free 10;simp only[Ad,Ac,Ag]at k0 k1 k2 k3 k4 k5 k6 k7 k8 k9 Rz;have H9:=Aa (Ab d b3);clear d b3;go_wp2;have p:=ko H9.out.1;have cp:=kq (W:=wc) (b:=w.heap.size) (x0:=I U C) (x1:=.slice a1 n1 c1) (x2:=.slice a2 n2 c2) (x3:=.slice a3 n3 c3) (x4:=.slice a4 n4 c4) (x5:=.slice a5 n5 c5) (x6:=.slice a6 n6 c6) (x7:=.slice a7 n7 c7) (x8:=.slice a8 n8 c8) (x9:=.slice a9 bc c9) (F3:=.slice bd bf Ui);clear k0 k1 k2 k3 k4 k5 k6 k7 k8 k9 Rz f0 f1 f2 f3 f4 f5 f6 f7 f8 f9 f10;have k0:=p.cell 0;have k1:=p.cell 1;have k2:=p.cell 2;have k3:=p.cell 3;have k4:=p.cell 4;have k5:=p.cell 5;have k6:=p.cell 6;have k7:=p.cell 7;have k8:=p.cell 8;have k9:=p.cell 9;have Rz:=p.cell 10;simp only[Ad,Ac,Ag]at k0 k1 k2 k3 k4 k5 k6 k7 k8 k9 Rz;have hq:iz s w (rC (rE #[I U C,.slice a1 n1 c1,.slice a2 n2 c2,.slice a3 n3 c3,.slice a4 n4 c4,.slice a5 n5 c5,.slice a6 n6 c6,.slice a7 n7 c7,.slice a8 n8 c8,.slice a9 bc c9,.slice bd bf Ui])) _:=⟨[.slice a1 n1 c1,.slice a2 n2 c2,.slice a3 n3 c3,.slice a4 n4 c4,.slice a5 n5 c5,.slice a6 n6 c6,.slice a7 n7 c7,.slice a8 n8 c8,.slice a9 bc c9,.slice bd bf Ui],rfl,by rw[aj.out],H9.out.2.trans (cp.toBelow H9.out.2.size (fun j hj=>by rw[show j=w.heap.size from hj];exact Al _))⟩;exact AG (by simp[results,results12,go_sem,k0,k1,k2,k3,k4,k5,k6,k7,k8,k9,Rz]) rfl hq
end
end
open Vm (CN)
theorem kr{w:oZ}{a:Option Addr}{p:List (List CN×List Bool)}(h:EO.Xp w a p)(f:EO.RS p=rq): ∃d e,a=Z ⟨d,e,N⟩∧EO.Gv w d e p:=by
 unfold EO.RS at f;simp only[AP,Bc]at f;obtain⟨⟨z,m⟩,c⟩:=f;obtain⟨d,e,rfl,g,n⟩:=h.resolve_left (by omega);refine⟨d,e,rfl,g,fun k b=>?_⟩;obtain⟨A,o,B,sc,j,l,i⟩:=n k b;have q:=Be.1 c (p[k]) (BI b);have r:p[k]?.getD ([],[])=p[k]:=by rw[Ae b];rfl
 rw[r]at j l i⊢;unfold EO.PC at q;simp only[AP,Bc]at q;obtain⟨⟨⟨⟨C,s,D⟩,_⟩,_⟩,_⟩:=q;obtain⟨t,co,rfl,u⟩:=i.code.resolve_left (by omega);obtain⟨v,x,rfl,y⟩:=i.safe.resolve_left (by omega);exact⟨t,co,o,v,x,sc,j,l,u,y⟩
theorem M9: ∀(l:List (Int×Int×Int))(s:St),Inv 1000 s→ ∃r a,FD l s=Z (r,a)∧Inv 1000 a
 | [],s,h=>⟨[],s,rfl,h⟩
 |x::l,s,h=>by
  obtain⟨s1,b,c⟩:=Rh h x.1 x.2.1 x.2.2;obtain⟨r,a,d,e⟩:=M9 l s1 c;refine⟨if s1.sc.seen then s1::r else r,a,?_,e⟩
  show(IF s x.1 x.2.1 x.2.2).bind _=_;rw[b,Option.bind_some,d];rfl
def GU(a:List Fn)(b cg cm:Int)(l:List (Int×Int×Int)):Int:=match FD l (JH a b cg cm)with|some (_,c)=>c.sc.CD|none=>0
theorem UL{a:List Fn}{b cg cm:Int}{l:List (Int×Int×Int)}{r:List St}{s':St}(h:FD l (JH a b cg cm)=Z (r,s')):GU a b cg cm l=s'.sc.CD:=by unfold GU;rw[h]
theorem Inv.mT{s:St}(h:Inv 1000 s):0<s.gs.length∧0<s.ms.length∧s.rings.length≤s.asked.length∧s.all.length<1000000:=by have a:=h.base;have b:=a.g1;have c:=a.m1;have d:=a.nb;simp only[core,Bg]at b c d;have:=h.toBs.Hy;omega
theorem Xt{x y z:Int}(h:EO.KE x y z=rq): ∃a b c:Nat,x=a∧y=b∧z=c∧(1≤a∧a≤256)∧(1≤b∧b≤64)∧(1≤c∧c≤64):=by unfold EO.KE at h;simp only[Bc]at h;exact⟨x.toNat,y.toNat,z.toNat,by omega,by omega,by omega,by omega,by omega,by omega⟩
end Go.Proofs.YtgadhchejmlfjaaGreatDoor.CX
