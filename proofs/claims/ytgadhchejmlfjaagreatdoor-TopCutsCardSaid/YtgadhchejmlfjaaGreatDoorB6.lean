/- A part of the proof. -/
import Derived.Test.YtgadhchejmlfjaaGreatDoorB5
set_option linter.unusedVariables false
set_option maxRecDepth 20000
set_option maxHeartbeats 16000000
open Go.Value renaming int→I,pointer→J,slice→Y
open Go.IntKind renaming i64→U
open Option renaming none→N,some→Z
open Bool renaming false→rm,true→rq
open Go renaming Calls→re,Value→qY,World→oZ
open Go.Ending renaming returned→rC
open Go.Obj renaming cells→rD
open Go.RowKit.Below renaming refl→rf
open Go.Value renaming bool→ry,ownBlock→ru,tuple→rG
open Go.World renaming setCell→rh
open List renaming replicate→rj
namespace Go.CL
variable {P:Program} {l n:Nat}
variable {a:Act} {next next':Act→oZ→Prop} {Q:Exit→Act→oZ→Prop} {w:oZ} {ops:Array Oper}
theorem SO{o:Oper}{r:Result Next}(b: ∀a w,next a w→next' a w) (h:o.upon P a next Q r):o.uponIn (Fence.wide.inRound l) n P a next' Q r:=by
 match r,h with
 | .ok (.value v) g,h=>exact b _ _ h
 | .ok .skip g,h=>exact b _ _ h
 | .ok (.defer d) g,h=>exact b _ _ h
 | .ok (.enter f args) g,h=>
  refine⟨(fun e=>by cases e),CallsIn.inRound l (callsIn_wide.2 ?_)⟩;refine Calls.mono h ?_;intro e i j;cases e with
  |returned v=>exact b _ _ j
  |panicked c=>exact j
  |outgrown=>exact j
 | .ok (.row row args) g,h=>refine⟨(fun e=>by cases e),fun c cs _=>?_⟩;obtain⟨v,i,r,s⟩:=h c cs;exact⟨v,i,b _ _ r,stepsIn_wide.2 s⟩
 | .halt (.panic v) g,h=>exact h
theorem Zt{o:Oper}(hd: ∀c,o.op≠ .defer c) (b: ∀a w,next a w→next' a w) (h:o.wp P a w next Q):o.wpIn (Fence.wide.inRound l) n P a w next' Q:=by refine⟨fun _ _=>trivial,?_⟩;rw[Oper.semAt_plain _ _ _ hd];exact SO b h
theorem SP{i:Nat}{K e:Act→oZ→Prop}(b: ∀a w,K a w→e a w) (hd: ∀(i:Nat)(o:Oper),ops[i]?=Z o→ ∀c,o.op≠ .defer c) (f: ¬LetsOut Q) (h:wpOp P ops Q i K a w):wpOpIn (Fence.wide.inRound l) n P ops Q i e a w:=by
 unfold wpOp at h;unfold wpOpIn;cases d:ops[i]? with
 |none=>rw[d]at h;exact b _ _ h
 |some o=>
  rw[d]at h;dsimp only at h⊢;split
  ·rename_i hw
   rw[Ai hw]at h;exact Zt (hd i o d) b (h.elim id (fun x=>absurd x.2 f))
  ·rename_i hw
   rw[Ah hw]at h;exact⟨fun _ _=>trivial,b _ _ h⟩
theorem LD{md:Region.Mode}(hd: ∀(i:Nat)(o:Oper),ops[i]?=Z o→ ∀c,o.op≠ .defer c) (b: ¬LetsOut Q): ∀(fuel:Nat)(listed:Array Bool)(a:Act)(w:oZ),wpAny P md ops Q fuel listed a w→wpAnyIn (Fence.wide.inRound l) n P md ops Q fuel listed a w
 |0,_,_,_,h=>h
 |fuel+1,listed,a,w,h=>⟨h.1,fun i d=>SP (fun a w h=>LD hd b fuel _ a w h) hd b (h.2 i d)⟩
def OR(o:Oper):Bool:=match o.op with| .defer _=>rm|_=>rq
theorem OS{id:Nat}(hm:P.follows .mixedOrders=rq)(hd:ops.all OR=rq)(d: ¬LetsOut Q)(h:wpAny P .any ops Q ops.size (Array.replicate ops.size rm) a {w with drawn:=w.drawn+1}):(Code.region id ops rq).wpIn (Fence.wide.inRound l) n P Q a w:=by
 refine wpIn_region_any hm (LD ?_ d _ _ _ _ h);intro i o f c e;have b:OR o=true:=by rw[Array.all_eq_true]at hd;obtain⟨g,rfl⟩:=Bi.1 f;exact hd i g
 unfold OR at b;rw[e]at b;cases b
end Go.CL
namespace Go.Proofs.YtgadhchejmlfjaaGreatDoor.CY
section
open Go.Proofs.Tryz Go.RowKit Go.CL
theorem Wg{x:Int}(h:1≤x):right [x]=[x]:=by simp[right,h]
theorem Zu{x:Int}(h: ¬1≤x):right [x]=[]:=by simp[right,h]
theorem NO(L:List Int):(right L).length≤L.length:=Ce _ _
end
section
open Go.Proofs.Tryz Go.RowKit Go.Shelf Go.CL
attribute [local go_sem] Oper.semAt_some
variable {W W' w3 w:oZ} {b base g:Nat} {cs:Array qY} {t:TypeId} {row:Option Nat} {v u:qY} {l:List Int}
def Fr(w:oZ)(b:Nat)(v1 v2 u:qY)(f k:List Int)(pre:List (Int×Int))(W:oZ):Prop:= ∃a,Q W b a v2 (f++right (pre.map Prod.snd)) k∧Cv (Qf b v1 v2) w W∧Gr (Qf b v1 v2) (Qf b a v2) w∧Cx W w.heap.size #[J (Z ⟨b,0,N⟩)] 108∧Cx W (w.heap.size+1) #[u] 22
theorem Cx.Gn(h:Cx W b cs t)(c:W.grownBy W' row)(d: ∀r,row=Z r→ ∃o:Obj,W.heap[r]?=Z o∧o.isCells=rm):Cx W' b cs t:=h.kept c (fun e=>by obtain⟨o,a,f⟩:=d b e.symm;rw[show W.heap[b]?=_ from h]at a;cases a;cases f)
theorem CF.Gn(h:CF W base v l)(b:W.grownBy W' row)(c: ∀r,row=Z r→ ∃o:Obj,W.heap[r]?=Z o∧o.isCells=rm):CF W' base v l:=by
 obtain⟨a,d|⟨g,cap,cur,e,f,i,r⟩⟩:=h
 ·exact⟨a,.inl d⟩
 ·exact⟨a,.inr ⟨g,cap,cur,e,f,Cx.Gn (show Cx W g cur 3 from i) b c,r⟩⟩
theorem Fr.own(w:oZ)(b:Nat)(v1 v2 u:qY)(f k:List Int)(B:Nat)(i:w.heap.size≤B):OwnFrom B (Fr w b v1 v2 u f k):=by rintro pre W W' row⟨g,d,l,m,n,p⟩c h;have a: ∀r,row=Z r→ ∃o:Obj,W.heap[r]?=Z o∧o.isCells=false:=fun r e=>(h r e).2;exact⟨g,⟨Cx.Gn d.1 c a,CF.Gn d.2.1 c a,CF.Gn d.2.2.1 c a,d.2.2.2⟩,l.grown c (fun j e=>.inl (AE i (h j e).1)),m,Cx.Gn n c a,Cx.Gn p c a⟩
theorem Qy(h:CF W base v l)(b:Cx W g cs t)(c:t≠3):v.ownBlock≠Z g:=fun e=>by
 obtain⟨j,⟨d,_⟩|⟨f,cap,cur,i,_,a,r⟩⟩:=h
 ·rw[d]at e;cases e
 ·rw[i]at e
  simp only[ru,Ak]at e;subst e;rw[show W.heap[f]?=_ from b]at a;cases a;exact c rfl
theorem Un{v':qY}{m:List Int}{tmp:Obj}(a:Cx W g cs t)(b:v.ownBlock≠Z g)(c:Ju (W.drew.alloc tmp) 0 v l m v' w3):Cx w3 g cs t:=(a.drew.alloc tmp).kept c.2.1 (fun e=>b e.symm)
theorem NP(pre:List (Int×Int))(x:Int×Int):right ((pre++[x]).map Prod.snd)=right (pre.map Prod.snd)++right [x.2]:=by unfold right;rw[Cj,Zax];rfl
structure Rd (w:oZ) (b:Nat) (v1 v2 u pg:qY) (f k l FF:List Int) (pre:List (Int×Int)) (W:oZ):Prop where
 eq:f++right (pre.map Prod.snd)=FF
 only:Cv (Qf b v1 v2) w W
 gr:Gr (Qf b v1 v2) (Qf b pg v2) w
 box:Cx W w.heap.size #[J (Z ⟨b,0,N⟩)] 108
 jy:Cx W (w.heap.size+1) #[u] 22
 own:CF W 0 pg FF
 lt:b<w.heap.size
 gO:DB w u l
 off:l≠[]→H4 (Qf b v1 v2) u
theorem Qz{l':List Int}(h:DB w u l)(d:l=[])(e:DB W u l'):l'=[]:=by obtain⟨a,c,he,_⟩:=h;obtain⟨a',f,b,_⟩:=e;subst d;rw[he]at b;simp only[Ar,AF]at b;exact A3.1 b.2.1.symm
theorem Wh{B:Nat}{v1 v2 a:qY}{f k s:List Int}{pre:List (Int×Int)}{x:Int×Int}{c d F6:Nat}(h:Rd w b v1 v2 u a f k l s pre W)(t:Q (w3.setCell ⟨b,0,N⟩ (Y (Z ⟨c,0,N⟩) d F6)) b (Y (Z ⟨c,0,N⟩) d F6) v2 (s++[x.2]) k)(y:Cv (Qf b a v2) W.drew (w3.setCell ⟨b,0,N⟩ (Y (Z ⟨c,0,N⟩) d F6)))(z:Gr (Qf b a v2) (Qf b (Y (Z ⟨c,0,N⟩) d F6) v2) W.drew)(A:Cx w3 w.heap.size #[J (Z ⟨b,0,N⟩)] 108)(C:Ju (W.drew.alloc (rD #[I U x.2] 3)) 0 a s [x.2] (Y (Z ⟨c,0,N⟩) d F6) w3)(O:1≤x.2):KeepsFrom B W (w3.setCell ⟨b,0,N⟩ (Y (Z ⟨c,0,N⟩) d F6))∧JC (w.heap.size+1) u W (w3.setCell ⟨b,0,N⟩ (Y (Z ⟨c,0,N⟩) d F6))∧Fr w b v1 v2 u f k (pre++[x]) (w3.setCell ⟨b,0,N⟩ (Y (Z ⟨c,0,N⟩) d F6)):=by
 have P:=h.lt;have i:a.ownBlock≠Z (w.heap.size+1):=Qy h.own h.jy (by decide);have m:=Un h.jy i C;have n:Cv (fun j=>j=b∨a.ownBlock=Z j) W (w3.setCell ⟨b,0,N⟩ (Y (Z ⟨c,0,N⟩) d F6)):=((((Cv.refl (fun j=>j=b∨a.ownBlock=Z j) W).drew.alloc _).grown C.2.1 (fun j e=>.inr (.inr e))).set (.inr (.inl rfl)) _ _);refine⟨?_,⟨fun v D=>?_,fun l' g=>?_⟩,Y (Z ⟨c,0,N⟩) d F6,?_,?_,?_,A.setOther (by omega) _,m.setOther (by omega) _⟩
 ·refine((((KeepsOthers.drew W).trans (KeepsOthers.alloc _ _)).trans (KeepsOthers.of_grownBy C.2.1 (fun j o e H=>?_))).trans (KeepsOthers.setCell _ _ _)).from _
  obtain⟨h1,⟨R,_⟩|⟨g2,K,cur,D,_,L,r⟩⟩:=h.own
  ·rw[R]at e;cases e
  ·rw[D]at e
   simp only[ru,Ak]at e;subst e;have S:(W.drew.alloc (rD #[I U x.2] 3)).heap[g2]?=Z (rD cur 3 (0,0)):=(Cn W.drew _ g2 (Bi.1 L).1).trans L;rw[S]at H;cases H;rfl
 ·refine(AH (n.block _ h.jy.lt (fun e=>?_))).trans D
  rcases e with e|e
  ·have e':w.heap.size+1=b:=e
   omega
  ·exact i e
 ·by_cases p:l=[]
  ·have:=Qz h.gO p g
   subst this;obtain⟨a',T,E,F,G,_⟩:=g;exact⟨a',T,E,F,G,.inl rfl⟩
  ·refine g.only n (fun j q e=>?_)
   have V:=h.gO.lt p j q;rcases e with e|e
   ·exact h.off p j q (.inl e)
   ·rcases h.gr j (.inr (.inl e))with M|M
    ·exact h.off p j q M
    ·omega
 ·rw[NP,Wg O,←AR,h.eq];exact t
 ·exact h.only.andThen (Cv.F5 y) (fun j q X=>(h.gr j X).elim id (fun x=>by omega))
 ·exact h.gr.trans (w':=W) z h.only.size
def Wi(b:Nat)(v1 v2:qY)(f k:List Int)(w:oZ)(e:Ending)(w':oZ):Prop:=e=rC (I U ((f.length:Int)+k.length))∧ ∃a,Q w' b a v2 f k∧Cv (Qf b v1 v2) w w'∧Gr (Qf b v1 v2) (Qf b a v2) w
theorem eV(b:Nat)(v1 v2:qY)(f k:List Int)(u:qY)(l:List Int)(w:oZ)(h:Q w b v1 v2 f k)(hu:DB w u l)(ho:l≠[]→H4 (Qf b v1 v2) u)(hl:f.length+k.length+l.length<10000000):re prog 362 #[J (Z ⟨b,0,N⟩),u] w (Wi b v1 v2 (f++right l.reverse) k w):=by
 have ad:=Aa h;have H:=Aa hu;have ae:=Aa ho;have af:=h.1.lt;obtain⟨j,m,rfl⟩:=hu.len;clear h hu ho;refine(callsIn_wide (n:=4)).1 ?_;refine callsIn_of_wp_marks func362 rfl trivial ?_ rfl;simp only[ntmps362,Bd,AB,AF,Nat.reduceAdd,Nat.reduceSub,Br,Bt,BK,Bw,Bq,Bo];gi_wp2_with fail
 refine⟨trivial,(Lr Fence.wide 3 trivial rfl _ _ _ _).mono ?_⟩;rintro e L⟨rfl,rfl⟩;gi_wp2_with fail
 have ag:Q ((w.alloc (rD #[J (Z ⟨b,0,N⟩)] 108)).alloc (rD #[.slice j l.length m] 22)) b v1 v2 f k:=(ad.out.below (Ct (rf _ _) _)).below (Ct (rf _ _) _);have b1:Cx ((w.alloc (rD #[J (Z ⟨b,0,N⟩)] 108)).alloc (rD #[.slice j l.length m] 22)) (w.heap.size+1) #[.slice j l.length m] 22:=Cx.Iq _ _ (by simp);have b0:Cx ((w.alloc (rD #[J (Z ⟨b,0,N⟩)] 108)).alloc (rD #[.slice j l.length m] 22)) w.heap.size #[J (Z ⟨b,0,N⟩)] 108:=(Cx.new w _ 108).alloc _;have ah:DB ((w.alloc (rD #[J (Z ⟨b,0,N⟩)] 108)).alloc (rD #[.slice j l.length m] 22)) (.slice j l.length m) l:=(H.out.alloc _).alloc _
 refine wpIn_rangeFunc_ownG rfl (by decide) (gf:=198) (lb:=#[J (Z ⟨w.heap.size+1,0,N⟩)]) rfl trivial (enters_of func198 (by kernel_rfl) rfl)
  (Mr Fence.wide (4-1) trivial rfl (by decide) (w.heap.size+1) (.slice j l.length m) l _ (by simp<;>omega) (b1.cell 0) ah (by omega)) PJ PK (rf _ _) (fun _=>rfl)
  (Fr w b v1 v2 (.slice j l.length m) f k)
  (fun _ _ _=>False)
  (Fr.own w b v1 v2 _ f k _ (by simp<;>omega))
  (fun _ _ _ _ _ hs _ _=>hs)
  ⟨v1,by simpa[right]using ag,((Cv.refl _ w).alloc _).alloc _,Gr.refl _ _,b0,b1⟩
  (fun x=>{tmps:=#[J (Z ⟨b,0,N⟩),.slice j l.length m,J (Z ⟨w.heap.size,0,N⟩),undef,I U 0,undef,I U x.2,J (Z ⟨b,0,N⟩),ry rm,.slice j l.length m,.func (.func 198) #[] #[J (Z ⟨w.heap.size+1,0,N⟩)],I U x.1,I U x.2,undef,undef,undef,undef,undef,undef,undef,undef,undef,undef,undef,undef,undef,undef],defers:=[]}) ?assign ?body ?done ?stop
 case assign=>
  intro l x W K r;gi_wp2
  exact r
 case body=>
  rintro ll pre x W⟨d,g,D,F,a,o⟩ai;have c0:=g.1.cell 0;have f0:=g.1.free 0;have cb:=a.cell 0;have aj:=g.1.lt;have M:=a.lt;simp only[Ad,Ac]at c0 cb;by_cases G:1≤x.2
  ·have ak:decide (1≤x.2)=true:=by simpa using G
   have HF:=Aa G;have O:=NO (pre.map Prod.snd);obtain⟨z,s⟩: ∃z,f++right (pre.map Prod.snd)=z:=⟨_,rfl⟩;have ao:z.length≤f.length+pre.length:=by rw[←s];simp at O⊢;omega
   rw[s]at g;have HW:Hid (Rd w b v1 v2 (.slice j l.length m) d f k l z pre W):=⟨s,D,F,a,o,g.2.1,af,H.out,ae.out⟩;have aq:Hid (d.ownBlock≠Z w.heap.size):=Qy g.2.1 a (by decide);have P:=Aa a;have HQ:=Aa g;have R:Hid (CF W.drew 0 d z):=g.2.1;have S:z.length+ [x.2].length<100000000:=by simp;omega
   have T:=Aa S;have a6: ¬b=w.heap.size:=by omega
   have d0: ∀q,(W.alloc q).cell? ⟨b,0,N⟩=Z d:=fun q=>(AH (Cn W q b aj)).trans c0;have db: ∀q,(W.alloc q).cell? ⟨w.heap.size,0,N⟩=Z (J (Z ⟨b,0,N⟩)):=fun q=>(AH (Cn W q _ M)).trans cb;clear g D F a o G S ai O s ao;gi_wp2_with fail
   refine OS (by kernel_rfl) (by kernel_rfl) (fun h=>by obtain⟨_,_,h⟩:=h;exact h) ?_;change wpAny _ _ _ _ 11 _ _ (World.drew _);refine Zb6 (i:=5) (v:=?_) rfl (by kernel_rfl) (by kernel_rfl) (by kernel_rfl) (fun _ _ _ h=>h) (Or.inl ⟨by kernel_rfl,?_⟩) ?_;rotate_left
   ·intro L;go_simp;try(with_reducible rfl)
   repeat' (first|with_reducible exact Zb1|((with_reducible show AllReady _ _ _ _ _ _ _ _ _);refine Zar rfl (fun K r=>?_) ?_)|((with_reducible show wpAny _ _ _ _ _ _ _ _);refine Zb6 (i:=2) (v:=?_) rfl (by kernel_rfl) (by decide+kernel) (by decide+kernel) (fun _ _ _ h=>h) (Or.inl ⟨by kernel_rfl,?_⟩) ?_;rotate_left; ·(intro L;go_simp;try(with_reducible rfl)))|((with_reducible show wpAny _ _ _ _ _ _ _ _);refine Zb6 (i:=3) (v:=?_) rfl (by kernel_rfl) (by decide+kernel) (by decide+kernel) (fun _ _ _ h=>h) (Or.inl ⟨by kernel_rfl,?_⟩) ?_;rotate_left; ·(intro L;go_simp;try(with_reducible rfl)))|((with_reducible show wpAny _ _ _ _ _ _ _ _);refine Zb6 (i:=8) (v:=?_) rfl (by kernel_rfl) (by decide+kernel) (by decide+kernel) (fun _ _ _ h=>h) (Or.inl ⟨by kernel_rfl,?_⟩) ?_;rotate_left; ·(intro L;go_simp;try(with_reducible rfl)))|((with_reducible show wpAny _ _ _ _ _ _ _ _);refine Zb6 (i:=9) (v:=?_) rfl (by kernel_rfl) (by decide+kernel) (by decide+kernel) (fun _ _ _ h=>h) (Or.inl ⟨by kernel_rfl,?_⟩) ?_;rotate_left; ·(intro L;go_simp;try(with_reducible rfl)))|with_reducible refine BQ (rs:=[0,1,6]) (by decide+kernel) (by simp) ?_|with_reducible refine BQ (rs:=[0,1]) (by decide+kernel) (by simp) ?_|with_reducible refine BQ (rs:=[0,4,6]) (by decide+kernel) (by simp) ?_|with_reducible refine BQ (rs:=[0,4]) (by decide+kernel) (by simp) ?_|with_reducible refine BQ (rs:=[0,6]) (by decide+kernel) (by simp) ?_|with_reducible refine BQ (rs:=[0,7]) (by decide+kernel) (by simp) ?_|with_reducible refine BQ (rs:=[0]) (by decide+kernel) (by simp) ?_|with_reducible refine BQ (rs:=[1,6]) (by decide+kernel) (by simp) ?_|with_reducible refine BQ (rs:=[10]) (by decide+kernel) (by simp) ?_|with_reducible refine BQ (rs:=[1]) (by decide+kernel) (by simp) ?_|with_reducible refine BQ (rs:=[4,6]) (by decide+kernel) (by simp) ?_|with_reducible refine BQ (rs:=[4]) (by decide+kernel) (by simp) ?_|with_reducible refine BQ (rs:=[6]) (by decide+kernel) (by simp) ?_|with_reducible refine BQ (rs:=[7]) (by decide+kernel) (by simp) ?_|((with_reducible refine wpAny_done (by decide+kernel) ?_ _);exact Wh HW.out ar.out au.out av.out aw.out HA.out HF.out)|(refine XJ underlying22 Dw 0 _ rfl (.tmp 19) (.tmp 21) rfl d z (Y (Z ⟨W.heap.size,0,N⟩) 1 1) [x.2] (by kernel_rfl) (by kernel_rfl) (R.out.alloc _) (DB.Fc _ x.2) (Ap _) T.out ?_;intro v' w3 V;obtain⟨g',a7,rfl⟩:=V.some;obtain⟨t,X,aa,ab⟩:=HQ.out.drew.PI (tmp:=rD #[I U x.2] 3) V;have HA:=Aa V;have q0:=t.cell 0;have a8:=t.free 0;have ba:=t.lt;simp only[Ad,Ac]at q0;have A:=Un P.out aq.out V;have qx:=A.cell 0;simp only[Ad,Ac]at qx;have ar:=Aa X;have au:=Aa aa;have av:=Aa ab;have aw:=Aa A;clear X t aa ab V A;refine r _ _ ?_;clear r K)|(go_simp;refine r _ _ ?_;clear r K))
  ·have ak:decide (1≤x.2)=false:=by simpa using G
   have HX:=Aa (Zu G);clear G;gi_wp2_with fail
   exact⟨KeepsFrom.refl _ _,⟨fun v hv=>hv,fun l hl=>hl⟩,d,by rw[NP,HX.out,Cf];exact g,D,F,a,o⟩
 case done=>
  rintro E ys W hE rfl⟨d,g,D,F,a,o⟩r;rw[I3]at g;have cb:=a.cell 0;simp only[Ad,Ac]at cb;have ax:Hid (Fr w b v1 v2 (.slice j l.length m) f k (Fz l l.length) W):=⟨d,by rw[I3];exact g,D,F,a,o⟩;have HQ:=Aa g;have ay:=NO l.reverse;simp at ay;clear g D F a o;gi_wp2_with fail
  refine⟨trivial,(callsIn_wide.2 (TX _ _ _ _ _ _ HQ.out (by simp;omega))).mono ?_⟩;rintro e w2⟨rfl,n2,rfl⟩;gi_wp2
  refine⟨by simp,.inl ⟨_,_,rfl,run_takeDeferred (show(W.drewN n2).heap[E]?=_ from r),?_⟩⟩;obtain⟨v9,y,B,C,_⟩:=OwnFrom.putObj (Fr.own w b v1 v2 (.slice j l.length m) f k E (by simp at hE;omega)) (.deferred N) (show Fr w b v1 v2 (.slice j l.length m) f k (Fz l l.length) (W.drewN n2)from by obtain⟨v9,y,B,C,h9,az⟩:=ax.out;exact⟨v9,y.drewN n2,B.drewN n2,C,h9,az⟩) (Al _) (show(W.drewN n2).heap[E]?=_ from r) rfl;rw[I3]at y;exact⟨_,by simp[results,results362,go_sem],rfl,v9,y,B,C⟩
 case stop=>rintro E c pre W _ _ h _;exact h.elim
end
open Go.Proofs.Tryz Go.RowKit Go.CL
theorem NQ(l:List Int):(right l.reverse).reverse=right l:=by simp[right]
theorem Wj(b:Nat)(S:Nat→Prop)(L:List Int)(u:qY)(l:List Int)(w:oZ)(h:Queue w b S L)(hu:DB w u l)(c:l≠[]→H4 S u)(d:L.length+l.length<1000000):re prog 362 #[J (Z ⟨b,0,N⟩),u] w (Nf b S (right l++L) w):=by obtain⟨v1,v2,f,k,h,rfl,rfl⟩:=h;refine(eV b v1 v2 f k u l w h hu c (by simp at d;omega)).mono ?_;rintro e m⟨rfl,a,g,i,j⟩;refine⟨?_,_,⟨a,v2,f++right l.reverse,k,g,by rw[List.reverse_append,NQ,AR],rfl⟩,i,j⟩;rw[←NQ l];simp;omega
end Go.Proofs.YtgadhchejmlfjaaGreatDoor.CY
namespace Go.Proofs.YtgadhchejmlfjaaGreatDoor.CV
open Go.Proofs.Tryz Go.RowKit Go.CL
open Ring (Rw Sg C3)
open CY (Gr Queue right Nf)
variable {j p n i m k q g cap:Nat} {rv:qY} {R:Nat→Rn} {row L:List Int} {w w1 wr w2:oZ} {S S1:Nat→Prop}
def JM(R:Nat→Rn)(i:Nat)(nx:Int)(row:List Int):Nat→Rn:=fun j=>if j=i then⟨(R i).b,(R i).g,nx,row⟩else R j
theorem K0(R:Nat→Rn)(i:Nat)(nx:Int)(row:List Int)(j:Nat):(JM R i nx row j).b=(R j).b:=by unfold JM;split<;>simp_all
theorem MP(R:Nat→Rn)(i:Nat)(nx:Int)(row:List Int)(j:Nat):(JM R i nx row j).g=(R j).g:=by unfold JM;split<;>simp_all
theorem Wk(R:Nat→Rn)(i:Nat)(nx:Int)(row:List Int):JM R i nx row i=⟨(R i).b,(R i).g,nx,row⟩:=by simp[JM]
theorem eW(R:Nat→Rn)(i:Nat)(nx:Int)(row:List Int)(h:j≠i):JM R i nx row j=R j:=by simp[JM,h]
theorem Wl(n:Nat)(R:Nat→Rn)(i:Nat)(nx:Int)(row:List Int):IB n (JM R i nx row)=IB n R:=by unfold IB;apply Zab;intro j _;rw[K0]
theorem eX{nx:Int}:Pf p rv n (JM R i nx row)=Pf p rv n R:=by funext j;unfold Pf;simp only[K0,MP]
theorem Hh.turn{nx:Int}(h:Hh w p rv n R)(b:i<n)(f:Rw w1 (R i).b (R i).g 256 nx row)(c:Cv (Sg (R i).b (R i).g) w w1):Hh w1 p rv n (JM R i nx row):=by
 refine⟨h.Dp.only c (h.rp i b),?_,?_,h.R7,?_,?_,?_⟩
 ·rw[Wl];exact h.own.off c (h.Mv i b)
 ·intro j a
  by_cases e:j=i
  ·subst e;rw[Wk];exact f
  ·rw[eW _ _ _ _ e]
   exact(h.ring j a).only c (h.Oz j i a b e)
 ·intro j a;rw[K0,MP];exact h.rp j a
 ·intro j a;rw[K0,MP];exact h.Mv j a
 ·intro j k a g d;rw[K0,MP,K0,MP];exact h.Oz j k a g d
def dr(R:Nat→Rn)(m:Nat)(L:List Int):Nat→List Int
 |0=>L
 |k+1=>right (C3 (R (m+k)).CG (R (m+k)).row)++dr R m L k
def Nl(R:Nat→Rn)(m k:Nat):Nat→Rn:=fun i=>if m≤i∧i<m+k then⟨(R i).b,(R i).g,0,[]⟩else R i
theorem Zv(R:Nat→Rn)(m:Nat):Nl R m 0=R:=by funext i;simp[Nl];omega
theorem Zw(R:Nat→Rn)(m k:Nat):JM (Nl R m k) (m+k) 0 []=Nl R m (k+1):=by
 funext i;unfold JM Nl;by_cases e:i=m+k
 ·subst e;simp
 ·by_cases h:m≤i∧i<m+k
  ·rw[Ah e,Ai h,Ai (by omega)]
  ·rw[Ah e,Ah h,Ah (by omega)]
theorem OT(R:Nat→Rn)(m k:Nat):Nl R m k (m+k)=R (m+k):=by simp[Nl]
theorem Zx(R:Nat→Rn)(m k:Nat)(h:i<m):Nl R m k i=R i:=by simp[Nl];omega
theorem Uo(R:Nat→Rn)(m k i:Nat):(Nl R m k i).b=(R i).b∧(Nl R m k i).g=(R i).g:=by unfold Nl;split<;>simp
theorem SQ:Pf p rv n (Nl R m k)=Pf p rv n R:=by funext j;unfold Pf;simp only[(Uo R m k _).1,(Uo R m k _).2]
structure PQ (w:oZ) (p:Nat) (rv:qY) (n:Nat) (R:Nat→Rn) (q:Nat) (S:Nat→Prop) (L:List Int):Prop where
 E7:Hh w p rv n R
 jz:Queue w q S L
 Oz: ∀j,Pf p rv n R j→ ¬S j
def Pb(p:Nat)(rv:qY)(n:Nat)(R:Nat→Rn)(S:Nat→Prop)(j:Nat):Prop:=Pf p rv n R j∨S j
theorem PQ.turn{nx:Int}(h:PQ w p rv n R q S L)(b:i<n)(d:Rw w1 (R i).b (R i).g 256 nx row)(c:Cv (Sg (R i).b (R i).g) w w1):PQ w1 p rv n (JM R i nx row) q S L:=⟨h.E7.turn b d c,h.jz.only c (fun j a e=>h.Oz j (.inr (.inr ⟨i,b,e⟩)) a),fun j a=>h.Oz j (by rw[eX]at a;exact a)⟩
theorem PQ.queue{S':Nat→Prop}{a:List Int}(h:PQ w p rv n R q S L)(c:Queue w1 q S' a)(d:Cv S w w1)(e:Gr S S' w):PQ w1 p rv n R q S' a:=⟨h.E7.only d h.Oz,c,fun j b f=>(e j f).elim (h.Oz j b) (fun x=>by have:=h.E7.lt b;omega)⟩
theorem Zy{d:Nat→Prop}(f:m+k<n)(h:PQ wr p rv n (Nl R m k) q S1 (dr R m L k))(g:Cv (Pb p rv n R S) w wr)(i:Gr S S1 w)(o:Rw w1 (R (m+k)).b (R (m+k)).g 256 0 [])(a:Cv (Sg (R (m+k)).b (R (m+k)).g) wr w1)(r:Queue w2 q d (right (C3 (R (m+k)).CG (R (m+k)).row)++dr R m L k))(b:Cv S1 w1 w2)(c:Gr S1 d w1):PQ w2 p rv n (Nl R m (k+1)) q d (dr R m L (k+1))∧Cv (Pb p rv n R S) w w2∧Gr S d w:=by have l:PQ w1 p rv n (JM (Nl R m k) (m+k) 0 []) q S1 (dr R m L k):=h.turn f (by rw[OT];exact o) (by rw[OT];exact a);rw[Zw]at l;refine⟨l.queue r b c,?_,i.trans c (AE g.size a.size)⟩;exact(g.andThen a (fun j s e=>.inl (.inr (.inr ⟨m+k,f,e⟩)))).andThen b (fun j s e=>(i j e).elim .inr (fun x=>by omega))
theorem jA(h:Hh w p rv n R)(m:Nat)(L:List Int)(k:Nat)(c:m+k≤n):(dr R m L k).length≤L.length+257*k:=by
 induction k with
 |zero=>simp[dr]
 |succ k a=>have d:=a (by omega);have b:=LY h (m+k) (by omega);have e:(right (C3 (R (m+k)).CG (R (m+k)).row)).length≤(C3 (R (m+k)).CG (R (m+k)).row).length:=Ce _ _;unfold Vx at b;simp only[dr,Aw];omega
theorem Hh.cut(h:Hh w p (Y (Z ⟨g,0,N⟩) n cap) n R)(l:k≤n):Hh (w.setCell ⟨p,0,N⟩ (Y (Z ⟨g,0,N⟩) k k)) p (Y (Z ⟨g,0,N⟩) k k) k R:=by
 have d:Cv (fun j=>j=p) w (w.setCell ⟨p,0,N⟩ (Y (Z ⟨g,0,N⟩) k k)):=(Cv.refl (fun j=>j=p) w).set (.inr rfl) 0 _;have b:g≠p:=fun e=>h.R7 (by rw[e];rfl);refine⟨h.Dp.set 0 _,?_,?_,fun e=>by simp[ru]at e;exact b e,fun i c=>h.rp i (by omega),fun i c j a m=>h.Mv i (by omega) j a m,fun i j c a=>h.Oz i j (by omega) (by omega)⟩
 ·have f:=h.own.cut k l
  rw[show(IB n R).take (k*1)=IB k R from by simp[IB,←List.map_take,List.take_range];congr 2;omega]at f;exact f.off d (fun j a e=>by simp[ru]at a;omega)
 ·intro i c
  exact(h.ring i (by omega)).only d (fun j a e=>h.rp i (by omega) (e▸a))
theorem jB(a:k≤n)(h:Pf p (Y (Z ⟨g,0,N⟩) k k) k R j):Pf p (Y (Z ⟨g,0,N⟩) n cap) n R j:=by
 rcases h with h|h|⟨i,b,h⟩
 ·exact .inl h
 ·exact .inr (.inl h)
 ·exact .inr (.inr ⟨i,by omega,h⟩)
def Up(p:Nat)(rv:qY)(n m:Nat)(R:Nat→Rn)(q:Nat)(S:Nat→Prop)(L:List Int)(w:oZ)(e:Ending)(w':oZ):Prop:=e=rC (I U 0)∧ ∃b a c,PQ w' p b m a q c (dr R m L (n-m))∧Cv (Pb p rv n R S) w w'∧Gr (Pf p rv (min m n) R) (Pf p b m a) w∧Gr S c w∧(∀i,i<m→i<n→a i=R i)∧(∀i,n≤i→i<m→(a i).CG=0∧(a i).row=[])∧(∀i,n≤i→i<m→w.heap.size≤(a i).b∧w.heap.size≤(a i).g)
theorem eY{R':Nat→Rn}{Nh:qY}(h:PQ wr p (Y (Z ⟨g,0,N⟩) n cap) n (Nl R m (n-m)) q S1 (dr R m L (n-m)))(o:Cv (Pb p (Y (Z ⟨g,0,N⟩) n cap) n R S) w wr)(s:Gr S S1 w)(c:Yp p (Y (Z ⟨g,0,N⟩) (min m n) (min m n)) (min m n) (Nl R m (n-m)) (wr.setCell ⟨p,0,N⟩ (Y (Z ⟨g,0,N⟩) (min m n) (min m n))) Nh m R' w2):Up p (Y (Z ⟨g,0,N⟩) n cap) n m R q S L w (rC (I U 0)) w2:=by
 have t:min m n≤n:=Nat.min_le_right _ _;have b: ∀j,Pf p (Y (Z ⟨g,0,N⟩) (min m n) (min m n)) (min m n) (Nl R m (n-m)) j→Pf p (Y (Z ⟨g,0,N⟩) n cap) n R j:=fun j a=>by have:=jB (cap:=cap) t a;rw[SQ]at this;exact this
 have d: ∀j,Pf p (Y (Z ⟨g,0,N⟩) (min m n) (min m n)) (min m n) (Nl R m (n-m)) j→Pf p (Y (Z ⟨g,0,N⟩) n cap) (min m n) R j:=fun j a=>by
  rcases a with h|h|⟨i,u,h⟩
  ·exact .inl h
  ·exact .inr (.inl h)
  ·rw[Zx _ _ _ (by omega)]at h;exact .inr (.inr ⟨i,u,h⟩)
 have f:Cv (Pf p (Y (Z ⟨g,0,N⟩) n cap) n R) wr w2:=((Cv.refl (Pf p (Y (Z ⟨g,0,N⟩) n cap) n R) wr).set (.inr (.inl rfl)) 0 _).trans (c.only.mono (fun j _ a=>b j a));have v:Queue w2 q S1 (dr R m L (n-m)):=h.jz.only f (fun j a e=>h.Oz j (by rw[SQ];exact e) a);have y:=o.size;refine⟨rfl,Nh,R',S1,⟨c.E7,v,fun j a e=>?_⟩,o.andThen f (fun j a e=>.inl e),fun j a=>(c.gr j a).imp (d j) (fun x=>by simp[rh]at x;omega),s,fun i l k=>?_,fun i l k=>c.new i (by omega) k,fun i l k=>by have q:=c.fr i (by omega) k;simp[rh]at q;omega⟩
 ·rcases(c.gr j a).imp (b j) (fun x=>by simpa[rh]using x)with r|r
  ·exact h.Oz j (by rw[SQ];exact r) e
  ·have:=h.jz.lt e;omega
 ·rw[c.kA i (by omega),Zx _ _ _ l]
theorem JL(p:Nat)(rv:qY)(n m:Nat)(R:Nat→Rn)(q:Nat)(S:Nat→Prop)(L:List Int)(w:oZ)(h:PQ w p rv n R q S L)(ag:1≤n)(hn:n≤256)(ah:1≤m)(hm:m≤256)(hl:L.length+257*n<1000000):re prog 343 #[J (Z ⟨p,0,N⟩),I U m,J (Z ⟨q,0,N⟩)] w (Up p rv n m R q S L w):=by
 obtain⟨g,cap,rfl⟩: ∃g cap,rv=Y (Z ⟨g,0,N⟩) n cap:=by
  rcases h.E7.own.open with⟨_,F⟩|⟨g,cap,F,_⟩
  ·omega
  ·exact⟨g,cap,F⟩
 have HI:=Aa (ER m w);rw[AZ ⟨by omega,by omega⟩]at HI;have P:=Aa h;clear h;go_enter func343,ntmps343;go_wp2_with fail;refine HI.out.mono ?_;rintro e w1⟨rfl,rfl⟩;go_wp2_with fail;go_loopw [8] (fun i wr=> ∃(k:Nat)(S1:Nat→Prop),k≤n-m∧i=I U ((m+k:Nat):Int)∧PQ wr p (Y (Z ⟨g,0,N⟩) n cap) n (Nl R m k) q S1 (dr R m L k)∧Cv (Pb p (Y (Z ⟨g,0,N⟩) n cap) n R S) w wr∧Gr S S1 w) (fun i _=>n-(intOf i).toNat)
 case atStart=>exact⟨0,S,Ap _,by simp,by rw[Zv];exact P.out,Cv.refl _ _,Gr.refl _ _⟩
 case round=>
  obtain⟨k,S1,hk,rfl,a,G,H⟩:=hrel;have c0:=a.E7.Dp.cell 0;simp only[Ad,Ac]at c0;by_cases c:m+k<n
  ·have hd:decide (m+k<n)=true:=by simpa using c
   rcases a.E7.own.open with⟨_,F⟩|⟨g',y,he,_,f,hc,b⟩
   ·omega
   cases he;have cx:=b (m+k) (by omega);rw[LX n _ (m+k) c,OT]at cx;have Q:=a.E7.ring (m+k) c;rw[OT]at Q;have HD:=Aa (Ring.Nz _ _ _ _ _ _ Q);have r:=Aa a;have T:=Aa G;have s:=Aa H;have z:Hid ((dr R m L k).length+(C3 (R (m+k)).CG (R (m+k)).row).length<1000000):=by have V:=jA P.out.E7 m L k (by omega);have K:=LY P.out.E7 (m+k) c;unfold Vx at K;show _<_;omega
   obtain⟨i,t⟩: ∃i,Hid (m+k=i):=⟨_,rfl⟩;rw[t.out]at cx HD c hd⊢;clear b Q a G H;go_wp2_with fail;refine HD.out.mono ?_;rintro e w2⟨v,rfl,d,A,u⟩;have ae:=Aa d;have W:=Aa A;have X:=Aa u;have HF:=Aa (CY.Wj q S1 (dr R m L k) v (C3 (R i).CG (R i).row) w2 (r.out.jz.only u (fun j hj hs=>r.out.Oz j (.inr (.inr ⟨i,c,by rw[(Uo R m k i).1,(Uo R m k i).2];exact hs⟩)) hj)) (DB.Eh d) (fun _ j hj hs=>by have V:=(d.lt j hj).1;have K:=r.out.jz.lt hs;omega) (by rw[←t.out];exact z.out));obtain⟨av,cv,rfl⟩:=CY.Dh d;clear d A u;go_wp2_with fail;refine HF.out.mono ?_;rintro e w3⟨rfl,S3,B,C,D⟩;have aa:=Aa B;have ab:=Aa C;have ad:=Aa D;clear B C D;go_wp2_with fail;go_roundw
   case rel=>have hI:=t.out;subst hI;obtain⟨V,K,h3⟩:=Zy c r.out T.out s.out W.out X.out aa.out ab.out ad.out;exact⟨k+1,S3,by omega,by go_num,V,K,h3⟩
   case measure=>simp[intOf];omega
  ·have hd:decide (m+k<n)=false:=by simpa using c
   obtain rfl:k=n-m:=by omega
   have f0:=a.E7.Dp.free 0;have r:=Aa a;have T:=Aa G;have s:=Aa H;have l:=Aa (Kd p _ (min m n) m _ _ (r.out.E7.cut (k:=min m n) (Nat.min_le_right _ _)) (by omega) hm);have af:n≤cap:=by
    rcases a.E7.own.open with⟨_,F⟩|⟨g',y,he,_,f,hc,b⟩
    ·omega
    ·cases he;exact hc
   have hE:=fun w2 o M=>eY (w2:=w2) (Nh:=o) (R':=M) r.out T.out s.out;have O:=Aa hE;clear a G H hE;by_cases ai:n<m
   ·have hle:n≤m:=by omega
    have E:n≤n:=by omega
    rw[show min m n=n by omega]at l O;have q9:min (m:Int) (n:Int)=(n:Int):=by omega
    go_wp2_with fail;refine l.out.mono ?_;rintro e w3⟨⟨v,rfl⟩,o,M,f⟩;rw[Nat.max_eq_right hle]at f;have x:=Aa f;clear f;go_wp2_with fail;go_ret;exact O.out _ _ _ x.out
   ·have hle:m≤m:=by omega
    have E:m≤n:=by omega
    rw[show min m n=m by omega]at l O;have q9:min (m:Int) (n:Int)=(m:Int):=by omega
    go_wp2_with fail;refine l.out.mono ?_;rintro e w3⟨⟨v,rfl⟩,o,M,f⟩;rw[Nat.max_eq_right hle]at f;have x:=Aa f;clear f;go_wp2_with fail;go_ret;exact O.out _ _ _ x.out
end Go.Proofs.YtgadhchejmlfjaaGreatDoor.CV
namespace Go.Proofs.YtgadhchejmlfjaaGreatDoor.CX
open Go.Proofs.Tryz Go.RowKit Go.CL
section
open Cw (Pr pz)
section
variable {mb:Nat} {V:Vr} {own:Nat→Nat} {w:oZ} {s:St}
theorem eZ(l:List Pr)(n:Nat):(if Cw.Kv l then Cw.eU l n else l)=D8 l n:=by
 have g:=Cw.Oh 3 l;have j:=Cw.Oh 4 l;have b:Cw.Kv l↔Cw.cnt 3 l=l.length-Cw.cnt 4 l:=by unfold Cw.Kv Cw.Pz;omega
 unfold D8;by_cases d:Cw.cnt 3 l=l.length-Cw.cnt 4 l
 ·rw[Ai d,Ai (b.2 d)]
  apply BC;intro i;have hw:(Cw.wide l n).length=max l.length n:=by simp[Cw.wide];omega
  unfold Cw.eU Cw.upto;rw[Zbv];by_cases e:i<n
  ·rw[AD (by simp;omega),Bn,Co,Ai e]
   unfold Cw.wide;have a:i<max l.length n:=by omega
   rw[←hw]at a;unfold Cw.wide at a;rw[Ae a];simp only[BA];rw[Ai a];unfold Cw.LC;rw[Ah (by omega)]
  ·have f:(((l++rj (n-l.length) ((4,-1):Pr)).take n).map (fun(x:Pr)=>if x.1=4 then((3,-1):Pr)else x)).length=n:=by simp;omega
   rw[AJ (by omega),f,BE];by_cases a:i<l.length
   ·rw[Ai (by omega)]
    have c:i<(Cw.wide l n).length:=by omega
    rw[Ae c];simp only[BA];rw[Ai c];unfold Cw.LC;rw[Ai (by omega)]
   ·rw[Ah (by omega),A9 (by omega)];rfl
 ·rw[Ah d,Ah (fun h=>d (b.1 h))]
theorem CC.fa(h:CC mb V own w s)(n:Nat)(g:1≤n)(i:n≤256)(j:s.stat.length≤256):re prog 342 #[ptr V.stat,I U n] w fun e c=>(∃f,e=rC (I U f))∧ ∃a,CC mb V a c {s with stat:=D8 s.stat n}∧Ext own w a c:=by obtain⟨tv,k,l⟩:=h.stat (by decide);refine(Cw.JL _ _ _ n w k g i j).mono ?_;rintro e c⟨rfl,d,b⟩;rw[eZ]at b;obtain⟨-,a,m,o⟩:=h.MD (e:=rC (I U 0)) (f:=0) l ⟨rfl,d,b.G3,b.only,b.gr⟩;exact⟨⟨_,rfl⟩,a,m,o⟩
def FL(l:List Rs)(n:Nat):List Rs:=l.take n++rj (n-l.length) r0
theorem Fk(l:List Rs)(n:Nat):(FL l n).length=n:=by simp[FL];omega
theorem Wm(l:List Rs)(n i:Nat)(h:i<l.length)(a:i<n):(FL l n)[i]?.getD r0=l[i]?.getD r0:=by unfold FL;rw[AD (by simp;omega),Co,Ai a]
theorem Wn(l:List Rs)(n i:Nat)(h:l.length≤i)(a:i<n):(FL l n)[i]?.getD r0=r0:=by unfold FL;rw[AJ (by simp;omega),BE];split<;>rfl
theorem lU{R:Nat→CV.Rn}{l:List Rs}(h: ∀i,i<l.length→(R i).CG=(l[i]?.getD r0).CG∧(R i).row=(l[i]?.getD r0).row) (L:List Int) (m:Nat): ∀k,m+k≤l.length→CV.dr R m L k=D7 ((l.drop m).take k) L:=by
 intro k;induction k with
 |zero=>intro _;rfl
 |succ k b=>
  intro c;have a:m+k<l.length:=by omega
  rw[CV.dr,b (by omega),Ca,Zai,Ae a];unfold D7;rw[Zbh,List.foldl_append,(h _ a).1,(h _ a).2,Ae a];rfl
theorem Wo{f:Nat→Nat}{m:Nat}(h: ∀j,m≤j→f j=0): ∃a,∀j,f j<a:=by
 have: ∀k,∃a,∀j,j<k→f j<a:=fun k=>by
  induction k with
  |zero=>exact⟨0,fun j c=>by omega⟩
  |succ k d=>
   obtain⟨a,b⟩:=d;refine⟨a+f k+1,fun j c=>?_⟩;by_cases e:j=k
   ·subst e;omega
   ·have:=b j (by omega);omega
 obtain⟨a,b⟩:=this m;refine⟨a+1,fun j=>?_⟩;by_cases e:j<m
 ·have:=b j e;omega
 ·rw[h j (by omega)];omega
theorem CC.fc(h:CC mb V own w s)(n:Nat)(h1:1≤n)(h2:n≤256)(hr:1≤s.rings.length)(hl:s.all.length<100000):re prog 343 #[ptr V.procs,I U n,ptr V.all] w fun e K=>(∃f,e=rC (I U f))∧ ∃H v,CC mb {V with Gw:=H} v K {s with rings:=FL s.rings n,all:=D7 (s.rings.drop n) s.all}∧Ext own w v K:=by
 classical
 obtain⟨rv,R,p⟩:=h.rings (by decide);obtain⟨S,hQ,T⟩:=h.all (by decide);have W:=h.Hm.2.2;have hk: ∀j,CV.Pf V.procs rv s.rings.length R j→kind (own j)=5:=by
  rintro j(rfl|d|⟨i,g,d|d⟩)
  ·rw[p.op];rfl
  ·rw[p.kB j d];rfl
  ·rw[d,p.ob i g,OK]
  ·rw[d,p.og i g,OL]
 refine(CV.JL _ rv _ n R _ S _ w ⟨p.E7,hQ,fun j d hs=>by have:=hk j d;rw[T j hs]at this;exact absurd this (by decide)⟩ hr W h1 h2 (by omega)).mono ?_;rintro e K⟨rfl,y,F,S',C,hO,aa,ab,hold,L,M⟩;refine⟨⟨_,rfl⟩,?_⟩;have hdr:CV.dr R n s.all (s.rings.length-n)=D7 (s.rings.drop n) s.all:=by
  by_cases hle:n≤s.rings.length
  ·rw[lU p.is s.all n _ (by omega),AU (by simp)]
  ·rw[show s.rings.length-n=0 by omega,Zbi (by omega)];rfl
 rw[hdr]at C;obtain⟨a,hN⟩:=Wo h.fresh;obtain⟨f,f1,f2,f3,f4,f5⟩:=Qx C.E7;obtain⟨H,G⟩: ∃H:Nat→Nat,H=fun i=>if i<s.rings.length then V.Gw i else a+i:=⟨_,rfl⟩
 obtain⟨u,z⟩: ∃u:Nat→Nat,u=fun j=>if j<w.heap.size then own j else if CV.Pf V.procs y n F j then(if 20≤f j then f j+5*a else f j)else if S' j then 7 else 0:=⟨_,rfl⟩
 have l: ∀j,j<w.heap.size→u j=own j:=fun j d=>by rw[z];exact Ai d
 have r: ∀j,w.heap.size≤j→CV.Pf V.procs y n F j→u j=if 20≤f j then f j+5*a else f j:=fun j d B=>by rw[z];dsimp only;rw[if_neg (by omega),if_pos B]
 have ad:=hO.size;have o: ∀j,w.heap.size≤j→u j<20∨(∃i,i<n∧j=(F i).b∧u j=23+5*(a+i))∨(∃i,i<n∧j=(F i).g∧u j=24+5*(a+i)):=fun j d=>by
  by_cases B:CV.Pf V.procs y n F j
  ·rw[r j d B]
   rcases f5 j with m|⟨i,g,m,O⟩|⟨i,g,m,O⟩
   ·rw[Ah (by omega)];exact .inl m
   ·rw[Ai (by omega),O];exact .inr (.inl ⟨i,g,m,by omega⟩)
   ·rw[Ai (by omega),O];exact .inr (.inr ⟨i,g,m,by omega⟩)
  ·left;rw[z];dsimp only;rw[if_neg (by omega),if_neg B];split<;>decide
 have P: ∀j,K.heap.size≤j→u j=0:=fun j d=>by rw[z];dsimp only;rw[Ah (by omega),Ah (fun B=>by have:=C.E7.lt B;omega),Ah (fun B=>by have:=C.jz.lt B;omega)]
 have c:=h.Uj (X:=fun t=>t=5∨t=7) (C6:=u) hO (fun j d=>by
  rcases d with d|d
  ·exact .inl (hk j d)
  ·right;rw[T j d];rfl) (by decide) l (fun j d=>by
  refine⟨fun hx=>absurd (.inl rfl) hx,fun i g e=>?_,fun i g e=>?_⟩
  ·rcases o j d with m|⟨k,-,-,m⟩|⟨k,-,-,m⟩<;>omega
  ·rcases o j d with m|⟨k,-,-,m⟩|⟨k,-,-,m⟩<;>omega) P
 have D:Qa u H K V.procs y F (FL s.rings n):=by
  refine⟨by rw[Fk];exact C.E7,fun i g=>?_,(l _ p.E7.Dp.lt).trans p.op,fun j d=>?_,fun i g=>?_,fun i g=>?_,fun i g b A=>?_⟩
  ·rw[Fk]at g
   by_cases e:i<s.rings.length
   ·rw[hold i g e,Wm _ _ _ e g];exact p.is i e
   ·rw[Wn _ _ _ (by omega) g];exact L i (by omega) g
  ·by_cases E:j<w.heap.size
   ·rw[l j E]
    rcases aa j (.inr (.inl d))with(rfl|m|⟨i,g,m⟩)|m
    ·exact absurd d C.E7.R7
    ·exact p.kB j m
    ·exact absurd (by rw[hold i (by omega) (by omega)];exact m) (C.E7.Mv i (by omega) j d)
    ·omega
   ·rw[r j (by omega) (.inr (.inl d)),f4 j d];rfl
  ·rw[Fk]at g
   rw[G];dsimp only;by_cases e:i<s.rings.length
   ·rw[Ai e,hold i g e,l _ (p.E7.lt (.inr (.inr ⟨i,e,.inl rfl⟩)))];exact p.ob i e
   ·rw[Ah e,r _ (M i (by omega) g).1 (.inr (.inr ⟨i,g,.inl rfl⟩)),f1 i g,Ai (by omega)];omega
  ·rw[Fk]at g
   rw[G];dsimp only;by_cases e:i<s.rings.length
   ·rw[Ai e,hold i g e,l _ (p.E7.lt (.inr (.inr ⟨i,e,.inr rfl⟩)))];exact p.og i e
   ·rw[Ah e,r _ (M i (by omega) g).2 (.inr (.inr ⟨i,g,.inr rfl⟩)),f2 i g,Ai (by omega)];omega
  ·rw[Fk]at g
   rw[G]at A;dsimp only at A;by_cases e:i<s.rings.length
   ·rw[Ai e]at A
    by_cases q:b<w.heap.size
    ·rw[l b q]at A;rw[hold i g e];exact p.ub i e b A
    ·have:=hN (R i).b
     rw[p.ob i e]at this;rcases o b (by omega)with m|⟨k,-,-,m⟩|⟨k,-,-,m⟩<;>omega
   ·rw[Ah e]at A
    by_cases q:b<w.heap.size
    ·rw[l b q]at A;have:=hN b;omega
    ·rcases o b (by omega)with m|⟨k,-,O,m⟩|⟨k,-,-,m⟩
     ·omega
     ·rw[O,show k=i by omega]
     ·omega
 have Q: ∀j,S' j→u j=7:=fun j d=>by
  by_cases E:j<w.heap.size
  ·rw[l j E]
   exact(ab j d).elim (T j) (fun x=>by omega)
  ·rw[z];dsimp only
   rw[Ah E,Ah (fun B=>C.Oz j B d),Ai d]
 have ae: ∀t,¬(t=5∨t=7)→ ¬(fun t=>t=5∨t=7) t:=fun t ht=>ht;refine⟨H,u,⟨c.fresh,c.om,c.prog,c.laid,h.hold,fun _=>c.LN (by decide),fun _=>c.LO (by decide),fun _=>c.EL (by decide),fun _=>c.IC (by decide),fun _=>⟨y,F,D⟩,fun _=>c.stat (by decide),fun _=>⟨S',C.jz,Q⟩,fun _=>c.GG (by decide),fun _=>c.FC (by decide),fun _=>c.CA (by decide),fun _=>c.box (by decide),fun _=>c.gs (by decide),fun _=>c.ms (by decide),h.mg,c.og,c.ug,c.ox,c.ux,fun b i A=>?_,fun b i A=>?_,⟨h.Hm.1,h.Hm.2.1,by show(FL s.rings n).length≤256;rw[Fk];exact h2⟩⟩,⟨hO.mono (fun j _ d=>?_),l⟩⟩
 ·by_cases q:b<w.heap.size
  ·exact c.lg b i q A
  ·rcases o b (by omega)with m|⟨k,-,-,m⟩|⟨k,-,-,m⟩<;>omega
 ·by_cases q:b<w.heap.size
  ·exact c.lx b i q A
  ·rcases o b (by omega)with m|⟨k,-,-,m⟩|⟨k,-,-,m⟩<;>omega
 ·rcases d with d|d
  ·have:=hk j d
   constructor<;>intro e<;>rw[e]at this<;>exact absurd this (by decide)
  ·rw[T j d];decide
end
end
def QA(x:Int):Int:=if x=1∨x=3∨x=4∨x=5 then 0 else 9
def Zz(x:Int):Int:=if x=1∨x=3∨x=4∨x=5 then x+8 else 0
theorem MQ{x:Int}(h:D4.Dm x)(a:x<8):(bits .and .i64 58 (D4.pw x)==0)=decide (QA x=9)∧bits .or .i64 x 8=x+8:=by
 have key: ∀x∈([0,1,2,3,4,5,6]:List Int),(bits .and .i64 58 (D4.pw x)==0)=decide (QA x=9)∧bits .or .i64 x 8=x+8:=by decide+kernel
 refine key x ?_;unfold D4.Dm at h;simp;omega
theorem Wp(x:Int)(w:oZ)(h:D4.Dm x)(c:x<8):re prog 344 #[I U x] w fun e j=>e=rC (rG #[I U (Zz x),I U (QA x)])∧w=j:=by
 obtain⟨f,k⟩:=MQ h c;have g:=Aa (fun w=>D4.ER x w h);have d:=Aa (fun w=>D4.FB x w h);have i:=Aa (fun w=>D4.OG x w (by unfold D4.Dm at h;omega) (by unfold D4.Dm at h;omega));rw[show decide (8≤x)=rm by simpa using c]at d;unfold Zz QA at*
 clear h;by_cases a:x=1∨x=3∨x=4∨x=5
 ·rw[Ai a]at*
  rw[Ai a];simp only[show¬(0:Int)=9 by decide,decide_false]at f;clear a c;go_enter func344,ntmps344;go_wp2_with(first|(go_at_call 152;refine(g.out _).mono ?_;rintro e b⟨rfl,rfl⟩)|(go_at_call 96;refine(d.out _).mono ?_;rintro e b⟨rfl,rfl⟩)|(go_at_call 221;refine(i.out _).mono ?_;rintro e b⟨rfl,rfl⟩));go_ret2;exact⟨rfl,rfl⟩
 ·rw[Ah a]at*
  rw[Ah a];simp only[decide_true]at f;clear a c;go_enter func344,ntmps344;go_wp2_with(first|(go_at_call 152;refine(g.out _).mono ?_;rintro e b⟨rfl,rfl⟩)|(go_at_call 96;refine(d.out _).mono ?_;rintro e b⟨rfl,rfl⟩)|(go_at_call 221;refine(i.out _).mono ?_;rintro e b⟨rfl,rfl⟩));go_ret2;exact⟨rfl,rfl⟩
theorem Wq(x:Int)(self hold:Bool)(w:oZ)(h:D4.Dm x):re prog 310 #[I U x,ry self,ry hold] w fun e k=>e=rC (I U (Ib x self hold))∧w=k:=by
 have f:=Aa (fun w=>D4.ER x w h);have d:=Aa (fun w=>D4.FB x w h);have j:=Aa (fun w(c:x<8)=>Wp x w h c);unfold Ib;cases self with
 |true=>clear h;go_enter func310,ntmps310;go_wp2;go_ret;exact⟨rfl,rfl⟩
 |false=>
  by_cases c:8≤x
  ·rw[show decide (8≤x)=rq by simpa using c]at d
   clear h;cases hold
   ·simp only[c,BM,B6,BH]
    clear c;go_enter func310,ntmps310;go_wp2_with(first|(go_at_call 152;refine(f.out _).mono ?_;rintro e b⟨rfl,rfl⟩)|(go_at_call 96;refine(d.out _).mono ?_;rintro e b⟨rfl,rfl⟩));go_ret;exact⟨rfl,rfl⟩
   ·simp only[c,BM,B6,BH]
    clear c;go_enter func310,ntmps310;go_wp2_with(first|(go_at_call 152;refine(f.out _).mono ?_;rintro e b⟨rfl,rfl⟩)|(go_at_call 96;refine(d.out _).mono ?_;rintro e b⟨rfl,rfl⟩));go_ret;exact⟨rfl,rfl⟩
  ·rw[show decide (8≤x)=rm by simpa using c]at d
   have a:=Aa (fun w=>j.out w (by omega));simp only[c,BH,B6];unfold Zz QA at a;by_cases g:x=1∨x=3∨x=4∨x=5
   ·simp only[g,BM]at a⊢
    clear g h j c;go_enter func310,ntmps310;go_wp2_with(first|(go_at_call 152;refine(f.out _).mono ?_;rintro e b⟨rfl,rfl⟩)|(go_at_call 96;refine(d.out _).mono ?_;rintro e b⟨rfl,rfl⟩)|(go_at_call 344;refine(a.out _).mono ?_;rintro e b⟨rfl,rfl⟩));go_ret;exact⟨rfl,rfl⟩
   ·simp only[g,BH]at a⊢
    clear g h j c;by_cases i:x=6
    ·subst i
     simp only[BM];go_enter func310,ntmps310;go_wp2_with(first|(go_at_call 152;refine(f.out _).mono ?_;rintro e b⟨rfl,rfl⟩)|(go_at_call 96;refine(d.out _).mono ?_;rintro e b⟨rfl,rfl⟩)|(go_at_call 344;refine(a.out _).mono ?_;rintro e b⟨rfl,rfl⟩));go_ret;exact⟨rfl,rfl⟩
    ·have l:(x==6)=false:=by simpa using i
     simp only[i,BH];clear i;go_enter func310,ntmps310;go_wp2_with(first|(go_at_call 152;refine(f.out _).mono ?_;rintro e b⟨rfl,rfl⟩)|(go_at_call 96;refine(d.out _).mono ?_;rintro e b⟨rfl,rfl⟩)|(go_at_call 344;refine(a.out _).mono ?_;rintro e b⟨rfl,rfl⟩));go_ret;exact⟨rfl,rfl⟩
theorem QB(x:Int)(r:Bool)(w:oZ)(h:D4.Dm x):re prog 341 #[I U x,ry r] w fun e g=>e=rC (I U (MH x r))∧w=g:=by
 have b:=Aa (fun w=>D4.P8 x w h);have a:=Aa (fun w=>D4.FB x w h);have hw:=h;unfold D4.Dm at hw;unfold MH D4.EU at*
 clear h;by_cases c:8≤x
 ·have d:x=9∨x=11∨x=12∨x=13:=by omega
  clear hw c;rcases d with rfl|rfl|rfl|rfl<;>cases r
  all_goals
   simp at b a⊢;go_enter func341,ntmps341;go_wp2_with(first|(go_at_call 226;refine(b.out _).mono ?_;rintro e f⟨rfl,rfl⟩)|(go_at_call 96;refine(a.out _).mono ?_;rintro e f⟨rfl,rfl⟩));go_ret;exact⟨rfl,rfl⟩
 ·rw[Ai (by omega)]
  rw[show decide (8≤x)=rm by simpa using c]at a;clear hw c b;go_enter func341,ntmps341;go_wp2_with(first|(go_at_call 96;refine(a.out _).mono ?_;rintro e f⟨rfl,rfl⟩));go_ret;exact⟨rfl,rfl⟩
def jC(a:Int):Int:=if a=0 then-1 else if a=4 then 1 else 0
theorem LF(a:Int)(w:oZ)(h:a=0∨a=1∨a=4):re prog 305 #[I U a] w fun e b=>e=rC (rG #[I U (jC a),ry rq])∧w=b:=by
 rcases h with rfl|rfl|rfl
 all_goals
  go_enter func305,ntmps305;go_wp2;go_ret2;exact⟨rfl,rfl⟩
section
open Cw (Pr pz)
open Vm (CN)
section
variable {mb:Nat} {V:Vr} {own:Nat→Nat} {w:oZ} {s:St}
variable {k g n cap j:Nat}
theorem CC.ZA(h:CC mb V own w s){a:Pc}(d:s.asked[k]?=Z a)(c:V.ED=Y (Z ⟨g,0,N⟩) n cap)(u:Int):CC mb V own (w.setCell ⟨g,k*3+2,N⟩ (I U u)) {s with asked:=s.asked.set k ⟨a.pre,a.Eg,u⟩}∧Ext own w own (w.setCell ⟨g,k*3+2,N⟩ (I U u)):=by obtain⟨b,e⟩:=h.EL (by decide);rw[c]at b;exact h.JE c (oset (Ds g w) _ _) _ (by rw[c];exact b.put d 2 (by decide) (I U u) ⟨a.pre,a.Eg,u⟩ rfl)
theorem CC.jD(h:CC mb V own w s){a:Pc}(d:s.asked[k]?=Z a)(c:V.ED=Y (Z ⟨g,0,N⟩) n cap)(u:Bool):CC mb V own (w.setCell ⟨g,k*3+1,N⟩ (ry u)) {s with asked:=s.asked.set k ⟨a.pre,u,a.count⟩}∧Ext own w own (w.setCell ⟨g,k*3+1,N⟩ (ry u)):=by obtain⟨b,e⟩:=h.EL (by decide);rw[c]at b;exact h.JE c (oset (Ds g w) _ _) _ (by rw[c];exact b.put d 1 (by decide) (ry u) ⟨a.pre,u,a.count⟩ rfl)
def NR(mb:Nat)(V:Vr)(own:Nat→Nat)(w:oZ)(n j:Nat)(s':St)(t:qY)(wr:oZ):Prop:= ∃(k:Nat)(a:Nat→Nat)(s1:St),k≤n∧t=I U k∧CC mb V a wr s1∧Ext own w a wr∧IE j (n-k) k s1=Z s'
theorem NR.next{s':St}{t:qY}{wr:oZ}{m:Nat}{a:Nat→Nat}{s1:St}(f:k<n)(hm:n-(k+1)=m)(b:t=I U (k+1:Nat))(c:CC mb V a wr s1)(d:Ext own w a wr)(e:IE j m (k+1) s1=Z s'):NR mb V own w n j s' t wr:=⟨k+1,a,s1,by omega,b,c,d,by rw[hm];exact e⟩
theorem CC.bars(h:CC mb V own w s){xb:Nat}{s':St}(l:own xb=22+5*j)(b:NI s j=Z s'):re prog 295 #[ptr mb,ptr xb] w (Da mb V own w unit s'):=by
 unfold NI at b;cases o:s.ms[j]? with
 |none=>rw[o]at b;cases b
 |some y=>
 rw[o]at b;dsimp only at b;obtain⟨L,B3⟩:=h.Hb (y:=y) l o 4;have S:=h.Hm.2.2;have c3:=VP (h.CW l o);have f3:=(h.CW l o).free 3;obtain⟨n1,n2⟩:=h.gT l;have c0:=L.c0;have HL:=Aa L.NG;have z:=h.XC l o;have T:=Aa (Ab L (Ab B3 b));have HX:=Aa (Ab l z);have A:(s.CM j {y with phase:=4}).rings.length=s.rings.length:=rfl;rw[A]at HL;clear h l o b z L B3 A;generalize hn:s.rings.length=n at*
 clear hn;generalize s.CM j {y with phase:=4}=s0 at*
 go_enter func295,ntmps295;go_wp2_with(go_at_call 57;refine HL.out.mono ?_;rintro e B⟨rfl,rfl⟩);generalize w.setCell ⟨xb,3,N⟩ (I U 4)=w0 at*
 clear c0 c3 f3;go_loopw [13] (fun t wr=>NR mb V own w n j s' t wr) (fun t _=>n-(intOf t).toNat)
 case atStart=>exact⟨0,own,s0,Ap _,rfl,T.out.1,T.out.2.1,T.out.2.2⟩
 case round=>
  obtain⟨k,C,s1,hk,rfl,c,r,b⟩:=hrel;by_cases u:k<n
  ·obtain⟨m,hm⟩: ∃m,n-k=m+1:=⟨n-k-1,by omega⟩
   have D:n-(k+1)=m:=by omega
   rw[hm]at b;unfold IE at b;have v:=r.keep HX.out.1 HX.out.2;cases hy:s1.ms[j]? with
   |none=>rw[hy]at b;cases b
   |some x=>
   cases f:s1.asked[k]? with
   |none=>rw[hy,f]at b;cases b
   |some a=>
   rw[hy,f]at b;dsimp only at b;have x1:=Lz (c.CW v hy);obtain⟨g,cap,E,hg,n3,n4,af,a0,a1,a2,f0,f1,f2⟩:=c.ask f;have c7:=c.c7;rw[E]at c7;have q:(k:Int)<(s1.asked.length:Int):=by have:=Cz f;omega
   have c8:=c.c8;have VO:=c.VO;have f19:=c.EX 19;have ag:(k:Int)<(n:Int):=by omega
   have W:=Aa (c.dP k);have X:=Aa D;clear hm D;by_cases d:(k:Int)=x.p∨Cw.FG s1.stat k≠1
   ·rw[Ai d]at b
    obtain⟨F,G⟩:=c.ZA f E (wrap64 (a.count+1));have M:=Aa F;have O:=Aa (r.trans G);have P:=Aa b;have Q:((k:Int)==x.p)=rq∨((k:Int)==x.p)=rm∧(Cw.FG s1.stat k !=1)=true:=by
     by_cases h1:(k:Int)=x.p
     ·exact .inl (by simpa using h1)
     ·exact .inr ⟨by simpa using h1,by simpa using d.resolve_left h1⟩
    generalize Cw.FG s1.stat k=gl at*
    generalize x.p=yp at*
    clear F G c r b v hy f E hg d;rcases Q with Q|⟨Q,aa⟩
    ·go_wp2_with(first|(go_at_call 58;refine W.out.mono ?_;rintro e B⟨rfl,rfl⟩))
     go_roundw
     case rel=>exact NR.next u X.out (by go_num) M.out O.out P.out
     case measure=>simp[intOf];omega
    ·go_wp2_with(first|(go_at_call 58;refine W.out.mono ?_;rintro e B⟨rfl,rfl⟩))
     go_roundw
     case rel=>exact NR.next u X.out (by go_num) M.out O.out P.out
     case measure=>simp[intOf];omega
   ·rw[Ah d]at b
    have Q:((k:Int)==x.p)=false:=by simp only[not_or]at d;simpa using d.1
    have aa:(Cw.FG s1.stat k !=1)=false:=by simp only[not_or,ne_eq,Classical.not_not]at d;simp[d.2]
    cases hw:Ii s1 k with
    |none=>rw[hw]at b;cases b
    |some i=>
    rw[hw]at b;dsimp only at b;obtain⟨s2,hq,b⟩:=bind_some b;obtain⟨F,G⟩:=c.jD f E rq;obtain⟨R,E2⟩:=F.L2 (wrap64 (s1.sc.wait+1));have HW:=Aa (R.Kq (p:=k) (k:=i) hw);have HA:=Aa (R.asks (R.ox i (SH (s:=s1) hw)) hq);have O:=Aa (r.trans (G.trans E2));have P:=Aa b;generalize Cw.FG s1.stat k=gl at*
    generalize x.p=yp at*
    generalize s1.sc.wait=wt at*
    clear F G R E2 c r b v hy f E hg d hw hq;go_wp2_with(first|(go_at_call 58;refine W.out.mono ?_;rintro e B⟨rfl,rfl⟩)|(go_at_call 257;refine HW.out.mono ?_;rintro e B⟨rfl,rfl⟩)|(go_at_call 258;refine HA.out.mono ?_;rintro e B⟨rfl,ae,H,K⟩;have ab:=Aa H;have ad:=Aa (O.out.trans K);clear H K));go_roundw
    case rel=>exact NR.next u X.out (by go_num) ab.out ad.out P.out
    case measure=>simp[intOf];omega
  ·obtain rfl:k=n:=by omega
   rw[Cg]at b;unfold IE at b;simp only[Ak]at b;subst b;have M:=Aa (show Da mb V own w unit s1 (rC unit) wr from⟨rfl,C,c,r⟩);clear c r;go_wp2;go_end0;exact M.out
end
end
open Cw (Pr pz)
open Vm (CN)
section
variable {mb:Nat} {V:Vr} {own:Nat→Nat} {w:oZ} {s:St}
theorem CC.jE(h:CC mb V own w s){xb j:Nat}{s':St}(op a R c n:Int)(hx:own xb=22+5*j)(k:Hp s j op=Z s'):re prog 248 #[ptr mb,ptr xb,.agg #[I U op,I U a,I U R,I U c,I U n]] w (Da mb V own w unit s'):=by
  unfold Hp at k;cases P:s.ms[j]? with
  |none=>rw[P]at k;cases k
  |some y=>
  rw[P]at k;dsimp only at k;replace k:=CQ k;obtain⟨⟨S,ar⟩,k⟩:=k;have T:=(h.xg P).2;obtain⟨i,z⟩: ∃i:Nat,y.g=(i:Int)+1:=⟨(y.g-1).toNat,by omega⟩;rw[z]at S T k;have e2:((i:Int)+1-1).toNat=i:=by omega
  rw[e2]at k;cases X:s.gs[i]? with
  |none=>rw[X]at k;cases k
  |some x=>
  rw[X]at k;dsimp only at k;obtain⟨e1,hb⟩:=h.gp S T;rw[e2]at e1 hb;obtain⟨b,aa⟩: ∃b,V.CP i=b:=⟨_,rfl⟩;rw[aa]at e1 hb;have W:=h.alloc (EE op a R c n);have E0:=(Ext.refl own w).alloc (EE op a R c n);have B0:Cx (w.alloc (EE op a R c n)) w.heap.size #[I U op,I U a,I U R,I U c,I U n] 84:=Cx.new w _ 84;have hL:=h.fresh w.heap.size (Al _);have ab:=W.XC hx P;have ad:=W.eK hb X;obtain⟨u,hu⟩: ∃u,(i:Int)+1=u:=⟨_,rfl⟩;have b0:=Jh W hb X hu;rw[hu]at e1 k z;have RB:=W.RB;have x2:w.cell? ⟨xb,2,N⟩=Z (ptr b):=by rw[←e1,←z];exact RC (h.CW hx P)
  have n0: ¬xb=w.heap.size:=by rintro rfl;omega
  obtain⟨s1,A⟩: ∃s1,s1=({s with owner:=Dc.OD s.owner u,waits:=Dc.OE s.owner s.waits u}:St):=⟨_,rfl⟩;have ae:s1.ms[j]?=Z y:=by rw[A];exact P
  have af:s1.gs[i]?=Z x:=by rw[A];exact X
  rw[←A]at k;have HA:Hid (∀m,re prog 294 #[ptr V.CA,I U u] ((w.alloc (EE op a R c n)).drewN m) (Da mb V own ((w.alloc (EE op a R c n)).drewN m) (rG #[ry (Dc.Ni s.owner u),I U (Dc.YH u)]) s1)):=fun m=>by rw[A];exact(W.drewN m).acquire u (by omega)
  have B:=Aa (Ab W (Ab E0 (Ab B0 hL)));have d:=Aa (Ab hx (Ab ab (Ab hb (Ab ad (Ab ae (Ab af (Ab hu (Ab e1 z))))))));have HH:=Aa h;have HS:=Aa k;have a1:=h.XC hx P;clear h W E0 B0 hL ab ad hx hb P X ae af z S T k ar A hu e1 e2 aa;unfold EE at b0 RB HA B;generalize Dc.YH u=fu at*
  cases Q:Dc.Ni s.owner u with
  |false=>
    rw[Q]at HA HS;go_enter func248,ntmps248;go_wp2;go_region_held3(fun w'=>w'.cell? ⟨mb,12,N⟩=Z (ptr V.CA)∧w'.cell? ⟨b,0,N⟩=Z (I U u)) (go_keep) (first|(go_at_call 294;refine(HA.out 1).mono ?_;rintro e w1⟨rfl,o1,l,q⟩;have eL:=l.RB;have k0:w1.cell? ⟨b,0,N⟩=Z (I U u):=Jh l (q.keep d.out.2.2.1 d.out.2.2.2.1) d.out.2.2.2.2.2.1 d.out.2.2.2.2.2.2.1;have K:=Aa l;have r:=Aa (((Ext.refl own _).drewN 1).trans q);clear l q))
    all_goals
      have L:=r.out.keep d.out.1 d.out.2.1;have C:=r.out.keep d.out.2.2.1 d.out.2.2.2.1;obtain⟨a6,f16⟩:=K.out.Zb C d.out.2.2.2.2.2.1;obtain⟨o,D⟩:=K.out.L8 C d.out.2.2.2.2.2.1 rq;have HO:=Aa (o.off L (y:=y) d.out.2.2.2.2.1);rw[d.out.2.2.2.2.2.2.2.2,d.out.2.2.2.2.2.2.2.1]at HO;have t:=Aa (r.out.trans D);have E:((s1.CH i {x with CA:=rq}).CM j {y with g:=0,phase:=1}).gs[i]?=Z {x with CA:=rq}:=EY (Cz d.out.2.2.2.2.2.1);have ag:=Aa E;have f:=HS.out;rw[Ah (by decide)]at f;unfold Gf at f;rw[show(s1.CH i {x with CA:=rq}).ms[j]?=Z y from d.out.2.2.2.2.1]at f;dsimp only at f;rw[d.out.2.2.2.2.2.2.2.2,Ai (by have:=d.out.2.2.2.2.2.2.1;omega),show(u-1).toNat=i by have:=d.out.2.2.2.2.2.2.1;omega]at f;simp only[BA,Ak]at f;have au:=Aa f;clear f E o D L HS;go_wp2_with(first|(go_at_call 183;refine HO.out.mono ?_;rintro e w2⟨rfl,o2,F,G⟩;have ah:=Aa (t.out.trans G);have av:=Aa F;clear F G)|(go_at_call 116;refine(av.out.is (ah.out.keep d.out.2.2.1 d.out.2.2.2.1) ag.out 4 (by decide) (by decide)).mono ?_;rintro e w3⟨rfl,o3,p,H⟩;rw[←GK ag.out,au.out]at p;have ai:=Aa p;have v:=Aa (ah.out.trans H);clear p H));go_end0;exact⟨rfl,o3,ai.out,B.out.2.1.trans v.out⟩
  |true=>
    rw[Q]at HA HS;have f:=HS.out;rw[Ai rfl]at f;unfold Kk at f;rw[d.out.2.2.2.2.2.1]at f;dsimp only[Option.bind_some]at f;obtain⟨s2,M⟩: ∃s2,s2=s1.CO {s1.sc with kind:=1,eg:=(i:Int)+1,JW:=x.fn,JX:=x.Dt,en:=0,seen:=rq}:=⟨_,rfl⟩;have E:s2.gs[i]?=Z x:=by rw[M];exact d.out.2.2.2.2.2.1
    rw[←M]at f;have hc:((op==19)=rq∧NI ((s2.CH i {x with begun:=rq}).CO {s2.sc with wait:=0}) j=Z s')∨((op==19)=rm∧KU ((s2.CH i {x with begun:=rq}).CO {s2.sc with wait:=0}) j=Z s'):=by
      by_cases O:op=19
      ·rw[Ai O]at f;exact .inl ⟨by simpa using O,f⟩
      ·rw[Ah O]at f;exact .inr ⟨by simpa using O,f⟩
    clear f;rcases hc with⟨hd,f⟩|⟨hd,f⟩
    all_goals
     have H2:=Aa (Ab E (Ab f M));clear f M E HS;go_enter func248,ntmps248;go_wp2;go_region_held3(fun w'=>w'.cell? ⟨mb,12,N⟩=Z (ptr V.CA)∧w'.cell? ⟨b,0,N⟩=Z (I U u)) (go_keep) (first|(go_at_call 294;refine(HA.out 1).mono ?_;rintro e w1⟨rfl,o1,l,q⟩;have eL:=l.RB;have k0:w1.cell? ⟨b,0,N⟩=Z (I U u):=Jh l (q.keep d.out.2.2.1 d.out.2.2.2.1) d.out.2.2.2.2.2.1 d.out.2.2.2.2.2.2.1;have K:=Aa l;have r:=Aa (((Ext.refl own _).drewN 1).trans q);clear l q))
     all_goals
       have L:=r.out.keep d.out.1 d.out.2.1;have C:=r.out.keep d.out.2.2.1 d.out.2.2.2.1;have aj:=Aa (K.out.see 1 C d.out.2.2.2.2.2.1 0);rw[←H2.out.2.2]at aj;clear C L;go_wp2_with(first|(go_at_call 260;refine aj.out.mono ?_;rintro e w2⟨rfl,o2,o,D⟩;have t:=Aa (r.out.trans D);have a7:=o.VO;have ay:=o.EX 19;obtain⟨a8,az⟩:=o.Uk (t.out.keep d.out.2.2.1 d.out.2.2.2.1) H2.out.1;obtain⟨F,G⟩:=o.Qr (t.out.keep d.out.2.2.1 d.out.2.2.2.1) H2.out.1 rq;obtain⟨p,H⟩:=F.L2 0;obtain⟨ba,bb⟩:=o.eM (t.out.keep d.out.2.2.1 d.out.2.2.2.1);have v:=Aa (t.out.trans (G.trans H));have p0:=(Er B.out.2.2.1 B.out.2.2.2 v.out).cell 0;simp only[Ad,Ac]at p0;have ai:=Aa p;(first|have ak:=Aa (p.bars (v.out.keep d.out.1 d.out.2.1) H2.out.2.1)|have ak:=Aa (p.stops (v.out.keep d.out.1 d.out.2.1) H2.out.2.1));clear o D F G p H)|((first|go_at_call 296|go_at_call 295);refine ak.out.mono ?_;rintro e w3⟨rfl,o3,ao,aq⟩;have aw:=Aa ao;have ax:=Aa (v.out.trans aq);clear ao aq));go_end0;exact⟨rfl,o3,aw.out,B.out.2.1.trans ax.out⟩
end
end Go.Proofs.YtgadhchejmlfjaaGreatDoor.CX
