/- A part of the proof. -/
import Derived.Test.YtgadhchejmlfjaaGreatDoorB0
set_option linter.unusedVariables false
set_option maxRecDepth 20000
set_option maxHeartbeats 16000000
open Go.Value renaming int→I,pointer→J,slice→Y
open Go.IntKind renaming i64→U
open Option renaming none→N,some→Z
open Bool renaming false→rm,true→rq
open Go renaming Calls→re,Value→qY,World→oZ
open Go.Ending renaming returned→rC
open Go.RowKit renaming Below→qZ
open Go.RowKit.Below renaming refl→rf
open Go.Value renaming bool→ry
open Go.World renaming setCell→rh
namespace Go.Proofs.YtgadhchejmlfjaaGreatDoor.CX
open Go.Proofs.Tryz Go.RowKit Go.CL
open Cw (Pr pz)
open Vm (CN)
section
variable {y mb b i g n cap:Nat} {V:Vr} {own C6:Nat→Nat} {w w':oZ} {s:St} {l:List Pc} {a:Pc}
abbrev unit:Value:=.tuple #[]
theorem DY.drew(h:DY y mb V own w s):DY y mb V own w.drew s:=h.below ⟨rfl,rfl,rfl,Al _,fun _ _=>rfl⟩
theorem DY.drewN(h:DY y mb V own w s)(n:Nat):DY y mb V own (w.drewN n) s:=h.below ⟨rfl,rfl,rfl,Al _,fun _ _=>rfl⟩
theorem Ep{P:Program}{f:Nat}{a:Array qY}{v:qY}(h:re P f a w fun e w'=>e=rC v∧w=w'):re P f a w fun e w'=>e=rC v∧w'=w:=h.mono fun e w' h=>⟨h.1,h.2.symm⟩
theorem Ext.drew(h:Ext own w C6 w'):Ext own w C6 w'.drew:=h.trans (Ext.below ⟨rfl,rfl,rfl,Al _,fun _ _=>rfl⟩)
theorem CC.drew(h:CC mb V own w s):CC mb V own w.drew s:=DY.drew h
theorem CC.drewN(h:CC mb V own w s)(n:Nat):CC mb V own (w.drewN n) s:=DY.drewN h n
theorem CC.below(h:CC mb V own w s)(a:qZ w.heap.size w w'):CC mb V own w' s:=DY.below h a
theorem CC.loc{S:Nat→Prop}(h:CC mb V own w s)(o:Cv S w w')(a: ∀j,S j→own j=0):CC mb V own w' s:=DY.loc h o a
theorem CC.alloc(h:CC mb V own w s)(o:Obj):CC mb V own (w.alloc o) s:=DY.below h (Ct (rf _ _) o)
theorem Ext.alloc(h:Ext own w C6 w')(o:Obj):Ext own w C6 (w'.alloc o):=h.trans (Ext.below (Ct (rf _ _) o))
theorem Ext.drewN(h:Ext own w C6 w')(n:Nat):Ext own w C6 (w'.drewN n):=h.trans (Ext.below ⟨rfl,rfl,rfl,Al _,fun _ _=>rfl⟩)
theorem oset{a:oZ}(h:Cv (fun j=>j=b) a w) (i:Nat) (u:qY):Cv (fun j=>j=b) a (w.setCell ⟨b,i,N⟩ u):=h.set (.inr rfl) i u
theorem Ds(b:Nat)(w:oZ):Cv (fun j=>j=b) w w:=Cv.refl _ w
theorem Y1{x t:Int}(h:D4.Dm x)(t1:1≤t)(t6:t≤6):D4.Dm (Hn x t):=by
 have a:t=1∨t=2∨t=3∨t=4∨t=5∨t=6:=by omega
 have key: ∀x∈([0,1,2,3,4,5,6,9,11,12,13]:List Int),∀t∈([1,2,3,4,5,6]:List Int),Hn x t∈([0,1,2,3,4,5,6,9,11,12,13]:List Int):=by decide+kernel
 have b:x∈([0,1,2,3,4,5,6,9,11,12,13]:List Int):=by simpa[D4.Dm]using h
 have:=key x b t (by simpa using a);simpa[D4.Dm]using this
def pV(b i:Nat)(sv:qY)(x:G)(w:oZ)(e:Ending)(w':oZ):Prop:=e=rC unit∧Cx w' b (Du i sv x) 130∧Cv (fun j=>j=b) w w'
theorem Y2(b i:Nat)(sv:qY)(x:G)(t:Int)(w:oZ)(d:Cx w b (Du i sv x) 130)(hw:D4.Dm x.word)(t1:1≤t)(t6:t≤6):re prog 116 #[ptr b,I U t] w (pV b i sv {x with word:=Hn x.word t} w):=by
 have c1:=lC d;have f1:=d.free 1;have n:=d.lt;have h:=Aa (fun w=>D4.YI x.word t w hw t1 t6);have g:=Aa d;unfold Hn;clear d hw t1 t6;by_cases c:D4.Lt x.word t=0
 ·rw[Ai c]
  have m:D4.Ub x.word t=D4.NC x.word t:=by unfold D4.Ub;rw[Ai c]
  rw[m,c]at h;clear c m;generalize D4.NC x.word t=u at*
  go_enter func116,ntmps116;go_wp2_with(go_at_call 170;refine(h.out _).mono ?_;rintro e o⟨rfl,a⟩;obtain⟨k,l⟩:=Ft a;have f:=Aa a;clear a);go_end0;exact⟨rfl,VR (g.out.below f.out g.out.lt) u,((Cv.refl (fun j=>j=b) w).below f.out).set (.inr rfl) _ _⟩
 ·rw[Ah c]
  have p:(D4.Lt x.word t==0)=false:=by simpa using c
  generalize D4.Lt x.word t=u at*
  clear c;go_enter func116,ntmps116;go_wp2_with(go_at_call 170;refine(h.out _).mono ?_;rintro e o⟨rfl,a⟩;obtain⟨k,l⟩:=Ft a;have f:=Aa a;clear a);go_end0;exact⟨rfl,g.out.below f.out g.out.lt,(Cv.refl (fun j=>j=b) w).below f.out⟩
section
theorem Dx(o:Cv (fun j=>j=b) w w') (a:own b≠0∧own b≠14):Ext own w own w':=Ext.loc o (fun j c _=>by rw[show j=b from c];exact a)
theorem CC.is(h:CC mb V own w s){x:G}(d:own b=20+5*i)(c:s.gs[i]?=Z x)(t:Int)(t1:1≤t)(t6:t≤6):re prog 116 #[ptr b,I U t] w (Da mb V own w unit (s.CH i {x with word:=Hn x.word t})):=by obtain⟨k,f,g,l,m⟩:=h.Hi d c;refine(Y2 b i g x t w l f t1 t6).mono ?_;rintro e w'⟨rfl,n,j⟩;have a:=h.cA d c;refine⟨rfl,own,h.VK (Cz c) (by rw[←a];exact j) _ ⟨k,Y1 f t1 t6,g,by rw[←a];exact n,m⟩,Dx j (by omega)⟩
theorem CC.Ko(h:CC mb V own w s){x:G}(a:own b=20+5*i)(c:s.gs[i]?=Z x):re prog 193 #[ptr b] w fun e w'=>e=rC (ry (decide (8≤x.word)))∧w=w':=by
 obtain⟨g,d,l,f,j⟩:=h.Hi a c;have c1:=lC f;have k:=Aa (fun w=>D4.FB x.word w d);clear h a c g d f j;generalize decide (8≤x.word)=u at*
 go_enter func193,ntmps193;go_wp2_with(go_at_call 96;refine(k.out _).mono ?_;rintro e m⟨rfl,rfl⟩);go_ret;exact⟨rfl,rfl⟩
theorem eD(gb:Nat→Nat)(xb j:Nat)(y:M1)(w:oZ)(a:Cx w xb (C8 gb j y) 125):re prog 183 #[ptr xb] w fun e w'=>e=rC (Eb gb y.g)∧w'=(w.setCell ⟨xb,2,N⟩ (J N)).setCell ⟨xb,3,N⟩ (I U 1):=by
 have b:=RC a;have c3:=VP a;have f2:=a.free 2;have f3:=a.free 3;clear a;generalize Eb gb y.g=u at*
 go_enter func183,ntmps183;go_wp2;go_ret;exact⟨rfl,rfl⟩
theorem CC.off(h:CC mb V own w s){xb j:Nat}{y:M1}(c:own xb=22+5*j)(a:s.ms[j]?=Z y):re prog 183 #[ptr xb] w (Da mb V own w (Eb V.CP y.g) (s.CM j {y with g:=0,phase:=1})):=by have d:=h.CW c a;refine(eD V.CP xb j y w d).mono ?_;rintro e w'⟨rfl,rfl⟩;have b:=h.bZ c a;subst b;refine⟨rfl,own,h.Nj (Cz a) (oset (oset (Ds _ w) _ _) _ _) _ ⟨Zag 0,Zay _⟩ (MI (Y0 d) 1),Dx (oset (oset (Ds _ w) _ _) _ _) (by omega)⟩
theorem CC.gp(h:CC mb V own w s){id:Int}(a:1≤id)(b:id≤s.gs.length):Eb V.CP id=ptr (V.CP (id-1).toNat)∧own (V.CP (id-1).toNat)=20+5*(id-1).toNat:=by refine⟨?_,h.og _ (by omega)⟩;unfold Eb;rw[Ah (by omega)]
theorem G8.at{v:qY}(h:G8 w v l)(e:l[i]?=Z a): ∃g cap,v=Y (Z ⟨g,0,N⟩) l.length cap∧g<w.heap.size∧w.cell? ⟨g,i*3,N⟩=Z (ry a.pre)∧w.cell? ⟨g,i*3+1,N⟩=Z (ry a.Eg)∧w.cell? ⟨g,i*3+2,N⟩=Z (I U a.count)∧w.frozen? ⟨g,i*3,N⟩=rm∧w.frozen? ⟨g,i*3+1,N⟩=rm∧w.frozen? ⟨g,i*3+2,N⟩=false:=by
 obtain⟨g,cap,cs,rfl,b,o,p,q,r,m⟩:=h;have c:=Cz e;have d: ∀k,k<l.length*3→w.cell? ⟨g,k,N⟩=(EN l)[k]?:=fun k n=>by rw[b.cell,←m,AK n,AW]
 obtain⟨e0,f,j⟩:=OH l i c;rw[e]at e0 f j;exact⟨g,cap,rfl,b.lt,(d _ (by omega)).trans e0,(d _ (by omega)).trans f,(d _ (by omega)).trans j,b.free _,b.free _,b.free _⟩
theorem Qi(l:List Pc)(x:Pc): ∀i,i<l.length→EN (l.set i x)=(((EN l).set (i*3) (ry x.pre)).set (i*3+1) (ry x.Eg)).set (i*3+2) (I U x.count):=by
 induction l with
 |nil=>intro i a;simp at a
 |cons y l b=>
  intro i a;cases i with
  |zero=>simp[EN]
  |succ i=>have h:=b i (by simpa using a);rw[BZ,EN,h,show(i+1)*3=(i*3)+1+1+1 by omega];simp[EN]
theorem VT(b:l[i]?=Z a):(((EN l).set (i*3) (ry a.pre)).set (i*3+1) (ry a.Eg)).set (i*3+2) (I U a.count)=EN l:=by
 rw[←Qi l a i (Cz b)];congr 1;apply BC;intro k;rw[As];by_cases e:i=k
 ·subst e;rw[Ai rfl,Ai (Cz b),b]
 ·simp[e]
theorem G8.put(h:G8 w (Y (Z ⟨g,0,N⟩) n cap) l)(j:l[i]?=Z a)(k:Nat)(y:k<3)(u:qY)(a':Pc)(b: [ry a'.pre,ry a'.Eg,I U a'.count]=[ry a.pre,ry a.Eg,I U a.count].set k u):G8 (w.setCell ⟨g,i*3+k,N⟩ u) (Y (Z ⟨g,0,N⟩) n cap) (l.set i a'):=by
 obtain⟨z,m,cs,he,o,p,q,r,s,t⟩:=h;simp only[Ar,Ak,BF]at he;obtain⟨⟨rfl,_⟩,rfl,rfl⟩:=he;have e:=Cz j;refine⟨g,cap,_,by rw[AV],o.set (i*3+k) u,by rw[AV];exact p,by simpa using q,by simpa using r,by rw[AV];simpa using s,?_⟩;rw[AV,Qi l a' i e];have v:=VT j;have x:(cs.setIfInBounds (i*3+k) u).toList.take (l.length*3)=(EN l).set (i*3+k) u:=by rw[←t];simp[Zca]
 rw[x];have f:k=0∨k=1∨k=2:=by omega
 rw[←v];rcases f with rfl|rfl|rfl
 ·simp only[Bj,Zbe,and_true]at b
  obtain⟨rfl,c,d⟩:=b;rw[c,d];simp[List.set_comm]
 ·simp only[BZ,Bj,Zbe,and_true]at b
  obtain⟨c,rfl,d⟩:=b;rw[c,d];simp[List.set_comm]
 ·simp only[BZ,Bj,Zbe,and_true]at b
  obtain⟨c,d,rfl⟩:=b;rw[c,d];simp[List.set_comm]
theorem CC.ask(h:CC mb V own w s){p:Nat}(c:s.asked[p]?=Z a): ∃g cap,V.ED=Y (Z ⟨g,0,N⟩) s.asked.length cap∧own g=4∧ ¬g=mb∧ ¬mb=g∧g<w.heap.size∧w.cell? ⟨g,p*3,N⟩=Z (ry a.pre)∧w.cell? ⟨g,p*3+1,N⟩=Z (ry a.Eg)∧w.cell? ⟨g,p*3+2,N⟩=Z (I U a.count)∧w.frozen? ⟨g,p*3,N⟩=rm∧w.frozen? ⟨g,p*3+1,N⟩=rm∧w.frozen? ⟨g,p*3+2,N⟩=false:=by obtain⟨d,e⟩:=h.EL (by decide);obtain⟨g,cap,b,r⟩:=d.at c;have f:own g=4:=e g (by rw[b];rfl);have hm:=h.om;exact⟨g,cap,b,f,by rintro rfl;omega,by rintro rfl;omega,r⟩
theorem CC.JE(h:CC mb V own w s)(b:V.ED=Y (Z ⟨g,0,N⟩) n cap)(o:Cv (fun j=>j=g) w w') (l:List Pc) (c:G8 w' V.ED l):CC mb V own w' {s with asked:=l}∧Ext own w own w':=by obtain⟨f,a⟩:=h.EL (by decide);have d:own g=4:=a g (by rw[b];rfl);exact⟨(h.Kf (x:=4) (.inl rfl) o (fun j e=>by rw[show j=g from e,d];rfl) (by decide)).JE l ⟨c,a⟩,Dx o (by omega)⟩
theorem CC.LA(h:CC mb V own w s)(o:Cv (fun j=>j=mb) w w') (c:Sc) (a:0≤c.CD∧c.CD≤s.gs.length) (b:Cx w' mb (Dz V c) 121):CC mb V own w' (s.CO c)∧Ext own w own w':=⟨(h.Kf (x:=1) (.inl rfl) o (fun j d=>by rw[show j=mb from d,h.om];rfl) (by decide)).nV c a b,Dx o (by rw[h.om];decide)⟩
end
end
section
variable {p:Int} {k mb xb j:Nat} {w:oZ} {tmps:Array qY}
theorem CQ{α:Type}{c:Prop} [Decidable c]{a:Option α}{x:α}(h:(if c then a else N)=Z x):c∧a=Z x:=by
 by_cases b:c
 ·rw[Ai b]at h;exact⟨b,h⟩
 ·rw[Ah b]at h;cases h
section
variable {V:Vr} {own:Nat→Nat} {s:St}
theorem CC.serve(h:CC mb V own w s){s':St}(b:Ho s p=Z s'):re prog 171 #[ptr mb,I U p] w (Da mb V own w unit s'):=by
 unfold Ho at b;obtain⟨o,b⟩:=CQ b;obtain⟨k,rfl⟩: ∃k:Nat,p=k:=⟨p.toNat,by omega⟩;rw[An]at b;cases c:s.asked[k]? with
 |none=>rw[c]at b;cases b
 |some a=>
  rw[c]at b;simp only[Ak]at b;subst b;obtain⟨g,cap,e,r,B,C,t,a0,D,a2,f0,f1,f2⟩:=h.ask c;have c7:=h.c7;rw[e]at c7;have VO:=h.VO;have fm:=h.EX 19;have q:(k:Int)<(s.asked.length:Int):=by have:=Cz c;omega
  have l:=Aa h;have m:=Aa c;have f:=Aa e;have u:=h.Nc;clear h c e o r;go_enter func171,ntmps171;go_wp2;go_end0;obtain⟨d,v⟩:=l.out.EL (by decide);rw[f.out]at d;have E:({a with Eg:=rm}:Pc)=⟨a.pre,rm,a.count⟩:=rfl;have x:=d.put m.out 1 (by decide) (ry rm) ⟨a.pre,rm,a.count⟩ rfl;have n:=x.put (i:=k) (a:=⟨a.pre,rm,a.count⟩) (by rw[As];simp;exact Cz m.out) 2 (by decide) (I U (wrap64 (a.count+1))) ⟨a.pre,rm,wrap64 (a.count+1)⟩ rfl;rw[List.set_set]at n;obtain⟨j,y⟩:=l.out.JE f.out (oset (oset (Ds g w) _ _) _ _) _ (by rw[f.out];exact n);obtain⟨z,A⟩:=j.LA (oset (Ds mb _) _ _) {s.sc with wait:=wrap64 (s.sc.wait-1)} j.hold (NK j.D2 _);exact⟨rfl,own,z,y.trans A⟩
theorem CC.SC(h:CC mb V own w s)(b:k<s.ms.length): ∃g cap,V.Mz=Y (Z ⟨g,0,N⟩) s.ms.length cap∧w.cell? ⟨g,k,N⟩=Z (ptr (V.DP k))∧g<w.heap.size∧own g=3:=by
 obtain⟨c,d⟩:=h.LO (by decide);rcases c.open with⟨_,i⟩|⟨g,cap,a,_,e,_,f⟩
 ·omega
 ·exact⟨g,cap,a,by rw[f k (by omega),Uc _ _ _ b],e,d g (by rw[a];rfl)⟩
theorem CC.grow(h:CC mb V own w s)(b:k<s.gs.length): ∃g cap,V.Lu=Y (Z ⟨g,0,N⟩) s.gs.length cap∧w.cell? ⟨g,k,N⟩=Z (ptr (V.CP k))∧g<w.heap.size∧own g=2:=by
 obtain⟨c,d⟩:=h.LN (by decide);rcases c.open with⟨_,i⟩|⟨g,cap,a,_,e,_,f⟩
 ·omega
 ·exact⟨g,cap,a,by rw[f k (by omega),Uc _ _ _ b],e,d g (by rw[a];rfl)⟩
theorem CC.kF(h:CC mb V own w s): ∃a cap,V.Mz= .slice a s.ms.length cap:=by
 obtain⟨c,e⟩:=h.LO (by decide);rcases c.open with⟨b,d⟩|⟨g,cap,b,_⟩
 ·exact⟨N,0,by rw[b,d]⟩
 ·exact⟨_,cap,b⟩
theorem CC.nv(h:CC mb V own w s): ∃a cap,V.Lu= .slice a s.gs.length cap:=by
 obtain⟨c,e⟩:=h.LN (by decide);rcases c.open with⟨b,d⟩|⟨g,cap,b,_⟩
 ·exact⟨N,0,by rw[b,d]⟩
 ·exact⟨_,cap,b⟩
theorem SD{c:Sc}(h:Cx w mb (Dz V c) 121)(k u f p n:Int):Cx ((((((w.setCell ⟨mb,21,N⟩ (I U k)).setCell ⟨mb,22,N⟩ (I U u)).setCell ⟨mb,23,N⟩ (I U f)).setCell ⟨mb,24,N⟩ (I U p)).setCell ⟨mb,25,N⟩ (I U n)).setCell ⟨mb,26,N⟩ (ry rq)) mb (Dz V {c with kind:=k,eg:=u,JW:=f,JX:=p,en:=n,seen:=rq}) 121:=(((((h.set 21 (I U k)).set 22 (I U u)).set 23 (I U f)).set 24 (I U p)).set 25 (I U n)).set 26 (ry rq)
theorem eE{W:oZ}{s':St}(R:CC mb V own W s')(E:Ext own w own W):bodyPost prog f260 (Da mb V own w unit s') Exit.normal {tmps:=tmps,defers:=[]} W.drew:=by have a:=R.drew;have b:=E.drew;go_end0;exact⟨rfl,own,a,b⟩
theorem eF{k u n f:Int}(h:CC mb V own w s):bodyPost prog f260 (Da mb V own w unit (s.CO {s.sc with kind:=k,eg:=u,JW:=f,JX:=p,en:=n,seen:=rq})) Exit.normal {tmps:=tmps,defers:=[]}
  ((((((w.setCell ⟨mb,21,N⟩ (I U k)).setCell ⟨mb,22,N⟩ (I U u)).setCell ⟨mb,23,N⟩ (I U f)).setCell ⟨mb,24,N⟩ (I U p)).setCell ⟨mb,25,N⟩ (I U n)).setCell ⟨mb,26,N⟩ (ry rq)).drew:=by
 have a:=oset (oset (oset (oset (oset (oset (Ds mb w) 21 (I U k)) 22 (I U u)) 23 (I U f)) 24 (I U p)) 25 (I U n)) 26 (ry rq);obtain⟨R,E⟩:=h.LA a {s.sc with kind:=k,eg:=u,JW:=f,JX:=p,en:=n,seen:=rq} h.hold (SD h.D2 k u f p n);exact eE R E
theorem CC.see(h:CC mb V own w s)(k:Int){b i:Nat}{x:G}(c:own b=20+5*i)(d:s.gs[i]?=Z x)(n:Int):re prog 260 #[ptr mb,I U k,ptr b,I U n] w (Da mb V own w unit (s.CO {s.sc with kind:=k,eg:=(i:Int)+1,JW:=x.fn,JX:=x.Dt,en:=n,seen:=rq})):=by
 obtain⟨e,f,l,a,g⟩:=h.Hi c d;have g0:=kE a;have g2:=pT a;have g3:=pU a;have ev:=h.ev;have ew:=h.ew;have eA:=h.eA;have YZ:=h.YZ;have eB:=h.eB;have eC:=h.eC;have f21:=h.EX 21;have f22:=h.EX 22;have f23:=h.EX 23;have f24:=h.EX 24;have f25:=h.EX 25;have f26:=h.EX 26;have j:=Aa h;clear h e f a g c d;generalize hu:(i:Int)+1=u at*
 have m:=Aa hu;clear hu;go_enter func260,ntmps260;go_wp2;go_region
 all_goals exact eF j.out
theorem CC.Kq(h:CC mb V own w s)(b:Ii s p=Z k):re prog 257 #[ptr mb,I U p] w fun e m=>e=rC (ptr (V.DP k))∧w=m:=by
 unfold Ii at b;obtain⟨⟨f,i⟩,b⟩:=CQ b;simp only[Ak]at b;obtain⟨c,d⟩: ∃c:Nat,Cw.Ic s.stat p=c:=⟨(Cw.Ic s.stat p).toNat,by omega⟩;have j:=Aa (h.jc p);rw[d]at f i b j;obtain rfl:c=k:=by omega
 have a:c<s.ms.length:=by omega
 obtain⟨g,cap,l,n,o,_⟩:=h.SC a;have c6:=h.c6;rw[l]at c6;have c8:=h.c8;have r:decide (c<s.ms.length)=true:=by simpa using a
 have q:(c:Int)<(s.ms.length:Int):=by omega
 clear h l d f i b a;go_enter func257,ntmps257;go_wp2_with(go_at_call 59;refine j.out.mono ?_;rintro e t⟨rfl,rfl⟩);go_ret;exact⟨rfl,rfl⟩
theorem CC.Y3(h:CC mb V own w s)(b:Ii s p=N):re prog 257 #[ptr mb,I U p] w fun e k=>e=rC (J N)∧w=k:=by
 unfold Ii at b;have f:=Aa (h.jc p);have c8:=h.c8;have c6:=h.c6;obtain⟨a,cap,g⟩:=h.kF;rw[g]at c6;by_cases c:0≤Cw.Ic s.stat p
 ·by_cases i:Cw.Ic s.stat p<s.ms.length
  ·rw[Ai ⟨c,i⟩]at b;cases b
  ·obtain⟨j,d⟩: ∃j:Nat,Cw.Ic s.stat p=j:=⟨(Cw.Ic s.stat p).toNat,by omega⟩
   rw[d]at c i f;have l:decide (j<s.ms.length)=false:=by simp;omega
   clear h g d c i b;go_enter func257,ntmps257;go_wp2_with(go_at_call 59;refine f.out.mono ?_;rintro e m⟨rfl,rfl⟩);go_ret;exact⟨rfl,rfl⟩
 ·have l:decide (0≤Cw.Ic s.stat p)=false:=by simpa using c
  clear h g c b;generalize Cw.Ic s.stat p=u at*
  go_enter func257,ntmps257;go_wp2_with(go_at_call 59;refine f.out.mono ?_;rintro e m⟨rfl,rfl⟩);go_ret;exact⟨rfl,rfl⟩
theorem CC.free(h:CC mb V own w s):re prog 298 #[ptr mb] w fun e c=>e=rC (I U (GI s))∧ ∃n,c=w.drewN n:=by
 have d:=Aa (fun m=>Ep (h.drewN m).nZ);have Ui:=h.Ui;have c4:=h.c4;have c6:=h.c6;obtain⟨a,cap,b⟩:=h.kF;rw[b]at c6;unfold GI;clear h b;generalize s.CK.length=f at*
 generalize s.ms.length=g at*
 generalize s.sc.Ga=n3 at*
 go_enter func298,ntmps298;go_wp2;go_quiet((go_at_call 262;exact BG (d.out _)))
 go_wp2;go_ret;exact⟨rfl,_,rfl⟩
theorem lE{y:M1}{gb:Nat→Nat}(h:Cx w xb (C8 gb j y) 125):Cx ((((w.setCell ⟨xb,1,N⟩ (I U (-1))).setCell ⟨xb,2,N⟩ (J N)).setCell ⟨xb,3,N⟩ (I U 0)).setCell ⟨xb,4,N⟩ (ry rm)) xb (C8 gb j {y with p:= -1,g:=0,phase:=0,CR:=rm}) 125:=(((h.set 1 (I U (-1))).set 2 (J N)).set 3 (I U 0)).set 4 (ry rm)
theorem CC.VU(h:CC mb V own w s){s':St}(f:own xb=22+5*j)(b:Gc s j=Z s'):re prog 174 #[ptr mb,ptr xb] w (Da mb V own w unit s'):=by
 unfold Gc at b;cases c:s.ms[j]? with
 |none=>rw[c]at b;cases b
 |some y=>
  rw[c]at b;simp only[Ak]at b;subst b;have a:=h.CW f c;have i:=h.bZ f c;subst i;have c0:=nk a;have c1:=Lz a;have t:=RC a;have c3:=VP a;have c4:=nt a;have f1:=a.free 1;have f2:=a.free 2;have f3:=a.free 3;have f4:=a.free 4;have m10:=h.Ui;obtain⟨u,v⟩:=h.gT f;have k:=oset (oset (oset (oset (Ds (V.DP j) w) 1 (I U (-1))) 2 (J N)) 3 (I U 0)) 4 (ry rm);have R:=h.Nj (Cz c) k {y with p:= -1,g:=0,phase:=0,CR:=rm} ⟨Zag 0,Zay _⟩ (lE a);have n:=Aa (Dx k (by omega:own (V.DP j)≠0∧own (V.DP j)≠14));have o:=Aa (R.drew.nX j);clear h a c f R k;go_enter func174,ntmps174;go_wp2;go_region_with (first|(go_at_call 48;refine o.out.mono ?_;rintro e q⟨rfl,d,l,m⟩;have r:Hid (Da mb V own w unit _ (rC unit) q):=⟨rfl,d,l,(n.out.drew).trans m⟩;clear l m))
  all_goals
   go_end0;exact r.out
end
end
section
section
variable {mb:Nat} {V:Vr} {own:Nat→Nat} {w:oZ} {s:St}
theorem CC.asks(h:CC mb V own w s){xb j:Nat}{s':St}(o:own xb=22+5*j)(b:GH s j=Z s'):re prog 258 #[ptr mb,ptr xb] w (Da mb V own w unit s'):=by
 unfold GH at b;cases m:s.ms[j]? with
 |none=>rw[m]at b;cases b
 |some y=>
  rw[m]at b;obtain⟨f,b⟩:=CQ b;have x:=h.CW o m;have c0:=nk x;have c1:=Lz x;have m15:=h.kD;have m17:=h.YY;have m13:=h.kC;obtain⟨R,S⟩:=h.gT o;have i:=fun(w:oZ)=>Sd.L1 s.sc.Ey 65 w (by decide);have HMod:=Aa i;clear i;by_cases p:y.p= -1
  ·rw[Ai p]at b
   simp only[Ak]at b;subst b;have O:(y.p != -1)=false:=by simp[p]
   have z:=Aa (fun due=>h.drew.send j f due);have A:=Aa (Ext.refl own w).drew;clear h x m o p;go_enter func258,ntmps258;go_wp2;refine wp_region_still_tail 19 (by kernel_rfl) (by kernel_rfl) ?_;simp only[Zba,Zbj,Zby,Za5];repeat still_step
   still_call (Ep (HMod.out _))
   repeat still_step
   refine wpStill_nil ?_;change wpList _ _ _ _ _ (World.drew _);go_wp2_with(go_at_call 311;refine(z.out _).mono ?_;rintro e B⟨⟨r,rfl⟩,c,t,u⟩;have C:Hid (Da mb V own w unit _ (rC unit) B):=⟨rfl,c,t,A.out.trans u⟩;clear t u);go_end0;exact C.out
  ·rw[Ah p]at b
   obtain⟨D,b⟩:=CQ b;obtain⟨k,E⟩: ∃k:Nat,y.p=k:=⟨y.p.toNat,by omega⟩;rw[E,An]at b;cases n:s.asked[k]? with
   |none=>rw[n]at b;cases b
   |some a=>
    rw[n]at b;simp only[Ak]at b;subst b;obtain⟨g,cap,v,T,n3,n4,F,a0,P,a2,f0,f1,f2⟩:=h.ask n;rw[E]at c1;have c7:=h.c7;rw[v]at c7;have O:((k:Int) != -1)=true:=by simp
    have q:(k:Int)<(s.asked.length:Int):=by have:=Cz n;omega
    have Q: ¬xb=g:=by rintro rfl;omega
    have n6: ¬g=xb:=fun e=>Q e.symm;obtain⟨l,G⟩:=h.EL (by decide);rw[v]at l;have H:=l.put n 0 (by decide) (ry rq) ⟨rq,a.Eg,a.count⟩ rfl;rw[Zb3]at H;obtain⟨K,L⟩:=h.JE v (oset (Ds g w) _ _) _ (by rw[v];exact H);have d:=Aa K.drew;have A:=Aa L.drew.drew;have M:=Aa (Ab o m);clear h x m o p n v l G H K L E D;go_enter func258,ntmps258;go_wp2;go_region
    generalize(w.setCell ⟨g,k*3,N⟩ (ry rq)).drew=W at*
    clear m15 m17 m13 c0 c1 a0 P a2 f0 f1 f2 F;have z:=Aa (fun due=>d.out.drew.send j f due);have m15:=d.out.kD;have m17:=d.out.YY;have m13:=d.out.kC;have c0:=nk (d.out.CW M.out.1 M.out.2);go_wp2;refine wp_region_still_tail 19 (by kernel_rfl) (by kernel_rfl) ?_;simp only[Zba,Zbj,Zby,Za5];repeat still_step
    still_call (Ep (HMod.out _))
    repeat still_step
    refine wpStill_nil ?_;change wpList _ _ _ _ _ (World.drew _);go_wp2_with(go_at_call 311;refine(z.out _).mono ?_;rintro e B⟨⟨r,rfl⟩,c,t,u⟩;have C:Hid (Da mb V own w unit _ (rC unit) B):=⟨rfl,c,t,A.out.trans u⟩;clear t u);go_end0;exact C.out
end
end
section
variable {mb B g' F6:Nat} {V:Vr} {own:Nat→Nat} {w W w2:oZ} {s:St} {v':qY}
structure oh (X:Nat→Prop) (w0:Nat) (mb:Nat) (V:Vr) (own:Nat→Nat) (w:oZ) (s:St):Prop where
 fresh: ∀j,w.heap.size≤j→own j=0
 om:own mb=1
 prog:Pg own w V.Gb s.funcs
 laid:DX.Laid w∧own 0=14
 LN: ¬X 2→Gz w 0 119 1 V.Lu s.gs.length (GY s.gs.length V.CP)∧ ∀j,V.Lu.ownBlock=Z j→own j=2
 LO: ¬X 3→Gz w 0 123 1 V.Mz s.ms.length (GY s.ms.length V.DP)∧ ∀j,V.Mz.ownBlock=Z j→own j=3
 EL: ¬X 4→G8 w V.ED s.asked∧ ∀j,V.ED.ownBlock=Z j→own j=4
 IC: ¬X 1→Cx w mb (Dz V s.sc) 121
 rings: ¬X 5→ ∃rv R,Qa own V.Gw w V.procs rv R s.rings
 stat: ¬X 6→ ∃tv,Cw.Tb w V.stat tv s.stat∧ ∀j,Cw.Tf V.stat tv j→own j=6
 all: ¬X 7→ ∃S,CY.Queue w V.all S s.all∧ ∀j,S j→own j=7
 GG: ¬X 8→ ∃g,Idle.St w V.GG g 64 s.CK∧ ∀j,Idle.GF V.GG g j→own j=8
 FC: ¬X 9→ ∃g,Idle.St w V.FC g 256 s.CB∧ ∀j,Idle.GF V.FC g j→own j=9
 CA: ¬X 10→ ∃v,Dc.Sm w V.CA s.owner v s.waits∧ ∀j,Dc.Sf V.CA v j→own j=10
 box: ¬X 11→nd own w V.box s.box
 gs: ¬X 12→ ∀i,i<s.gs.length→nh own w (V.CP i) i (s.gs[i]?.getD g0)
 ms: ¬X 13→ ∀j,j<s.ms.length→Cx w (V.DP j) (C8 V.CP j (s.ms[j]?.getD m0)) 125
 og: ∀i,i<s.gs.length→own (V.CP i)=20+5*i
 ug: ∀i,i<s.gs.length→ ∀b,own b=20+5*i→b=V.CP i
 ox: ∀j,j<s.ms.length→own (V.DP j)=22+5*j
 ux: ∀j,j<s.ms.length→ ∀b,own b=22+5*j→b=V.DP j
 lg: ∀b i,b<w0→own b=20+5*i→i<s.gs.length
 lx: ∀b i,b<w0→own b=22+5*i→i<s.ms.length
theorem CC.Uj{X:Nat→Prop}{C6:Nat→Nat}{w':oZ}{S:Nat→Prop}(h:CC mb V own w s)(o:Cv S w w')(y: ∀j,S j→X (kind (own j))) (z: ¬X 14) (he: ∀j,j<w.heap.size→C6 j=own j) (A: ∀j,w.heap.size≤j→(¬X 5→kind (C6 j)≠5)∧(∀i,i<s.gs.length→C6 j≠20+5*i)∧ ∀i,i<s.ms.length→C6 j≠22+5*i) (C: ∀j,w'.heap.size≤j→C6 j=0):oh X w.heap.size mb V C6 w' s:=by
 have u: ∀{j t:Nat},own j=t→t≠0→j<w.heap.size:=fun{j t} k d=>by
  rcases AY j w.heap.size with l|l
  ·exact l
  ·exact absurd ((h.fresh j l).symm.trans k).symm d
 have c: ∀{j t:Nat},own j=t→t≠0→C6 j=t:=fun{j t} k d=>(he j (u k d)).trans k;have g: ∀{j t:Nat},own j=t→ ¬X (kind t)→ ¬S j:=fun{j t} k d x=>d (by rw[←k];exact y j x);refine⟨C,c h.om (by decide),h.prog.turn o (fun j x e=>?_) he,⟨h.laid.1.only o (g h.laid.2 (by rw[Hl (by decide)];exact z)),c h.laid.2 (by decide)⟩,fun a=>?_,fun a=>?_,fun a=>?_,fun a=>?_,fun a=>?_,fun a=>?_,fun a=>?_,fun a=>?_,fun a=>?_,fun a=>?_,fun a=>?_,fun a=>?_,fun a=>?_,fun i p=>c (h.og i p) (by omega),fun i p b r=>?_,fun i p=>c (h.ox i p) (by omega),fun i p b r=>?_,fun b i u r=>h.lg b i (by rw[he b u]at r;exact r),fun b i u r=>h.lx b i (by rw[he b u]at r;exact r)⟩
 ·have:=y j x;rw[e,Hl (by decide)]at this;exact z this
 ·obtain⟨k,d⟩:=h.LN (by decide)
  exact⟨k.off o (fun j f=>g (d j f) a),fun j f=>c (d j f) (by decide)⟩
 ·obtain⟨k,d⟩:=h.LO (by decide)
  exact⟨k.off o (fun j f=>g (d j f) a),fun j f=>c (d j f) (by decide)⟩
 ·obtain⟨k,d⟩:=h.EL (by decide)
  exact⟨k.only o (fun j f=>g (d j f) a),fun j f=>c (d j f) (by decide)⟩
 ·exact(h.IC (by decide)).only o (g h.om a)
 ·obtain⟨D,R,k⟩:=h.rings (by decide)
  exact⟨D,R,k.turn o (fun j x e=>a (by have:=y j x;rwa [e]at this)) he (fun j f=>(A j f).1 a)⟩
 ·obtain⟨tv,k,d⟩:=h.stat (by decide)
  exact⟨tv,k.only o (fun j f=>g (d j f) a),fun j f=>c (d j f) (by decide)⟩
 ·obtain⟨tv,k,d⟩:=h.all (by decide)
  exact⟨tv,k.only o (fun j f=>g (d j f) a),fun j f=>c (d j f) (by decide)⟩
 ·obtain⟨tv,k,d⟩:=h.GG (by decide)
  exact⟨tv,k.only o (g (d _ (.inl rfl)) a) (g (d _ (.inr rfl)) a),fun j f=>c (d j f) (by decide)⟩
 ·obtain⟨tv,k,d⟩:=h.FC (by decide)
  exact⟨tv,k.only o (g (d _ (.inl rfl)) a) (g (d _ (.inr rfl)) a),fun j f=>c (d j f) (by decide)⟩
 ·obtain⟨tv,k,d⟩:=h.CA (by decide)
  exact⟨tv,k.only o (fun j f=>g (d j f) a),fun j f=>c (d j f) (by decide)⟩
 ·obtain⟨v,n,m,q,k,d,l,E,B⟩:=h.box (by decide)
  exact⟨v,n,m,q,k.only o (fun j f=>g (B j f) a),d,l,E,fun j f=>c (B j f) (by decide)⟩
 ·intro i p
  obtain⟨k,F,G,d,l⟩:=h.gs (by decide) i p;exact⟨k,F,G,d.only o (g (h.og i p) (by rw[OI];exact a)),l.turn o (fun j x e=>by have:=y j x;rw[e,Hl (by decide)]at this;exact z this) he⟩
 ·intro i p
  exact(h.ms (by decide) i p).only o (g (h.ox i p) (by rw[OJ];exact a))
 ·rcases AY b w.heap.size with l|l
  ·rw[he b l]at r;exact h.ug i p b r
  ·exact absurd r ((A b l).2.1 i p)
 ·rcases AY b w.heap.size with l|l
  ·rw[he b l]at r;exact h.ux i p b r
  ·exact absurd r ((A b l).2.2 i p)
theorem II{α:Type}(l:List α)(x d:α)(k:Nat)(a:k<l.length+1):(l++[x])[k]?.getD d=if k=l.length then x else l[k]?.getD d:=by
 by_cases e:k=l.length
 ·subst e;simp
 ·rw[Ah e,AD (by omega)]
def MJ(V:Vr)(v:qY)(n B:Nat):Vr:={V with Mz:=v,DP:=fun j=>if j=n then B else V.DP j}
def NL(V:Vr)(v:qY)(n B:Nat):Vr:={V with Lu:=v,CP:=fun j=>if j=n then B else V.CP j}
theorem CC.gU{y:M1}(hy:y.g=0)(h:CC mb V own w s)(Q:s.ms.length<64)(R:Cx W B (C8 V.CP s.ms.length y) 125)(G:w.heap.size≤B)(F:qZ w.heap.size w W)(p:Dn W 0 123 1 V.Mz s.ms.length (GY s.ms.length V.DP) [ptr B] v' w2): ∃a,CC mb (MJ V v' s.ms.length B) a (w2.setCell ⟨mb,6,N⟩ v') {s with ms:=s.ms++[y]}∧Ext own w a (w2.setCell ⟨mb,6,N⟩ v')∧Fx V (MJ V v' s.ms.length B)∧a B=22+5*s.ms.length:=by
 classical
 obtain⟨H,q⟩:=h.LO (by decide);have K:=h.Nc;have L:=R.lt;have x:V.Mz.ownBlock≠Z B:=fun e=>by have:=H.lt B e;omega
 have z:V.Mz.ownBlock≠Z mb:=fun e=>by have:=q mb e;have:=h.om;omega
 have A: ∀j,v'.ownBlock=Z j→j≠B:=fun j c e=>by
  rcases p.2.2 j c with d|d
  ·exact x (by rw[d,e])
  ·omega
 have C: ∀j,v'.ownBlock=Z j→j≠mb:=fun j c e=>by
  rcases p.2.2 j c with d|d
  ·exact z (by rw[d,e])
  ·have:=F.size;omega
 have S:Cv (fun j=>V.Mz.ownBlock=Z j) w w2:=((Cv.refl _ w).below F).grown p.2.1 (fun k l=>.inr l);have T:Cv (fun j=>V.Mz.ownBlock=Z j∨j=mb) w (w2.setCell ⟨mb,6,N⟩ v'):=(S.mono (fun j _ c=>.inl c)).set (.inr (.inr rfl)) _ _;have M:(w2.setCell ⟨mb,6,N⟩ v').heap.size=w2.heap.size:=by simp[rh]
 have aa:B<w2.heap.size:=Am L p.2.1.size;obtain⟨a,ho⟩: ∃a:Nat→Nat,a=fun j=>if j<w.heap.size then own j else if v'.ownBlock=Z j then 3 else if j=B then 22+5*s.ms.length else 0:=⟨_,rfl⟩
 have r: ∀j,j<w.heap.size→a j=own j:=fun j c=>by rw[ho];exact Ai c
 have m: ∀j,w.heap.size≤j→a j=if v'.ownBlock=Z j then 3 else if j=B then 22+5*s.ms.length else 0:=fun j c=>by rw[ho];exact Ah (by omega)
 have D:a B=22+5*s.ms.length:=by rw[m B G,Ah (fun e=>A B e rfl),Ai rfl]
 have E: ∀j,v'.ownBlock=Z j→a j=3:=fun j c=>by
  rcases AY j w.heap.size with d|d
  ·rw[r j d]
   rcases p.2.2 j c with h2|h2
   ·exact q j h2
   ·have:=F.size;omega
  ·rw[m j d,Ai c]
 have O: ∀j,(w2.setCell ⟨mb,6,N⟩ v').heap.size≤j→a j=0:=fun j c=>by rw[M]at c;rw[m j (by have:=S.size;omega),Ah (fun e=>by have:=(Az p.1 j e).2;omega),Ah (by omega)]
 have f:=h.Uj (X:=fun t=>t=1∨t=3) (C6:=a) T (fun j c=>by
  rcases c with c|rfl
  ·right;rw[q j c];rfl
  ·left;rw[h.om];rfl) (by omega) r (fun j c=>by
   rw[m j c];by_cases n:v'.ownBlock=Z j
   ·rw[Ai n];exact⟨fun _=>by decide,fun i _=>by omega,fun i _=>by omega⟩
   ·rw[Ah n]
    by_cases o:j=B
    ·rw[Ai o,OJ];exact⟨fun _=>by decide,fun i _=>by omega,fun i hi=>by omega⟩
    ·rw[Ah o];exact⟨fun _=>by decide,fun i _=>by omega,fun i _=>by omega⟩) O
 have P: ∀j,j<w.heap.size→(V.Mz.ownBlock=Z j∨j=mb)→own j≠0∧own j≠14:=fun j _ c=>by
  rcases c with c|rfl
  ·rw[q j c];decide
  ·rw[h.om];decide
 have hlen:(s.ms++[y]).length=s.ms.length+1:=by simp
 have u: ∀i,i<s.ms.length→(MJ V v' s.ms.length B).DP i=V.DP i:=fun i hi=>Ah (by omega);have v:(MJ V v' s.ms.length B).DP s.ms.length=B:=Ai rfl;refine⟨a,⟨f.fresh,f.om,f.prog,f.laid,h.hold,fun _=>f.LN (by omega),fun _=>?_,fun _=>f.EL (by omega),fun _=>?_,fun _=>f.rings (by omega),fun _=>f.stat (by omega),fun _=>f.all (by omega),fun _=>f.GG (by omega),fun _=>f.FC (by omega),fun _=>f.CA (by omega),fun _=>f.box (by omega),fun _=>f.gs (by omega),fun _ k l=>?_,fun k l=>?_,f.og,f.ug,fun k l=>?_,fun k l b g=>?_,fun b k g=>?_,fun b k g=>?_,by dsimp only;rw[hlen];have:=h.Hm;omega⟩,⟨T.mono P,r⟩,⟨⟨rfl,rfl,rfl,rfl,rfl,rfl,rfl,rfl⟩,rfl,rfl⟩,D⟩
 ·dsimp only
  rw[hlen,ND,v,MB _ u];exact⟨.inl (Dd p.1 ((Cv.refl (fun j=>j=mb) w2).set (.inr rfl) _ _) (fun j c e=>C j c e)),E⟩
 ·exact((h.D2.below F K).kept p.2.1 (fun e=>z e.symm)).set 6 v'
 ·dsimp only at l⊢
  rw[hlen]at l;rw[II _ _ _ _ l];by_cases e:k=s.ms.length
  ·subst e
   rw[Ai rfl,v];exact(R.kept p.2.1 (fun e=>x e.symm)).setOther (by omega) _
  ·rw[Ah e,u k (by omega)]
   exact f.ms (by omega) k (by omega)
 ·dsimp only at l⊢
  rw[hlen]at l;rw[II _ _ _ _ l];by_cases e:k=s.ms.length
  ·rw[Ai e,hy];exact⟨Zag 0,Zay _⟩
  ·rw[Ah e];exact h.mg k (by omega)
 ·dsimp only at l⊢
  rw[hlen]at l;by_cases e:k=s.ms.length
  ·subst e;rw[v];exact D
  ·rw[u k (by omega)];exact f.ox k (by omega)
 ·dsimp only at l⊢
  rw[hlen]at l;by_cases e:k=s.ms.length
  ·subst e
   rw[v];rcases AY b w.heap.size with d|d
   ·rw[r b d]at g
    exact absurd (h.lx b _ g) (Zbq _)
   ·rw[m b d]at g
    by_cases n:v'.ownBlock=Z b
    ·rw[Ai n]at g;omega
    ·rw[Ah n]at g
     by_cases o:b=B
     ·exact o
     ·rw[Ah o]at g;omega
  ·rw[u k (by omega)];exact f.ux k (by omega) b g
 ·rcases AY b w.heap.size with d|d
  ·exact f.lg b k d g
  ·rw[m b d]at g
   by_cases n:v'.ownBlock=Z b
   ·rw[Ai n]at g;omega
   ·rw[Ah n]at g
    by_cases o:b=B
    ·rw[Ai o]at g;omega
    ·rw[Ah o]at g;omega
 ·dsimp only
  rw[hlen];rcases AY b w.heap.size with d|d
  ·have:=f.lx b k d g;omega
  ·rw[m b d]at g
   by_cases n:v'.ownBlock=Z b
   ·rw[Ai n]at g;omega
   ·rw[Ah n]at g
    by_cases o:b=B
    ·rw[Ai o]at g;omega
    ·rw[Ah o]at g;omega
theorem CC.oq(h:CC mb V own w s)(b:s.ms.length<64)(d:Cx W B (C8 V.CP s.ms.length m0) 125)(c:w.heap.size≤B)(e:qZ w.heap.size w W)(f:Dn W 0 123 1 V.Mz s.ms.length (GY s.ms.length V.DP) [ptr B] v' w2): ∃a,CC mb (MJ V v' s.ms.length B) a (w2.setCell ⟨mb,6,N⟩ v') {s with ms:=s.ms++[m0]}∧Ext own w a (w2.setCell ⟨mb,6,N⟩ v')∧Fx V (MJ V v' s.ms.length B)∧a B=22+5*s.ms.length:=CC.gU (y:=m0) rfl h b d c e f
theorem CC.ot{x:G}(h:CC mb V own w s)(aa:s.gs.length<64)(K:x.CS.length=8∧D4.Dm x.word∧x.stack=[])(hB:Cx W B (Du s.gs.length (Y N 0 0) x) 130)(L:w.heap.size≤B)(H:qZ w.heap.size w W)(q:Dn W 0 119 1 V.Lu s.gs.length (GY s.gs.length V.CP) [ptr B] v' w2): ∃a,CC mb (NL V v' s.gs.length B) a (w2.setCell ⟨mb,5,N⟩ v') {s with gs:=s.gs++[x]}∧Ext own w a (w2.setCell ⟨mb,5,N⟩ v')∧Fw V (NL V v' s.gs.length B)∧a B=20+5*s.gs.length:=by
 classical
 obtain⟨M,r⟩:=h.LN (by decide);have O:=h.Nc;have P:=hB.lt;have y:V.Lu.ownBlock≠Z B:=fun e=>by have:=M.lt B e;omega
 have z:V.Lu.ownBlock≠Z mb:=fun e=>by have:=r mb e;have:=h.om;omega
 have A: ∀j,v'.ownBlock=Z j→j≠B:=fun j c e=>by
  rcases q.2.2 j c with d|d
  ·exact y (by rw[d,e])
  ·omega
 have C: ∀j,v'.ownBlock=Z j→j≠mb:=fun j c e=>by
  rcases q.2.2 j c with d|d
  ·exact z (by rw[d,e])
  ·have:=H.size;omega
 have o2:Cv (fun j=>V.Lu.ownBlock=Z j) w w2:=((Cv.refl _ w).below H).grown q.2.1 (fun k l=>.inr l);have o3:Cv (fun j=>V.Lu.ownBlock=Z j∨j=mb) w (w2.setCell ⟨mb,5,N⟩ v'):=(o2.mono (fun j _ c=>.inl c)).set (.inr (.inr rfl)) _ _;have Q:(w2.setCell ⟨mb,5,N⟩ v').heap.size=w2.heap.size:=by simp[rh]
 have ab:B<w2.heap.size:=Am P q.2.1.size;obtain⟨a,ho⟩: ∃a:Nat→Nat,a=fun j=>if j<w.heap.size then own j else if v'.ownBlock=Z j then 2 else if j=B then 20+5*s.gs.length else 0:=⟨_,rfl⟩
 have u: ∀j,j<w.heap.size→a j=own j:=fun j c=>by rw[ho];exact Ai c
 have m: ∀j,w.heap.size≤j→a j=if v'.ownBlock=Z j then 2 else if j=B then 20+5*s.gs.length else 0:=fun j c=>by rw[ho];exact Ah (by omega)
 have D:a B=20+5*s.gs.length:=by rw[m B L,Ah (fun e=>A B e rfl),Ai rfl]
 have E: ∀j,v'.ownBlock=Z j→a j=2:=fun j c=>by
  rcases AY j w.heap.size with d|d
  ·rw[u j d]
   rcases q.2.2 j c with R|R
   ·exact r j R
   ·have:=H.size;omega
  ·rw[m j d,Ai c]
 have S: ∀j,(w2.setCell ⟨mb,5,N⟩ v').heap.size≤j→a j=0:=fun j c=>by rw[Q]at c;rw[m j (by have:=o2.size;omega),Ah (fun e=>by have:=(Az q.1 j e).2;omega),Ah (by omega)]
 have f:=h.Uj (X:=fun t=>t=1∨t=2) (C6:=a) o3 (fun j c=>by
  rcases c with c|rfl
  ·right;rw[r j c];rfl
  ·left;rw[h.om];rfl) (by omega) u (fun j c=>by
   rw[m j c];by_cases n:v'.ownBlock=Z j
   ·rw[Ai n];exact⟨fun _=>by decide,fun i _=>by omega,fun i _=>by omega⟩
   ·rw[Ah n]
    by_cases o:j=B
    ·rw[Ai o,OI];exact⟨fun _=>by decide,fun i hi=>by omega,fun i _=>by omega⟩
    ·rw[Ah o];exact⟨fun _=>by decide,fun i _=>by omega,fun i _=>by omega⟩) S
 have T: ∀j,j<w.heap.size→(V.Lu.ownBlock=Z j∨j=mb)→own j≠0∧own j≠14:=fun j _ c=>by
  rcases c with c|rfl
  ·rw[r j c];decide
  ·rw[h.om];decide
 have hlen:(s.gs++[x]).length=s.gs.length+1:=by simp
 have p: ∀i,i<s.gs.length→(NL V v' s.gs.length B).CP i=V.CP i:=fun i hi=>Ah (by omega);have v:(NL V v' s.gs.length B).CP s.gs.length=B:=Ai rfl;have F: ∀id:Int,0≤id→id≤s.gs.length→Eb (NL V v' s.gs.length B).CP id=Eb V.CP id:=fun id d R=>by
  unfold Eb;by_cases e:id=0
  ·rw[Ai e,Ai e]
  ·rw[Ah e,Ah e,p _ (by omega)]
 refine⟨a,⟨f.fresh,f.om,f.prog,f.laid,⟨h.hold.1,?_⟩,fun _=>?_,fun _=>f.LO (by omega),fun _=>f.EL (by omega),fun _=>?_,fun _=>f.rings (by omega),fun _=>f.stat (by omega),fun _=>f.all (by omega),fun _=>f.GG (by omega),fun _=>f.FC (by omega),fun _=>f.CA (by omega),fun _=>f.box (by omega),fun _ k l=>?_,fun _ k l=>?_,fun k l=>?_,fun k l=>?_,fun k l b g=>?_,f.ox,f.ux,fun b k g=>?_,fun b k g=>?_,by dsimp only;rw[hlen];have:=h.Hm;omega⟩,⟨o3.mono T,u⟩,⟨rfl,rfl,rfl,rfl,rfl,rfl,rfl,rfl⟩,D⟩
 ·have:=h.hold.2;dsimp only;rw[hlen];omega
 ·dsimp only
  rw[hlen,ND,v,MB _ p];exact⟨.inl (Dd q.1 ((Cv.refl (fun j=>j=mb) w2).set (.inr rfl) _ _) (fun j c e=>C j c e)),E⟩
 ·have hc:Dz (NL V v' s.gs.length B) s.sc=(Dz V s.sc).setIfInBounds 5 v':=by unfold Dz;rw[F _ h.hold.1 h.hold.2];rfl
  dsimp only;rw[hc];exact((h.D2.below H O).kept q.2.1 (fun e=>z e.symm)).set 5 v'
 ·dsimp only at l⊢
  rw[hlen]at l;rw[II _ _ _ _ l];by_cases e:k=s.gs.length
  ·subst e
   rw[Ai rfl,v];exact⟨K.1,K.2.1,_,(hB.kept q.2.1 (fun e=>y e.symm)).setOther (by omega) _,by rw[K.2.2];exact⟨by decide,.inl ⟨rfl,rfl⟩,fun h=>absurd rfl h⟩⟩
  ·rw[Ah e,p k (by omega)]
   exact f.gs (by omega) k (by omega)
 ·dsimp only at l⊢
  have:=f.ms (by omega) k l;have hg:=h.mg k l;unfold C8 at this⊢;rw[F _ hg.1 hg.2];exact this
 ·dsimp only at l⊢
  rw[hlen];have:=h.mg k l;omega
 ·dsimp only at l⊢
  rw[hlen]at l;by_cases e:k=s.gs.length
  ·subst e;rw[v];exact D
  ·rw[p k (by omega)];exact f.og k (by omega)
 ·dsimp only at l⊢
  rw[hlen]at l;by_cases e:k=s.gs.length
  ·subst e
   rw[v];rcases AY b w.heap.size with d|d
   ·rw[u b d]at g
    exact absurd (h.lg b _ g) (Zbq _)
   ·rw[m b d]at g
    by_cases n:v'.ownBlock=Z b
    ·rw[Ai n]at g;omega
    ·rw[Ah n]at g
     by_cases o:b=B
     ·exact o
     ·rw[Ah o]at g;omega
  ·rw[p k (by omega)];exact f.ug k (by omega) b g
 ·dsimp only
  rw[hlen];rcases AY b w.heap.size with d|d
  ·have:=f.lg b k d g;omega
  ·rw[m b d]at g
   by_cases n:v'.ownBlock=Z b
   ·rw[Ai n]at g;omega
   ·rw[Ah n]at g
    by_cases o:b=B
    ·rw[Ai o]at g;omega
    ·rw[Ah o]at g;omega
 ·rcases AY b w.heap.size with d|d
  ·exact f.lx b k d g
  ·rw[m b d]at g
   by_cases n:v'.ownBlock=Z b
   ·rw[Ai n]at g;omega
   ·rw[Ah n]at g
    by_cases o:b=B
    ·rw[Ai o]at g;omega
    ·rw[Ah o]at g;omega
theorem CC.lF(h:CC mb V own w s)(j:qZ w.heap.size w W)(c:Dn W 0 123 1 V.Mz s.ms.length (GY s.ms.length V.DP) [ptr B] (Y (Z ⟨g',0,N⟩) (s.ms.length+1) F6) w2):Cx w2 mb (Dz V s.sc) 121∧w2.cell? ⟨g',s.ms.length,N⟩=Z (ptr B)∧ ¬g'=mb∧ ¬mb=g':=by
 obtain⟨l,d⟩:=h.LO (by decide);have f:=h.Nc;have a:V.Mz.ownBlock≠Z mb:=fun e=>by have:=d mb e;have:=h.om;omega
 have b: ¬g'=mb:=fun e=>by
  rcases c.2.2 g' rfl with k|k
  ·exact a (by rw[k,e])
  ·have:=j.size;omega
 refine⟨(h.D2.below j f).kept c.2.1 (fun e=>a e.symm),?_,b,fun e=>b e.symm⟩;rcases Dr c.1 with⟨i,_⟩|⟨g,cap,i,_,_,_,m⟩
 ·cases i
 ·cases i
  rw[m _ (by omega),AJ (by rw[Ke];exact Al _),Ke];simp
theorem CC.lG(h:CC mb V own w s)(j:qZ w.heap.size w W)(c:Dn W 0 119 1 V.Lu s.gs.length (GY s.gs.length V.CP) [ptr B] (Y (Z ⟨g',0,N⟩) (s.gs.length+1) F6) w2):Cx w2 mb (Dz V s.sc) 121∧w2.cell? ⟨g',s.gs.length,N⟩=Z (ptr B)∧ ¬g'=mb∧ ¬mb=g':=by
 obtain⟨l,d⟩:=h.LN (by decide);have f:=h.Nc;have a:V.Lu.ownBlock≠Z mb:=fun e=>by have:=d mb e;have:=h.om;omega
 have b: ¬g'=mb:=fun e=>by
  rcases c.2.2 g' rfl with k|k
  ·exact a (by rw[k,e])
  ·have:=j.size;omega
 refine⟨(h.D2.below j f).kept c.2.1 (fun e=>a e.symm),?_,b,fun e=>b e.symm⟩;rcases Dr c.1 with⟨i,_⟩|⟨g,cap,i,_,_,_,m⟩
 ·cases i
 ·cases i
  rw[m _ (by omega),AJ (by rw[Ke];exact Al _),Ke];simp
theorem eG:(prog.info? 123).map (fun i=>(i.zero,i.size,i.bytes))=Z (Z (J N),1,8):=by kernel_rfl
theorem eH:(prog.info? 119).map (fun i=>(i.zero,i.size,i.bytes))=Z (Z (J N),1,8):=by kernel_rfl
theorem MK{b:Nat}(x:qY)(t:TypeId)(h:w.heap.size=b): ∀(j:Nat)(y:qY),[x][j]?=Z y→(w.alloc (.cells #[x] t)).cell? ((⟨b,0,N⟩:Addr).add j)=Z y:=by
 subst h;intro j y c;obtain⟨a,hy⟩:j=0∧y=x:=by
  cases j with
  |zero=>exact⟨rfl,by simpa using c.symm⟩
  |succ j=>simp at c
 subst a hy;rw[Ay,(Cx.new w #[y] t).cell];rfl
end
section
section
variable {mb:Nat} {V:Vr} {own:Nat→Nat} {w:oZ} {s:St}
theorem lH{xb j:Nat}{y:M1}{gb:Nat→Nat}(h:Cx w xb (C8 gb j y) 125)(p:Int):Cx (((w.setCell ⟨xb,1,N⟩ (I U p)).setCell ⟨xb,2,N⟩ (J N)).setCell ⟨xb,3,N⟩ (I U 1)) xb (C8 gb j {y with p:=p,g:=0,phase:=1}) 125:=((h.set 1 (I U p)).set 2 (J N)).set 3 (I U 1)
theorem CC.Qj(h:CC mb V own w s){p:Int}{j:Nat}{y:M1}(a:s.ms[j]?=Z y):CC mb V own (((w.setCell ⟨V.DP j,1,N⟩ (I U p)).setCell ⟨V.DP j,2,N⟩ (J N)).setCell ⟨V.DP j,3,N⟩ (I U 1)) {s with ms:=s.ms.set j {y with p:=p,g:=0,phase:=1}}∧
  Ext own w own (((w.setCell ⟨V.DP j,1,N⟩ (I U p)).setCell ⟨V.DP j,2,N⟩ (J N)).setCell ⟨V.DP j,3,N⟩ (I U 1)):=by
 have c:=h.ox j (Cz a);have d:=h.CW c a;have b:=oset (oset (oset (Ds (V.DP j) w) 1 (I U p)) 2 (J N)) 3 (I U 1);exact⟨h.Nj (Cz a) b {y with p:=p,g:=0,phase:=1} ⟨Zag 0,Zay _⟩ (lH d p),Dx b (by omega)⟩
theorem Ext.lt{C6:Nat→Nat}{w':oZ}(h:Ext own w C6 w'){b t:Nat}(c:own b=t)(d:t≠0)(e: ∀j,w.heap.size≤j→own j=0):C6 b=t:=by
 rcases AY b w.heap.size with a|a
 ·rw[h.same b a];exact c
 ·exact absurd ((e b a).symm.trans c).symm d
theorem CC.begin(h:CC mb V own w s){p:Int}{r:Bool}{s':St}(c:FJ s p=Z (r,s')):re prog 293 #[ptr mb,I U p] w (FY mb V own w (ry r) s'):=by
 unfold FJ at c;have H:=Aa h.nY;have Ui:=h.Ui;have aq:=h.Nc;cases B:s.CK with
 |cons id rest=>
  rw[B]at c H;obtain⟨h0,c⟩:=CQ c;obtain⟨k,rfl⟩: ∃k:Nat,id=k:=⟨id.toNat,by omega⟩;rw[An]at c;unfold Jp at c;cases T:s.ms[k]? with
  |none=>dsimp only at c;rw[T]at c;cases c
  |some y=>
   dsimp only at c;rw[T]at c;simp only[BA,Ak,AM]at c;obtain⟨rfl,rfl⟩:=c;have E:=Aa T;have HF:=Aa h.fresh;clear h B T h0;go_enter func293,ntmps293;go_wp2_with fail;refine H.out.mono ?_;rintro e F⟨rfl,m,b,i⟩;obtain⟨g,cap,v,cg,ar,_⟩:=b.SC (k:=k) (Cz E.out);have c6:=b.c6;rw[v]at c6;have c8:=b.c8;have q:(k:Int)<(s.ms.length:Int):=by have:=Cz E.out;omega
   have HT:=Aa (b.Qd p k);have n:=Aa i;have au:=Aa b.fresh;clear b i v Ui;go_wp2_with(go_at_call 49;refine HT.out.mono ?_;rintro e w2⟨rfl,A,d,o⟩;obtain⟨n1,n2⟩:=d.gT (d.ox k (Cz E.out));have f:=d.CW (d.ox k (Cz E.out)) E.out;have x1:=Lz f;have x2:=RC f;have x3:=VP f;have aa:=f.free 1;have ab:=f.free 2;have ad:=f.free 3;have t:=Aa d;have ae:=Aa o;clear d o f);go_ret;obtain⟨R3,E3⟩:=t.out.Qj (p:=p) E.out;exact⟨rfl,V,A,R3,(n.out.trans ae.out).trans E3,Fx.refl V⟩
 |nil=>
  rw[B]at c H;dsimp only at c;by_cases G:s.sc.Ga≤s.ms.length
  ·rw[Ai G]at c
   simp only[Ak,AM]at c;obtain⟨rfl,rfl⟩:=c;have hd:decide (s.sc.Ga≤(s.ms.length:Int))=true:=by simpa using G
   have W:=Aa B;clear B G h;go_enter func293,ntmps293;go_wp2_with fail;refine H.out.mono ?_;rintro e F⟨rfl,m,b,i⟩;obtain⟨a,cap,v⟩:=b.kF;have c6:=b.c6;rw[v]at c6;have c4:=b.c4;have n:=Aa i;have C:=Aa b;clear b i v Ui;go_wp2;go_quiet(fail)
   go_wp2;go_ret;have X:({s with CK:=([]:List Int).tail}:St)=s:=by rw[List.tail_nil,←W.out]
   have R:=C.out;rw[X]at R;exact⟨rfl,V,m,R.drewN _,n.out.drewN _,Fx.refl V⟩
  ·rw[Ah G]at c
   obtain⟨af,c⟩:=CQ c;have l:(s.ms++[m0])[s.ms.length]?=Z m0:=by simp
   unfold Jp at c;dsimp only at c;rw[l]at c;simp only[BA,Ak,AM]at c;obtain⟨rfl,rfl⟩:=c;have hd:decide (s.sc.Ga≤(s.ms.length:Int))=false:=by simpa using G
   have W:=Aa B;have ag:=Aa af;clear B G h l;go_enter func293,ntmps293;go_wp2_with fail;refine H.out.mono ?_;rintro e F⟨rfl,m,b,i⟩;have X:({s with CK:=([]:List Int).tail}:St)=s:=by rw[List.tail_nil,←W.out]
   rw[X]at b;clear X;obtain⟨a,cap,v⟩:=b.kF;have c6:=b.c6;rw[v]at c6;have c4:=b.c4;have n:=Aa i;have C:=Aa b;have HV:=Aa v;clear b i v Ui;go_wp2;go_quiet(fail)
   have t:=Aa (C.out.drewN nq);have K:=Aa (t.out.LO (by decide)).1;rw[HV.out]at K;go_wp2_with(first|(at_builtin;refine Jg underlying117 eG rfl (by decide) (by decide) 0 _ rfl _ _ rfl (.slice a s.ms.length cap) s.ms.length (GY s.ms.length V.DP) ⟨F.heap.size+1,0,N⟩ 1 [ptr F.heap.size] rfl rfl ((K.out.below (Ct (rf _ _) _)).below (Ct (rf _ _) _)) rfl (MK _ _ (by simp)) (by simp[Value.oneCell']) (Ap _) (by omega) ?_;intro v' w3 L;obtain⟨g',M,rfl⟩:=L.some;rw[←HV.out]at L;obtain⟨x,av,n3,n4⟩:=t.out.lF (Ct (Ct (rf _ _) _) _) L;obtain⟨A,d,o,O,f⟩:=t.out.oq ag.out ((Cx.Iq _ 125 (by simp)).alloc _) (by simp) (Ct (Ct (rf _ _) _) _) L;have k6:w3.cell? ⟨mb,6,N⟩=Z V.Mz:=x.cell 6;have k8:w3.cell? ⟨mb,8,N⟩=Z (ptr V.stat):=x.cell 8;have kf:=x.free 6;have ah:=Aa d;have ai:=Aa o;have aj:=Aa O;clear L x d o O f)|(go_at_call 49;refine(ah.out.Qd p s.ms.length).mono ?_;rintro e w2⟨rfl,P,u,Q⟩;have l:(s.ms++[m0])[s.ms.length]?=Z m0:=(by simp);have S:(MJ V (Y (Z ⟨g',0,N⟩) (s.ms.length+1) M) s.ms.length F.heap.size).DP s.ms.length=F.heap.size:=Ai rfl;have D:=u.Qj (p:=p) l;have z:=u.ox s.ms.length (by simp);rw[S]at D z;obtain⟨n1,n2⟩:=u.gT z;have j:=u.CW z l;have x1:=Lz j;have x2:=RC j;have x3:=VP j;have aa:=j.free 1;have ab:=j.free 2;have ad:=j.free 3;have ak:=Aa D;have ao:=Aa Q;clear u Q j D l S z));go_ret;obtain⟨R5,E5⟩:=ak.out;rw[W.out]at R5;exact⟨rfl,_,P,R5,((((n.out.drewN _).trans ai.out).trans ao.out).trans E5),aj.out⟩
end
end
section
section
variable {mb:Nat} {V:Vr} {own:Nat→Nat} {w:oZ} {s:St}
theorem SE{l:List M1}{k:Nat}{y:M1}(h:l[k]?=Z y):ID (l.take (k+1))=ID (l.take k)+if y.phase=1 then 1 else 0:=by obtain⟨a,hy⟩:=Af.1 h;unfold ID;rw[A8 a,Zaj,hy];by_cases e:y.phase=1<;>simp[e]
theorem Qk(l:List M1)(k:Nat):ID (l.take k)≤k:=AE Zal (List.length_take_le _ _)
theorem CC.OA(h:CC mb V own w s):Sv s.rings s.rings.length≤65792:=by obtain⟨c,R,a⟩:=h.rings (by decide);rw[←a.PR _ (Al _)];have:=CV.OA a.E7 s.rings.length (Al _);have b:=h.Hm.2.2;omega
theorem CC.Y4(h:CC mb V own w s){s':St}(b:G9 s=Z s'):re prog 247 #[ptr mb] w (FY mb V own w unit s'):=by
 unfold G9 at b;have JY:=h.JY;by_cases f:s.sc.Cy=rq
 ·rw[Ai f]at b
  rw[f]at JY;simp only[Ak]at b;subst b;have d:=Aa h;clear h f;go_enter func247,ntmps247;go_wp2;go_end0;exact⟨rfl,V,own,d.out,Ext.refl _ _,Fx.refl V⟩
 ·have v:s.sc.Cy=false:=by simpa using f
  rw[Ah f]at b;have aa: ¬200000≤s.all.length:=fun e=>by rw[Ai e]at b;cases b
  rw[Ah aa]at b;rw[v]at JY;have ag:=h.Hm.2.1;obtain⟨a,cap,hv⟩:=h.kF;have c6:=h.c6;rw[hv]at c6;have HV:=Aa hv;have d:=Aa h;clear f v h hv;go_enter func247,ntmps247;go_wp2;go_loop [2,16] (fun c i=> ∃k:Nat,k≤s.ms.length∧i=I U k∧c=I U (ID (s.ms.take k))) (fun _ i=>s.ms.length-(intOf i).toNat)
  case atStart=>exact⟨0,Ap _,rfl,rfl⟩
  case round=>
   obtain⟨k,hk,rfl,rfl⟩:=hrel;by_cases j:k<s.ms.length
   ·obtain⟨y,hy⟩: ∃y,s.ms[k]?=Z y:=⟨_,Ae j⟩
    obtain⟨g,af,x,cg,ah,_⟩:=d.out.SC j;rw[HV.out]at x;simp only[Ar]at x;obtain⟨rfl,_,rfl⟩:=x;have hB:=d.out.CW (d.out.ox k j) hy;have x3:=VP hB;have S:=Aa (SE hy);have hle:=Qk s.ms k;clear hB hy;generalize ID (s.ms.take k)=c at*
    by_cases e:y.phase=1
    ·have hd:(y.phase==1)=true:=by simpa using e
     rw[Ai e]at S;clear e;go_wp2;go_round
     case rel=>exact⟨k+1,by omega,by go_num,by rw[S.out];go_num⟩
     case measure=>simp[intOf];omega
    ·have hd:(y.phase==1)=false:=by simpa using e
     rw[Ah e]at S;clear e;go_wp2;go_round
     case rel=>exact⟨k+1,by omega,by go_num,by rw[S.out];go_num⟩
     case measure=>simp[intOf];omega
   ·obtain rfl:k=s.ms.length:=by omega
    rw[BJ];have RA:=d.out.RA;have c0:=d.out.c0;have c9:=d.out.c9;have C:=Aa d.out.gP;have ht:=d.out.OA;have q:=Qk s.ms s.ms.length;rw[BJ]at q;have D:=Aa (fun m=>Ep (d.out.drewN m).oa);have E:=Aa (fun m=>(d.out.drewN m).total);have F:=Aa (fun m=>(d.out.drewN m).nW (by omega));cases B:s.CB with
    |nil=>
     rw[B]at b C;simp only[Ak]at b;subst b;clear B hk j q ht;go_wp2_with(go_at_call 189;refine C.out.mono ?_;rintro e o⟨rfl,rfl⟩);go_quiet(fail)
     go_wp2;go_end0;exact⟨rfl,V,own,d.out.drewN _,(Ext.refl _ _).drewN _,Fx.refl V⟩
    |cons p rest=>
     rw[B]at b C;dsimp only at b;have G:(s.CB.length:Int)=(rest.length:Int)+1:=by rw[B];simp
     generalize hT:Sv s.rings s.rings.length=T at*
     generalize hL:ID s.ms=L at*
     generalize hA:s.all.length=A at*
     have e1:IntKind.i64.wrap ((T:Int)+(A:Int))=(T:Int)+(A:Int):=Zaa _ (by omega);have t:=Aa (fun W=>FO.XW s.CB.length L ((T:Int)+(A:Int)) W);by_cases X:L=0∧0<T+A
     ·rw[Ai X]at b
      rw[show decide (0<(s.CB.length:Int)∧(L:Int)≤0∧0<(T:Int)+(A:Int))=rq by simp;omega]at t;cases u:FJ s p with
      |none=>rw[u]at b;cases b
      |some rs=>
       obtain⟨r,s1⟩:=rs;rw[u]at b;have ab:=Aa (fun m=>(d.out.drewN m).begin u);have ai:=Aa (fun m=>d.out.drewN m);clear B hk j q ht G X hT hL hA u;go_wp2_with(go_at_call 189;refine C.out.mono ?_;rintro e o⟨rfl,rfl⟩);go_region_held3(fun w'=>w'.cell? ⟨mb,11,N⟩=Z (ptr V.FC)∧w'.cell? ⟨mb,0,N⟩=Z (ptr V.procs)∧w'.cell? ⟨mb,9,N⟩=Z (ptr V.all)) (go_keep) (first|(go_at_call 262;refine(D.out 1).mono ?_;rintro e o⟨rfl,rfl⟩)|(go_at_call 292;refine(E.out 1).mono ?_;rintro e o⟨rfl,m1,rfl⟩)|(go_at_call 284;refine(F.out _).mono ?_;rintro e o⟨rfl,m2,rfl⟩)|(go_at_call 291;refine(t.out _).mono ?_;rintro e o⟨rfl,rfl⟩)|(go_at_call 293;refine(ab.out _).mono ?_;rintro e o⟨rfl,V1,H,l,K,n⟩;have X5:o.cell? ⟨mb,11,N⟩=Z (ptr V.FC):=n.FC▸l.RA;have k0:o.cell? ⟨mb,0,N⟩=Z (ptr V.procs):=n.procs▸l.c0;have k9:o.cell? ⟨mb,9,N⟩=Z (ptr V.all):=n.all▸l.c9;have M:=Aa l;have O:=Aa K;have z:=Aa n;clear l K n))
       all_goals
        cases r
        ·simp only[Ak]at b
         subst b;go_wp2;go_end0;exact⟨rfl,V1,H,M.out,((Ext.refl _ _).drewN _).trans O.out,z.out⟩
        ·simp only[Ak]at b
         subst b;have HD:=Aa (M.out.Ud p);rw[z.out.FC]at HD;go_wp2_with(go_at_call 191;refine HD.out.mono ?_;rintro e w2⟨rfl,P,Q,R⟩;have ad:=Aa Q;have ae:=Aa R;clear Q R);go_end0;exact⟨rfl,V1,P,ad.out,(((Ext.refl _ _).drewN _).trans O.out).trans ae.out,z.out⟩
     ·rw[Ah X]at b
      simp only[Ak]at b;subst b;rw[show decide (0<(s.CB.length:Int)∧(L:Int)≤0∧0<(T:Int)+(A:Int))=rm by simp;omega]at t;clear B hk j q ht G X hT hL hA;go_wp2_with(go_at_call 189;refine C.out.mono ?_;rintro e o⟨rfl,rfl⟩);go_quiet((first|(go_at_call 262;exact BG (D.out _))|(go_at_call 292;exact Za4 (E.out _))|(go_at_call 284;exact Za4 (F.out _))|(go_at_call 291;exact BG (Ep (t.out _)))))
      go_wp2;go_end0;exact⟨rfl,V,own,d.out.drewN _,(Ext.refl _ _).drewN _,Fx.refl V⟩
end
end
section
variable {mb:Nat} {V:Vr} {own:Nat→Nat} {w:oZ} {s:St}
variable {s s':St} {i j b k:Nat}
theorem GK{x:G}(a:s.gs[i]?=Z x)(t:Int):s.mv i t=s.CH i {x with word:=Hn x.word t}:=by unfold St.mv;rw[a]
theorem EY{x:G}(a:i<s.gs.length):(s.CH i x).gs[i]?=Z x:=by show(s.gs.set i x)[i]?=Z x;rw[As];simp[a]
theorem I6{y:M1}(a:j<s.ms.length):(s.CM j y).ms[j]?=Z y:=by show(s.ms.set j y)[j]?=Z y;rw[As];simp[a]
theorem Jh(h:CC mb V own w s){x:G}{u:Int}(a:own b=20+5*i)(c:s.gs[i]?=Z x)(hu:(i:Int)+1=u):w.cell? ⟨b,0,N⟩=Z (I U u):=by obtain⟨_,_,e,d,_⟩:=h.Hi a c;rw[←hu];exact kE d
theorem Ext.keep{C6:Nat→Nat}{w':oZ}(h:Ext own w C6 w'){t:Nat}(c:own b=t)(a:b<w.heap.size):C6 b=t:=(h.same b a).trans c
theorem CC.Y5(h:CC mb V own w s)(a:k<s.rings.length):(D5 s k).row.length≤256∧0≤(D5 s k).CG:=by obtain⟨d,R,b⟩:=h.rings (by decide);have hw:=(b.E7.ring k a).RZ;have c:=b.is k a;unfold D5;rw[←c.2,←c.1];exact⟨hw.1,hw.2.2.2.1⟩
theorem CC.eI(h:CC mb V own w s)(a:k<s.rings.length)(u:Int)(f:Bool):(Ring.Mt 256 (D5 s k).CG (D5 s k).row u f).length≤300:=by
 have:=(h.Y5 a).1;unfold Ring.Mt Ring.FW;split
 ·simp
 ·split
  ·split
   ·simp
   ·split<;>simp<;>omega
  ·split<;>simp<;>omega
theorem CC.I7(h:CC mb V own w s){f:Bool}(B:own b=20+5*i)(a:D6 s (-1) i f=Z s'):re prog 192 #[ptr mb,J N,ptr b,ry f] w (FY mb V own w unit s'):=by
 unfold D6 at a;replace a:=CQ a;obtain⟨⟨j,C⟩,a⟩:=a;rw[Ai rfl]at a;obtain⟨x,D⟩: ∃x,s.gs[i]?=Z x:=⟨_,Ae j⟩;rw[GK D]at a;have P:=Aa (h.is B D 1 (by decide) (by decide));have k:=EY (x:={x with word:=Hn x.word 1}) j;obtain⟨s1,l⟩: ∃s1,s1=s.CH i {x with word:=Hn x.word 1}:=⟨_,rfl⟩;have g:s1.all.length<1000000:=by rw[l];show s.all.length<_;omega
 rw[←l]at P a k;have E:=Aa (Ab g k);have W:=Aa B;have X:=Aa h.fresh;clear h B D j C l g k;go_enter func192,ntmps192;go_wp2_with(go_at_call 116;refine P.out.mono ?_;rintro e Q⟨rfl,R,p,q⟩;have c:=Aa p;have r:=Aa q;clear p q);have t:=r.out.lt W.out (by omega) X.out;obtain⟨_,_,sv,m,_⟩:=c.out.Hi t E.out.2;have k0:=kE m;have c9:=c.out.c9;have F:=m.lt;clear m;generalize hu:(i:Int)+1=u at*
 have aa:=c.out.Nc;have ab: ¬mb=Q.heap.size:=by omega
 have ad: ¬b=Q.heap.size:=by omega
 have HP:=Aa (c.out.drew.YO u E.out.1);have G:=Aa r.out.drew;go_region_held3(fun S=>S.cell? ⟨mb,9,N⟩=Z (ptr V.all)∧S.cell? ⟨b,0,N⟩=Z (I U u)) (go_keep) (first|(go_at_call 243;refine HP.out.mono ?_;rintro e w2⟨⟨n,rfl⟩,T,d,o⟩;have k9:=d.c9;have k0:w2.cell? ⟨b,0,N⟩=Z (I U u):=Jh d (o.keep t F) E.out.2 hu;have H:=Aa d;have K:=Aa (G.out.trans o);clear d o))
 all_goals
  go_wp2_with(first|(go_at_call 247;refine(H.out.Y4 a).mono ?_;rintro e w3⟨rfl,V3,v,y,z,A⟩;have L:=Aa y;have M:=Aa (K.out.trans z);have O:=Aa A;clear y z A));go_end0;exact⟨rfl,V3,v,L.out,M.out,O.out⟩
theorem CC.OP(h:CC mb V own w s){xb:Nat}{y:M1}{f:Bool}(hx:own xb=22+5*j)(hj:s.ms[j]?=Z y)(hb:own b=20+5*i)(d:D6 s y.p i f=Z s'):re prog 192 #[ptr mb,ptr xb,ptr b,ry f] w (FY mb V own w unit s'):=by
 have hF:=h.fresh;by_cases hp:y.p= -1
 ·rw[hp]at d
  unfold D6 at d;replace d:=CQ d;obtain⟨⟨p,F⟩,d⟩:=d;rw[Ai rfl]at d;obtain⟨x,M⟩: ∃x,s.gs[i]?=Z x:=⟨_,Ae p⟩;rw[GK M]at d;have HI:=Aa (h.is hb M 1 (by decide) (by decide));have A:=EY (x:={x with word:=Hn x.word 1}) p;have B:(s.CH i {x with word:=Hn x.word 1}).ms[j]?=Z y:=hj;obtain⟨s1,O⟩: ∃s1,s1=s.CH i {x with word:=Hn x.word 1}:=⟨_,rfl⟩;have K:s1.all.length<1000000:=by rw[O];show s.all.length<_;omega
  rw[←O]at HI d A B;have o:=Aa (Ab K (Ab A B));have HB:=Aa (Ab hb hx);have HF:=Aa hF;have HP:=Aa hp;clear h hb M p F O K A hx hj B hF hp;go_enter func192,ntmps192;go_wp2_with(go_at_call 116;refine HI.out.mono ?_;rintro e w1⟨rfl,aa,q,r⟩;have D:=(r.lt HB.out.2 (by omega) HF.out);have xc:=Lz (q.CW D o.out.2.2);rw[HP.out]at xc;have a:=Aa q;have E:=Aa r;clear q r);have C:=E.out.lt HB.out.1 (by omega) HF.out;obtain⟨_,_,sv,t,_⟩:=a.out.Hi C o.out.2.1;have k0:=kE t;have c9:=a.out.c9;have G:=t.lt;clear t;generalize hu:(i:Int)+1=u at*
  have bb:=a.out.Nc;have bc: ¬mb=w1.heap.size:=by omega
  have bd: ¬b=w1.heap.size:=by omega
  have ar:=Aa (a.out.drew.YO u o.out.1);have P:=Aa E.out.drew;go_region_held3(fun Q=>Q.cell? ⟨mb,9,N⟩=Z (ptr V.all)∧Q.cell? ⟨b,0,N⟩=Z (I U u)) (go_keep) (first|(go_at_call 243;refine ar.out.mono ?_;rintro e w2⟨⟨n,rfl⟩,ab,g,c⟩;have k9:=g.c9;have k0:w2.cell? ⟨b,0,N⟩=Z (I U u):=Jh g (c.keep C G) o.out.2.1 hu;have R:=Aa g;have S:=Aa (P.out.trans c);clear g c))
  all_goals
   go_wp2_with(first|(go_at_call 247;refine(R.out.Y4 d).mono ?_;rintro e w3⟨rfl,V3,L,l,z,ad⟩;have T:=Aa l;have W:=Aa (S.out.trans z);have au:=Aa ad;clear l z ad));go_end0;exact⟨rfl,V3,L,T.out,W.out,au.out⟩
 ·unfold D6 at d
  replace d:=CQ d;obtain⟨⟨p,F⟩,d⟩:=d;rw[Ah hp]at d;replace d:=CQ d;obtain⟨⟨av,aw⟩,d⟩:=d;obtain⟨k,hk⟩: ∃k:Nat,y.p=k:=⟨y.p.toNat,by omega⟩;rw[hk,An]at d;have ae:k<s.rings.length:=by omega
  obtain⟨x,M⟩: ∃x,s.gs[i]?=Z x:=⟨_,Ae p⟩;rw[GK M]at d;have HI:=Aa (h.is hb M 1 (by decide) (by decide));have A:=EY (x:={x with word:=Hn x.word 1}) p;have B:(s.CH i {x with word:=Hn x.word 1}).ms[j]?=Z y:=hj;have hd:((k:Int)== -1)=false:=by rw[Au];omega
  have o:=Aa (Ab F (Ab A (Ab B ae)));have HB:=Aa (Ab hb hx);have HF:=Aa hF;have HK:=Aa hk;clear h hb M p F A hx hj B hF hp av aw hk ae;go_enter func192,ntmps192;go_wp2_with(go_at_call 116;refine HI.out.mono ?_;rintro e w1⟨rfl,aa,q,r⟩;have D:=(r.lt HB.out.2 (by omega) HF.out);have xc:=Lz (q.CW D o.out.2.2.1);rw[HK.out]at xc;have a:=Aa q;have E:=Aa r;have X:=Aa D;clear q r D);have C:=E.out.lt HB.out.1 (by omega) HF.out;obtain⟨_,_,sv,t,_⟩:=a.out.Hi C o.out.2.1;have G:=t.lt;have af:=(a.out.CW X.out o.out.2.2.1).lt;have k0:=kE t;have c9:=a.out.c9;have c0:=a.out.c0;have m:=Aa (Ab C (Ab G af));clear t C G af;generalize hu:(i:Int)+1=u at*
  have ax:=Aa (a.out.drew.ring k o.out.2.2.2);have ay:=Aa (fun rb H=>a.out.drew.lu (rb:=rb) o.out.2.2.2 H u f);have ag:=Aa (a.out.eI (k:=k) o.out.2.2.2 u f);have HU:=Aa hu;have P:=Aa E.out.drew;clear hu;go_region_held3(fun Q=>Q.cell? ⟨mb,9,N⟩=Z (ptr V.all)∧Q.cell? ⟨mb,0,N⟩=Z (ptr V.procs)∧Q.cell? ⟨xb,1,N⟩=Z (I U k)∧Q.cell? ⟨b,0,N⟩=Z (I U u)) (go_keep) (first|(go_at_call 50;refine ax.out.mono ?_;rintro e w2⟨⟨rb,rfl,H⟩,rfl⟩;have az:=Aa H;clear H)|(go_at_call 51;refine(ay.out _ az.out).mono ?_;rintro e w2⟨v,rfl,hv,ab,g,c,ah⟩;have k9:=g.c9;have Rz:=g.c0;have k0:w2.cell? ⟨b,0,N⟩=Z (I U u):=Jh g (c.keep m.out.1 m.out.2.1) o.out.2.1 HU.out;have k1:w2.cell? ⟨xb,1,N⟩=Z (I U k):=(by have:=Lz (g.CW (c.keep X.out m.out.2.2) o.out.2.2.1);rwa [HK.out]at this);have R:=Aa g;have S:=Aa (P.out.trans c);have HV:=Aa (Ab hv ah);have a1:=Aa (c.keep X.out m.out.2.2);have a6:=Aa (c.keep m.out.1 m.out.2.1);have ai:=Aa (Ab (Am m.out.2.1 c.only.size) (Am m.out.2.2 c.only.size));clear g c hv ah)|(go_at_call 243;refine(R.out.VL _ _ (DB.Eh HV.out.1) (fun _ j hj e=>by rw[HV.out.2 j hj]at e;cases e) (by have:=o.out.1;have:=ag.out;show s.all.length+_<_;omega)).mono ?_;rintro e w3⟨rfl,L,l,z⟩;have k9:=l.c9;have Rz:=l.c0;have k0:w3.cell? ⟨b,0,N⟩=Z (I U u):=Jh l (z.keep a6.out ai.out.1) o.out.2.1 HU.out;have k1:w3.cell? ⟨xb,1,N⟩=Z (I U k):=(by have:=Lz (l.CW (z.keep a1.out ai.out.2) o.out.2.2.1);rwa [HK.out]at this);have T:=Aa l;have W:=Aa (S.out.trans z);clear l z))
  all_goals
   go_wp2_with(first|(go_at_call 247;refine(T.out.Y4 d).mono ?_;rintro e w4⟨rfl,V4,aj,ak,ao,aq⟩;have a7:=Aa ak;have a8:=Aa (W.out.trans ao);have ba:=Aa aq;clear ak ao aq));go_end0;exact⟨rfl,V4,aj,a7.out,a8.out,ba.out⟩
end
end Go.Proofs.YtgadhchejmlfjaaGreatDoor.CX
