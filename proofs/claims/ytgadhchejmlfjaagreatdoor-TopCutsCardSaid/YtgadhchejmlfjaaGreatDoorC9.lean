/- A part of the proof. -/
import Derived.Test.YtgadhchejmlfjaaGreatDoorC3
import Derived.Test.YtgadhchejmlfjaaGreatDoorC8
set_option linter.unusedVariables false
set_option maxRecDepth 20000
set_option maxHeartbeats 16000000
open Go.Value renaming int→I,pointer→J,slice→Y
open Go.IntKind renaming i64→U
open Option renaming none→N,some→Z
open Bool renaming false→rm,true→rq
open Go renaming Calls→re,TypeId→rA,Value→qY,World→oZ
open Go.Ending renaming returned→rC
open Go.Obj renaming cells→rD
open Go.RowKit renaming Below→qZ
open Go.RowKit.Below renaming drew→rk,refl→rf
open Go.Value renaming agg→rE,bool→ry,string→rF,tuple→rG
namespace Go.Proofs.YtgadhchejmlfjaaGreatDoor.Rt
open Go.Proofs.Tryz Go.RowKit Go.CL
open CX
open Vm (CN)
section
structure Sh (w:oZ) (pb po:Nat) (p:List (List CN×List Bool)) (cp cg cm:Nat):Prop where
 laid:DX.Laid w
 prog:EO.Gv w pb po p
 pr:EO.RS p=rq
 c1:1≤cp∧cp≤256
 mU:1≤cg∧cg≤64
 c3:1≤cm∧cm≤64
def UM(w:oZ)(a:Option Addr)(l:List (Int×Int×Int)):Prop:=l.length=0∨ ∃b c,a=Z ⟨b,c,N⟩∧G5 w b c l∧b<w.heap.size
def Sq(W:oZ)(s:St)(mb:Nat)(wr:oZ):Prop:= ∃V own,CC mb V own wr s∧(∀j,j<W.heap.size→own j=14)∧qZ W.heap.size W wr
section
variable {w w' W wr:oZ} {pb po:Nat} {p:List (List CN×List Bool)} {cp cg cm mb:Nat} {s s':St} {a:Option Addr} {l:List (Int×Int×Int)}
theorem Sh.below(h:Sh w pb po p cp cg cm)(a:qZ w.heap.size w w'):Sh w' pb po p cp cg cm:={h with laid:=h.laid.below a,prog:=h.prog.below a}
theorem Sh.inv(h:Sh w pb po p cp cg cm):Inv 1000 (JH (Ea p) cp cg cm):=by have:=h.c1;have:=h.mU;have:=h.c3;exact fZ (kj h.pr) (by omega) (by omega) (by omega)
theorem G5.Pd{lb a:Nat}(h:G5 w lb a l)(b:lb<w.heap.size)(c:qZ w.heap.size w w'):G5 w' lb a l:=fun k d=>by obtain⟨e,f,g⟩:=h k d;exact⟨(c.cell (p:=⟨lb,a+k*3,N⟩) b).trans e,(c.cell (p:=⟨lb,a+k*3+1,N⟩) b).trans f,(c.cell (p:=⟨lb,a+k*3+2,N⟩) b).trans g⟩
theorem UM.below(h:UM w a l)(b:qZ w.heap.size w w'):UM w' a l:=h.imp id fun⟨d,f,e,g,c⟩=>⟨d,f,e,G5.Pd g c b,Am c b.size⟩
theorem Sq.go(h:Sq W s mb wr)(a:qZ wr.heap.size wr w'):Sq W s mb w':=by obtain⟨V,own,b,c,d⟩:=h;exact⟨V,own,b.below a,c,Cu d a⟩
theorem Sq.ext{V c:Vr}{own C6:Nat→Nat}(d: ∀j,j<W.heap.size→own j=14) (e:qZ W.heap.size W wr) (f:Ext own wr C6 w') (g:CC mb c C6 w' s'):Sq W s' mb w':=by have b: ∀j,j<W.heap.size→Js W.heap.size j=14:=fun j a=>Ai a;refine⟨c,C6,g,fun j a=>(f.same j (Am a e.size)).trans (d j a),?_⟩;refine I8 (o0:=Js W.heap.size) e (fun j a=>.inr (b j a)) (fun j a=>(d j a).trans (b j a).symm) f
theorem Sh.new(h:Sh W pb po p cp cg cm)(pc:Nat):re Tryz.prog 10 #[rE #[Y (Z ⟨pb,po,N⟩) p.length pc],rE #[I U cp,I U cg,I U cm]] W fun e w'=> ∃mb,e=rC (rG #[ptr mb,I U 0])∧Sq W (JH (Ea p) cp cg cm) mb w':=by have d:=Z0 (pc:=pc) (rf W.heap.size W) h.laid (Nat.lt_of_le_of_lt (Ap _) h.prog.1) h.prog;refine(GA (Js W.heap.size) (Ea p) pb po pc p.length cp cg cm W d (fun f a=>EO.Mn pb po pc p f (h.laid.below a) (h.prog.below a) h.pr) h.c1 h.mU h.c3).mono ?_;rintro e w'⟨mb,V,own,rfl,b,g,i,a,_⟩;have k:=h.c1;obtain⟨n,rfl⟩: ∃n,cp=n+1:=⟨cp-1,by omega⟩;rw[gz _ _ _ _ k.2]at b;exact⟨mb,rfl,V,own,b,fun j c=>(i j c).trans (Ai c),a⟩
theorem Sq.runs(h:Sq W s mb wr){r:List St}(k:FD l s=Z (r,s'))(c:UM W a l)(b:l.length≤65536)(lc:Nat):re prog 69 #[ptr mb,.slice a l.length lc] wr fun e w'=>(∃v,e=rC v)∧Sq W s' mb w':=by obtain⟨V,own,m,g,d⟩:=h;refine(m.runs (a:=a) (lc:=lc) k (c.imp id fun⟨i,n,e,c,b⟩=>⟨i,n,e,G5.Pd c b d,Am b d.size,.inr (g i b)⟩) b).mono ?_;rintro e w'⟨v,p,j,rfl,_,_,f,o,_⟩;exact⟨⟨v,rfl⟩,Sq.ext (V:=V) g d o f⟩
theorem Sq.step(h:Sq W s mb wr){x y z:Int}(c:IF s x y z=Z s'):re prog 11 #[ptr mb,rE #[I U x,I U y,I U z]] wr fun e w'=>e=rC (rG #[rE #[I U s'.sc.kind,I U s'.sc.eg,I U s'.sc.JW,I U s'.sc.JX,I U s'.sc.en],ry s'.sc.seen])∧Sq W s' mb w':=by obtain⟨V,own,d,f,g⟩:=h;refine(d.step c).mono ?_;rintro e w'⟨rfl,j,b,a,i,_⟩;exact⟨rfl,Sq.ext (V:=V) f g i a⟩
theorem Sq.bI(h:Sq W s mb wr)(n:Inv 1000 s):re prog 12 #[ptr mb] wr fun e w'=>(∃b c d f g i j k l a,e=rC (rE #[I U s.sc.CD,b,c,d,f,g,i,j,k,l,a]))∧Sq W s mb w':=by
 obtain⟨V,own,m,o,p⟩:=h;obtain⟨i1,i2,i3,i4⟩:=n.mT;refine(m.bI i1 i2 i3 i4).mono ?_;rintro e w'⟨q,r,rfl,t⟩;refine⟨?_,Sq.go ⟨V,own,m,o,p⟩ t⟩;match q,r with
 | [b,c,d,f,g,i,j,k,l,a],_=>exact⟨b,c,d,f,g,i,j,k,l,a,rfl⟩
end
theorem boxes(w:oZ)(u:qY)(x y z:qY){a:oZ}(h:(w.alloc (rD #[u] 26)).alloc (rD #[x,y,z] 34)=a):qZ w.heap.size w a∧ ∀W,qZ a.heap.size a W→W.cell? ⟨w.heap.size,0,N⟩=Z u∧W.cell? ⟨w.heap.size+1,0,N⟩=Z x∧W.cell? ⟨w.heap.size+1,1,N⟩=Z y∧W.cell? ⟨w.heap.size+1,2,N⟩=Z z:=by
 subst h;refine⟨Ct (Ct (rf _ _) _) _,fun W b=>?_⟩;have c:Cx ((w.alloc (rD #[u] 26)).alloc (rD #[x,y,z] 34)) w.heap.size #[u] 26:=(Cx.new w _ 26).below (Ct (rf _ _) _) (by simp);have d:Cx ((w.alloc (rD #[u] 26)).alloc (rD #[x,y,z] 34)) (w.heap.size+1) #[x,y,z] 34:=by have k:=Cx.new (w.alloc (rD #[u] 26)) #[x,y,z] 34;simpa using k
 have k2:=c.below b c.lt;have k3:=d.below b d.lt;exact⟨k2.cell 0,k3.cell 0,k3.cell 1,k3.cell 2⟩
theorem iA(W:oZ)(h:Int)(x1 x2 x3 x4 x5 x6 x7 x8 x9 F3:qY):(Instr.field 45 (rE #[I U h,x1,x2,x3,x4,x5,x6,x7,x8,x9,F3]) 0).run prog W= .ok (I U h) W:=by kernel_rfl
theorem Jd(pb po pc lc:Nat)(p:List (List CN×List Bool))(cp cg cm:Nat)(a:Option Addr)(l:List (Int×Int×Int))(w:oZ)(h:Sh w pb po p cp cg cm)(m:UM w a l)(n:l.length≤65536):re prog 17 #[rE #[Y (Z ⟨pb,po,N⟩) p.length pc],rE #[I U cp,I U cg,I U cm],.slice a l.length lc] w fun e w'=>e=rC (I U (GU (Ea p) cp cg cm l))∧qZ w.heap.size w w':=by obtain⟨r,s',d,o⟩:=M9 l _ h.inv;rw[UL d];obtain⟨f,g⟩: ∃f,(w.alloc (rD #[Y (Z ⟨pb,po,N⟩) p.length pc] 26)).alloc (rD #[I U cp,I U cg,I U cm] 34)=f:=⟨_,rfl⟩;obtain⟨c,q⟩:=boxes w _ _ _ _ g;have s:=Aa ((h.below c).new pc);have t:=Aa (m.below c);have i:=Aa (Ab d (Ab o n));have u:=Aa c;obtain⟨A,B,C,D⟩:=q f (rf _ _);clear h m n d o c q;have E:=iA;go_enter func17,ntmps17;go_wp2_with(first|(go_at_call 10;refine s.out.mono ?_;rintro e F⟨mb,rfl,b⟩;have x:=Aa b;clear b)|(go_at_call 69;refine(x.out.runs i.out.1 t.out i.out.2.2 lc).mono ?_;rintro e G⟨⟨v,rfl⟩,b⟩;have j:=Aa b;clear b)|(go_at_call 12;refine(j.out.bI i.out.2.1).mono ?_;rintro e H⟨⟨K,L,M,O,P,Q,R,S,T,y,rfl⟩,b⟩;have k:=Aa b;clear b));go_ret;obtain⟨V,own,_,_,z⟩:=k.out;exact⟨rfl,Cu u.out z⟩
end
def qE(W:oZ)(l:List (Int×Int×Int))(r':St)(a:Nat)(t:qY)(wr:oZ):Prop:= ∃(k:Nat)(s:St)(r:List St),t=I U k∧k≤l.length∧Sq W s a wr∧Inv 1000 s∧s.sc.CD=0∧FD (l.drop k) s=Z (r,r')
def qF(hd:Int)(n:Nat)(w:oZ)(e:Ending)(w':oZ):Prop:=(∃z:Int,e=rC (I U z)∧(hd≠0→1≤z∧z≤n))∧qZ w.heap.size w w'
theorem TI(R S pc lc:Nat)(p:List (List CN×List Bool))(M cg cm:Nat)(a:Option Addr)(l:List (Int×Int×Int))(w:oZ)(h:Sh w R S p M cg cm)(hE:UM w a l)(hl:l.length≤65536):re prog 16 #[rE #[Y (Z ⟨R,S,N⟩) p.length pc],rE #[I U M,I U cg,I U cm],.slice a l.length lc] w (qF (GU (Ea p) M cg cm l) l.length w):=by
 obtain⟨r,s',T,hi⟩:=M9 l _ h.inv;rw[UL T];obtain⟨F,V⟩: ∃F,(w.alloc (rD #[Y (Z ⟨R,S,N⟩) p.length pc] 26)).alloc (rD #[I U M,I U cg,I U cm] 34)=F:=⟨_,rfl⟩;obtain⟨O,hC⟩:=boxes w _ _ _ _ V;have HN:=Aa ((h.below O).new pc);have HE:=Aa (hE.below O);have HR:=Aa (Ab T (Ab hi h.inv));have HB:=Aa O;obtain⟨q0,q1,q2,q3⟩:=hC F (rf _ _);obtain⟨G,z⟩: ∃G,l.length=G:=⟨_,rfl⟩;rw[z]at hl⊢;have d:=Aa z;clear h hE T hi O hC z;go_enter func16,ntmps16;go_wp2_with(go_at_call 10;refine HN.out.mono ?_;rintro e w1⟨mb,rfl,o⟩;have HS:=Aa o;clear o);clear q0 q1 q2 q3;go_loopw [26] (fun t wr=>qE F l s' mb t wr) (fun t _=>G-(intOf t).toNat)
 case atStart=>exact⟨0,_,r,rfl,Ap _,HS.out,HR.out.2.2,rfl,HR.out.1⟩
 case round=>
  obtain⟨k,s,r1,rfl,W,o,X,u,f⟩:=hrel;rw[d.out]at W;by_cases A:k<G
  ·have ad:(k:Int)<(G:Int):=by omega
   obtain⟨lb,lo,rfl,H,B⟩:=HE.out.resolve_left (by rw[d.out];omega);have C:qZ F.heap.size F wr:=by obtain⟨_,_,_,_,q⟩:=o;exact q
   obtain⟨p0,p1,p2⟩:=G5.Pd H B C k (by rw[d.out];exact A);have ab:lb<wr.heap.size:=Am B C.size;obtain⟨s2,r2,g,v,_⟩:=NX (by rw[d.out];exact A) f;obtain⟨x,hx⟩: ∃x,l[k]?.getD (0,0,0)=x:=⟨_,rfl⟩;rw[hx]at p0 p1 p2 g;obtain⟨x0,x1,x2⟩:=x;simp only at p0 p1 p2 g;obtain⟨i,y,K⟩:=Rh X x0 x1 x2;obtain rfl:i=s2:=Bk (y.symm.trans g);have hH:=gj g u;have c:=Aa (Ab o (Ab g (Ab K (Ab v hH))));clear H B C g y K f v o X u hH hx W;obtain⟨P,L⟩: ∃P,i.sc.CD=P:=⟨_,rfl⟩;have Q:=Aa L;have hf:=iA;by_cases u:P=0
   ·subst u
    cases n:i.sc.seen with
    |false=>
     go_wp2_with(go_at_call 11;refine((c.out.1.go (by repeat(first|exact rf _ _|refine Ct ?_ _|refine Zbr ?_ (Al _) _))).step c.out.2.1).mono ?_;rintro e w3⟨rfl,b⟩;rw[n];have j:=Aa b;clear b);go_roundw
     case rel=>exact⟨k+1,i,r2,by go_num,by rw[d.out];omega,j.out.go (Ct (rf _ _) _),c.out.2.2.1,Q.out,c.out.2.2.2.1⟩
     case measure=>simp[intOf];omega
    |true=>
     go_wp2_with(first|(go_at_call 11;refine((c.out.1.go (by repeat(first|exact rf _ _|refine Ct ?_ _|refine Zbr ?_ (Al _) _))).step c.out.2.1).mono ?_;rintro e w3⟨rfl,b⟩;rw[n];have j:=Aa b;clear b)|(go_at_call 12;refine((j.out.go (Ct (rf _ _) _)).bI c.out.2.2.1).mono ?_;rintro e w4⟨⟨y1,y2,y3,y4,y5,y6,y7,y8,y9,aa,rfl⟩,m⟩;rw[Q.out];have D:=Aa m;clear m));go_roundw
     case rel=>exact⟨k+1,i,r2,by go_num,by rw[d.out];omega,D.out,c.out.2.2.1,Q.out,c.out.2.2.2.1⟩
     case measure=>simp[intOf];omega
   ·have n:i.sc.seen=true:=c.out.2.2.2.2 (by rw[L];exact u)
    have q0:(P==0)=false:=by simpa using u
    go_wp2_with(first|(go_at_call 11;refine((c.out.1.go (by repeat(first|exact rf _ _|refine Ct ?_ _|refine Zbr ?_ (Al _) _))).step c.out.2.1).mono ?_;rintro e w3⟨rfl,b⟩;rw[n];have j:=Aa b;clear b)|(go_at_call 12;refine((j.out.go (Ct (rf _ _) _)).bI c.out.2.2.1).mono ?_;rintro e w4⟨⟨y1,y2,y3,y4,y5,y6,y7,y8,y9,aa,rfl⟩,m⟩;rw[Q.out];have D:=Aa m;clear m));go_ret;obtain⟨_,_,_,_,E⟩:=D.out;exact⟨⟨_,rfl,fun _=>by omega⟩,Cu HB.out E⟩
  ·obtain rfl:k=G:=by omega
   rw[Zae (by rw[d.out];exact Al _)]at f;unfold FD at f;simp only[Ak,AM]at f;obtain⟨_,rfl⟩:=f;have c:=Aa (Ab o u);clear o X u A W;go_wp2;go_ret;obtain⟨_,_,_,_,E⟩:=c.out.1;exact⟨⟨-1,rfl,fun h=>absurd c.out.2 h⟩,Cu HB.out E⟩
section
open cN (es)
variable {w w':oZ} {v:qY}
abbrev En:=Int×Int×Int
variable {l:List En}
theorem JV(l:List En):(es l).length=l.length*3:=by
 induction l with
 |nil=>rfl
 |cons x l a=>simp only[es,BD,Aw,AB,AF]at a⊢;omega
theorem Pe(l:List En):ints (es l):=by intro x a;obtain⟨y,_,hy⟩:=Zbp.1 a;simp only[Bv,Zbo,or_false]at hy;rcases hy with rfl|rfl|rfl<;>rfl
theorem Ph(a b:List En):es (a++b)=es a++es b:=by simp[es]
theorem UN(l:List En)(k:Nat)(a:k≤l.length):(es l).take (k*3)=es (l.take k):=by
 conv=>lhs;rw[←Bm k l,Ph]
 rw[List.take_left' (by rw[JV,AN];omega)]
theorem UO(l:List En)(k:Nat)(a:k≤l.length):(es l).drop (k*3)=es (l.drop k):=by
 conv=>lhs;rw[←Bm k l,Ph]
 rw[List.drop_left' (by rw[JV,AN];omega)]
def Ow(w:oZ)(v:qY)(l:List En):Prop:=w.ownsRow 0 36 3 v l.length (es l)
theorem Ow.below(h:Ow w v l)(a:qZ w.heap.size w w'):Ow w' v l:=CJ h a
theorem Ow.en(h:Ow w v l): ∃a c,v= .slice a l.length c∧UM w a l:=by
 by_cases b:l.length=0
 ·obtain⟨a,c,rfl⟩:=DE h
  exact⟨a,c,rfl,.inl b⟩
 ·obtain⟨g,cap,rfl,_,d,e⟩:=OX h (by omega)
  exact⟨_,cap,rfl,.inr ⟨g,0,rfl,e,d⟩⟩
theorem Ow.some(h:Ow w v l)(a:0<l.length): ∃g cap,v=Y (Z ⟨g,0,N⟩) l.length cap:=by obtain⟨g,cap,b,_⟩:=OX h a;exact⟨g,cap,b⟩
structure Cl (W:oZ) (b3 b4 pG:Nat) (pv:qY) (cp cg cm:Nat) (qG:Int):Prop where
 p0:W.cell? ⟨b3,0,N⟩=Z pv
 oV:W.cell? ⟨b4,0,N⟩=Z (I U cp)
 oW:W.cell? ⟨b4,1,N⟩=Z (I U cg)
 oX:W.cell? ⟨b4,2,N⟩=Z (I U cm)
 r0:W.cell? ⟨pG,0,N⟩=Z (I U qG)
 mV:b3<W.heap.size
 gC:b4<W.heap.size
 l10:pG<W.heap.size
theorem Cl.below{W:oZ}{e c b:Nat}{pv:qY}{f cg cm:Nat}{d:Int}(h:Cl W e c b pv f cg cm d)(a:qZ W.heap.size W w'):Cl w' e c b pv f cg cm d:=⟨(a.cell (p:=⟨e,0,N⟩) h.mV).trans h.p0,(a.cell (p:=⟨c,0,N⟩) h.gC).trans h.oV,(a.cell (p:=⟨c,1,N⟩) h.gC).trans h.oW,(a.cell (p:=⟨c,2,N⟩) h.gC).trans h.oX,(a.cell (p:=⟨b,0,N⟩) h.l10).trans h.r0,Am h.mV a.size,Am h.gC a.size,Am h.l10 a.size⟩
theorem bJ(g i pc lc j d b:Nat)(p:List (List CN×List Bool))(f cg cm:Nat)(a:Option Addr)(l:List En)(c:Int)(W:oZ)(h:Sh W g i p f cg cm)(o:UM W a l)(q:l.length≤65536)(k:Cl W j d b (Y (Z ⟨g,i,N⟩) p.length pc) f cg cm c):re prog 65 #[.slice a l.length lc,J (Z ⟨j,0,N⟩),J (Z ⟨d,0,N⟩),J (Z ⟨b,0,N⟩)] W fun e w'=>e=rC (ry (GU (Ea p) f cg cm l==c))∧qZ W.heap.size W w':=by
 obtain⟨p0,v,w,x,r0,_,_,_⟩:=id k;have r:=Aa (fun n=>Jd g i pc lc p f cg cm a l (W.drewN n) (h.below ⟨rfl,rfl,rfl,Al _,fun _ _=>rfl⟩) (o.below ⟨rfl,rfl,rfl,Al _,fun _ _=>rfl⟩) q);have s:=Aa k;clear h o q k;go_enter func65,ntmps65;go_wp2_with fail;go_region_held3(fun w'=>w'.cell? ⟨j,0,N⟩=Z (Y (Z ⟨g,i,N⟩) p.length pc)∧w'.cell? ⟨d,0,N⟩=Z (I U f)∧w'.cell? ⟨d,1,N⟩=Z (I U cg)∧w'.cell? ⟨d,2,N⟩=Z (I U cm)∧w'.cell? ⟨b,0,N⟩=Z (I U c)) (go_keep) (first|(go_at_call 17;refine(r.out 1).mono ?_;rintro e t⟨rfl,m⟩;obtain⟨e0,y,z,A,B,_,_,_⟩:=s.out.below (w':=t) (Cu (rk (rf _ _)) m);have u:=Aa m;clear m))
 all_goals
  go_wp2;go_ret;exact⟨rfl,Cu (rk (rf _ _)) u.out⟩
end
open cN (es)
variable {g cap k sz:Nat} {L:List En} {wr W:oZ}
def Gd(b:List CX.Fn)(c cg cm:Int)(a:Int)(n:Nat)(L:List En):Prop:=GU b c cg cm L=a∧L.length≤n∧0<L.length
def oY(b:List CX.Fn)(c cg cm:Int)(a:Int)(n:Nat)(w:oZ)(e:Ending)(w':oZ):Prop:=(a=0∧(∃v,e=rC (rG #[v,I U 8]))∨a≠0∧ ∃v L,e=rC (rG #[v,I U 0])∧Ow w' v L∧Gd b c cg cm a n L)∧qZ w.heap.size w w'
theorem mW{w:oZ}{lb a:Nat}{l:List En}(h:G5 w lb a l)(c:lb<w.heap.size):XF w lb a (es l):=by
 refine⟨c,fun j x b=>?_⟩;have d:j<l.length*3:=by rw[←JV];exact(Af.1 b).1
 obtain⟨f,g,i⟩:=h (j/3) (by omega);have k:=Ma (fun x:En=>[I U x.1,I U x.2.1,I U x.2.2]) 3 (0,0,0) (fun _=>rfl) l (j/3) (j%3) (by omega) (by omega);rw[show j/3*3+j%3=j by omega,show(l.flatMap fun x:En=>[I U x.1,I U x.2.1,I U x.2.2])=es l from rfl,b]at k;have m:j%3=0∨j%3=1∨j%3=2:=by omega
 rcases m with e|e|e
 ·rw[e]at k;rw[show a+j=a+j/3*3 by omega,f,k];rfl
 ·rw[e]at k;rw[show a+j=a+j/3*3+1 by omega,g,k];rfl
 ·rw[e]at k;rw[show a+j=a+j/3*3+2 by omega,i,k];rfl
theorem Od{o2:Nat}(d:Ow wr (Y (Z ⟨g,0,N⟩) L.length cap) L)(h:k+sz≤L.length)(y:L.length≤60)(f:0<L.length)(u:qZ wr.heap.size wr W)(w:cap=k+sz∧o2=0∨ ¬cap=k+sz∧o2=(k+sz)*3)(b vc:Nat):re prog 67 #[Y (Z ⟨W.heap.size,0,N⟩) 2 vc] (W.alloc (rD #[Y (Z ⟨g,0,N⟩) k cap,Y (Z ⟨g,o2,N⟩) (L.length-(k+sz)) b] 52)) fun e l=> ∃v,e=rC v∧Ow l v (L.take k++L.drop (k+sz))∧qZ W.heap.size W l:=by
 have n:=Cx.new W #[Y (Z ⟨g,0,N⟩) k cap,Y (Z ⟨g,o2,N⟩) (L.length-(k+sz)) b] 52;have r:=(Lf (i:=k+sz) (m:=0) (c:=0) d f).2;have o:=Ru (m:=k*3) d f;have s:XF wr g o2 ((es L).drop ((k+sz)*3)):=by
  rcases w with⟨e,rfl⟩|⟨e,rfl⟩
  ·refine⟨o.1,fun j x t=>?_⟩
   rw[Zae (by rw[JV];omega)]at t;cases t
  ·exact(Lf (i:=k+sz) (m:=0) (c:=0) d f).1
 rw[UN _ _ (by omega)]at o;rw[UO _ _ h]at s;have a:=Ct u (rD #[Y (Z ⟨g,0,N⟩) k cap,Y (Z ⟨g,o2,N⟩) (L.length-(k+sz)) b] 52);refine(TG W.heap.size g 0 k cap g o2 (L.length-(k+sz)) b _ _ _ (n.cell 0) (n.cell 1) n.lt (o.below a) (s.below a) (by rw[JV,AN,Zbf (by omega)]) (by rw[JV,BW]) (Pe _) (Pe _) (by omega) vc).mono ?_;rintro e l⟨v,rfl,p,q⟩;refine⟨v,rfl,?_,Cu (Ct (rf _ _) _) q⟩;unfold Ow;rw[Ph,Aw,AN,BW,Zbf (by omega)];exact DZ p (Ap _)
theorem bK(b:Ow wr (Y (Z ⟨g,0,N⟩) L.length cap) L)(h:k+sz≤L.length)(c:L.length≤60)(d:0<L.length)(f:qZ wr.heap.size wr W)(a vc:Nat):re prog 67 #[Y (Z ⟨W.heap.size,0,N⟩) 2 vc] (W.alloc (rD #[Y (Z ⟨g,0,N⟩) k cap,.slice (if cap=k+sz then Z ⟨g,0,N⟩else Z ⟨g,(k+sz)*3,N⟩) (L.length-(k+sz)) a] 52)) fun e i=> ∃v,e=rC v∧Ow i v (L.take k++L.drop (k+sz))∧qZ W.heap.size W i:=by
 split
 ·exact Od b h c d f (.inl ⟨by assumption,rfl⟩) a vc
 ·exact Od b h c d f (.inr ⟨by assumption,rfl⟩) a vc
theorem bM(f:Ow wr (Y (Z ⟨g,0,N⟩) L.length cap) L)(d:k<L.length)(i:L.length≤60)(h:qZ wr.heap.size wr W):re prog 68 #[Y (Z ⟨g,0,N⟩) L.length cap,I U k] W fun e b=> ∃v,e=rC v∧Ow b v (L.take k++L.drop (k+1))∧qZ W.heap.size W b:=by refine(Rv g L.length cap k 0 (es L) W (CJ f h) d (by omega) (Pe L)).mono ?_;rintro e b⟨v,rfl,a,c⟩;refine⟨v,rfl,?_,c⟩;unfold Ow;rw[UN _ _ (by omega),UO _ _ d]at a;rw[Ph,Aw,AN,BW,Zbf (by omega)];exact DZ a (Ap _)
def lenOf:qY→Nat
 | .slice _ n _=>n
 |_=>0
theorem Ol(pb po pc lc:Nat)(p:List (List CN×List Bool))(u cg cm:Nat)(a:Option Addr)(l:List En)(w:oZ)(h:Sh w pb po p u cg cm)(hE:UM w a l)(hl:l.length≤60):re prog 15 #[rE #[Y (Z ⟨pb,po,N⟩) p.length pc],rE #[I U u,I U cg,I U cm],.slice a l.length lc] w (oY (Ea p) u cg cm (GU (Ea p) u cg cm l) l.length w):=by
 obtain⟨G,ah⟩: ∃G,(w.alloc (rD #[Y (Z ⟨pb,po,N⟩) p.length pc] 26)).alloc (rD #[I U u,I U cg,I U cm] 34)=G:=⟨_,rfl⟩;obtain⟨b,hC⟩:=boxes w _ _ _ _ ah;have hz:G.heap.size=w.heap.size+1+1:=by rw[←ah];simp
 have HN:=Aa ((h.below b).new pc);have HE:=Aa (hE.below b);have HS:=Aa (h.below b);have HH:=Aa (fun W(hW:qZ G.heap.size G W)=>Jd pb po pc lc p u cg cm a l W (h.below (Cu b hW)) (hE.below (Cu b hW)) (by omega));have HB:=Aa b;have HC:=Aa hC;have HZ:=Aa hz;obtain⟨q0,q1,q2,q3⟩:=hC G (rf _ _);obtain⟨d,E⟩: ∃d,GU (Ea p) u cg cm l=d:=⟨_,rfl⟩;rw[E]at HH⊢;have HW:=Aa E;have a1:decide ((200:Int)<(l.length:Int))=false:=by simp;omega
 have HL:=Aa hl;clear h hE b hC hl hz;by_cases h0:d=0
 ·subst h0
  go_enter func15,ntmps15;go_wp2_with fail;go_step3;go_wp2_with(first|(go_at_call 10;refine HN.out.mono ?_;rintro e w1⟨mb,rfl,hS⟩;have C:qZ G.heap.size G w1:=(by obtain⟨_,_,_,_,q⟩:=hS;exact q);obtain⟨b0,b1,b2,b3⟩:=HC.out w1 C;have F:=Aa C;clear C hS)|(go_at_call 17;refine(HH.out _ F.out).mono ?_;rintro e H⟨rfl,b⟩;have D:=Aa (Cu F.out b);clear b));rw[Bp];go_ret2;exact⟨.inl ⟨rfl,_,rfl⟩,Ct (Cu HB.out D.out) _⟩
 ·have au:(d==0)=false:=by simpa using h0
  have aa:=Aa h0;have ai:Hid (∀H,qZ G.heap.size G H→Cl (H.alloc (rD #[I U d] 3)) w.heap.size (w.heap.size+1) H.heap.size (Y (Z ⟨pb,po,N⟩) p.length pc) u cg cm d):=fun H aj=>by obtain⟨c0,c1,c2,c3⟩:=HC.out (H.alloc (rD #[I U d] 3)) (Ct aj _);have hs:=aj.size;have hz:=HZ.out;exact⟨c0,c1,c2,c3,(Cx.new H #[I U d] 3).cell 0,by simp;omega,by simp;omega,by simp⟩
  have S:0<l.length:=Zb9 fun e=>h0 (by rw[←E,A3.1 e];rfl);obtain⟨lb,lo,rfl,ak,ab⟩:=HE.out.resolve_left (by omega);go_enter func15,ntmps15;go_wp2_with fail;go_step3;go_wp2_with(first|(go_at_call 10;refine HN.out.mono ?_;rintro e w1⟨mb,rfl,hS⟩;have C:qZ G.heap.size G w1:=(by obtain⟨_,_,_,_,q⟩:=hS;exact q);obtain⟨b0,b1,b2,b3⟩:=HC.out w1 C;have F:=Aa C;clear C hS)|(go_at_call 17;refine(HH.out _ F.out).mono ?_;rintro e H⟨rfl,b⟩;have D:=Aa (Cu F.out b);clear b)|(go_at_call 66;refine(D0 lb lo l.length lc (es l) _ (by have:=HL.out;omega) (JV l) (mW (G5.Pd ak ab (Ct D.out _)) (Am ab (Ct D.out _).size))).mono ?_;rintro e T⟨v4,rfl,ao,ad⟩;have K:Ow T v4 l:=DZ ao (Ap _);obtain⟨g4,a6,rfl⟩:=Ow.some K S;have av:=Aa K;clear K;have aq:=Aa ((ai.out H D.out).below ad);have ae:=Aa (Cu (Ct D.out _) ad);clear ao ad));have M:Hid (∀(W:oZ)(a':Option Addr)(af:Nat)(L:List En),qZ T.heap.size T W→UM W a' L→L.length≤60→re prog 65 #[.slice a' L.length af,J (Z ⟨w.heap.size,0,N⟩),J (Z ⟨w.heap.size+1,0,N⟩),J (Z ⟨H.heap.size,0,N⟩)] W fun e w'=>e=rC (ry (GU (Ea p) u cg cm L==d))∧qZ W.heap.size W w'):=fun W a' af L hW hE hL=>bJ pb po pc af _ _ _ p u cg cm a' L d W (HS.out.below (Cu ae.out hW)) hE (by omega) (aq.out.below hW);obtain⟨ar,X⟩: ∃ar,H.heap.size=ar:=⟨_,rfl⟩;rw[X]at M⊢;have aw:=Aa (Cu HB.out ae.out);have ax:Hid (Gd (Ea p) u cg cm d l.length l):=⟨E,Al _,S⟩;clear q0 q1 q2 q3 b0 b1 b2 b3 X aq ae D F ai ak ab S au;go_loopw [12,13] (fun t12 t13 wr=> ∃(L:List En)(sz:Nat),Ow wr t12 L∧Gd (Ea p) u cg cm d l.length L∧qZ T.heap.size T wr∧t13=I U sz∧sz≤60) (fun _ t _=>(intOf t).toNat)
  case atStart=>exact⟨l,l.length/2,av.out,ax.out,rf _ _,by have:=HL.out;unfold wrap64;simp;omega,by have:=HL.out;omega⟩
  case round=>
   obtain⟨L,sz,v,r,b,rfl,a8⟩:=hrel;by_cases h1:1<sz
   ·have d1:decide ((1:Int)<(sz:Int))=true:=by simp;omega
    obtain⟨g,cap,rfl⟩:=Ow.some v r.2.2;have f:=Aa (Ab v (Ab r b));clear v r b;go_wp2_with fail;go_loopw [12,14] (fun t12 t14 wr=> ∃(L:List En)(x:Int),Ow wr t12 L∧Gd (Ea p) u cg cm d l.length L∧qZ T.heap.size T wr∧t14=I U x∧x+sz≤L.length∧ -100≤x) (fun _ t _=>(intOf t+sz).toNat)
    case atStart=>exact⟨L,(L.length:Int)-sz,f.out.1,f.out.2.1,f.out.2.2,by have:=f.out.2.1.2.1;have:=HL.out;unfold wrap64;simp;omega,by omega,by omega⟩
    case round=>
     clear f d1;obtain⟨L,x,v,r,b,rfl,hx,ay⟩:=hrel;have O:L.length≤60:=by have:=r.2.1;have:=HL.out;omega
     by_cases h0:0≤x
     ·obtain⟨k,rfl⟩: ∃k:Nat,x=k:=⟨x.toNat,by omega⟩
      obtain⟨g,cap,rfl⟩:=Ow.some v r.2.2;have a7:=(Lf (i:=0) (m:=0) (c:=0) v r.2.2).2;have HP:=fun(W:oZ)(b:qZ wr.heap.size wr W)=>bK (g:=g) v (show k+sz≤L.length by omega) O r.2.2 b (cap-(k+sz)) 2;have f:=Aa (Ab v (Ab r b));have e1:IntKind.i64.wrap ((k:Int)+(sz:Int))=((k+sz:Nat):Int):=by rw[Zav];omega
      have e3:((k:Int)+(sz:Int)).toNat=k+sz:=by omega
      have e2:min ((k:Int)+(sz:Int)) (L.length:Int)=(k:Int)+(sz:Int):=by omega
      have n1:k≤cap:=by omega
      have n2:(k:Int)+(sz:Int)≤(L.length:Int):=by omega
      have n3:0≤(k:Int)+(sz:Int):=by omega
      have az:=Aa HP;obtain⟨y,P⟩: ∃y,L.take k++L.drop (k+sz)=y:=⟨_,rfl⟩;have Q:y.length=L.length-sz:=by rw[←P,Aw,AN,BW];omega
      have s:=Aa Q;clear v r b HP Q;go_wp2_with fail;go_region_law(go_simp;(go_at_call 67;refine(az.out wr.drew (rk (rf _ _))).mono ?_;rintro e w5⟨v5,rfl,n,z⟩;rw[P]at n;obtain⟨a5,c5,rfl,A⟩:=Ow.en n;have B:=Lib.hid (And.intro n A);have j:=Lib.hid (Cu (rk (rf wr.heap.size wr)) z);clear n A z;dsimp only))
      all_goals
       have V:=Aa (Cu f.out.2.2 j.out);cases hb:(GU (Ea p) u cg cm y==d)with
       |false=>
        go_wp2_with(go_at_call 65;refine(M.out w5 a5 c5 y V.out B.out.2 (by have:=s.out;omega)).mono ?_;rintro e w6⟨rfl,b⟩;rw[hb];have o:=Aa b;clear b);go_roundw
        case rel=>exact⟨L,(k:Int)-sz,f.out.1.below (Cu j.out o.out),f.out.2.1,Cu V.out o.out,rfl,by omega,by omega⟩
        case measure=>simp[intOf];omega
       |true=>
        go_wp2_with(go_at_call 65;refine(M.out w5 a5 c5 y V.out B.out.2 (by have:=s.out;omega)).mono ?_;rintro e w6⟨rfl,b⟩;rw[hb];have o:=Aa b;clear b);go_roundw
        case rel=>
         have hw:GU (Ea p) u cg cm y=d:=by simpa using hb
         refine⟨y,(k:Int)-sz,B.out.1.below o.out,⟨hw,by have:=s.out;have:=f.out.2.1.2.1;omega,Zb9 fun e=>aa.out (by rw[←hw,A3.1 e];rfl)⟩,Cu V.out o.out,rfl,by have:=s.out;omega,by omega⟩
        case measure=>simp[intOf];omega
     ·have d0:decide (0≤x)=false:=by simp;omega
      have f:=Aa (Ab v (Ab r b));clear v r b;go_wp2;go_roundw
      case rel=>exact⟨L,sz/2,f.out.1,f.out.2.1,f.out.2.2,by simp,by omega⟩
      case measure=>simp[intOf];omega
   ·have d1:decide ((1:Int)<(sz:Int))=false:=by simp;omega
    have f:=Aa (Ab v (Ab r b));clear v r b HE;go_wp2;go_step3;go_wp2;go_loopw [12] (fun t12 wr=> ∃L:List En,Ow wr t12 L∧Gd (Ea p) u cg cm d l.length L∧qZ T.heap.size T wr) (fun t _=>lenOf t)
    case atStart=>exact⟨L,f.out⟩
    case round=>
     clear f d1;obtain⟨L,v,r,b⟩:=hrel;have O:L.length≤60:=by have:=r.2.1;have:=HL.out;omega
     obtain⟨g,cap,rfl⟩:=Ow.some v r.2.2;have S:=r.2.2;have f:=Aa (Ab v (Ab r b));clear v r b;go_wp2_with fail;go_loopw [12,16] (fun t12 t16 wx=> ∃x:Int,t12=Y (Z ⟨g,0,N⟩) L.length cap∧t16=I U x∧ -1≤x∧x<L.length∧qZ wr.heap.size wr wx) (fun _ t _=>(intOf t+1).toNat)
     case atStart=>exact⟨(L.length:Int)-1,rfl,rfl,by omega,by omega,rf _ _⟩
     case round=>
      obtain⟨x,rfl,rfl,ay,hx,b⟩:=hrel;by_cases h0:0≤x
      ·obtain⟨k,rfl⟩: ∃k:Nat,x=k:=⟨x.toNat,by omega⟩
       obtain⟨y,P⟩: ∃y,L.take k++L.drop (k+1)=y:=⟨_,rfl⟩;have Q:y.length=L.length-1:=by rw[←P,Aw,AN,BW];omega
       have s:=Aa Q;have ag:=Aa (bM f.out.1 (show k<L.length by omega) O b);rw[P]at ag;have R:=Aa b;clear Q b;cases hb:(GU (Ea p) u cg cm y==d)with
       |false=>
        go_wp2_with(first|(go_at_call 68;refine ag.out.mono ?_;rintro e w5⟨v5,rfl,n,z⟩;obtain⟨a5,c5,rfl,A⟩:=Ow.en n;have B:=Aa (Ab n A);have j:=Aa (Cu R.out z);clear n A z)|(go_at_call 65;refine(M.out _ a5 c5 y (Cu f.out.2.2 j.out) B.out.2 (by have:=s.out;omega)).mono ?_;rintro e w6⟨rfl,b⟩;rw[hb];have o:=Aa b;clear b));go_roundw
        case rel=>exact⟨(k:Int)-1,rfl,rfl,by omega,by omega,Cu j.out o.out⟩
        case measure=>simp[intOf]
       |true=>
        go_wp2_with(first|(go_at_call 68;refine ag.out.mono ?_;rintro e w5⟨v5,rfl,n,z⟩;obtain⟨a5,c5,rfl,A⟩:=Ow.en n;have B:=Aa (Ab n A);have j:=Aa (Cu R.out z);clear n A z)|(go_at_call 65;refine(M.out _ a5 c5 y (Cu f.out.2.2 j.out) B.out.2 (by have:=s.out;omega)).mono ?_;rintro e w6⟨rfl,b⟩;rw[hb];have o:=Aa b;clear b));go_roundw
        case rel=>
         have hw:GU (Ea p) u cg cm y=d:=by simpa using hb
         exact⟨y,B.out.1.below o.out,⟨hw,by have:=s.out;have:=f.out.2.1.2.1;omega,Zb9 fun e=>aa.out (by rw[←hw,A3.1 e];rfl)⟩,Cu f.out.2.2 (Cu j.out o.out)⟩
        case measure=>have:=s.out;simp[lenOf];omega
      ·have d0:decide (0≤x)=false:=by simp;omega
       have R:=Aa b;clear b;go_wp2;go_ret2;exact⟨.inr ⟨aa.out,_,L,rfl,f.out.1.below R.out,f.out.2.1⟩,Cu aw.out (Cu f.out.2.2 R.out)⟩
end Go.Proofs.YtgadhchejmlfjaaGreatDoor.Rt
namespace Go.Proofs.YtgadhchejmlfjaaGreatDoor.nF
open Go.Proofs.Tryz Go.RowKit Go.CL
open DX (Laid)
open CX
open Rt
open FM (Mx)
open EO (Xp RS KE)
theorem bN(w:oZ)(a P:Option Addr)(pc lc:Nat)(x y z:Int)(p:List (List Vm.CN×List Bool))(l:List En)(hP:Xp w a p)(hE:UM w P l)(hI:Laid w)(hM:Mx w)(hp:F2.Pow w):re prog 4 #[rE #[.slice a p.length pc],rE #[I U x,I U y,I U z],.slice P l.length lc] w fun e K=>e=rC (ry rq)∧qZ w.heap.size w K:=by
 obtain⟨g,a6⟩: ∃g,(w.alloc (rD #[.slice a p.length pc] 26)).alloc (rD #[I U x,I U y,I U z] 34)=g:=⟨_,rfl⟩;obtain⟨Q,hC⟩:=boxes w _ _ _ _ a6;have o:=Aa (fun W(h:qZ g.heap.size g W)=>WV W (hI.below (Cu Q h)) (hM.below (Cu Q h)) (FM.Pow.below hp (Cu Q h)));have A:=Aa (fun W(h:qZ g.heap.size g W)=>EO.Xr a P pc l.length lc x y z p W (hP.below (Cu Q h)));have D:=Aa (fun W(h:qZ g.heap.size g W)=>EO.K2 a pc x y z p W (hP.below (Cu Q h)));have t:=Aa hC;have R:=Aa Q;have HX:=Aa (Ab hP (Ab hE hI));obtain⟨q0,q1,q2,q3⟩:=hC g (rf _ _);obtain⟨ok,u⟩: ∃ok,(RS p&&KE x y z)=ok:=⟨_,rfl⟩;rw[u]at D;have a7:=Aa u;obtain⟨S,T⟩: ∃S,l.length=S:=⟨_,rfl⟩;have E:=Aa T;rw[T]at A⊢;clear hP hE hI hM hp Q hC u T;by_cases a8:S≤60
 ·cases ok with
  |false=>
   have d60:decide ((60:Int)<(S:Int))=false:=by simp;omega
   go_enter func4,ntmps4;go_wp2_with(first|(go_at_call 13;refine(A.out g (rf _ _)).mono ?_;rintro e s⟨⟨b,rfl⟩,f⟩;obtain⟨b0,b1,b2,b3⟩:=t.out s f;have c:=Aa f;clear f;cases b)|(go_at_call 14;refine(D.out s c.out).mono ?_;rintro e V⟨rfl,j⟩;have i:=Aa (Cu c.out j);clear j)|(go_at_call 8;first|(have hh:=i;refine(o.out V i.out).mono ?_;rintro e w3⟨rfl,d⟩;have m:=Aa (Cu i.out d);clear d hh)|(refine(o.out s c.out).mono ?_;rintro e w3⟨rfl,d⟩;have m:=Aa (Cu c.out d);clear d)))
   all_goals
    go_ret;exact⟨rfl,Cu R.out m.out⟩
  |true=>
   have d60:decide ((60:Int)<(S:Int))=false:=by simp;omega
   have u:=a7.out;simp only[AP]at u;obtain⟨X,ak⟩:=u;obtain⟨M,cg,O,rfl,rfl,rfl,ao,aq,ar⟩:=Xt ak;obtain⟨pb,po,rfl,hIn⟩:=kr HX.out.1 X;have F:Hid (∀W,qZ g.heap.size g W→Sh W pb po p M cg O):=fun W h=>(Sh.mk HX.out.2.2 hIn X ao aq ar).below (Cu R.out h);have aa:Hid (∀W,qZ g.heap.size g W→UM W P l):=fun W h=>HX.out.2.1.below (Cu R.out h);obtain⟨hd,ab⟩: ∃hd,GU (Ea p) M cg O l=hd:=⟨_,rfl⟩;have bd:=Aa ab;have ad:=Aa (fun W(h:qZ g.heap.size g W)=>Ol pb po pc lc p M cg O P l W (F.out W h) (aa.out W h) (by rw[E.out];exact a8));have ae:=Aa (fun W(h:qZ g.heap.size g W)=>TI pb po pc lc p M cg O P l W (F.out W h) (aa.out W h) (by rw[E.out];omega));have af:=Aa (fun W(h:qZ g.heap.size g W)=>Jd pb po pc lc p M cg O P l W (F.out W h) (aa.out W h) (by rw[E.out];omega));rw[ab,E.out]at ad ae af;clear X ak hIn ab HX ao aq ar;by_cases h0:hd=0
   ·subst h0
    go_enter func4,ntmps4;go_wp2_with(first|(go_at_call 13;refine(A.out g (rf _ _)).mono ?_;rintro e s⟨⟨b,rfl⟩,f⟩;obtain⟨b0,b1,b2,b3⟩:=t.out s f;have c:=Aa f;clear f;cases b)|(go_at_call 14;refine(D.out s c.out).mono ?_;rintro e V⟨rfl,j⟩;obtain⟨c0,c1,c2,c3⟩:=t.out V (Cu c.out j);have i:=Aa (Cu c.out j);clear j)|(go_at_call 15;refine(ad.out V i.out).mono ?_;rintro e w4⟨⟨_,v4,rfl⟩|⟨ba,_⟩,q⟩;rotate_left;exact absurd rfl ba;obtain⟨f0,f1,f2,f3⟩:=t.out w4 (Cu i.out q);have r:=Aa (Cu i.out q);clear q)|(go_at_call 16;refine(ae.out w4 r.out).mono ?_;rintro e G⟨⟨z5,rfl,_⟩,n⟩;obtain⟨g0,g1,g2,g3⟩:=t.out G (Cu r.out n);have v:=Aa (Cu r.out n);clear n)|(go_at_call 17;refine(af.out G v.out).mono ?_;rintro e w6⟨rfl,au⟩;have ag:=Aa (Cu v.out au);clear au)|(go_at_call 8;first|(have hh:=ag;refine(o.out w6 ag.out).mono ?_;rintro e w3⟨rfl,d⟩;have m:=Aa (Cu ag.out d);clear d hh)|(refine(o.out s c.out).mono ?_;rintro e w3⟨rfl,d⟩;have m:=Aa (Cu c.out d);clear d)))
    all_goals
     go_ret;exact⟨rfl,Cu R.out m.out⟩
   ·go_enter func4,ntmps4
    go_wp2_with(first|(go_at_call 13;refine(A.out g (rf _ _)).mono ?_;rintro e s⟨⟨b,rfl⟩,f⟩;obtain⟨b0,b1,b2,b3⟩:=t.out s f;have c:=Aa f;clear f;cases b)|(go_at_call 14;refine(D.out s c.out).mono ?_;rintro e V⟨rfl,j⟩;obtain⟨c0,c1,c2,c3⟩:=t.out V (Cu c.out j);have i:=Aa (Cu c.out j);clear j)|(go_at_call 15;refine(ad.out V i.out).mono ?_;rintro e w4⟨⟨he,_⟩|⟨_,v4,L,rfl,av,ah⟩,q⟩;exact absurd he h0;obtain⟨a4,c4,rfl,aw⟩:=Ow.en av;obtain⟨f0,f1,f2,f3⟩:=t.out w4 (Cu i.out q);have r:=Aa (Cu i.out q);have ai:=Aa (Ab ah aw);have dl:=ah.2.1;clear q av ah aw)|(go_at_call 16;refine(ae.out w4 r.out).mono ?_;rintro e G⟨⟨z5,rfl,ax⟩,n⟩;obtain⟨z1,z2⟩:=ax h0;obtain⟨g0,g1,g2,g3⟩:=t.out G (Cu r.out n);have v:=Aa (Ab n (Cu r.out n));clear n ax)|(go_at_call 8;refine(o.out s c.out).mono ?_;rintro e w3⟨rfl,d⟩;have m:=Aa (Cu c.out d);clear d))
    ·go_ret
     exact⟨rfl,Cu R.out m.out⟩
    ·have bb:Hid (∀W,qZ G.heap.size G W→re prog 17 #[rE #[Y (Z ⟨pb,po,N⟩) p.length pc],rE #[I U M,I U cg,I U O],.slice a4 L.length c4] W fun e K=>e=rC (I U hd)∧qZ W.heap.size W K):=fun W h=>by have k:=Jd pb po pc c4 p M cg O a4 L W (F.out W (Cu v.out.2 h)) (ai.out.2.below (Cu v.out.1 h)) (by have:=ai.out.1.2.1;omega);rw[ai.out.1.1]at k;exact k
     have bf:(L.length:Int)≤(S:Int):=by omega
     have qz:(hd==hd)=true:=by simp
     clear b0 b1 b2 b3 c0 c1 c2 c3 f0 f1 f2 f3 q0 q1 q2 q3;go_region_held3(fun K=>K.cell? ⟨w.heap.size,0,N⟩=Z (Y (Z ⟨pb,po,N⟩) p.length pc)∧K.cell? ⟨w.heap.size+1,0,N⟩=Z (I U M)∧K.cell? ⟨w.heap.size+1,1,N⟩=Z (I U cg)∧K.cell? ⟨w.heap.size+1,2,N⟩=Z (I U O)) (go_keep) (first|(go_at_call 17;first|(have hh:=H;refine(af.out w7 H.out).mono ?_;rintro e w8⟨rfl,aj⟩;obtain⟨m0,m1,m2,m3⟩:=t.out w8 (Cu H.out aj);have ay:=Aa (Cu H.out aj);clear aj hh)|(refine(bb.out (G.drewN 1) ⟨rfl,rfl,rfl,Al _,fun _ _=>rfl⟩).mono ?_;rintro e w7⟨rfl,az⟩;have B:=Cu v.out.2 (Cu (rk (rf G.heap.size G)) az);obtain⟨k0,k1,k2,k3⟩:=t.out w7 B;have H:=Aa B;clear az B))|(go_at_call 8;refine(o.out w8 ay.out).mono ?_;rintro e w9⟨rfl,a1⟩;have C:=Cu ay.out a1;obtain⟨n0,n1,n2,n3⟩:=t.out w9 C;have bc:=Aa C;clear a1 C))
     all_goals
      go_wp2;go_ret;exact⟨rfl,Cu R.out bc.out⟩
 ·have d60:decide ((60:Int)<(S:Int))=true:=by simp;omega
  go_enter func4,ntmps4;go_wp2_with(first|(go_at_call 13;refine(A.out g (rf _ _)).mono ?_;rintro e s⟨⟨b,rfl⟩,f⟩;obtain⟨b0,b1,b2,b3⟩:=t.out s f;have c:=Aa f;clear f;cases b)|(go_at_call 8;refine(o.out s c.out).mono ?_;rintro e w3⟨rfl,d⟩;have m:=Aa (Cu c.out d);clear d))
  all_goals
   go_ret;exact⟨rfl,Cu R.out m.out⟩
end Go.Proofs.YtgadhchejmlfjaaGreatDoor.nF
