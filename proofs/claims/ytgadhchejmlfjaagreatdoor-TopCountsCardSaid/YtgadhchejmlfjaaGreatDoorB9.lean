/- A part of the proof. -/
import Derived.Test.YtgadhchejmlfjaaGreatDoorB6
set_option linter.unusedVariables false
set_option maxRecDepth 20000
set_option maxHeartbeats 16000000
open Go.Value renaming int->I,pointer->J,slice->Y
open Go.IntKind renaming i64->U
open Option renaming none->N,some->Z
open Go renaming Calls->tT,World->rO
open Go.Ending renaming returned->ui
open Go.Obj renaming cells->uj
open Go.RowKit renaming Below->tS
open Go.RowKit.Below renaming refl->tU
open Go.Proofs.Tryz Go.RowKit Go.CN
namespace Go.Proofs.YtgadhchejmlfjaaGreatDoor
namespace C2
open Go.RowKit Go.CN
open Vm (CP)
theorem mF{w:rO}{a:Option Addr}{p:List (List CP×List Bool)}(h:D8.U6 w a p)(d:D8.Mo p=true): ∃pb po,a=Z ⟨pb,po,N⟩/\D8.Ha w pb po p:=by
 unfold D8.Mo at d;simp only[AR,Bo]at d;obtain⟨⟨x,j⟩,c⟩:=d;obtain⟨pb,po,rfl,e,l⟩:=h.resolve_left (by omega);refine⟨pb,po,rfl,e,λk b=>?_⟩;obtain⟨y,m,z,sc,g,i,f⟩:=l k b;have q:=Bq.1 c (p[k]) (BQ b);have n:p[k]?.getD ([],[])=p[k]:=by rw[Ae b];rfl
 rw[n]at g i f⊢;unfold D8.PG at q;simp only[AR,Bo]at q;obtain⟨⟨⟨⟨A,o,B⟩,_⟩,_⟩,_⟩:=q;obtain⟨r,co,rfl,s⟩:=f.code.resolve_left (by omega);obtain⟨t,u,rfl,v⟩:=f.safe.resolve_left (by omega);exact⟨r,co,m,t,u,sc,g,i,s,v⟩
theorem RU: ∀(l:List (Int×Int×Int))(s:St),Inv 1000 s-> ∃r s',D0 l s=Z (r,s')/\Inv 1000 s'
 | [],s,h=>⟨[],s,rfl,h⟩
 |x::l,s,h=>by
  obtain⟨s1,a,b⟩:=Nu h x.1 x.2.1 x.2.2;obtain⟨r,s',c,d⟩:=RU l s1 b;refine⟨if s1.sc.seen then s1::r else r,s',?_,d⟩
  show(FN s x.1 x.2.1 x.2.2).bind _=_;rw[a,Zbw,c];rfl
theorem Inv.RV{s:St}(h:Inv 1000 s):0<s.gs.length/\0<s.ms.length/\s.rings.length<=s.asked.length/\s.all.length<1000000:=by have a:=h.base;have b:=a.g1;have c:=a.m1;have d:=a.nb;simp only[core,A9]at b c d;have:=h.toBs.Il;omega
theorem XZ{x y z:Int}(h:D8.It x y z=true): ∃a b c:Nat,x=a/\y=b/\z=c/\(1<=a/\a<=256)/\(1<=b/\b<=64)/\(1<=c/\c<=64):=by unfold D8.It at h;simp only[Bo]at h;exact⟨x.toNat,y.toNat,z.toNat,by omega,by omega,by omega,by omega,by omega,by omega⟩
end C2
namespace dC
open C2
open Vm (CP)
structure Sh (w:rO) (pb po:Nat) (p:List (List CP×List Bool)) (cp cg cm:Nat):Prop where
 laid:D3.Laid w
 mY:D8.Ha w pb po p
 pr:D8.Mo p=true
 c1:1<=cp/\cp<=256
 RT:1<=cg/\cg<=64
 c3:1<=cm/\cm<=64
def R9(w:rO)(a:Option Addr)(l:List (Int×Int×Int)):Prop:=l.length=0\/ ∃lb b,a=Z ⟨lb,b,N⟩/\IA w lb b l/\lb<w.heap.size
def Sq(W:rO)(s:St)(mb:Nat)(wr:rO):Prop:= ∃V own,CE mb V own wr s/\(∀j,j<W.heap.size->own j=14)/\tS W.heap.size W wr
section
variable {w w' W wr:rO}{pb po:Nat}{p:List (List CP×List Bool)}{cp cg cm mb:Nat}{s s':St}{a:Option Addr}{l:List (Int×Int×Int)}
theorem Sh.below(h:Sh w pb po p cp cg cm)(a:tS w.heap.size w w'):Sh w' pb po p cp cg cm:={h with laid:=h.laid.below a,mY:=h.mY.below a}
theorem Sh.inv(h:Sh w pb po p cp cg cm):Inv 1000 (G8 (FR p) cp cg cm):=by have:=h.c1;have:=h.RT;have:=h.c3;exact iq (mj h.pr) (by omega) (by omega) (by omega)
theorem IA.PC{lb a:Nat}(h:IA w lb a l)(b:lb<w.heap.size)(c:tS w.heap.size w w'):IA w' lb a l:=λk d=>by obtain⟨e,f,g⟩:=h k d;exact⟨(c.cell (p:=⟨lb,a+k*3,N⟩) b).trans e,(c.cell (p:=⟨lb,a+k*3+1,N⟩) b).trans f,(c.cell (p:=⟨lb,a+k*3+2,N⟩) b).trans g⟩
theorem R9.below(h:R9 w a l)(b:tS w.heap.size w w'):R9 w' a l:=h.imp id λ⟨lb,d,e,f,c⟩=>⟨lb,d,e,IA.PC f c b,An c b.size⟩
theorem Sq.go(h:Sq W s mb wr)(a:tS wr.heap.size wr w'):Sq W s mb w':=by obtain⟨V,own,b,c,d⟩:=h;exact⟨V,own,b.below a,c,Cv d a⟩
theorem Sq.ext{V c:Vr}{own C8:Nat->Nat}(d: ∀j,j<W.heap.size->own j=14) (e:tS W.heap.size W wr) (f:Ext own wr C8 w') (g:CE mb c C8 w' s'):Sq W s' mb w':=by have b: ∀j,j<W.heap.size->OB W.heap.size j=14:=λj a=>Ai a;refine⟨c,C8,g,λj a=>(f.same j (An a e.size)).trans (d j a),?_⟩;refine Lh (o0:=OB W.heap.size) e (λj a=>.inr (b j a)) (λj a=>(d j a).trans (b j a).symm) f
theorem Sh.new(h:Sh W pb po p cp cg cm)(pc:Nat):tT prog 10 #[.agg #[Y (Z ⟨pb,po,N⟩) p.length pc],.agg #[I U cp,I U cg,I U cm]] W λe w'=> ∃mb,e=ui (.tuple #[ptr mb,I U 0])/\Sq W (G8 (FR p) cp cg cm) mb w':=by have d:=mA (pc:=pc) (tU W.heap.size W) h.laid (Nat.lt_of_le_of_lt (Ap _) h.mY.1) h.mY;refine(F8 (OB W.heap.size) (FR p) pb po pc p.length cp cg cm W d (λf a=>D8.M9 pb po pc p f (h.laid.below a) (h.mY.below a) h.pr) h.c1 h.RT h.c3).mono ?_;rintro e w'⟨mb,V,own,rfl,b,g,i,a,_⟩;have k:=h.c1;obtain⟨n,rfl⟩: ∃n,cp=n+1:=⟨cp-1,by omega⟩;rw[iu _ _ _ _ k.2]at b;exact⟨mb,rfl,V,own,b,λj c=>(i j c).trans (Ai c),a⟩
theorem Sq.runs(h:Sq W s mb wr){r:List St}(k:D0 l s=Z (r,s'))(d:R9 W a l)(b:l.length<=65536)(lc:Nat):tT prog 69 #[ptr mb,.slice a l.length lc] wr λe w'=>(∃v,e=ui v/\w'.ownsRow wr.heap.size 38 5 v r.length (r.flatMap jK))/\Sq W s' mb w':=by obtain⟨V,own,m,i,f⟩:=h;refine(m.runs (a:=a) (lc:=lc) k (d.imp id λ⟨lb,n,e,d,b⟩=>⟨lb,n,e,IA.PC d b f,An b f.size,.inr (i lb b)⟩) b).mono ?_;rintro e w'⟨v,p,j,rfl,c,_,g,o,_⟩;exact⟨⟨v,rfl,c⟩,Sq.ext (V:=V) i f o g⟩
end
theorem boxes(w:rO)(u:Value)(x y z:Value){a:rO}(h:(w.alloc (uj #[u] 26)).alloc (uj #[x,y,z] 34)=a):tS w.heap.size w a/\ ∀W,tS a.heap.size a W->W.cell? ⟨w.heap.size,0,N⟩=Z u/\W.cell? ⟨w.heap.size+1,0,N⟩=Z x/\W.cell? ⟨w.heap.size+1,1,N⟩=Z y/\W.cell? ⟨w.heap.size+1,2,N⟩=Z z:=by
 subst h;refine⟨Cu (Cu (tU _ _) _) _,λW b=>?_⟩;have c:Cy ((w.alloc (uj #[u] 26)).alloc (uj #[x,y,z] 34)) w.heap.size #[u] 26:=(Cy.new w _ 26).below (Cu (tU _ _) _) (by simp);have d:Cy ((w.alloc (uj #[u] 26)).alloc (uj #[x,y,z] 34)) (w.heap.size+1) #[x,y,z] 34:=by have k:=Cy.new (w.alloc (uj #[u] 26)) #[x,y,z] 34;simpa using k
 have k2:=c.below b c.lt;have k3:=d.below b d.lt;exact⟨k2.cell 0,k3.cell 0,k3.cell 1,k3.cell 2⟩
def Sr(W:rO)(F:Nat->Prop)(s:St)(mb:Nat)(wr:rO):Prop:= ∃V own,CE mb V own wr s/\(∀j,j<W.heap.size->own j=14)/\tS W.heap.size W wr/\ ∀j,F j->j<wr.heap.size/\own j=0
section
variable {W wr w':rO}{F G:Nat->Prop}{s s':St}{mb:Nat}
theorem Sr.of(h:Sq W s mb wr):Sr W (λ_=>False) s mb wr:=by obtain⟨V,own,a,b,c⟩:=h;exact⟨V,own,a,b,c,λj d=>d.elim⟩
theorem Sr.sq(h:Sr W F s mb wr):Sq W s mb wr:=by obtain⟨V,own,a,b,c,_⟩:=h;exact⟨V,own,a,b,c⟩
theorem Sr.go(h:Sr W F s mb wr)(a:tS wr.heap.size wr w'):Sr W F s mb w':=by obtain⟨V,own,d,e,f,b⟩:=h;exact⟨V,own,d.below a,e,Cv f a,λj c=>⟨An (b j c).1 a.size,(b j c).2⟩⟩
theorem Sr.lt(h:Sr W F s mb wr){j:Nat}(a:F j):j<wr.heap.size:=by obtain⟨V,own,_,_,_,b⟩:=h;exact(b j a).1
theorem Sr.dZ(h:Sr W F s mb wr):tS W.heap.size W wr:=by obtain⟨V,own,_,_,a,_⟩:=h;exact a
theorem Sr.dY(h:Sr W F s mb wr):s.ms.length<=64:=by obtain⟨V,own,a,_⟩:=h;exact a.Hb.2.1
theorem Sr.mG(h:Sr W F s mb wr)(o:Cw F wr w'):Sr W (λj=>F j\/(wr.heap.size<=j/\j<w'.heap.size)) s mb w':=by
 obtain⟨V,own,d,e,f,b⟩:=h;refine⟨V,own,d.loc o (λj a=>(b j a).2),e,Ea f o (λk g=>?_),λj a=>?_⟩
 ·refine Nat.le_of_not_lt λc=>?_
  have m:=e k c;have n:=(b k g).2;omega
 ·rcases a with a|⟨i,l⟩
  ·exact⟨An (b j a).1 o.size,(b j a).2⟩
  ·exact⟨l,d.fresh j i⟩
theorem Sr.step(h:Sr W F s mb wr){x y z:Int}(m:FN s x y z=Z s'):tT prog 11 #[ptr mb,.agg #[I U x,I U y,I U z]] wr λe w'=>(∃v,e=ui v)/\Sr W F s' mb w'/\Cw (λj=> ¬F j) wr w':=by obtain⟨V,own,n,i,k,f⟩:=h;refine(n.step m).mono ?_;rintro e w'⟨rfl,o,b,c,d,_⟩;obtain⟨t,l,p,q,g⟩:=Sq.ext (V:=V) i k d c;refine⟨⟨_,rfl⟩,⟨o,b,c,λj a=>(d.same j (An a k.size)).trans (i j a),g,λj a=>?_⟩,d.only.mono λj _ r a=>r.1 (f j a).2⟩;exact⟨An (f j a).1 d.only.size,(d.same j (f j a).1).trans (f j a).2⟩
theorem Sr.bD(h:Sr W F s mb wr)(y:Inv 1000 s):tT prog 12 #[ptr mb] wr λe w'=>(∃d f i k l m o p a g c,e=ui (.agg #[I U s.sc.CF,d,f,i,k,l,m,o,p,Y (Z ⟨g,0,N⟩) (Oq s.ms).length c,a])/\wr.heap.size<=g/\w'.ownsRow wr.heap.size 4 1 (Y (Z ⟨g,0,N⟩) (Oq s.ms).length c) (Oq s.ms).length (Oq s.ms))/\Sr W F s mb w'/\tS wr.heap.size wr w':=by
 obtain⟨V,own,t,z,A,u⟩:=h;obtain⟨i1,i2,i3,i4⟩:=y.RV;refine(t.bD i1 i2 i3 i4).mono ?_;rintro e w'⟨q,v,n,B,rfl,b,w,r⟩;obtain⟨rfl,-⟩:n=(Oq s.ms).length/\True:=⟨by have:=r.1;omega,trivial⟩;obtain⟨g,c,cur,rfl,C,-⟩:=Et r (by simp[Oq,I2];omega);refine⟨?_,⟨V,own,t.below b,z,Cv A b,λj x=>⟨An (u j x).1 b.size,(u j x).2⟩⟩,b⟩;match q,B with
 | [d,f,i,k,l,m,o,p,D,a],_=>simp only[Ag,Ac,Ak]at w;subst w;exact⟨d,f,i,k,l,m,o,p,a,g,c,rfl,C,r⟩
end
end dC
namespace C2
variable {mb:Nat}{V:Vr}{own:Nat->Nat}{w:rO}{s:St}
theorem CE.live(h:CE mb V own w s)(hm:0<s.ms.length):tT prog 24 #[ptr mb] w λe a=>e=ui (I U (s.ms.length:Int))/\a=w:=by obtain⟨g,cap,e,_⟩:=h.NJ hm;have c6:=h.c6;rw[e]at c6;go_enter func24,ntmps24;go_wp2;go_ret;exact⟨rfl,rfl⟩
theorem CE.steps(h:CE mb V own w s):tT prog 82 #[ptr mb] w λe a=>e=ui (I U s.sc.now)/\a=w:=by have dU:w.cell? ⟨mb,17,N⟩=Z (I U s.sc.now):=h.D5.cell 17;go_enter func82,ntmps82;go_wp2;go_ret;exact⟨rfl,rfl⟩
theorem X0(xb:Nat)(x:Int)(h:w.cell? ⟨xb,3,N⟩=Z (I U x)):tT prog 92 #[ptr xb] w λe a=>e=ui (.bool (x !=0))/\a=w:=by go_enter func92,ntmps92;go_wp2;go_ret;exact⟨rfl,rfl⟩
theorem X1(g n cap:Nat)(xb:Nat->Nat)(f:Nat->Int)(d:n<=1000)(h: ∀k,k<n->w.cell? ⟨g,k,N⟩=Z (ptr (xb k))/\w.cell? ⟨xb k,3,N⟩=Z (I U (f k))):tT prog 148 #[Y (Z ⟨g,0,N⟩) n cap,.func (.func 92) #[] #[]] w λe i=>(∃z:Int,e=ui (I U z))/\i=w:=by
 have H:=Aa (Ab h d);go_enter func148,ntmps148;go_wp2;go_loopw [8] (λt wr=> ∃k:Nat,k<=n/\t=I U (k:Int)/\wr=w) (λt _=>n-(intOf t).toNat)
 case atStart=>exact⟨0,Ap _,rfl,rfl⟩
 case round=>
  obtain⟨k,p,rfl,rfl⟩:=hrel;by_cases a:k<n
  ·obtain⟨c0,c1⟩:=H.out.1 k a
   have j:(k:Int)<(n:Int):=by omega
   have l:=H.out.2;have c:=Aa (X0 _ _ c1);obtain⟨b,m⟩: ∃b,(f k !=0)=b:=⟨_,rfl⟩;rw[m]at c;cases b
   ·go_wp2_with(go_at_call 92;refine c.out.mono ?_;rintro e o⟨rfl,rfl⟩)
    refine⟨⟨k+1,by omega,by first|rfl|(congr 1;unfold wrap64;omega),trivial⟩,?_⟩;simp[intOf];omega
   ·go_wp2_with(go_at_call 92;refine c.out.mono ?_;rintro e o⟨rfl,rfl⟩)
    go_ret;exact⟨⟨_,rfl⟩,rfl⟩
  ·obtain rfl:k=n:=by omega
   go_wp2;go_ret;exact⟨⟨_,rfl⟩,rfl⟩
theorem Hz(g n cap:Nat)(xb:Nat->Nat)(f:Nat->Int)(a:n<=1000)(h: ∀k,k<n->w.cell? ⟨g,k,N⟩=Z (ptr (xb k))/\w.cell? ⟨xb k,3,N⟩=Z (I U (f k))):tT prog 91 #[Y (Z ⟨g,0,N⟩) n cap,.func (.func 92) #[] #[]] w λe c=>(∃b:Bool,e=ui (.bool b))/\c=w:=by
 have d:=Aa (X1 g n cap xb f a h);go_enter func91,ntmps91;go_wp2_with(go_at_call 148;refine d.out.mono ?_;rintro e i⟨⟨z,rfl⟩,rfl⟩)
 all_goals go_ret
 all_goals exact⟨⟨_,rfl⟩,rfl⟩
theorem CE.quiet(h:CE mb V own w s)(hm:0<s.ms.length):tT prog 28 #[ptr mb] w λe c=>(∃b:Bool,e=ui (.bool b))/\c=w:=by
 obtain⟨g,cap,e,_⟩:=h.NJ hm;have c6:=h.c6;rw[e]at c6;have d:=Aa (Hz g s.ms.length cap V.DR (λk=>(s.ms[k]?.getD m0).phase) (by have:=h.Hb;omega) (λk a=>by obtain⟨f,i,e',q,_⟩:=h.NJ a;rw[e]at e';simp only[As,Ak,BN,and_true,true_and]at e';rw[<-e'.1]at q;exact⟨q,(h.ms (by decide) k a).cell 3⟩));go_enter func28,ntmps28;go_wp2_with(go_at_call 91;refine d.out.mono ?_;rintro e j⟨⟨b,rfl⟩,rfl⟩)
 all_goals go_ret
 all_goals exact⟨⟨_,rfl⟩,rfl⟩
end C2
end Go.Proofs.YtgadhchejmlfjaaGreatDoor
