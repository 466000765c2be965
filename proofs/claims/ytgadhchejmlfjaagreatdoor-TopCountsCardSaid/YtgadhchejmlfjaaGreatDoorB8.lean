/- A part of the proof. -/
import Derived.Test.YtgadhchejmlfjaaGreatDoorB6
import Derived.Test.YtgadhchejmlfjaaGreatDoorB7
set_option linter.unusedVariables false
set_option maxRecDepth 20000
set_option maxHeartbeats 16000000
open Go.Value renaming int->I,pointer->J,slice->Y
open Go.IntKind renaming i64->U
open Option renaming none->N,some->Z
open Bool renaming false->tY,true->tZ
open Go renaming Calls->tT,Value->tR,World->rO
open Go.Ending renaming returned->ui
open Go.Obj renaming cells->uj
open Go.RowKit renaming Below->tS
open Go.RowKit.Below renaming drew->tX,refl->tU
open Go.Value renaming agg->uk,bool->ue,string->um,tuple->uo
open Go.Proofs.Tryz Go.RowKit Go.CN
namespace Go.Proofs.YtgadhchejmlfjaaGreatDoor
namespace dX
theorem T3(n a b:Int)(w:rO)(h:a<=n/\n<b):tT prog 282 #[I U n,I U a,I U b] w λe c=>e=ui (ue tZ)/\w=c:=by have d3:a<=n:=h.1;have d4:n<b:=h.2;go_enter func282,ntmps282;go_wp2;go_ret;exact⟨rfl,rfl⟩
def mC(k g f p n:Int):Prop:=(k=1/\n=0\/k=2)/\(1<=g/\g<65)/\(0<=f/\f<16)/\(0<=p/\p<64)
theorem T4(k g f p n:Int)(w:rO)(h:mC k g f p n):tT prog 234 #[uk #[I U k,I U g,I U f,I U p,I U n]] w λe b=>e=ui (ue tZ)/\tS w.heap.size w b:=by
 obtain⟨c,d,i,j⟩:=h;have a:=Aa (Ab d (Ab i j));rcases c with⟨rfl,rfl⟩|rfl
 all_goals
  go_enter func234,ntmps234;go_wp2_with(go_at_call 282;refine(T3 _ _ _ _ (by first|exact a.out.1|exact a.out.2.1|exact a.out.2.2)).mono ?_;rintro e l⟨rfl,rfl⟩);go_ret;exact⟨rfl,Cu (tU _ _) _⟩
section
open D1 (sc Pt EW LS Jq Dl FP Hl Pow.below CY)
variable {w0 W w3:rO}{wb:Nat}{ws:List (List UInt8)}{v v':tR}
structure RL (w0:rO) (wb:Nat) (ws:List (List UInt8)) (v:tR) (W:rO):Prop where
 below:tS w0.heap.size w0 W
 cell:Cy W wb #[v] 170
 ge:w0.heap.size<=wb
 row:W.ownsRow w0.heap.size 9 1 v ws.length (sc ws)
theorem RL.go{W':rO}(h:RL w0 wb ws v W)(a:tS W.heap.size W W'):RL w0 wb ws v W':=⟨h.below.trans (a.mono h.below.size),h.cell.below a h.cell.lt,h.ge,CM h.row a⟩
theorem RL.ne(h:RL w0 wb ws v W):v.ownBlock≠Z wb:=λe=>by obtain⟨cs,a⟩:=D6 h.row e;exact absurd (DV a h.cell) (by decide)
theorem RL.app{a:List UInt8}(h:RL w0 wb ws v W)(b:Du W w0.heap.size 9 1 v ws.length (sc ws) [um ⟨a.toArray⟩] v' w3):Cy w3 wb #[v] 170/\RL w0 wb (ws++[a]) v' (w3.setCell ⟨wb,0,N⟩ v'):=by
 have c:Cy w3 wb #[v] 170:=h.cell.kept b.2.1 (λe=>h.ne e.symm);have g:=Jq b;have d:v'.ownBlock≠Z wb:=λe=>by obtain⟨cs,i⟩:=D6 g e;exact absurd (DV i c) (by decide)
 have o:Cw (λj=>j=wb) w3 (w3.setCell ⟨wb,0,N⟩ v'):=Cw.set (S:=λj=>j=wb) (Cw.refl _ _) (.inr rfl) _ _;refine⟨c,(CK h.below b.2.1 (λj f=>(AB h.row j f).1)).setCell h.ge _,c.set 0 v',h.ge,De g o (λj f e=>d (by rw[f,show j=wb from e]))⟩
theorem RL.kept{lb:Nat}{ys:List tR}{cs:Array tR}{t:TypeId}(h:RL w0 wb ws v W)(a:Cy W lb cs t)(c:t≠9)(b:t≠170)(d:Du W w0.heap.size 9 1 v ws.length (sc ws) ys v' w3)(u:tR):Cy (w3.setCell ⟨wb,0,N⟩ u) lb cs t:=by have f:Cy w3 lb cs t:=a.kept d.2.1 (λe=>by obtain⟨g,q⟩:=D6 h.row e.symm;exact c (DV a q));refine f.setOther (λe=>?_) _;subst e;exact b (DV a h.cell)
def ED(l:List Int):List (List UInt8):=l.map Lib.itoa
theorem T5(l:List Int)(k:Nat)(x:Int)(h:l[k]?=Z x):ED (l.take (k+1))=ED (l.take k)++[Lib.itoa x]:=by unfold ED;rw[Bu,h,BP];rfl
theorem EK(w0:rO)(wb lb lc:Nat)(ws:List (List UInt8))(v:tR)(l:List Int)(w:rO)(R:RL w0 wb ws v w)(S:Cy w lb (l.map λ(x:Int)=>I U x).toArray 3) (u:l.length<=100) (T: ∀x∈l,-9223372036854775808<=x/\x<=9223372036854775807) (y:ws.length<=100) (V:Fq.Pow w0):tT prog 235 #[Y (Z ⟨lb,0,N⟩) l.length lc,J (Z ⟨wb,0,N⟩)] w λe H=>e=ui (uo #[])/\ ∃v',RL w0 wb (ws++ED l) v' H:=by
 have s:=Aa (Ab R (Ab S (Ab u (Ab T y))));have HP:=Aa V;clear R S u T y V;go_enter func235,ntmps235;go_wp2;generalize z:l.length=A at*
 have p:=Aa z;clear z;go_loopw [7] (λt wr=> ∃(k:Nat)(v1:tR),k<=A/\t=I U k/\RL w0 wb (ws++ED (l.take k)) v1 wr/\Cy wr lb (l.map λ(x:Int)=>I U x).toArray 3) (λt _=>A-(intOf t).toNat)
 case atStart=>exact⟨0,v,Ap _,rfl,by simpa[ED]using s.out.1,s.out.2.1⟩
 case round=>
  obtain⟨k,v1,W,rfl,o,q⟩:=hrel;by_cases B:k<A
  ·have aa:(k:Int)<(A:Int):=by omega
   have L:k<l.length:=by rw[p.out];exact B
   obtain⟨x,j⟩: ∃x,l[k]?=Z x:=⟨l[k],Ae L⟩;have p0:=q.cell k;rw[Ad,AZ,j,BJ]at p0;obtain⟨b,f⟩: ∃b,b=ws++ED (l.take k):=⟨_,rfl⟩;rw[<-f]at o;have HN:Hid (b.length<=300):=by show b.length<=300;rw[f,Au,ED,A9,AY];have:=s.out.2.2.1;have:=s.out.2.2.2.2;omega
   obtain⟨a,c,rfl⟩:=DD o.row;have M:=Aa (Ab j (s.out.2.2.2.1 x (AP j)));have O:=Aa f;clear j f W;generalize b=b at*
   have C:=Aa (Ab o q);have P:Hid (∀g,tS wr.heap.size wr g->g.cell? ⟨wb,0,N⟩=Z (.slice a b.length c)):=λg D=>((o.go D).cell.cell 0);have E:Hid (wr.drew.cell? ⟨wb,0,N⟩=Z (.slice a b.length c)):=P.out _ (tU _ _).drew;clear o q;go_wp2;refine FG 5 (λg=>g.cell? ⟨wb,0,N⟩=Z (.slice a b.length c)) (by kernel_rfl) ?_;refine EZ (i:=1) (v:=?_) rfl (by decide) (by kernel_rfl) (by kernel_rfl) (by kernel_rfl) (λ_ _ _ h=>h) (Or.inl ⟨by kernel_rfl,?_⟩) (λ_=>E.out) ?_;rotate_left
   ·intro H;go_simp;try(with_reducible rfl)
   refine DN (i:=0) (v:=?_) rfl rfl (by kernel_rfl) (by kernel_rfl) (by kernel_rfl) (by kernel_rfl) (by kernel_rfl) (λ_ _ _ h=>h) (Or.inl ⟨by kernel_rfl,?_⟩) E.out ?_;rotate_left
   ·intro H hw';have s0:=hw';go_simp;try(with_reducible rfl)
   refine Gb 2 (by kernel_rfl) rfl λK m=>?_;go_simp;go_wp2_with(go_at_call 134;refine(Fq.itoa x M.out.2.1 M.out.2.2 _ (Pow.below HP.out (C.out.1.below.trans ((tU wr.heap.size wr).drew.mono C.out.1.below.size)))).mono ?_;rintro e w3⟨rfl,q⟩;have r:=(tU wr.heap.size wr).drew.trans q;have d:=Aa (Ab (C.out.1.go r) (C.out.2.below r C.out.2.lt));have F:Hid (∀g,tS w3.heap.size w3 g->g.cell? ⟨wb,0,N⟩=Z (.slice a b.length c)):=(λg D=>((d.out.1.go D).cell.cell 0));clear q r);refine⟨λ_=>F.out _ (tU _ _),?_⟩;refine Gb 3 (by kernel_rfl) rfl λK m=>?_;go_simp;refine m _ _ ⟨λ_=>F.out _ (by(repeat(first|exact tU _ _|refine tX ?_|refine Cu ?_ _))),?_⟩;clear m K;refine Gb 4 (by kernel_rfl) rfl λK m=>?_
   (refine JA underlying170 LS rfl (by decide) (by decide) w0.heap.size _ rfl (.tmp 11) (.tmp 14) rfl (.slice a b.length c) b.length (sc b) ⟨w3.heap.size,0,N⟩ 1 [um ⟨(Lib.itoa x).toArray⟩] (by simp[Act.eval]) (by rfl) (.inl (CM d.out.1.row (Cu (tU _ _) _))) rfl (EW w3 _ 9) (by simp[Value.oneCell']) (by have:=d.out.1.below.size;simp;omega) (by have:=HN.out;omega) ?_;intro v' X G;obtain⟨g5,c5,rfl⟩:=G.some;have n:=(d.out.1.go (Cu (tU _ _) _)).app G;have u:=(d.out.1.go (Cu (tU _ _) _)).kept (d.out.2.below (Cu (tU _ _) _) d.out.2.lt) (by decide) (by decide) G (Y (Z ⟨g5,0,N⟩) (b.length+1) c5);have z0:=n.1.cell 0;have u0:=n.1.free 0;have Q:Hid (∀g,tS X.heap.size X g->g.cell? ⟨wb,0,N⟩=Z (.slice a b.length c)):=(λg D=>((n.1.below D n.1.lt).cell 0));have HE:=Aa (Ab n.2 u);simp only[Ad,Ac]at z0;clear G n u)
   refine m _ _ ⟨λ_=>Q.out _ (tU _ _),?_⟩;clear m K;refine Gb 5 (by kernel_rfl) rfl λK m=>?_;go_simp;refine m _ _ ⟨(λh=>absurd (h.symm.trans (show _=tZ by kernel_rfl)) BU),?_⟩;clear m K;refine FE (by kernel_rfl) ?_ _;go_wp2;have n:=HE.out;have hw:wrap64 ((k:Int)+1)=((k+1:Nat):Int):=by have:=p.out;have:=s.out.2.2.1;unfold wrap64;omega
   rw[hw];refine⟨⟨k+1,Y (Z ⟨g5,0,N⟩) (b.length+1) c5,by omega,rfl,?_,n.2⟩,by simp[intOf];omega⟩;rw[T5 l k x M.out.1,<-AU,<-O.out];exact n.1
  ·obtain rfl:k=A:=by omega
   rw[AL (by rw[p.out];exact Al _)]at o;have HF:=Aa o;clear o q B W;go_wp2;go_end0;exact⟨rfl,_,HF.out⟩
end
section
open D1 (sc Pt EW LS Jq Dl FP Hl Pow.below CY)
def RM:Go.Shelf.Ren:=⟨λ|173=>136|246=>206|283=>267|284=>268|285=>269|286=>270|129=>317|317=>316|318=>318|319=>319|320=>320|337=>351|338=>352|n=>n,λ|2=>2|3=>3|9=>9|4=>4|171=>327|0=>0|53=>328|37=>150|5=>5|173=>331|212=>384|51=>217|20=>20|213=>385|46=>386|232=>425|233=>426|n=>n,λ|17=>2|18=>4|19=>5|n=>n⟩
theorem iO:Go.Proofs.Lays.n173 prog RM:={mixed:=by kernel_rfl,f129:=func317.trans (Aq Z (by kernel_rfl)),f173:=func136.trans (Aq Z (by kernel_rfl)),f246:=func206.trans (Aq Z (by kernel_rfl)),f283:=func267.trans (Aq Z (by kernel_rfl)),f284:=func268.trans (Aq Z (by kernel_rfl)),f285:=func269.trans (Aq Z (by kernel_rfl)),f286:=func270.trans (Aq Z (by kernel_rfl)),f317:=func316.trans (Aq Z (by kernel_rfl)),f318:=func318.trans (Aq Z (by kernel_rfl)),f319:=func319.trans (Aq Z (by kernel_rfl)),f320:=func320.trans (Aq Z (by kernel_rfl)),f337:=func351.trans (Aq Z (by kernel_rfl)),f338:=func352.trans (Aq Z (by kernel_rfl)),t0:=underlying0,a0:=isAgg0,z0:=sizeOf0,v0:=zeroValue0,t2:=underlying2,a2:=isAgg2,z2:=sizeOf2,v2:=zeroValue2,t3:=underlying3,a3:=isAgg3,z3:=sizeOf3,v3:=zeroValue3,t4:=underlying4,a4:=isAgg4,z4:=sizeOf4,v4:=zeroValue4,t5:=underlying5,a5:=isAgg5,z5:=sizeOf5,v5:=zeroValue5,t9:=underlying9,a9:=isAgg9,z9:=sizeOf9,v9:=zeroValue9,t20:=underlying20,a20:=isAgg20,z20:=sizeOf20,v20:=zeroValue20,t37:=underlying150,a37:=isAgg150,z37:=sizeOf150,v37:=zeroValue150,t46:=underlying386,a46:=isAgg386,z46:=sizeOf386,v46:=zeroValue386,t51:=underlying217,a51:=isAgg217,z51:=sizeOf217,v51:=zeroValue217,t53:=underlying328,a53:=isAgg328,z53:=sizeOf328,v53:=zeroValue328,t171:=underlying327,a171:=isAgg327,z171:=sizeOf327,v171:=zeroValue327,t173:=underlying331,a173:=isAgg331,z173:=sizeOf331,v173:=zeroValue331,t212:=underlying384,a212:=isAgg384,z212:=sizeOf384,v212:=zeroValue384,t213:=underlying385,a213:=isAgg385,z213:=sizeOf385,t232:=underlying425,a232:=isAgg425,z232:=sizeOf425,v232:=zeroValue425,t233:=underlying426,a233:=isAgg426,z233:=sizeOf426,v233:=zeroValue426,g17:=by kernel_rfl,g18:=by kernel_rfl,g19:=by kernel_rfl}
theorem pE(i:Nat)(a:i<100)(w:rO):tT prog 136 #[I U i,I U 10] w λe b=>e=ui (um ⟨(Lib.decDigits i).toArray⟩)/\b=w:=Any.strconv_FormatInt_10_small iO i a w
def Vd(k:Int):List UInt8:=if k=1 then [98,101,103,105,110]else [99,111,109,109,105,116]
def Ve(k g f p:Int)(n:Nat):List (List UInt8):=[Vd k]++ED [g,f,p]++(if k=2 then [Lib.decDigits n]else [])
def Vf(k g f p:Int)(n:Nat):List UInt8:=Dl 32 (Ve k g f p n)
theorem Vg(k g f p:Int)(n:Nat)(h:(1<=g/\g<65)/\(0<=f/\f<16)/\(0<=p/\p<64))(i:n<100):Ve k g f p n≠[]/\(Ve k g f p n).length<=5/\(Dl 32 (Ve k g f p n)).length<=200:=by
 have c:(Ve k g f p n).length<=5:=by unfold Ve ED;by_cases e:k=2<;>simp[e]
 have r1:=(CY g ⟨by omega,by omega⟩).2.2;have j:=(CY f ⟨by omega,by omega⟩).2.2;have l:=(CY p ⟨by omega,by omega⟩).2.2;have d:(Lib.decDigits n).length<=21:=by have:=(CY (n:Int) ⟨by omega,by omega⟩).2.2;unfold Lib.itoa at this;rw[Ah (by omega),Am]at this;omega
 have m:=FP 32 21 (Ve k g f p n) (λa b=>by
  unfold Ve ED Vd at b;simp only[Br,Zcd,List.map_nil,Be,Zbb,or_false]at b;rcases b with(b|b|b|b)|b
  ·by_cases e:k=1
   ·rw[Ai e]at b;rw[b];decide
   ·rw[Ah e]at b;rw[b];decide
  ·rw[b];omega
  ·rw[b];omega
  ·rw[b];omega
  ·by_cases e:k=2
   ·rw[Ai e]at b;simp at b;rw[b];exact d
   ·rw[Ah e]at b;cases b)
 refine⟨by unfold Ve;simp,c,?_⟩;have:(Ve k g f p n).length*22<=5*22:=Zar _ c;omega
theorem RL.start{w0 w1:rO}(a:tS w0.heap.size w0 w1)(wd:List UInt8):RL w0 (w1.heap.size+1) [wd] (Y (Z ⟨w1.heap.size,0,N⟩) 1 1) ((w1.alloc (uj #[um ⟨wd.toArray⟩] 9)).alloc (uj #[Y (Z ⟨w1.heap.size,0,N⟩) 1 1] 170)):=by
 have b:Cy ((w1.alloc (uj #[um ⟨wd.toArray⟩] 9)).alloc (uj #[Y (Z ⟨w1.heap.size,0,N⟩) 1 1] 170)) (w1.heap.size+1) #[Y (Z ⟨w1.heap.size,0,N⟩) 1 1] 170:=by have:=Cy.new (w1.alloc (uj #[um ⟨wd.toArray⟩] 9)) #[Y (Z ⟨w1.heap.size,0,N⟩) 1 1] 170;simpa using this
 have c:Cy ((w1.alloc (uj #[um ⟨wd.toArray⟩] 9)).alloc (uj #[Y (Z ⟨w1.heap.size,0,N⟩) 1 1] 170)) w1.heap.size #[um ⟨wd.toArray⟩] 9:=(Cy.new w1 _ 9).below (Cu (tU _ _) _) (by simp);exact⟨Cu (Cu a _) _,b,B7 a.size,Md (n:=1) (size:=1) c a.size rfl (by decide)⟩
theorem jM(w:rO)(o1 o2:Obj)(a b c:Int):Cy (((w.alloc o1).alloc o2).alloc (uj #[I U a,I U b,I U c] 3)) (w.heap.size+1+1) ([a,b,c].map λ(x:Int)=>I U x).toArray 3:=by have:=Cy.new ((w.alloc o1).alloc o2) #[I U a,I U b,I U c] 3;simpa using this
theorem RN{g f p:Int}(h:(1<=g/\g<65)/\(0<=f/\f<16)/\(0<=p/\p<64)): ∀x∈[g,f,p],-9223372036854775808<=x/\x<=9223372036854775807:=by intro x a;simp only[Be,Zbb,or_false]at a;rcases a with rfl|rfl|rfl<;>omega
theorem XW(k g f p:Int)(n:Nat)(w:rO)(h:mC k g f p n)(V:n<100)(hP:Fq.Pow w):tT prog 161 #[uk #[I U k,I U g,I U f,I U p,I U n]] w λe S=>e=ui (uo #[um ⟨(Vf k g f p n).toArray⟩,I U 0])/\tS w.heap.size w S:=by
 obtain⟨m,z⟩: ∃m,w.alloc (uj #[I U k,I U g,I U f,I U p,I U n] 38)=m:=⟨_,rfl⟩;have r:Cy m w.heap.size #[I U k,I U g,I U f,I U p,I U n] 38:=by rw[<-z];exact Cy.new w _ 38
 have A:tS w.heap.size w m:=by rw[<-z];exact Cu (tU _ _) _
 have O:m.heap.size=w.heap.size+1:=by rw[<-z];simp
 have s:=Aa O;have HR:=Aa (T4 k g f p n m h);have HO:=Aa h.2;have HK:=h.1;have HP:=Aa (Pow.below hP A);have HB:=Aa (Ab r A);have u:=Aa (Vg k g f p n h.2 V);have HN:=Aa V;have x:Hid (∀W,tS m.heap.size m W->W.cell? ⟨w.heap.size,0,N⟩=Z (I U k)/\W.cell? ⟨w.heap.size,1,N⟩=Z (I U g)/\W.cell? ⟨w.heap.size,2,N⟩=Z (I U f)/\W.cell? ⟨w.heap.size,3,N⟩=Z (I U p)/\W.cell? ⟨w.heap.size,4,N⟩=Z (I U n)/\w.heap.size<W.heap.size):=λW B=>by have k2:=r.below B r.lt;exact⟨k2.cell 0,k2.cell 1,k2.cell 2,k2.cell 3,k2.cell 4,k2.lt⟩
 obtain⟨a0,a1,a2,a3,a4,a5⟩:=x.out m (tU _ _);clear h hP r A V O;rcases HK with⟨rfl,h0⟩|rfl
 ·clear h0
  have C:Ve 1 g f p n=[[98,101,103,105,110]]++ED [g,f,p]:=by simp[Ve,Vd]
  rw[C]at u;have D:=Aa C;clear C;go_enter func161,ntmps161;go_wp2_with(first|(go_at_call 234;refine HR.out.mono ?_;rintro e o⟨rfl,b⟩;obtain⟨b0,b1,b2,b3,b4,b5⟩:=x.out o b;have l1:w.heap.size<o.heap.size+1:=(by omega);have E:=Aa b;clear a0 a1 a2 a3 a4 a5 b)|(go_at_call 235;refine(EK m (o.heap.size+1) (o.heap.size+1+1) 3 [[98,101,103,105,110]] _ [g,f,p] _ ((RL.start E.out _).go (Cu (tU _ _) _)) (jM _ _ _ _ _ _) (by simp) (RN HO.out) (by simp) HP.out).mono ?_;rintro e y⟨rfl,v3,q⟩;obtain⟨a,c,rfl⟩:=DD q.row;obtain⟨d0,d1,d2,d3,d4,d5⟩:=x.out y q.below;have X:=q.cell.cell 0;simp only[Ad,Ac]at X;have l:=Aa q;clear q)|(go_at_call 80;refine(Hl ([[98,101,103,105,110]]++ED [g,f,p]) _ _ _ l.out.row u.out.1 (by have:=u.out.2.1;omega) (by have:=u.out.2.2;omega)).mono ?_;rintro e w8⟨rfl,P⟩;have F:=Aa ((HB.out.2.trans (l.out.below.mono (by have:=s.out;omega))).trans (P.mono (by have:=l.out.below.size;have:=s.out;omega)));clear P));go_ret2;refine⟨?_,F.out⟩;unfold Vf;rw[D.out];rfl
 ·have C:Ve 2 g f p n=[[99,111,109,109,105,116]]++ED [g,f,p]++[Lib.decDigits n]:=by simp[Ve,Vd]
  rw[C]at u;have D:=Aa C;clear C;go_enter func161,ntmps161;go_wp2_with(first|(go_at_call 234;refine HR.out.mono ?_;rintro e o⟨rfl,b⟩;obtain⟨b0,b1,b2,b3,b4,b5⟩:=x.out o b;have l1:w.heap.size<o.heap.size+1:=(by omega);have E:=Aa b;clear a0 a1 a2 a3 a4 a5 b)|(go_at_call 235;refine(EK m (o.heap.size+1) (o.heap.size+1+1) 3 [[99,111,109,109,105,116]] _ [g,f,p] _ ((RL.start E.out _).go (Cu (tU _ _) _)) (jM _ _ _ _ _ _) (by simp) (RN HO.out) (by simp) HP.out).mono ?_;rintro e y⟨rfl,v3,q⟩;obtain⟨a,c,rfl⟩:=DD q.row;obtain⟨d0,d1,d2,d3,d4,d5⟩:=x.out y q.below;have X:=q.cell.cell 0;simp only[Ad,Ac]at X;have l:=Aa q;clear q));have G:Hid (∀d,tS y.heap.size y d->d.cell? ⟨o.heap.size+1,0,N⟩=Z (.slice a ([[99,111,109,109,105,116]]++ED [g,f,p]).length c)/\d.cell? ⟨w.heap.size,4,N⟩=Z (I U n)):=λd B=>⟨((l.out.go B).cell.cell 0),(x.out d (l.out.go B).below).2.2.2.2.1⟩;have H:=Aa (G.out _ (tU _ _).drew);refine FG 6 (λd=>d.cell? ⟨o.heap.size+1,0,N⟩=Z (.slice a ([[99,111,109,109,105,116]]++ED [g,f,p]).length c)/\d.cell? ⟨w.heap.size,4,N⟩=Z (I U n)) (by kernel_rfl) ?_;refine EZ (i:=1) (v:=?_) rfl (by decide) (by kernel_rfl) (by kernel_rfl) (by kernel_rfl) (λ_ _ _ h=>h) (Or.inl ⟨by kernel_rfl,?_⟩) (λ_=>H.out) ?_;rotate_left
  ·intro S;go_simp;try(with_reducible rfl)
  refine DN (i:=0) (v:=?_) rfl rfl (by kernel_rfl) (by kernel_rfl) (by kernel_rfl) (by kernel_rfl) (by kernel_rfl) (λ_ _ _ h=>h) (Or.inl ⟨by kernel_rfl,?_⟩) H.out ?_;rotate_left
  ·intro S hw';obtain⟨s0,s1⟩:=hw';go_simp;try(with_reducible rfl)
  refine DN (i:=2) (v:=?_) rfl rfl (by kernel_rfl) (by kernel_rfl) (by kernel_rfl) (by kernel_rfl) (by kernel_rfl) (λ_ _ _ h=>h) (Or.inl ⟨by kernel_rfl,?_⟩) H.out ?_;rotate_left
  ·intro S hw';obtain⟨s0,s1⟩:=hw';go_simp;try(with_reducible rfl)
  refine Gb 3 (by kernel_rfl) rfl λK t=>?_;go_simp;go_wp2_with(go_at_call 136;refine(pE n HN.out _).mono ?_;rintro e ab⟨rfl,rfl⟩);refine⟨λ_=>G.out _ (by(repeat(first|exact tU _ _|refine tX ?_|refine Cu ?_ _))),?_⟩;refine Gb 4 (by kernel_rfl) rfl λK t=>?_;go_simp;refine t _ _ ⟨λ_=>G.out _ (by(repeat(first|exact tU _ _|refine tX ?_|refine Cu ?_ _))),?_⟩;clear t K;refine Gb 5 (by kernel_rfl) rfl λK t=>?_
  (refine JA underlying170 LS rfl (by decide) (by decide) m.heap.size _ rfl (.tmp 28) (.tmp 32) rfl (.slice a ([[99,111,109,109,105,116]]++ED [g,f,p]).length c) ([[99,111,109,109,105,116]]++ED [g,f,p]).length (sc ([[99,111,109,109,105,116]]++ED [g,f,p])) ⟨y.drew.heap.size,0,N⟩ 1 [um ⟨(Lib.decDigits n).toArray⟩] (by simp[Act.eval]) (by rfl) (.inl (CM l.out.row (by(repeat(first|exact tU _ _|refine tX ?_|refine Cu ?_ _))))) rfl (EW y.drew _ 9) (by simp[Value.oneCell']) (by have:=l.out.below.size;simp;omega) (by simp[ED]) ?_;intro v' T Q;obtain⟨g5,c5,rfl⟩:=Q.some;have M:=(l.out.go (W':=y.drew.alloc (uj #[um ⟨(Lib.decDigits n).toArray⟩] 9)) (by(repeat(first|exact tU _ _|refine tX ?_|refine Cu ?_ _)))).app Q;have z0:=M.1.cell 0;have u0:=M.1.free 0;have R:=(x.out T (CK (Cu l.out.below.drew _) Q.2.1 (λj hj=>(AB l.out.row j hj).1))).2.2.2.2.1;have aa:Hid (∀d,tS T.heap.size T d->d.cell? ⟨o.heap.size+1,0,N⟩=Z (.slice a ([[99,111,109,109,105,116]]++ED [g,f,p]).length c)/\d.cell? ⟨w.heap.size,4,N⟩=Z (I U n)):=(λd B=>⟨((M.1.below B M.1.lt).cell 0),(B.cell (p:=⟨w.heap.size,4,N⟩) (x.out T (CK (Cu l.out.below.drew _) Q.2.1 (λj hj=>(AB l.out.row j hj).1))).2.2.2.2.2).trans R⟩);have L:=Aa M.2;simp only[Ad,Ac]at z0;clear Q M R)
  refine t _ _ ⟨λ_=>aa.out _ (tU _ _),?_⟩;clear t K;refine Gb 6 (by kernel_rfl) rfl λK t=>?_;go_simp;refine t _ _ ⟨(λh=>absurd (h.symm.trans (show _=tZ by kernel_rfl)) BU),?_⟩;clear t K;refine FE (by kernel_rfl) ?_ _;go_wp2_with(go_at_call 80;refine(Hl (([[99,111,109,109,105,116]]++ED [g,f,p])++[Lib.decDigits n]) _ _ _ L.out.row u.out.1 (by have:=u.out.2.1;omega) (by have:=u.out.2.2;omega)).mono ?_;rintro e w8⟨rfl,P⟩;have F:=Aa ((HB.out.2.trans (L.out.below.mono (by have:=s.out;omega))).trans (P.mono (by have:=L.out.below.size;have:=s.out;omega)));clear P);go_ret2;refine⟨?_,F.out⟩;unfold Vf;rw[D.out];rfl
end
open D1 (Hi Mm Dh DY Pow.below)
abbrev Ev:=Int×Int×Int×Int×Int
def e0:Ev:=(0,0,0,0,0)
def XX(w:rO)(lb a:Nat)(l:List Ev):Prop:= ∀k,k<l.length->w.cell? ⟨lb,a+k*5,N⟩=Z (I U (l[k]?.getD e0).1)/\w.cell? ⟨lb,a+k*5+1,N⟩=Z (I U (l[k]?.getD e0).2.1)/\w.cell? ⟨lb,a+k*5+2,N⟩=Z (I U (l[k]?.getD e0).2.2.1)/\w.cell? ⟨lb,a+k*5+3,N⟩=Z (I U (l[k]?.getD e0).2.2.2.1)/\w.cell? ⟨lb,a+k*5+4,N⟩=Z (I U (l[k]?.getD e0).2.2.2.2)
def Ka(x:Ev):Prop:=mC x.1 x.2.1 x.2.2.1 x.2.2.2.1 x.2.2.2.2/\0<=x.2.2.2.2/\x.2.2.2.2<100
def Ny(x:Ev):List UInt8:=Vf x.1 x.2.1 x.2.2.1 x.2.2.2.1 x.2.2.2.2.toNat
def EE(l:List Ev):List UInt8:=l.flatMap λx=>Ny x++[10]
theorem RO(l:List Ev)(x:Ev):EE (l++[x])=EE l++(Ny x++[10]):=by simp[EE]
theorem Lq(x:Ev)(h:Ka x):(Ny x).length<=200:=(Vg x.1 x.2.1 x.2.2.1 x.2.2.2.1 x.2.2.2.2.toNat h.1.2 (by have:=h.2;omega)).2.2
theorem T6(l:List Ev)(h: ∀x∈l,Ka x):(EE l).length<=l.length*201:=by
 induction l with
 |nil=>simp[EE]
 |cons x l a=>have c:=Lq x (h x (by simp));have b:=a (λy hy=>h y (AO _ hy));simp only[EE,BE,Au,Av,AG]at b⊢;omega
theorem XY(x:Ev)(w:rO)(h:Ka x)(b:Fq.Pow w):tT prog 161 #[uk #[I U x.1,I U x.2.1,I U x.2.2.1,I U x.2.2.2.1,I U x.2.2.2.2]] w λe c=>e=ui (uo #[um ⟨(Ny x).toArray⟩,I U 0])/\tS w.heap.size w c:=by obtain⟨k,g,f,p,n⟩:=x;obtain⟨a,d,i⟩:=h;simp only at a d i;obtain⟨m,rfl⟩: ∃m:Nat,n=m:=⟨n.toNat,by omega⟩;exact XW k g f p m w a (by omega) b
theorem T7(l:List Ev)(lb G lc:Nat)(w:rO)(H:XX w lb G l)(n:lb<w.heap.size)(K: ∀x∈l,Ka x) (o:l.length<=65536) (L:Fq.Pow w):tT prog 101 #[Y (Z ⟨lb,G,N⟩) l.length lc] w λe S=>e=ui (uo #[um ⟨(EE l).toArray⟩,I U 0])/\tS w.heap.size w S:=by
 have d:=Aa (Ab H (Ab n (Ab K (Ab o L))));clear H n K o L;go_enter func101,ntmps101;go_wp2;generalize r:l.length=s at*
 have f:=Aa r;clear r;go_loopw [11] (λt wr=> ∃k:Nat,k<=s/\t=I U k/\Lib.IsBuilder 152 5 w.heap.size w.heap.size (Lib.byteCells (EE (l.take k))) wr/\tS w.heap.size w wr) (λt _=>s-(intOf t).toNat)
 case atStart=>exact⟨0,Ap _,rfl,Mm w 152 5,Cu (tU _ _) _⟩
 case round=>
  obtain⟨k,M,rfl,u,c⟩:=hrel;by_cases g:k<s
  ·have T:(k:Int)<(s:Int):=by omega
   obtain⟨p0,O,P,Q,p4⟩:=d.out.1 k (by rw[f.out];exact g);have R: ∀i,wr.cell? ⟨lb,i,N⟩=w.cell? ⟨lb,i,N⟩:=λi=>c.cell (p:=⟨lb,i,N⟩) d.out.2.1;rw[<-R]at p0 O P Q p4;obtain⟨x,B⟩: ∃x,l[k]?.getD e0=x:=⟨_,rfl⟩;have h:l[k]?=Z x:=by rw[Ae (by rw[f.out];exact g)]at B⊢;exact Aq Z B
   rw[B]at p0 O P Q p4;have a:Ka x:=d.out.2.2.1 _ (AP h);have D:=Aa (XY x (wr.alloc (uj #[I U x.1,I U x.2.1,I U x.2.2.1,I U x.2.2.2.1,I U x.2.2.2.2] 38)) a (Pow.below d.out.2.2.2.2 (c.alloc c.size _)));have V:=Aa (Hi u (Cu (tU wr.heap.size wr) (uj #[I U x.1,I U x.2.1,I U x.2.2.1,I U x.2.2.2.1,I U x.2.2.2.2] 38)));have C:=Aa (c.alloc c.size (uj #[I U x.1,I U x.2.1,I U x.2.2.1,I U x.2.2.2.1,I U x.2.2.2.2] 38));have W:=Aa (Ab h a);have n1: ¬9223372036854775807<(Ny x).length+1:=by have:=Lq _ a;omega
   have v:Hid ((Lib.byteCells (EE (l.take k))).length+((⟨(Ny x).toArray⟩:ByteArray)++⟨#[10]⟩).size<=140737488355328):=by
    have e1:=T6 (l.take k) (λy hy=>d.out.2.2.1 y (Ca hy));have e2:=Lq _ a;have e3:(l.take k).length<=65536:=by have:=d.out.2.2.2.1;rw[AY];omega
    rw[show(⟨#[10]⟩:ByteArray)=⟨([10]:List UInt8).toArray⟩from rfl,Dh];show(Lib.byteCells (EE (l.take k))).length+((Ny x++[10]).toArray).size<=_;simp only[Lib.byteCells,A9,Bk,Au,Av,AG];omega
   clear c u R B h a M;go_wp2_with(first|(go_at_call 161;refine D.out.mono ?_;rintro e w1⟨rfl,j⟩;have E:=Aa (Hi V.out j);have z:=Aa (C.out.trans (j.mono C.out.size));clear j)|(go_at_call 70;refine(Fq.nT _ _ _ _ _ E.out v.out z.out.size).mono ?_;rintro e X⟨rfl,A,b⟩;have F:=Aa A;have m:=Aa (z.out.trans b);clear A b));have hw:wrap64 ((k:Int)+1)=((k+1:Nat):Int):=by have:=d.out.2.2.2.1;unfold wrap64;omega
   rw[hw];refine⟨⟨k+1,by omega,rfl,.inr ?_,m.out⟩,by simp[intOf];omega⟩;have q:=F.out;rw[show(⟨#[10]⟩:ByteArray)=⟨([10]:List UInt8).toArray⟩from rfl,Dh,Zb2,<-DY]at q;rw[Bu,W.out.1,Za1,RO];exact q
  ·obtain rfl:k=s:=by omega
   rw[AL (by rw[f.out];exact Al _)]at u;have HS:=Aa (Fq.nU _ _ _ _ u c.size);have C:=Aa c;clear u c g M;go_wp2_with(go_at_call 72;refine HS.out.mono ?_;rintro e X⟨rfl,b⟩;have m:=Aa (C.out.trans b);clear b);go_ret2;exact⟨rfl,m.out⟩
end dX
namespace cX
open D3 (Laid)
open jl (es)
open D1 (Mx Ds C0 Lx CW C9 U3 IA)
variable {w:rO}{base b:Nat}{l:List (Int×Int×Int)}
def p7(w:rO)(v:tR)(l:List (Int×Int×Int)):Prop:= ∃a c,v= .slice a l.length c/\(l.length=0\/ ∃lb b,a=Z ⟨lb,b,N⟩/\IA w lb b l/\lb<w.heap.size)
theorem Js{α:Type}(f:α->List tR)(k:Nat)(d:α)(a: ∀x,(f x).length=k): ∀(l:List α)(i r:Nat),i<l.length->r<k->(l.flatMap f)[i*k+r]?=(f (l[i]?.getD d))[r]?
 | [],_,_,h,_=>absurd h (BX _)
 |x::l,0,r,_,b=>by rw[BE,Nat.zero_mul,AJ,Aw (by rw[a];exact b)];rfl
 |x::l,i+1,r,h,b=>by rw[BE,Ar (by rw[a,Zcb];omega),show(i+1)*k+r-(f x).length=i*k+r by rw[a,Zcb];omega];exact Js f k d a l i r (by simpa using h) b
theorem cY{v:tR}(h:w.ownsRow base 36 3 v l.length (es l))(d:0<l.length): ∃g cap,v=Y (Z ⟨g,0,N⟩) l.length cap/\base<=g/\g<w.heap.size/\IA w g 0 l:=by
 obtain⟨g,cap,cur,e,f,c,j⟩:=Et h d;have a: ∀i r,i<l.length->r<3->w.cell? ⟨g,i*3+r,N⟩=((λx:Int×Int×Int=>[I U x.1,I U x.2.1,I U x.2.2]) (l[i]?.getD (0,0,0)))[r]?:=λi r m n=>by rw[c.cell,<-Bm,<-AN (show i*3+r<l.length*3 by omega),j];exact Js _ 3 (0,0,0) (λ_=>rfl) l i r m n
 exact⟨g,cap,e,f,c.lt,λk b=>by rw[AJ];exact⟨a k 0 b (by decide),a k 1 b (by decide),a k 2 b (by decide)⟩⟩
theorem mE{v:tR}(h:w.ownsRow base 36 3 v l.length (es l)){W:rO}(f:Cw (λj=>j=b) w W) (t:b<base):p7 W v l:=by
 obtain⟨a,c,rfl⟩:=DD h;refine⟨a,c,rfl,?_⟩;by_cases n:l.length=0
 ·exact .inl n
 ·obtain⟨g,cap,e,u,m,o⟩:=cY h (by omega)
  simp only[As,true_and]at e;refine .inr ⟨g,0,e.1,λk p=>?_,An m f.size⟩;obtain⟨q,r,s⟩:=o k p;have d: ∀i,W.cell? ⟨g,i,N⟩=w.cell? ⟨g,i,N⟩:=λi=>AK (f.block g m (λe=>by omega));rw[d,d,d];exact⟨q,r,s⟩
abbrev RP (P C S:ByteArray):Value:=uk #[um P,um C,um S]
def tJ(w:rO)(p:List D1.Fn)(a b c:Int)(l:List (Int×Int×Int))(e:Ending)(w':rO):Prop:= ∃g cap d,e=ui (uo #[uk #[Y (Z ⟨g,0,N⟩) p.length cap,I U a,I U b,I U c,d],.nilIface])/\tS w.heap.size w w'/\D8.Ha w' g 0 p/\p7 w' d l
theorem cZ{w1 a:rO}{x0 x1 x2 x3 x4 u0 u1 u2 u3 u4:tR}(h:Cy a b #[x0,x1,x2,x3,x4] 165)(i:tS w.heap.size w a)(c:w.heap.size<=b)(k:tS w1.heap.size w1 a): ∃W,(((((a.setCell ⟨b,0,N⟩ u0).setCell ⟨b,1,N⟩ u1).setCell ⟨b,2,N⟩ u2).setCell ⟨b,3,N⟩ u3).setCell ⟨b,4,N⟩ u4)=W/\Cy W b #[u0,u1,u2,u3,u4] 165/\tS w.heap.size w W/\KT [165] w1 W/\Cw (λj=>j=b) a W:=by
 have d:Cy (a.setCell ⟨b,0,N⟩ u0) b #[u0,x1,x2,x3,x4] 165:=h.set 0 u0;have e:Cy ((a.setCell ⟨b,0,N⟩ u0).setCell ⟨b,1,N⟩ u1) b #[u0,u1,x2,x3,x4] 165:=d.set 1 u1;have f:Cy (((a.setCell ⟨b,0,N⟩ u0).setCell ⟨b,1,N⟩ u1).setCell ⟨b,2,N⟩ u2) b #[u0,u1,u2,x3,x4] 165:=e.set 2 u2;have g:Cy ((((a.setCell ⟨b,0,N⟩ u0).setCell ⟨b,1,N⟩ u1).setCell ⟨b,2,N⟩ u2).setCell ⟨b,3,N⟩ u3) b #[u0,u1,u2,u3,x4] 165:=f.set 3 u3;have l:Cy (((((a.setCell ⟨b,0,N⟩ u0).setCell ⟨b,1,N⟩ u1).setCell ⟨b,2,N⟩ u2).setCell ⟨b,3,N⟩ u3).setCell ⟨b,4,N⟩ u4) b #[u0,u1,u2,u3,u4] 165:=g.set 4 u4;have t:=show 165∈[165] by simp
 exact⟨_,rfl,l,((((i.setCell c _).setCell c _).setCell c _).setCell c _).setCell c _,((((((KT.below k).trans (KT.set h t 0 u0)).trans (KT.set d t 1 u1)).trans (KT.set e t 2 u2)).trans (KT.set f t 3 u3)).trans (KT.set g t 4 u4)),((((Cw.set (S:=λj=>j=b) (Cw.refl _ a) (.inr rfl) 0 u0).set (.inr rfl) 1 u1).set (.inr rfl) 2 u2).set (.inr rfl) 3 u3).set (.inr rfl) 4 u4⟩
theorem RQ(w:rO)(p:List D1.Fn)(a b c:Int)(l:List (Int×Int×Int))(V:Laid w)(hm:Mx w)(H:U3 p)(j:D8.Mo p=tZ)(ha:1<=a/\a<=256)(L:1<=b/\b<=64)(hc:1<=c/\c<=64)(hf: ∀x∈l,Lx x) (hl:l.length<=65536):tT prog 139 #[RP ⟨(CW (C9 p)).toArray⟩ ⟨(Ds (a,b,c)).toArray⟩ ⟨(C0 l).toArray⟩] w (tJ w p a b c l):=by
 have M:0<p.length:=by unfold D8.Mo at j;simp only[AR,Bo]at j;exact j.1.1
 have H1:=Aa (λW(d:tS w.heap.size w W)=>D1.TQ p W (V.below d) (hm.below d) H M);have H3:=Aa (λW(d:tS w.heap.size w W)=>D1.IU a b c W ha L hc (hm.below d));have H4:=Aa (λW(d:tS w.heap.size w W)=>D1.XT l W hf hl (hm.below d));have X:=Aa (Ab V j);generalize(⟨(CW (C9 p)).toArray⟩:ByteArray)=P at*
 generalize(⟨(Ds (a,b,c)).toArray⟩:ByteArray)=C at*
 generalize(⟨(C0 l).toArray⟩:ByteArray)=S at*
 obtain⟨n,hn⟩: ∃n,p.length=n:=⟨_,rfl⟩;have HN:=Aa hn;rw[hn]at H1;obtain⟨o,q⟩: ∃o,(w.alloc (uj #[um P,um C,um S] 63)).alloc (uj #[Y N 0 0,I U 0,I U 0,I U 0,Y N 0 0] 165)=o:=⟨_,rfl⟩;have L:tS w.heap.size w o:=by rw[<-q];exact Cu (Cu (tU _ _) _) _
 have O:Cy o w.heap.size #[um P,um C,um S] 63:=by rw[<-q];exact(Cy.new w _ 63).below (Cu (tU _ _) _) (by simp)
 have D:Cy o (w.heap.size+1) #[Y N 0 0,I U 0,I U 0,I U 0,Y N 0 0] 165:=by have k:=Cy.new (w.alloc (uj #[um P,um C,um S] 63)) #[Y N 0 0,I U 0,I U 0,I U 0,Y N 0 0] 165;rw[q]at k;simpa using k
 have s:Hid (∀W,tS o.heap.size o W->W.cell? ⟨w.heap.size,0,N⟩=Z (um P)/\W.cell? ⟨w.heap.size,1,N⟩=Z (um C)/\W.cell? ⟨w.heap.size,2,N⟩=Z (um S)/\Cy W (w.heap.size+1) #[Y N 0 0,I U 0,I U 0,I U 0,Y N 0 0] 165):=λW E=>by have k:=O.below E O.lt;exact⟨k.cell 0,k.cell 1,k.cell 2,D.below E D.lt⟩
 have t:=Aa L;have l0:=D.lt;obtain⟨a0,a1,a2,-⟩:=s.out o (tU _ _);go_enter func139,ntmps139;go_wp2_with(first|(go_at_call 207;refine(H1.out _ t.out).mono ?_;rintro e f⟨g,cap,rfl,F,hP⟩;obtain⟨b0,O,D,-⟩:=s.out f F;have l1:w.heap.size<f.heap.size:=(by have:=F.size;omega);have l2:w.heap.size+1<f.heap.size:=(by have:=F.size;omega);have m:=Aa (Ab F hP))|(go_at_call 40;first|(have u:=D8.M9 g 0 cap p _ ((X.out.1.below (Cv t.out m.out.1)).below (Cu (tU f.heap.size f) (uj #[Y (Z ⟨g,0,N⟩) n cap] 26))) (m.out.2 [] _ (KT.below (Cu (tU f.heap.size f) (uj #[Y (Z ⟨g,0,N⟩) n cap] 26))) (by simp) (by simp) (by simp)) X.out.2);rw[HN.out]at u;refine u.mono ?_;rintro e Q⟨rfl,d⟩;have y:=(Cu (tU f.heap.size f) (uj #[Y (Z ⟨g,0,N⟩) n cap] 26)).trans (d.mono (by simp));have z:=Aa y;obtain⟨d0,d1,d2,-⟩:=s.out Q (Cv m.out.1 y);have q4:Q.cell? ⟨f.heap.size,0,N⟩=Z (Y (Z ⟨g,0,N⟩) n cap):=(d.cell (p:=⟨f.heap.size,0,N⟩) (by simp)).trans ((Cy.new f #[Y (Z ⟨g,0,N⟩) n cap] 26).cell 0);have l4:f.heap.size<Q.heap.size:=(by have:=d.size;simp at this;omega))|(go_at_call 209;refine(H3.out _ (Cv (Cv t.out m.out.1) z.out)).mono ?_;rintro e A⟨rfl,d⟩;have i:=Aa (Cv z.out d);obtain⟨g0,g1,g2,-⟩:=s.out A (Cv m.out.1 i.out);have q5:=(d.cell (p:=⟨f.heap.size,0,N⟩) l4).trans q4;have l5:w.heap.size<A.heap.size:=(by have:=d.size;omega);have l6:f.heap.size<A.heap.size:=(by have:=d.size;omega))|(go_at_call 210;refine(H4.out _ (Cv (Cv t.out m.out.1) (i.out.alloc i.out.size _))).mono ?_;rintro e w4⟨lv,rfl,G,d⟩;have r:=Aa (Cv (i.out.alloc i.out.size _) d);obtain⟨a4,B,rfl⟩:=DD G;have q6:=(d.cell (p:=⟨f.heap.size,0,N⟩) (by simp;omega)).trans ((World.cell?_alloc_past _ _ _ l6).trans q5);have k3:=(Cy.new A #[I U a,I U b,I U c] 34).below d (by simp);have m0:=k3.cell 0;have m1:=k3.cell 1;have m2:=k3.cell 2;obtain⟨-,-,-,h⟩:=s.out w4 (Cv m.out.1 r.out);have f0:=h.free 0;have f1:=h.free 1;have f2:=h.free 2;have f3:=h.free 3;have f4:=h.free 4;have z0:=h.cell 0;have z1:=h.cell 1;have z2:=h.cell 2;have z3:=h.cell 3;have z4:=h.cell 4;have R:=Aa (Ab G (Ab h (show w.heap.size+1<(A.alloc (uj #[I U a,I U b,I U c] 34)).heap.size by simp;omega)));simp only[Ad,Ac,Ag]at m0 m1 m2 z0 z1 z2 z3 z4));obtain⟨W,E,h,T,K,G⟩:=cZ (w:=w) (w1:=f) (u0:=Y (Z ⟨g,0,N⟩) n cap) (u1:=I U a) (u2:=I U b) (u3:=I U c) (u4:=.slice a4 l.length B) R.out.2.1 (Cv (Cv t.out m.out.1) r.out) (Bh _) r.out;rw[E];have c0:=h.cell 0;have c1:=h.cell 1;have c2:=h.cell 2;have c3:=h.cell 3;have c4:=h.cell 4;simp only[Ad,Ac,Ag]at c0 c1 c2 c3 c4;exact AM (v:=uo #[uk #[Y (Z ⟨g,0,N⟩) n cap,I U a,I U b,I U c,.slice a4 l.length B],.nilIface]) (by simp[results,results139,go_sem,c0,c1,c2,c3,c4]) rfl ⟨g,cap,_,by rw[HN.out],T,m.out.2 [165] W K (by simp) (by simp) (by simp),mE R.out.1 G R.out.2.2⟩
end cX
namespace D1
open Go.RowKit Go.CN
open D3 (row rows Laid)
open Vm (CP)
theorem da{p:List Fn}(h:D8.Mo p=tZ)(l: ∀f∈p,∀i∈f.1,I9 i.n):U3 p:=by
 unfold D8.Mo at h;simp only[AR,Bo,Bq]at h;obtain⟨⟨m,g⟩,b⟩:=h;have q: ∀f∈p,(0<f.1.length/\f.1.length<=64/\f.2.length=f.1.length)/\ ∀i∈f.1,D8.Gf i.op i.a i.b i.c i.n f.1.length p.length=true:=λf a=>by have d:=b f a;unfold D8.PG at d;simp only[AR,Bo,Bq,BZ]at d;refine⟨d.1.1.1,λi c=>?_⟩;obtain⟨k,j,rfl⟩:=List.getElem_of_mem c;have e:=d.1.1.2 k j;unfold D8.Fb at e;rw[Ae j]at e;simp only[AR]at e;exact e.1
 exact⟨g,λf a=>⟨(q f a).1.2.2,(q f a).1.2.1,(q f a).1.1⟩,λf a i c=>⟨ZL ((q f a).2 i c) (l f a i c),fX ((q f a).2 i c)⟩⟩
def Ef:List CP:=[⟨1,0,0,0,1⟩,⟨17,0,0,0,0⟩,⟨15,0,0,0,0⟩,⟨18,0,0,0,0⟩,⟨14,0,0,0,0⟩]
def Ek:List Bool:=[tY,tZ,tZ,tY,tY]
theorem Lr:D8.Mo [(Ef,Ek)]=true:=by kernel_rfl
theorem OC:U3 [(Ef,Ek)]:=da Lr λf b i a=>by rw[Cj.1 b]at a;simp only[Ef,Be,Zbb,or_false]at a;rcases a with rfl|rfl|rfl|rfl|rfl<;>exact⟨by decide,by decide⟩
end D1
namespace Qv
section
open C2
theorem dd(L:List Sp)(k:Nat)(s:Sp)(h:L[k]?=Z s):(List.range s.Ei.length).map (one s (cnt L k))=cnt L (k+1):=by
 have e:L[k]?.getD s0=s:=by rw[h];rfl
 show _=(List.range (L[k]?.getD s0).Ei.length).map (run L (k+1));rw[e];refine Cp λm hm=>?_;have:=kn L k m (by rw[e];exact BZ.1 hm);rw[e]at this;exact this
theorem T8(L:List Sp)(k:Nat)(s:Sp)(h:L[k]?=Z s):FL L (k+1)=up (max (FL L k) s.dl) (cnt L (k+1)):=by
 have e:L[k]?.getD s0=s:=by rw[h];rfl
 show up (max (FL L k) (L[k]?.getD s0).dl) _=_;rw[e]
theorem MK(L:List Sp)(k i:Nat):(cnt L k)[i]?.getD 0<=k:=by rw[SS];exact OX L k i
def rJ(l:List M1):List Bool:=l.map λy=>y.phase==0
abbrev En:=Int×Int×Int
def RR(s:St)(x:En):Sp:=⟨rJ s.ms,Dk x.1 s.ms.length,Dk x.2.1 65⟩
def Ls:List En->St->List Sp
 | [],_=>[]
 |x::l,s=>RR s x::(match FN s x.1 x.2.1 x.2.2 with|some a=>Ls l a|none=>[])
theorem de{L:List Sp}{l:List En}{k:Nat}{s s1:St}{x:En}(h:L.drop k=Ls (l.drop k) s)(b:l[k]?=Z x)(c:FN s x.1 x.2.1 x.2.2=Z s1):L[k]?=Z (RR s x)/\L.drop (k+1)=Ls (l.drop (k+1)) s1:=by
 have a:=(Af.1 b).1;have e:l.drop k=x::l.drop (k+1):=by rw[AQ a];rw[Ae a]at b;rw[Ba b]
 rw[e]at h;have d:Ls (x::l.drop (k+1)) s=RR s x::Ls (l.drop (k+1)) s1:=by simp only[Ls,c]
 rw[d]at h;have f:L[k]?=(L.drop k)[0]?:=by rw[Zak,Zb7]
 refine⟨by rw[f,h];rfl,?_⟩;have g:L.drop (k+1)=(L.drop k).drop 1:=by rw[List.drop_drop]
 rw[g,h];rfl
theorem RS: ∀(l:List En)(s a:St)(r:List St)(n:Nat),D0 l s=Z (r,a)->s.sc.now=n->n+l.length<=1000000->a.sc.now=((n+l.length:Nat):Int)
 | [],s,a,r,n,h,b,c=>by
  obtain⟨-,rfl⟩: []=r/\s=a:=by simpa[D0]using h
  simpa using b
 |x::l,s,a,r,n,h,b,c=>by obtain⟨s1,d,f⟩:=Ax.1 (show(FN s x.1 x.2.1 x.2.2).bind _=Z (r,a)from h);obtain⟨q,g,i⟩:=AD.1 f;obtain⟨r1,s2⟩:=q;cases i;have e:=iE d;have:=RS l s1 s2 r1 (n+1) g (by rw[e,b];unfold wrap64;simp only[Av]at c;omega) (by simp only[Av]at c;omega);rw[this];simp only[Av];omega
end
theorem tmod_one(i n:Int)(h:1<=n):(i.tmod n<0->i%n=i.tmod n+n)/\(¬i.tmod n<0->i%n=i.tmod n):=by
 have b:=Zay i (show(0:Int)<n by omega);have d:=Zb9 i (show(0:Int)<n by omega);have e:=Int.tmod_add_mul_tdiv i n;have q: ∀r q:Int,0<=r->r<n->r+n*q=i->i%n=r:=λr q a c b=>by rw[<-b,Int.add_mul_emod_self_left,Int.emod_eq_of_lt a c]
 constructor
 ·intro a
  exact q (i.tmod n+n) (i.tdiv n-1) (by omega) (by omega) (by rw[Int.mul_sub];omega)
 ·intro a
  exact q (i.tmod n) (i.tdiv n) (by omega) (by omega) e
theorem jN(i n:Int)(w:rO)(g:n<=4611686018427387904)(d:1<=n):tT prog 84 #[I U i,I U n] w λe f=>e=ui (I U (Dk i n))/\f=w:=by
 have j:=Zay i (show(0:Int)<n by omega);obtain⟨a,b⟩:=tmod_one i n d;have c:=Aa (Ab a b);clear a b;have hm:Dk i n=i%n:=by rw[Dk,Ah (by omega)]
 rw[hm];clear hm;go_enter func84,ntmps84;by_cases h:i.tmod n<0
 ·go_wp2
  go_ret;refine⟨Fv ?_,rfl⟩;rw[c.out.1 h];try rw[Cm _ ⟨by omega,by omega⟩]
 ·go_wp2
  go_ret;refine⟨Fv ?_,rfl⟩;rw[c.out.2 h];try rw[Cm _ ⟨by omega,by omega⟩]
theorem dj(c:List Bool)(g pc m:Nat)(x y z d:Int)(w:rO)(l: ∀j,j<c.length->w.cell? ⟨g,j,N⟩=Z (ue (c[j]?.getD tY))) (n:g<w.heap.size) (F:0<c.length) (u:c.length<=1000) (hm:m<=100000):tT prog 85 #[uk #[Y (Z ⟨g,0,N⟩) c.length pc,I U x,I U y,I U z],I U (m:Int)] w λe v=>e=ui (ue (L0 ⟨c,Dk x c.length,d⟩ m))/\tS w.heap.size w v:=by
 have i:=Cu (tU w.heap.size w) (uj #[Y (Z ⟨g,0,N⟩) c.length pc,I U x,I U y,I U z] 68);have f:=Cy.new w #[Y (Z ⟨g,0,N⟩) c.length pc,I U x,I U y,I U z] 68;have A:=f.cell 0;have B:=f.cell 1;simp only[Ad,Ac,Ag]at A B;have o:=Aa (λW=>jN x c.length W (by omega) (by omega));have q:=Aa i;obtain⟨a,r⟩: ∃a,Dk x c.length=a:=⟨_,rfl⟩;rw[r]at o⊢;have s:=l m;by_cases h:m<c.length
 ·have c0:=(i.cell (p:=⟨g,m,N⟩) n).trans (s h)
  obtain⟨p,t⟩: ∃p,c[m]?.getD tY=p:=⟨_,rfl⟩;rw[t]at c0;have C:(m:Int)<(c.length:Int):=by omega
  have he:L0 ⟨c,a,d⟩ m=(!p&&a !=(m:Int)):=by show(decide (m<c.length)&& !(c[m]?.getD tY)&&a !=(m:Int))=_;rw[t,A8 h,Zbh]
  have k:=Aa he;clear he i f l s t h r;cases p
  ·obtain⟨b,D⟩: ∃b,(a !=(m:Int))=b:=⟨_,rfl⟩
   rw[k.out];rw[D];go_enter func85,ntmps85;go_wp2_with(go_at_call 84;refine(o.out _).mono ?_;rintro e E⟨rfl,rfl⟩)
   all_goals go_ret
   all_goals exact⟨by first|rfl|simp,q.out⟩
  ·rw[k.out]
   go_enter func85,ntmps85;go_wp2_with(go_at_call 84;refine(o.out _).mono ?_;rintro e E⟨rfl,rfl⟩);go_ret;exact⟨by simp,q.out⟩
 ·have C: ¬(m:Int)<(c.length:Int):=by omega
  have he:L0 ⟨c,a,d⟩ m=false:=by unfold L0;simp[h]
  have k:=Aa he;clear he i f l s h r;rw[k.out];go_enter func85,ntmps85;go_wp2;go_ret;exact⟨rfl,q.out⟩
structure Tp where
 Ei:List Bool
 I7:Nat
 Dr:Nat
 x:Int
 y:Int
 z:Int
def Tp.sp(t:Tp):Sp:=⟨t.Ei,Dk t.x t.Ei.length,Dk t.y 65⟩
structure rK (W:rO) (g k:Nat) (t:Tp):Prop where
 c0:W.cell? ⟨g,k*4,N⟩=Z (Y (Z ⟨t.I7,0,N⟩) t.Ei.length t.Dr)
 c1:W.cell? ⟨g,k*4+1,N⟩=Z (I U t.x)
 RT:W.cell? ⟨g,k*4+2,N⟩=Z (I U t.y)
 c3:W.cell? ⟨g,k*4+3,N⟩=Z (I U t.z)
 row: ∀j,j<t.Ei.length->W.cell? ⟨t.I7,j,N⟩=Z (ue (t.Ei[j]?.getD tY))
 lt:t.I7<W.heap.size
 pos:0<t.Ei.length
 dY:t.Ei.length<=1000
def dq(W:rO)(g:Nat)(T:List Tp):Prop:=g<W.heap.size/\ ∀k t,T[k]?=Z t->rK W g k t
theorem dq.below{W W':rO}{g:Nat}{T:List Tp}(h:dq W g T)(a:tS W.heap.size W W'):dq W' g T:=⟨An h.1 a.size,λk t b=>by have q:=h.2 k t b;exact⟨(a.cell h.1).trans q.c0,(a.cell h.1).trans q.c1,(a.cell h.1).trans q.RT,(a.cell h.1).trans q.c3,λj c=>(a.cell q.lt).trans (q.row j c),An q.lt a.size,q.pos,q.dY⟩⟩
theorem dA{T:List Tp}{k:Nat}{t:Tp}(h:T[k]?=Z t):(T.map Tp.sp)[k]?.getD s0=t.sp:=by rw[AZ,h];rfl
theorem Vh(o:Int)(cs:List Nat)(j:Nat)(h:j<cs.length):up o (cs.take (j+1))=max (up o (cs.take j)) (((cs[j]?.getD 0:Nat):Int)+1):=by rw[Bu,Ae h];exact fk _ _ _
theorem Vi{w:rO}(g cap:Nat)(T:List Tp)(h:dq w g T)(G:T.length<=1000):tT prog 25 #[Y (Z ⟨g,0,N⟩) T.length cap] w λe w'=>e=ui (I U (FL (T.map Tp.sp) T.length))/\tS w.heap.size w w':=by
 have H:=Aa (Ab h G);clear h G;obtain⟨n,hn⟩: ∃n,T.length=n:=⟨_,rfl⟩;have HN:=Aa hn;rw[hn];clear hn;obtain⟨L,hL⟩: ∃L,T.map Tp.sp=L:=⟨_,rfl⟩;have HL:=Aa hL;rw[hL];clear hL;go_enter func25,ntmps25;go_wp2;go_loopw [3,4] (λt3 t4 wr=> ∃k:Nat,k<=n/\t4=I U (k:Int)/\t3=I U (FL L k)/\tS w.heap.size w wr) (λ_ t _=>n-(intOf t).toNat)
 case atStart=>exact⟨0,Ap _,rfl,rfl,tU _ _⟩
 case round=>
  obtain⟨k,hk,rfl,rfl,i⟩:=hrel;have P:n<=1000:=by have:=H.out.2;have:=HN.out;omega
  by_cases d:k<n
  ·obtain⟨t,ht⟩: ∃t,T[k]?=Z t:=⟨_,Ae (by rw[HN.out];exact d)⟩
   have q:=(H.out.1.below i).2 k t ht;obtain⟨o,ho⟩: ∃o,FL L k=o:=⟨_,rfl⟩;have c0:=q.c0;have c2:=q.RT;have ag:(k:Int)<(n:Int):=by omega
   have HM:=Aa (λW=>jN t.y 65 W (by decide) (by decide));obtain⟨a,A⟩: ∃a,Dk t.y 65=a:=⟨_,rfl⟩;obtain⟨p,hp⟩: ∃p,t.Ei.length=p:=⟨_,rfl⟩;obtain⟨K,Q⟩: ∃K,max o a=K:=⟨_,rfl⟩;have R:max o a=K:=Q
   rw[A]at HM;rw[ho];have M:=Aa (Ab ho (Ab A (Ab hp (Ab Q R))));have v:=Aa (Ab hk (Ab d (Ab ht (Ab i P))));rw[hp]at c0;clear ho A hp Q hk d ht i P q;go_upto_region 5 with fail
   go_cut [3]from 14 to 22 (λc3 wx=>c3=I U K/\wx=wr)
   case first=>
    go_wp2_with(go_at_call 84;refine(HM.out _).mono ?_;rintro e w1⟨rfl,rfl⟩)
    all_goals go_meet
    all_goals exact⟨by first|rfl|(congr 1;omega),rfl⟩
   case rest=>
    obtain⟨rfl,rfl⟩:=hcut;clear c0 c2 R;obtain⟨cs,x⟩: ∃cs,cnt L (k+1)=cs:=⟨_,rfl⟩;have S:cs.length=p:=by rw[<-x,fj,<-HL.out,dA v.out.2.2.1,<-M.out.2.2.1];rfl
    have f: ∀j,cs[j]?.getD 0=run L (k+1) j:=λj=>by rw[<-x];exact SS L (k+1) j
    have O:=Aa (Ab x (Ab S f));have V:p<=1000:=by have:=(H.out.1.2 k t v.out.2.2.1).dY;have:=M.out.2.2.1;omega
    have ae:k<1000:=by have:=v.out.2.1;have:=v.out.2.2.2.2;omega
    have B:=Aa (Ab V ae);clear x S f V;go_wp2;go_loopw [3,5] (λt3 t5 wr=> ∃j:Nat,j<=p/\t5=I U (j:Int)/\t3=I U (up K (cs.take j))/\tS w.heap.size w wr) (λ_ t _=>p-(intOf t).toNat)
    case atStart=>exact⟨0,Ap _,rfl,rfl,v.out.2.2.2.1⟩
    case round=>
     obtain⟨j,hj,rfl,rfl,i⟩:=hrel;have c0:=((H.out.1.below i).2 k t v.out.2.2.1).c0;rw[M.out.2.2.1]at c0;have HB:=Aa i;obtain⟨y,m⟩: ∃y,up K (cs.take j)=y:=⟨_,rfl⟩;rw[m];by_cases d:j<p
     ·have ah:(j:Int)<(p:Int):=by omega
      have r:=Aa (Ab d (Ab hj m));clear d hj m i;go_wp2;go_loopw [6,7] (λt6 t7 wr=> ∃c q:Nat,q<=k+1/\t7=I U ((q:Int)-1)/\t6=I U (c:Int)/\c+run L q j=run L (k+1) j/\tS w.heap.size w wr) (λ_ t _=>(intOf t+1).toNat)
      case atStart=>exact⟨0,k+1,Al _,by congr 1;omega,rfl,AJ _,HB.out⟩
      case round=>
       obtain⟨c,q,hq,rfl,rfl,hc,i⟩:=hrel;have X:=OX L (k+1) j;cases q with
       |zero=>
        have f:c=run L (k+1) j:=by rw[<-hc];rfl
        have e1:((0:Nat):Int)-1= -1:=rfl;rw[e1];have hw:wrap64 ((c:Int)+1)=(c:Int)+1:=by have:=B.out.2;unfold wrap64;omega
        obtain⟨C,s⟩: ∃C,max y ((c:Int)+1)=C:=⟨_,rfl⟩;have af:max y ((c:Int)+1)=C:=s
        have D:=Aa (Ab f (Ab s i));clear f s i hc hq X e1;have z:wrap64 ((j:Int)+1)=(j:Int)+1:=by have:=B.out.1;have:=r.out.1;unfold wrap64;omega
        go_wp2
        all_goals
         rw[z];exact⟨⟨j+1,by have:=r.out.1;omega,rfl,by rw[Vh _ _ _ (by rw[O.out.2.1];exact r.out.1),r.out.2.2,O.out.2.2,<-D.out.1,D.out.2.1],D.out.2.2⟩,by have:=r.out.1;simp[intOf];omega⟩
       |succ q=>
        obtain⟨t',u⟩: ∃t',T[q]?=Z t':=⟨_,Ae (by rw[HN.out];have:=v.out.2.1;omega)⟩;have qq:=(H.out.1.below i).2 q t' u;have G:=dA u;rw[HL.out]at G;have A:=λW(hW:tS w.heap.size w W)=>dj t'.Ei t'.I7 t'.Dr j t'.x t'.y t'.z (Dk t'.y 65) W ((H.out.1.below hW).2 q t' u).row ((H.out.1.below hW).2 q t' u).lt qq.pos qq.dY (by have:=r.out.1;have:=B.out.1;omega);have E:run L (q+1) j=if L0 t'.sp j then run L q j+1 else 0:=by show(if L0 (L[q]?.getD s0) j then run L q j+1 else 0)=_;rw[G]
        obtain⟨b,hb⟩: ∃b,L0 t'.sp j=b:=⟨_,rfl⟩;have aa:L0 ⟨t'.Ei,Dk t'.x t'.Ei.length,Dk t'.y 65⟩ j=b:=hb;rw[aa]at A;rw[hb]at E;have HA:=Aa A;have d0:=qq.c0;have d1:=qq.c1;have d2:=qq.RT;have d3:=qq.c3;have e1:((q+1:Nat):Int)-1=(q:Int):=by omega
        rw[e1];have ai:(q:Int)<(n:Int):=by have:=v.out.2.1;omega
        have l:=Aa (Ab E (Ab hc (Ab i hq)));have aj:c<=2000:=by have:=B.out.2;omega
        clear E hc i hq hb aa A qq G u e1 X;cases b
        ·have f:c=run L (k+1) j:=by have h1:=l.out.1;have h2:=l.out.2.1;simp only[A6,Bn]at h1;omega
         have hw:wrap64 ((c:Int)+1)=(c:Int)+1:=by unfold wrap64;omega
         obtain⟨C,s⟩: ∃C,max y ((c:Int)+1)=C:=⟨_,rfl⟩;have af:max y ((c:Int)+1)=C:=s
         have z:wrap64 ((j:Int)+1)=(j:Int)+1:=by have:=B.out.1;have:=r.out.1;unfold wrap64;omega
         have HG:=Aa (Ab f s);clear f s;go_wp2_with(go_at_call 85;refine(HA.out _ l.out.2.2.1).mono ?_;rintro e w1⟨rfl,F⟩;have D:=Aa (Ab HG.out.1 (Ab HG.out.2 (l.out.2.2.1.trans (F.mono l.out.2.2.1.size)))))
         all_goals
         rw[z];exact⟨⟨j+1,by have:=r.out.1;omega,rfl,by rw[Vh _ _ _ (by rw[O.out.2.1];exact r.out.1),r.out.2.2,O.out.2.2,<-D.out.1,D.out.2.1],D.out.2.2⟩,by have:=r.out.1;simp[intOf];omega⟩
        ·go_wp2_with(go_at_call 85;refine(HA.out _ l.out.2.2.1).mono ?_;rintro e w1⟨rfl,F⟩)
         all_goals
          rw[show wrap64 ((q:Int)-1)=(q:Int)-1 by have:=B.out.2;have:=l.out.2.2.2;unfold wrap64;omega];refine⟨⟨c+1,q,by have:=l.out.2.2.2;omega,rfl,rfl,?_,l.out.2.2.1.trans (F.mono l.out.2.2.1.size)⟩,by simp[intOf]⟩;have h1:=l.out.1;have h2:=l.out.2.1;simp only[BD]at h1;omega
     ·obtain rfl:j=p:=by omega
      have z:wrap64 ((k:Int)+1)=(k:Int)+1:=by have:=B.out.2;unfold wrap64;omega
      have ab:y=FL L (k+1):=by rw[<-m,AL (by rw[O.out.2.1];exact Al _),<-O.out.1,<-M.out.2.2.2.1,<-M.out.1,<-M.out.2.1];show _=up (max (FL L k) (L[k]?.getD s0).dl) (cnt L (k+1));rw[<-HL.out,dA v.out.2.2.1];rfl
      have HO:=Aa ab;have ad:=v.out.2.1;have HK:=Aa ad;clear m ab hj d i ad;go_wp2;exact⟨⟨k+1,HK.out,rfl,by rw[HO.out],HB.out⟩,by have:=HK.out;simp[intOf];omega⟩
  ·obtain rfl:k=n:=by omega
   have HB:=Aa i;clear hk d i;go_wp2;go_ret;exact⟨rfl,HB.out⟩
end Qv
namespace rL
theorem iP(a b:List UInt8):(⟨a.toArray⟩:ByteArray)++⟨b.toArray⟩=⟨(a++b).toArray⟩:=by apply ByteArray.ext;simp
theorem Vj(u:Nat)(h:u<=1000000):(Lib.decDigits u).length<=21:=by
 have:=(D1.CY (u:Int) ⟨by omega,by omega⟩).2.2;rcases D1.Ht (u:Int)with⟨a,_⟩|⟨_,e⟩
 ·omega
 ·rw[e]at this;simpa using this
theorem dB(m:Nat): ∀(w:rO),m<=1000000->tT prog 83 #[I U (-(m:Int))] w λe l=>e=ui (um ⟨(Lib.decDigits m).toArray⟩)/\tS w.heap.size w l:=by
 induction m using Nat.strongRecOn with
 |_ m j=>
  intro w hm;by_cases h:m<10
  ·have n: -10< -(m:Int):=by omega
   have hcv: ∀W:rO,W.cell? ⟨w.heap.size,0,N⟩=Z (.int .u8 (48+(m:Int)))->(convert 150 9 (Y (Z ⟨w.heap.size,0,N⟩) 1 1)).run prog W= .ok (um ⟨(Lib.decDigits m).toArray⟩) W:=λW o=>by
    have e:Lib.decDigits m=[UInt8.ofNat (48+m)]:=by rw[Lib.decDigits,dif_pos h]
    rw[e];refine Lib.run_convert_whole W 150 5 9 (by kernel_rfl) (by kernel_rfl) (by kernel_rfl) w.heap.size 0 ⟨[UInt8.ofNat (48+m)].toArray⟩ (λi A=>?_) 1;obtain rfl:i=0:=by have:(⟨[UInt8.ofNat (48+m)].toArray⟩:ByteArray).size=1:=rfl;omega
    rw[o];congr 2;show _=(((UInt8.ofNat (48+m)).toNat:Nat):Int);rw[UInt8.toNat_ofNat'];omega
   have k:=(Cy.new w #[.int .u8 (48+(m:Int))] 5).cell 0;simp only[Ad,Ac]at k;have p:=hcv _ k;have q:=Aa (Cu (tU w.heap.size w) (uj #[.int .u8 (48+(m:Int))] 5));go_enter func83,ntmps83;go_wp2;go_ret;exact⟨rfl,q.out⟩
  ·have n: ¬ -10< -(m:Int):=by omega
   have B:(-(m:Int)).tdiv 10= -((m/10:Nat):Int):=by rw[Int.neg_tdiv,Int.tdiv_eq_ediv_of_nonneg (by omega)];omega
   have C:(-(m:Int)).tmod 10= -((m%10:Nat):Int):=by rw[Int.neg_tmod,Int.tmod_eq_emod_of_nonneg (by omega)];omega
   have r:=Aa (j (m/10) (by omega) w (by omega));have s:=Aa (λW=>j (m%10) (by omega) W (by omega));have e:Lib.decDigits m=Lib.decDigits (m/10)++Lib.decDigits (m%10):=by
    conv=>lhs;rw[Lib.decDigits,dif_neg h]
    congr 1;rw[Lib.decDigits,dif_pos (by omega)]
   have D:=Vj (m/10) (by omega);have E:=Vj (m%10) (by omega);rw[e,<-iP];have t:wrap64 (-((m/10:Nat):Int))= -((m/10:Nat):Int):=Cm _ ⟨by omega,by omega⟩;have u:wrap64 (-((m%10:Nat):Int))= -((m%10:Nat):Int):=Cm _ ⟨by omega,by omega⟩;have v:=Aa t;have z:=Aa u;generalize m/10=a at*
   generalize m%10=b at*
   generalize Lib.decDigits a=x at*
   generalize Lib.decDigits b=y at*
   have hlen: ¬9223372036854775807<x.length+y.length:=by omega
   go_enter func83,ntmps83;go_wp2_with(first|(go_at_call 83;rw[v.out];refine r.out.mono ?_;rintro e F⟨rfl,c⟩;have d:=Aa c)|(go_at_call 83;(try rw[z.out]);refine(s.out _).mono ?_;rintro e G⟨rfl,f⟩;have g:=Aa f));go_ret;exact⟨rfl,Cv d.out g.out⟩
theorem LU(m:Nat)(w:rO)(hm:m<=1000000):tT prog 23 #[I U (m:Int)] w λe c=>e=ui (um ⟨(Lib.itoa (m:Int)).toArray⟩)/\tS w.heap.size w c:=by
 have e:Lib.itoa (m:Int)=Lib.decDigits m:=by
  rcases D1.Ht (m:Int)with⟨h,_⟩|⟨_,e⟩
  ·omega
  ·rw[e];rfl
 rw[e];have d:=Aa (dB m w hm);have f:Hid (wrap64 (-(m:Int))= -(m:Int)):=Cm _ ⟨by omega,by omega⟩;go_enter func23,ntmps23;go_wp2_with(go_at_call 83;(try rw[f.out]);refine d.out.mono ?_;rintro e g⟨rfl,a⟩;have b:=Aa a);go_ret;exact⟨rfl,b.out⟩
end rL
end Go.Proofs.YtgadhchejmlfjaaGreatDoor
