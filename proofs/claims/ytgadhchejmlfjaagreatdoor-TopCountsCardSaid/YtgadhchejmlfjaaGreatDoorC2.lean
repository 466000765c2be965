/- TopCounts, proved: its card holds for every call that the card admits, in every world where the package variables of the program are laid as the card says (the tie to the laid variables is the given one); no other premise. The texts before this one are its parts: the functions of the program walked one by one, the mirror of the machine in plain Lean, and the plain law. Names are short to keep the claim within its size. -/
import Derived.Test.YtgadhchejmlfjaaGreatDoorC1
set_option linter.unusedVariables false
set_option maxRecDepth 20000
set_option maxHeartbeats 16000000
open Go.Value renaming int->I,pointer->J,slice->Y
open Go.IntKind renaming i64->U
open Option renaming none->N,some->Z
open Bool renaming false->tY,true->tZ
open Go renaming Calls->tT,Value->tR,World->rO
open Go.Ending renaming returned->ui
open Go.Obj renaming cells->uj
open Go.RowKit renaming Below->tS
open Go.RowKit.Below renaming refl->tU
open Go.Value renaming agg->uk,bool->ue,string->um,tuple->uo
open Go.Proofs.Tryz Go.RowKit Go.CN
namespace Go.Proofs.YtgadhchejmlfjaaGreatDoor
namespace dC
open C2
open Vm (CP)
section
variable {s' s:St}{W wr:rO}{mb:Nat}
theorem mM(W:rO)(x0 x1 x2 x3 x4 x5 x6 x7 x8 x9 F1:tR):(Instr.field 45 (uk #[x0,x1,x2,x3,x4,x5,x6,x7,x8,x9,F1]) 0).run prog W= .ok x0 W:=by kernel_rfl
theorem Vn(j k pc lc:Nat)(p:List (List CP×List Bool))(c cg cm:Nat)(a:Option Addr)(l:List (Int×Int×Int))(w:rO)(h:Sh w j k p c cg cm)(x:R9 w a l)(y:l.length<=65536){r:List St}(z:D0 l (G8 (FR p) c cg cm)=Z (r,s')):tT prog 79 #[uk #[Y (Z ⟨j,k,N⟩) p.length pc,I U c,I U cg,I U cm,.slice a l.length lc]] w λe u=> ∃b mb v,tS w.heap.size w b/\e=ui (uo #[ptr mb,v])/\Sq b s' mb u/\u.ownsRow 0 38 5 v r.length (r.flatMap jK):=by
 obtain⟨b,d⟩: ∃b,w.alloc (uj #[Y (Z ⟨j,k,N⟩) p.length pc,I U c,I U cg,I U cm,.slice a l.length lc] 165)=b:=⟨_,rfl⟩;have n:tS w.heap.size w b:=by rw[<-d];exact Cu (tU _ _) _
 have f:Cy b w.heap.size #[Y (Z ⟨j,k,N⟩) p.length pc,I U c,I U cg,I U cm,.slice a l.length lc] 165:=by rw[<-d];exact Cy.new _ _ _
 have A:=Aa ((h.below n).new pc);have o:=Aa (Ab (x.below n) (Ab y z));have s:=Aa (Ab n f);have B:=f.cell 0;have C:=f.cell 1;have D:=f.cell 2;have E:=f.cell 3;simp only[Ad,Ac,Ag]at B C D E;go_enter func79,ntmps79;go_wp2_with(first|(go_at_call 10;refine A.out.mono ?_;rintro e F⟨mb,rfl,m⟩;have t:=(by obtain⟨_,_,_,_,q⟩:=m;exact s.out.2.below q s.out.2.lt:Cy F w.heap.size _ 165);have d4:=t.cell 4;simp only[Ad,Ac,Ag]at d4;have G:=Aa m)|(go_at_call 69;refine(G.out.runs o.out.2.2 o.out.1 o.out.2.1 lc).mono ?_;rintro e H⟨⟨v,rfl,g⟩,m⟩;have i:=Aa (Ab m (Fk g (Ap _)))));go_ret2;exact⟨b,mb,v,s.out.1,rfl,i.out.1,i.out.2⟩
theorem Sq.live(h:Sq W s mb wr)(a:Inv 1000 s):tT prog 24 #[ptr mb] wr λe b=>e=ui (I U (s.ms.length:Int))/\b=wr:=by obtain⟨V,own,c,_⟩:=h;exact c.live a.RV.2.1
theorem Sq.steps(h:Sq W s mb wr):tT prog 82 #[ptr mb] wr λe a=>e=ui (I U s.sc.now)/\a=wr:=by obtain⟨V,own,b,_⟩:=h;exact b.steps
theorem Sq.quiet(h:Sq W s mb wr)(a:Inv 1000 s):tT prog 28 #[ptr mb] wr λe c=>(∃b:Bool,e=ui (ue b))/\c=wr:=by obtain⟨V,own,d,_⟩:=h;exact d.quiet a.RV.2.1
theorem Sq.small(h:Sq W s mb wr):s.ms.length<=64/\0<=s.sc.CF/\s.sc.CF<=64:=by obtain⟨V,own,a,_⟩:=h;have:=a.Hb;have:=a.hold;omega
theorem pH(x y z u:List UInt8):Lib.join [x,y,z,u] [10]=x++10::(y++10::(z++10::u)):=by simp[Lib.join,List.intercalate]
theorem X9(x y z u:List UInt8)(w:rO)(g:x.length<=200/\y.length<=200/\z.length<=200/\u.length<=200):tT prog 80 #[Y (Z ⟨w.heap.size,0,N⟩) 4 4,um ⟨#[10]⟩] (w.alloc (uj #[um ⟨x.toArray⟩,um ⟨y.toArray⟩,um ⟨z.toArray⟩,um ⟨u.toArray⟩] 9)) λe c=> ∃a:List UInt8,e=ui (um ⟨a.toArray⟩)/\a=x++10::(y++10::(z++10::u))/\a.length<=1000/\tS w.heap.size w c:=by
 have d:=Cy.new w #[um ⟨x.toArray⟩,um ⟨y.toArray⟩,um ⟨z.toArray⟩,um ⟨u.toArray⟩] 9;have hlen:(x++10::(y++10::(z++10::u))).length<=1000:=by simp only[Au,Av];omega
 have e:Lib.join (List.map (λx=>x.data.toList) [(⟨x.toArray⟩:ByteArray),⟨y.toArray⟩,⟨z.toArray⟩,⟨u.toArray⟩]) (⟨#[10]⟩:ByteArray).data.toList=x++10::(y++10::(z++10::u)):=pH x y z u;refine(Fq.join w.heap.size 0 4 [⟨x.toArray⟩,⟨y.toArray⟩,⟨z.toArray⟩,⟨u.toArray⟩] ⟨#[10]⟩ _ (λj v b=>?_) d.lt (by simp) (by simp) (by rw[e];omega)).mono ?_
 ·rw[AJ,d.cell]
  match j,b with
  |0,b=>cases b;rfl
  |1,b=>cases b;rfl
  |2,b=>cases b;rfl
  |3,b=>cases b;rfl
 ·rintro _ c⟨rfl,f⟩
  exact⟨_,by rw[e],rfl,hlen,Cv (Cu (tU _ _) _) f⟩
theorem NA(u:List UInt8)(x:Int)(a:D1.I9 x)(hu:u.length<=100):(RJ.GI u x).length<=200:=by have:=(D1.CY x a).2.2;unfold RJ.GI;simp only[Au,Av];omega
def Lu:List UInt8:=[115,116,101,112,115]
def Vo:List UInt8:=[104,111,108,100,101,114]
def OG:List UInt8:=[108,105,118,101]
def LV(n m:Int):List UInt8:=RJ.GI Lu n++10::(RJ.GI OG m++[10])
theorem head_tail(n m:Int)(v:List UInt8):RJ.GI Lu n++10::(RJ.GI OG m++10::v)++[10]=LV n m++(v++[10]):=by simp[LV]
theorem My(o s pc lc:Nat)(p:List (List CP×List Bool))(m cg cm:Nat)(a:Option Addr)(l:List (Int×Int×Int))(w:rO)(h:Sh w o s p m cg cm)(L:R9 w a l)(M:l.length<=65536){r:List St}(O:D0 l (G8 (FR p) m cg cm)=Z (r,s'))(P:Inv 1000 s')(Q:D1.I9 s'.sc.now)(R:Fq.Pow w):tT prog 78 #[uk #[Y (Z ⟨o,s,N⟩) p.length pc,I U m,I U cg,I U cm,.slice a l.length lc]] w λe V=>(∃t:List UInt8,t≠[]/\e=ui (um ⟨(LV s'.sc.now s'.ms.length++t).toArray⟩))/\tS w.heap.size w V:=by
 obtain⟨u,x⟩: ∃u,w.alloc (uj #[Y (Z ⟨o,s,N⟩) p.length pc,I U m,I U cg,I U cm,.slice a l.length lc] 165)=u:=⟨_,rfl⟩;have E:tS w.heap.size w u:=by rw[<-x];exact Cu (tU _ _) _
 have n:Cy u w.heap.size #[Y (Z ⟨o,s,N⟩) p.length pc,I U m,I U cg,I U cm,.slice a l.length lc] 165:=by rw[<-x];exact Cy.new _ _ _
 have W:=Aa (Vn o s pc lc p m cg cm a l u (h.below E) (L.below E) M O);have j:=Aa (Ab E (Ab P (Ab Q R)));have X:=n.cell 0;have q1:=n.cell 1;have q2:=n.cell 2;have q3:=n.cell 3;have q4:=n.cell 4;simp only[Ad,Ac,Ag]at X q1 q2 q3 q4;clear h L M O E n P Q R;have hf:=mM;go_enter func78,ntmps78;go_wp2_with(first|(go_at_call 79;refine W.out.mono ?_;rintro e w1⟨W1,mb,v,y,rfl,F,-⟩;have z:=Aa (Ab (Cv (Cv j.out.1 y) (by obtain⟨_,_,_,_,q⟩:=F;exact q)) F);clear y F)|(go_at_call 28;refine(z.out.2.quiet j.out.2.1).mono ?_;rintro e w2⟨⟨bq,rfl⟩,rfl⟩)|(go_at_call 82;refine z.out.2.steps.mono ?_;rintro e w2⟨rfl,rfl⟩)|(go_at_call 24;refine(d.out.2.live j.out.2.1).mono ?_;rintro e w4⟨rfl,rfl⟩)|(go_at_call 80;refine(X9 (RJ.GI Lu s'.sc.now) (RJ.GI OG s'.ms.length) (RJ.GI Vo s'.sc.CF) _ _ ⟨NA _ _ j.out.2.2.1 (by decide),NA _ _ (by have:=d.out.2.small;simp only[D1.I9];omega) (by decide),NA _ _ (by have:=i.out.2.small;simp only[D1.I9];omega) (by decide),by decide⟩).mono ?_;rintro e w7⟨b,rfl,S,G,A⟩;have n1: ¬9223372036854775807<b.length+1:=(by omega);have T:=Aa (Ab S (Cv H.out.1 A));clear S G A)|(go_at_call 12;refine((Sr.of B.out.2).bD j.out.2.1).mono ?_;rintro e w5⟨⟨x1,x2,x3,x4,x5,x6,x7,x8,aa,g,c,rfl,-,-⟩,C,D⟩;have i:=Aa (Ab (Cv B.out.1 D) C.sq);clear C D)|(go_at_call 81;have K:=i;refine(RJ.Lp Vo s'.sc.CF _ 1 _ (by have:=i.out.2.small;simp only[D1.I9];omega) (by decide) ((Cy.new _ _ _).cell 0) (by simp) (D1.Pow.below j.out.2.2.2 (Cv i.out.1 (Cu (tU _ _) _)))).mono ?_;rintro e w6⟨rfl,f⟩;have H:=Aa (Ab (Cv (Cv i.out.1 (Cu (tU _ _) _)) f) trivial);clear f K)|(go_at_call 81;have K:=d;refine(RJ.Lp OG s'.ms.length _ 1 _ (by have:=d.out.2.small;simp only[D1.I9];omega) (by decide) ((Cy.new _ _ _).cell 0) (by simp) (D1.Pow.below j.out.2.2.2 (Cv d.out.1 (Cu (tU _ _) _)))).mono ?_;rintro e w6⟨rfl,f⟩;have B:=Aa (Ab (Cv (Cv d.out.1 (Cu (tU _ _) _)) f) (d.out.2.go (Cv (Cu (tU _ _) _) f)));clear f K)|(go_at_call 81;refine(RJ.Lp Lu s'.sc.now _ 1 _ j.out.2.2.1 (by decide) ((Cy.new _ _ _).cell 0) (by simp) (D1.Pow.below j.out.2.2.2 (Cv z.out.1 (Cu (tU _ _) _)))).mono ?_;rintro e w3⟨rfl,k⟩;have d:=Aa (Ab (Cv (Cv z.out.1 (Cu (tU _ _) _)) k) (z.out.2.go (Cv (Cu (tU _ _) _) k)));clear k))
 all_goals go_ret
 all_goals
  obtain⟨v,hv⟩: ∃v,b=RJ.GI Lu s'.sc.now++10::(RJ.GI OG s'.ms.length++10::v):=⟨_,T.out.1⟩;refine⟨⟨v++[10],by simp,?_⟩,T.out.2⟩;show Ending.returned (um ((⟨b.toArray⟩:ByteArray)++⟨([10]:List UInt8).toArray⟩))=_;rw[D1.Dh,hv,head_tail]
end
open D1 (Mx Ds C0 Lx CW C9 U3)
theorem dK(p:List (List CP×List Bool))(d cg cm:Nat)(l:List (Int×Int×Int))(w:rO)(o:D3.Laid w)(hm:Mx w)(h:U3 p)(f:D8.Mo p=tZ)(c1:1<=d/\d<=256)(z:1<=cg/\cg<=64)(c3:1<=cm/\cm<=64)(A: ∀x∈l,Lx x) (q:l.length<=65536) {r:List St} {s':St} (B:D0 l (G8 (FR p) d cg cm)=Z (r,s')) (D:Inv 1000 s') (E:D1.I9 s'.sc.now) (F:Fq.Pow w):tT prog 77 #[uk #[um ⟨(CW (C9 p)).toArray⟩,um ⟨(Ds ((d:Int),(cg:Int),(cm:Int))).toArray⟩,um ⟨(C0 l).toArray⟩],.func (.func 78) #[] #[]] w λe G=>(∃t:List UInt8,t≠[]/\e=ui (um ⟨(LV s'.sc.now s'.ms.length++t).toArray⟩))/\tS w.heap.size w G:=by
 have s:=Aa (λW(u:tS w.heap.size w W)=>cX.RQ W p d cg cm l (o.below u) (hm.below u) h f (by omega) (by omega) (by omega) A q);have b:=Aa (Ab o (Ab f (Ab c1 (Ab z (Ab c3 (Ab q (Ab B (Ab D (Ab E F)))))))));unfold cX.RP at s;generalize(⟨(CW (C9 p)).toArray⟩:ByteArray)=P at*
 generalize(⟨(Ds ((d:Int),(cg:Int),(cm:Int))).toArray⟩:ByteArray)=C at*
 generalize(⟨(C0 l).toArray⟩:ByteArray)=S at*
 have i:=Cy.new w #[um P,um C,um S] 63;have v:=Aa (Cu (tU w.heap.size w) (uj #[um P,um C,um S] 63));have H:=i.cell 0;have K:=i.cell 1;have L:=i.cell 2;simp only[Ad,Ac,Ag]at H K L;go_enter func77,ntmps77;go_wp2_with(first|(go_at_call 78;refine(My g 0 cap c p d cg cm a l _ ⟨b.out.1.below (Cv H1.out.1 (Cu (tU _ _) _)),H1.out.2.1.below (Cu (tU _ _) _),b.out.2.1,b.out.2.2.1,b.out.2.2.2.1,b.out.2.2.2.2.1⟩ (R9.below (w:=M) H1.out.2.2 (Cu (tU _ _) _)) b.out.2.2.2.2.2.1 b.out.2.2.2.2.2.2.1 b.out.2.2.2.2.2.2.2.1 b.out.2.2.2.2.2.2.2.2.1 (D1.Pow.below b.out.2.2.2.2.2.2.2.2.2 (Cv H1.out.1 (Cu (tU _ _) _)))).mono ?_;rintro e Q⟨⟨t,O,rfl⟩,j⟩;have y:=Aa (Ab O (Cv (Cv H1.out.1 (Cu (tU _ _) _)) j)))|(go_at_call 139;refine(s.out _ v.out).mono ?_;rintro e M⟨g,cap,R,rfl,k,m,a,c,rfl,n⟩;have H1:=Aa (Ab (Cv v.out k) (Ab m n))));go_ret;exact⟨⟨t,y.out.1,rfl⟩,y.out.2⟩
theorem Ya(p:List (List CP×List Bool))(a cg cm:Nat)(l:List (Int×Int×Int))(w:rO)(i:D3.Laid w)(hm:Mx w)(b:U3 p)(c:D8.Mo p=tZ)(c1:1<=a/\a<=256)(j:1<=cg/\cg<=64)(c3:1<=cm/\cm<=64)(k: ∀x∈l,Lx x) (m:l.length<=65536) {r:List St} {s':St} (n:D0 l (G8 (FR p) a cg cm)=Z (r,s')) (o:Inv 1000 s') (q:D1.I9 s'.sc.now) (s:Fq.Pow w):tT prog 22 #[uk #[um ⟨(CW (C9 p)).toArray⟩,um ⟨(Ds ((a:Int),(cg:Int),(cm:Int))).toArray⟩,um ⟨(C0 l).toArray⟩]] w λe u=>(∃t:List UInt8,t≠[]/\e=ui (um ⟨(LV s'.sc.now s'.ms.length++t).toArray⟩))/\tS w.heap.size w u:=by
 have v:=Aa (λW(d:tS w.heap.size w W)=>dK p a cg cm l W (i.below d) (hm.below d) b c c1 j c3 k m n o q (D1.Pow.below s d));generalize(⟨(CW (C9 p)).toArray⟩:ByteArray)=P at*
 generalize(⟨(Ds ((a:Int),(cg:Int),(cm:Int))).toArray⟩:ByteArray)=C at*
 generalize(⟨(C0 l).toArray⟩:ByteArray)=S at*
 have f:=Cy.new w #[um P,um C,um S] 63;have h:=Aa (Cu (tU w.heap.size w) (uj #[um P,um C,um S] 63));have y:=f.cell 0;have z:=f.cell 1;have A:=f.cell 2;simp only[Ad,Ac,Ag]at y z A;go_enter func22,ntmps22;go_wp2_with(go_at_call 77;refine(v.out _ h.out).mono ?_;rintro e D⟨⟨t,B,rfl⟩,g⟩;have H1:=Aa (Ab B (Cv h.out g)));go_ret;exact⟨⟨t,H1.out.1,rfl⟩,H1.out.2⟩
end dC
namespace qd
open D3 (Laid)
open C2
open dC
section
open jl (es Dx)
open dX (EE XX)
open D1 (Mx Ds C0 Ef Ek CW C9)
theorem pI{w:rO}{r:List St}{v:tR}(he:r.map pd=F0)(h:w.ownsRow 0 38 5 v r.length (r.flatMap jK)): ∃a b,v=Y (Z ⟨a,0,N⟩) 6 b/\XX w a 0 F0/\a<w.heap.size:=by
 have c:r.length=F0.length:=by rw[<-he,A9]
 rw[c,RW,he]at h;obtain⟨a,b,rfl,f,d,e⟩:=mH h (by decide);exact⟨a,b,rfl,e,d⟩
theorem rN(g cap lc:Nat)(a:Option Addr)(w:rO)(h:Sh w g 0 [(Ef,Ek)] 1 1 1)(l:R9 w a (Dx 1500 0)):tT prog 79 #[uk #[Y (Z ⟨g,0,N⟩) 1 cap,I U 1,I U 1,I U 1,.slice a 1500 lc]] w λe d=> ∃mv b f,e=ui (uo #[mv,Y (Z ⟨b,0,N⟩) 6 f])/\XX d b 0 F0/\b<d.heap.size/\tS w.heap.size w d:=by obtain⟨r,p,j,i⟩:=T9;rw[OE,<-X2]at j;have k:=Vn g 0 cap lc [(Ef,Ek)] 1 1 1 a (Dx 1500 0) w h l (by rw[Fu];decide) j;rw[Fu]at k;refine k.mono ?_;rintro e d⟨s,t,v,m,rfl,⟨_,_,_,_,q⟩,c⟩;obtain⟨b,f,rfl,n,o⟩:=pI i c;exact⟨_,b,f,rfl,n,o,Cv m q⟩
theorem dL(g cap lc:Nat)(a:Option Addr)(w:rO)(h:Sh w g 0 [(Ef,Ek)] 1 1 1)(j:R9 w a (Dx 1500 0))(k:Fq.Pow w):tT prog 100 #[uk #[Y (Z ⟨g,0,N⟩) 1 cap,I U 1,I U 1,I U 1,.slice a 1500 lc]] w λe l=>e=ui (um ⟨(EE F0).toArray⟩)/\tS w.heap.size w l:=by have b:=Cu (tU w.heap.size w) (uj #[Y (Z ⟨g,0,N⟩) 1 cap,I U 1,I U 1,I U 1,.slice a 1500 lc] 165);have m:=Aa (rN g cap lc a _ (h.below b) (j.below b));have n:=Aa (D1.Pow.below k b);have f:=Aa b;go_enter func100,ntmps100;go_wp2_with(first|(go_at_call 79;refine m.out.mono ?_;rintro e u⟨mv,o,p,rfl,q,r,i⟩;have s:=Aa (dX.T7 F0 o 0 p _ q r RX (by decide) (D1.Pow.below n.out i));have c:=Aa (f.out.trans (i.mono f.out.size)))|(go_at_call 101;refine s.out.mono ?_;rintro e v⟨rfl,t⟩;have d:=Aa (Cv c.out t)));go_ret;exact⟨rfl,d.out⟩
theorem pJ(w:rO)(d:Laid w)(hm:Mx w):tT prog 139 #[cX.RP ⟨(CW (C9 [(Ef,Ek)])).toArray⟩ ⟨(Ds (1,1,1)).toArray⟩ ⟨(C0 (Dx 1500 0)).toArray⟩] w λe b=> ∃g cap a lc,e=ui (uo #[uk #[Y (Z ⟨g,0,N⟩) 1 cap,I U 1,I U 1,I U 1,.slice a 1500 lc],.nilIface])/\tS w.heap.size w b/\Sh b g 0 [(Ef,Ek)] 1 1 1/\R9 b a (Dx 1500 0):=by refine(cX.RQ w [(Ef,Ek)] 1 1 1 (Dx 1500 0) d hm D1.OC D1.Lr (by decide) (by decide) (by decide) OD (by rw[Fu];decide)).mono ?_;rintro e b⟨g,cap,j,rfl,f,h,a,c,rfl,i⟩;exact⟨g,cap,a,c,by rw[Fu];rfl,f,⟨d.below f,h,D1.Lr,by decide,by decide,by decide⟩,i⟩
theorem pK(w:rO)(k:Laid w)(hm:Mx w)(l:Fq.Pow w):tT prog 77 #[cX.RP ⟨(CW (C9 [(Ef,Ek)])).toArray⟩ ⟨(Ds (1,1,1)).toArray⟩ ⟨(C0 (Dx 1500 0)).toArray⟩,.func (.func 100) #[] #[]] w λe m=>e=ui (um ⟨(EE F0).toArray⟩)/\tS w.heap.size w m:=by
 have d:=Aa (λW(i:tS w.heap.size w W)=>pJ W (k.below i) (hm.below i));have n:=Aa l;unfold cX.RP at*
 generalize(⟨(CW (C9 [(Ef,Ek)])).toArray⟩:ByteArray)=P at*
 generalize(⟨(Ds (1,1,1)).toArray⟩:ByteArray)=C at*
 generalize(⟨(C0 (Dx 1500 0)).toArray⟩:ByteArray)=S at*
 have j:=Aa (Cu (tU w.heap.size w) (uj #[um P,um C,um S] 63));go_enter func77,ntmps77;go_wp2_with(first|(go_at_call 139;refine(d.out _ j.out).mono ?_;rintro e wl⟨g,cap,a,lc,rfl,o,p,q⟩;have c:=Cu (tU wl.heap.size wl) (uj #[Y (Z ⟨g,0,N⟩) 1 cap,I U 1,I U 1,I U 1,.slice a 1500 lc] 165);have b:=Cv (Cv j.out o) c;have r:=Aa (dL g cap lc a _ (p.below c) (q.below c) (D1.Pow.below n.out b));have f:=Aa b)|(go_at_call 100;refine r.out.mono ?_;rintro e t⟨rfl,s⟩;have h:=Aa (Cv f.out s)));go_ret;exact⟨rfl,h.out⟩
theorem iV(w:rO)(d:Laid w)(hm:Mx w)(f:Fq.Pow w):tT prog 34 #[cX.RP ⟨(CW (C9 [(Ef,Ek)])).toArray⟩ ⟨(Ds (1,1,1)).toArray⟩ ⟨(C0 (Dx 1500 0)).toArray⟩] w λe g=>e=ui (um ⟨(EE F0).toArray⟩)/\tS w.heap.size w g:=by
 have h:=Aa (λW(a:tS w.heap.size w W)=>pK W (d.below a) (hm.below a) (D1.Pow.below f a));unfold cX.RP at*
 generalize(⟨(CW (C9 [(Ef,Ek)])).toArray⟩:ByteArray)=P at*
 generalize(⟨(Ds (1,1,1)).toArray⟩:ByteArray)=C at*
 generalize(⟨(C0 (Dx 1500 0)).toArray⟩:ByteArray)=S at*
 have c:=Aa (Cu (tU w.heap.size w) (uj #[um P,um C,um S] 63));go_enter func34,ntmps34;go_wp2_with(go_at_call 77;refine(h.out _ c.out).mono ?_;rintro e j⟨rfl,i⟩;have b:=Aa (Cv c.out i));go_ret;exact⟨rfl,b.out⟩
theorem Uc(w:rO):tT prog 33 #[I U 1500,I U 0] w λe a=> ∃lb lc,e=ui (Y (Z ⟨lb,0,N⟩) 1500 lc)/\C2.IA a lb 0 (Dx 1500 0)/\lb<a.heap.size/\tS w.heap.size w a:=by refine(jl.WB 1500 0 w (by decide)).mono ?_;rintro e a⟨v,rfl,d,f⟩;have b:=Fu;obtain⟨g,cap,rfl,i,c,h⟩:=cX.cY (l:=Dx 1500 0) (by rw[b];exact d) (by rw[b];decide);rw[b];exact⟨g,cap,rfl,h,c,f⟩
theorem RZ(w:rO)(lb lc:Nat)(b:C2.IA w lb 0 (Dx 1500 0))(a:lb<w.heap.size)(c:Fq.Pow w):tT prog 20 #[Y (Z ⟨lb,0,N⟩) 1500 lc] w λe d=>e=ui (um ⟨(C0 (Dx 1500 0)).toArray⟩)/\tS w.heap.size w d:=by have k:=D1.N8 (Dx 1500 0) (Z ⟨lb,0,N⟩) lc w (.inr ⟨lb,0,rfl,b,a⟩) OD (by rw[Fu];decide) c;rw[Fu]at k;exact k
theorem Yb:(⟨#[49,32,49,32,49]⟩:ByteArray)=⟨(Ds (1,1,1)).toArray⟩:=by rw[show Ds (1,1,1)=[49,32,49,32,49] by kernel_rfl]
def dM:List UInt8:=[99,111,109,109,105,116,32,49,32,48,32,48,32,48,10,98,101,103,105,110,32,49,32,48,32,49,10,99,111,109,109,105,116,32,49,32,48,32,49,32,48,10,99,111,109,109,105,116,32,49,32,48,32,50,32,49,10,99,111,109,109,105,116,32,49,32,48,32,51,32,48,10,99,111,109,109,105,116,32,49,32,48,32,52,32,48,10]
theorem Ud:EE F0=dM:=by kernel_rfl
theorem iW:QO.T2.map D8.JK=[(Ef,Ek)]:=by kernel_rfl
theorem OH(w:rO)(s:Laid w)(hm:Mx w)(t:Fq.Pow w):tT prog 8 #[] w λe u=>e=ui (ue tZ)/\tS w.heap.size w u:=by
 have d:=Aa (Ab s (Ab hm t));have b:=Aa (λW(a:tS w.heap.size w W)=>iV W (d.out.1.below a) (d.out.2.1.below a) (D1.Pow.below d.out.2.2 a));rw[Ud,<-Yb]at b;have k:=Aa (λW f h(a:tS w.heap.size w W)(j:D8.Ha W f 0 [(Ef,Ek)])=>(D1.Np [(Ef,Ek)] f 0 h W (d.out.1.below a) (D1.Pow.below d.out.2.2 a) j D1.OC:tT prog 18 #[uk #[Y (Z ⟨f,0,N⟩) 1 h]] W _));have l:=Aa (λW lb lc(a:tS w.heap.size w W) m g=>RZ W lb lc m g (D1.Pow.below d.out.2.2 a));unfold dM at b;unfold cX.RP at*
 generalize(⟨(CW (C9 [(Ef,Ek)])).toArray⟩:ByteArray)=P at*
 generalize(⟨(C0 (Dx 1500 0)).toArray⟩:ByteArray)=S at*
 go_enter func8,ntmps8;go_wp2_with(first|(go_at_call 32;refine(QO.XV _ d.out.1).mono ?_;rintro e q⟨f,h,rfl,j,a⟩;rw[iW]at j;have n:=Aa (Ab (j.below (Cu (tU q.heap.size q) (uj #[Y (Z ⟨f,0,N⟩) 1 h] 26))) (a.alloc a.size (uj #[Y (Z ⟨f,0,N⟩) 1 h] 26))))|(go_at_call 18;refine(k.out _ f h n.out.2 n.out.1).mono ?_;rintro e v⟨rfl,a⟩;have o:=Aa (Cv n.out.2 a))|(go_at_call 33;refine(Uc _).mono ?_;rintro e x⟨lb,lc,rfl,m,g,a⟩;have i:=Aa (Cv o.out a);have r:=Aa (Ab m g))|(go_at_call 20;refine(l.out _ lb lc i.out r.out.1 r.out.2).mono ?_;rintro e y⟨rfl,a⟩;have c:=Aa (Cv i.out a))|(go_at_call 34;refine(b.out _ (c.out.alloc c.out.size _)).mono ?_;rintro e z⟨rfl,a⟩;have p:=Aa (Cv (c.out.alloc c.out.size _) a)));go_ret;exact⟨rfl,p.out⟩
end
open Qv
open D1 (Mx CW C9 C0 Ds U3 Lx)
open D8 (U6 Mo It)
theorem iX{w:rO}{P C S:ByteArray}: ∃W,w.alloc (uj #[um P,um C,um S] 63)=W/\tS w.heap.size w W/\Cy W w.heap.size #[um P,um C,um S] 63:=⟨_,rfl,Cu (tU _ _) _,Cy.new w _ 63⟩
theorem Yc(X t:List UInt8):(({data:=(X++t).toArray}:ByteArray).extract 0 X.length).toList=X:=by rw[Go.ByteArray.toList_eq];simp[ByteArray.data_extract]
theorem dN(n m:Int):(((((⟨#[115,116,101,112,115,32]⟩:ByteArray)++⟨(Lib.itoa n).toArray⟩)++⟨#[10,108,105,118,101,32]⟩)++⟨(Lib.itoa m).toArray⟩)++⟨#[10]⟩)=⟨(LV n m).toArray⟩:=by apply ByteArray.ext;simp[LV,RJ.GI,Lu,OG]
theorem mN:(prog.info? 68).map (λi=>(i.zero,i.size,i.bytes))=Z (Z (uk #[Y N 0 0,I U 0,I U 0,I U 0]),4,48):=by kernel_rfl
theorem PE(w:rO)(pb po pc lc D cg cm:Nat)(la:Option Addr)(p:List (List Vm.CP×List Bool))(l:List En)(hM:Mx w)(hp:Fq.Pow w)(hP:U6 w (Z ⟨pb,po,N⟩) p)(f:Sh w pb po p D cg cm)(hE:R9 w la l)(aq:U3 p)(hf: ∀x∈l,Lx x) (hl:l.length<=100) (bf:It D cg cm=tZ):tT prog 5 #[uk #[Y (Z ⟨pb,po,N⟩) p.length pc],uk #[I U D,I U cg,I U cm],.slice la l.length lc] w λe w'=>e=ui (ue tZ)/\tS w.heap.size w w':=by
 obtain⟨c,b9⟩: ∃c,(w.alloc (uj #[Y (Z ⟨pb,po,N⟩) p.length pc] 26)).alloc (uj #[I U D,I U cg,I U cm] 34)=c:=⟨_,rfl⟩;obtain⟨hB,hC⟩:=boxes w _ _ _ _ b9;have E: ∀W,tS c.heap.size c W->Fq.Pow W:=λW a=>D1.Pow.below hp (Cv hB a);have n: ∀W,tS c.heap.size c W->Sh W pb po p D cg cm:=λW a=>f.below (Cv hB a);have ar: ∀W,tS c.heap.size c W->Mx W:=λW a=>hM.below (Cv hB a);have aa: ∀W,tS c.heap.size c W->R9 W la l:=λW a=>hE.below (Cv hB a);obtain⟨r,s',hr,hi⟩:=RU l _ f.inv;have A:=RS l _ _ r 0 hr rfl (by omega);rw[AJ]at A;have bg:=Aa (λW(a:tS c.heap.size c W)=>OH W (n W a).laid (ar W a) (E W a));have bh:=Aa (λW(a:tS c.heap.size c W)=>D8.Oo (Z ⟨pb,po,N⟩) la pc l.length lc D cg cm p W (hP.below (Cv hB a)));have bj:=Aa (λW(a:tS c.heap.size c W)=>D8.Ji (Z ⟨pb,po,N⟩) pc D cg cm p W (hP.below (Cv hB a)));rw[f.pr,bf]at bj;have ca:=Aa (λW(a:tS c.heap.size c W)=>D1.Np p pb po pc W (n W a).laid (E W a) (n W a).mY aq);have cb:=Aa (λW(a:tS c.heap.size c W)=>RJ.XU D cg cm W f.c1 f.RT f.c3 (E W a));have bk:=Aa (λW(a:tS c.heap.size c W)=>D1.N8 l la lc W (aa W a) hf (by omega) (E W a));have cc:=Aa (λW(a:tS c.heap.size c W)=>(n W a).new pc);have au:=Aa (λW(a:tS c.heap.size c W)=>X3 pb po pc lc p D cg cm la l W (n W a) (aa W a) (by omega));have av:=Aa (λW(a:tS c.heap.size c W)=>Ya p D cg cm l W (n W a).laid (ar W a) aq f.pr f.c1 f.RT f.c3 hf (by omega) hr hi (by rw[A];exact⟨by omega,by omega⟩) (E W a));rw[A]at av;obtain⟨L,hL⟩: ∃L,Ls l (G8 (FR p) D cg cm)=L:=⟨_,rfl⟩;rw[hL]at au;have HI:=Aa (Ab f.inv (Ab hL (Ab hr hi)));have cd:=Aa aa;have HC:=Aa hC;have HB:=Aa hB;obtain⟨q0,q1,q2,q3⟩:=hC c (tU _ _);obtain⟨nl,ab⟩: ∃nl,l.length=nl:=⟨_,rfl⟩;rw[ab]at bh bk au av;rw[ab];have d100:decide ((100:Int)<(nl:Int))=false:=by simp;omega
 have o:=Aa (Ab ab hl);generalize(⟨(CW (C9 p)).toArray⟩:ByteArray)=PB at*
 generalize(⟨(Ds ((D:Int),(cg:Int),(cm:Int))).toArray⟩:ByteArray)=CB at*
 generalize(⟨(C0 l).toArray⟩:ByteArray)=SB at*
 clear hM hp hP f hE aq hf hl bf hB hC E n ar aa hr hi A hL ab;go_enter func5,ntmps5;go_wp2_with(first|(go_at_call 13;refine(bh.out c (tU _ _)).mono ?_;rintro e w1⟨⟨b,rfl⟩,aw⟩;obtain⟨b0,b1,b2,b3⟩:=HC.out w1 aw;have M:=Aa aw;clear aw;cases b)|(go_at_call 14;refine(bj.out w1 M.out).mono ?_;rintro e w2⟨rfl,ax⟩;obtain⟨c0,c1,c2,c3⟩:=HC.out w2 (Cv M.out ax);have ay:=Aa (Cv M.out ax);clear ax b0 b1 b2 b3)|(go_at_call 8;refine(bg.out w1 M.out).mono ?_;rintro e w3⟨rfl,O⟩;have cf:=Aa (Cv M.out O);clear O)|(go_at_call 18;refine(ca.out w2 ay.out).mono ?_;rintro e w4⟨rfl,az⟩;obtain⟨f0,f1,f2,f3⟩:=HC.out w4 (Cv ay.out az);have a1:=Aa (Cv ay.out az);clear az c0 c1 c2 c3)|(go_at_call 19;refine(cb.out w4 a1.out).mono ?_;rintro e w5⟨rfl,a6⟩;obtain⟨g0,g1,g2,g3⟩:=HC.out w5 (Cv a1.out a6);have a7:=Aa (Cv a1.out a6);clear a6 f0 f1 f2 f3)|(go_at_call 20;refine(bk.out w5 a7.out).mono ?_;rintro e w6⟨rfl,a8⟩;obtain⟨h0,h1,h2,h3⟩:=HC.out w6 (Cv a7.out a8);have l0:w.heap.size<w6.heap.size:=Ep h0;have l1:w.heap.size+1<w6.heap.size:=Ep h1;have ch:=Aa (Cv a7.out a8);clear a8 g0 g1 g2 g3)|(go_at_call 10;obtain⟨V,cj,bm,hJ⟩:=iX (w:=w6) (P:=PB) (C:=CB) (S:=SB);rw[cj];have ad:=Aa (Cv ch.out bm);refine(cc.out V ad.out).mono ?_;rintro e w7⟨mb,rfl,ba⟩;have d:=(by obtain⟨_,_,_,_,q⟩:=ba;exact q:tS V.heap.size V w7);have HJ:=Aa (Ab hJ ba);have bn:=Aa (Cv ad.out d);obtain⟨m0,m1,m2,m3⟩:=HC.out w7 bn.out;clear bm hJ ba d h0 h1 h2 h3 l0 l1)|(go_at_call 21;refine(au.out w7 bn.out).mono ?_;rintro e w8⟨rfl,Q⟩;have HS:=Aa (HJ.out.2.go Q);clear Q m0 m1 m2 m3))
 ·go_ret
  exact⟨rfl,Cv HB.out cf.out⟩
 ·clear q0 q1 q2 q3
  go_loopw [14,15] (λt14 t15 wr=>sy V l L (G8 (FR p) D cg cm) mb t15 t14 wr) (λ_ t _=>nl-(intOf t).toNat)
  case atStart=>exact⟨_,λ_=>False,[],rfl,Ap _,Sr.of HS.out,HI.out.1,HI.out.2.1.symm,rfl,rfl,AH _ _ _ _,λj hj=>(by cases hj),λt ht=>(by cases ht)⟩
  case round=>
   obtain⟨s,F,T,rfl,hk,f,hI,ae,af,ag,B,hF,hT⟩:=hrel;obtain⟨k,m⟩: ∃k,T.length=k:=⟨_,rfl⟩;rw[m,o.out.1]at hk;by_cases R:k<nl
   ·have cw:(k:Int)<(nl:Int):=by omega
    have d:=f.dZ;obtain⟨lb,lo,rfl,bo,bp⟩:=(cd.out V ad.out).resolve_left (by rw[o.out.1];omega);have bb:k<l.length:=by rw[o.out.1];exact R
    have bc:=λH(a:tS V.heap.size V H)=>IA.PC bo bp a k bb;have hx:l[k]?=Z (l[k]?.getD (0,0,0)):=by rw[Ae bb];rfl
    generalize l[k]?.getD (0,0,0)=x at*
    obtain⟨x0,x1,x2⟩:=x;simp only at bc;have HW:Hid (∀H,tS V.heap.size V H->H.cell? ⟨lb,lo+k*3,N⟩=Z (I U x0)/\H.cell? ⟨lb,lo+k*3+1,N⟩=Z (I U x1)/\H.cell? ⟨lb,lo+k*3+2,N⟩=Z (I U x2)):=λH a=>bc H a;obtain⟨s2,bq,br⟩:=Nu hI x0 x1 x2;have bs:(Oq s.ms).length=(I2 s.ms).length:=by simp[Oq]
    have u:=Aa (Ab f (Ab hI (Ab hF (Ab hT (Ab B (Ab d (Ab ae (Ab af (Ab ag (Ab hx (Ab bq br)))))))))));have HP:=Aa (Ab m (Ab R bs));rw[m];clear bo bb bc hx hI bq br bs f hF hT B d ae af ag hk R m bp;have hf:=jO;go_wp2;have ah:=Aa u.out.2.2.2.2.2.1;have y:=Aa (HW.out _ (Cv ah.out (tU _ _).drew));refine FG 8 (λH=>H.cell? ⟨lb,lo+k*3,N⟩=Z (I U x0)/\H.cell? ⟨lb,lo+k*3+1,N⟩=Z (I U x1)/\H.cell? ⟨lb,lo+k*3+2,N⟩=Z (I U x2)) (by kernel_rfl) ?_;refine tk 0 (v:=?_) rfl (by kernel_rfl) (λ_ _ _ h=>h) ?_ (λ_=>y.out) ?_;rotate_left
    ·intro w';go_simp;try(with_reducible rfl)
    refine tk 1 (v:=?_) rfl (by kernel_rfl) (λ_ _ _ h=>h) ?_ (λ_=>y.out) ?_;rotate_left
    ·intro w';go_simp;try(with_reducible rfl)
    refine tk 4 (v:=?_) rfl (by kernel_rfl) (λ_ _ _ h=>h) ?_ (λ_=>y.out) ?_;rotate_left
    ·intro w';go_simp;try(with_reducible rfl)
    refine tk 5 (v:=?_) rfl (by kernel_rfl) (λ_ _ _ h=>h) ?_ (λ_=>y.out) ?_;rotate_left
    ·intro w';go_simp;try(with_reducible rfl)
    refine tk 6 (v:=?_) rfl (by kernel_rfl) (λ_ _ _ h=>h) ?_ (λ_=>y.out) ?_;rotate_left
    ·intro w';go_simp;try(with_reducible rfl)
    refine DN (i:=7) (v:=?_) rfl rfl (by kernel_rfl) (by kernel_rfl) (by kernel_rfl) (by kernel_rfl) (by kernel_rfl) (λ_ _ _ h=>h) (Or.inl ⟨by kernel_rfl,?_⟩) y.out ?_;rotate_left
    ·intro w' hw';obtain⟨s0,s1,s2⟩:=hw';go_simp;try(with_reducible rfl)
    refine Gb 2 (by kernel_rfl) rfl λK z=>?_;go_simp;go_wp2_with(go_at_call 12;refine((u.out.1.go (tU _ _).drew).bD u.out.2.1).mono ?_;rintro e w3⟨⟨y1,y2,y3,y4,y5,y6,y7,y8,cx,g,gc,rfl,hg,bd⟩,ck,O⟩;rw[HP.out.2.2]at bd;rw[HP.out.2.2];have H3:=Aa (Ab hg (Ab bd O));clear hg bd ck O);refine⟨λ_=>HW.out _ (Cv (Cv ah.out (tU _ _).drew) H3.out.2.2),?_⟩;refine Gb 3 (by kernel_rfl) rfl λK z=>?_;go_simp;refine z _ _ ⟨λ_=>HW.out _ (Cv (Cv ah.out (tU _ _).drew) H3.out.2.2),?_⟩;clear z K;refine Gb 8 (by kernel_rfl) rfl λK z=>?_;go_simp;refine z _ _ ⟨(λh=>absurd (h.symm.trans (show _=tZ by kernel_rfl)) BU),?_⟩;clear z K;refine Gb 9 (by kernel_rfl) rfl λK z=>?_;go_simp;refine z _ _ ⟨(λh=>absurd (h.symm.trans (show _=tZ by kernel_rfl)) BU),?_⟩;clear z K;refine Gb 10 (by kernel_rfl) rfl λK z=>?_
    (refine JA underlying66 mN rfl (by decide) (by decide) V.heap.size _ rfl (.tmp 75) (.tmp 84) rfl u14 k (T.flatMap Yi) ⟨w3.heap.size,0,N⟩ 1 (Yi ⟨I2 s.ms,g,gc,x0,x1,x2⟩) (by simp[Act.eval]) (by rfl) (.inl (by have q:=u.out.2.2.2.2.1;rw[HP.out.1]at q;exact CM q (Cv (Cv (tU _ _).drew H3.out.2.2) (Cu (tU _ _) _)))) rfl (D1.I5 (Cy.new w3 _ 68)) (by simp[Yi,Value.oneCell']) (by have h1:=ah.out.size;have h2:=(Cv (tU wr.heap.size wr).drew H3.out.2.2).size;simp only[World.alloc,Array.size_push];omega) (by have:=HP.out.2.1;have:=o.out;omega) ?_)
    intro v' w5 hA;obtain⟨G,g1,g2,g3,g4⟩:=mJ (x:=(x0,x1,x2)) u.out.1 u.out.2.1 u.out.2.2.1 u.out.2.2.2.1 (Cv (tU _ _).drew H3.out.2.2) H3.out.1 H3.out.2.1 (Cu (tU w3.heap.size w3) _) (by rw[HP.out.1];exact hA);have H5:=Aa (Ab g1 (Ab g2 (Ab g3 g4)));clear hA g1 g2 g3 g4;refine z _ _ ⟨(λh=>absurd (h.symm.trans (show _=tZ by kernel_rfl)) BU),?_⟩;clear z K;refine Gb 11 (by kernel_rfl) rfl λK z=>?_;go_simp;refine z _ _ ⟨(λh=>absurd (h.symm.trans (show _=tZ by kernel_rfl)) BU),?_⟩;clear z K;refine FE (by kernel_rfl) ?_ _;obtain⟨e0,e1,e2⟩:=HW.out w5 H5.out.1.dZ;clear y;have hw:wrap64 ((k:Int)+1)=((k+1:Nat):Int):=by have:=HP.out.2.1;have:=o.out;unfold wrap64;omega
    have cl:=Aa hw;clear hw;go_wp2_with(go_at_call 11;refine(H5.out.1.step u.out.2.2.2.2.2.2.2.2.2.2.1).mono ?_;rintro e w8⟨⟨v,rfl⟩,bt,bu⟩;have H6:=Aa (Ab bt bu);clear bt bu);rw[cl.out];have q:=iR (t:=⟨I2 s.ms,g,gc,x0,x1,x2⟩) (x:=(x0,x1,x2)) (by rw[HP.out.1];exact u.out.2.2.2.2.2.2.2.2.2.1) u.out.2.2.2.2.2.2.2.2.2.2.1 u.out.2.2.2.2.2.2.2.2.2.2.2 u.out.2.2.2.2.2.2.1 u.out.2.2.2.2.2.2.2.1 u.out.2.2.2.2.2.2.2.2.1 (pG s (x0,x1,x2) g gc) H6.out.1 H6.out.2 H5.out.2.1 H5.out.2.2.1 H5.out.2.2.2;rw[HP.out.1]at q;have R:=HP.out.2.1;exact⟨q,by show nl-(k+1)<nl-k;omega⟩
   ·obtain rfl:k=nl:=by omega
    have hlen:T.length=l.length:=by rw[m,o.out.1]
    obtain rfl:=dF hlen ag HI.out.2.2.1;have bw:=mK hlen ae af;have d:=f.dZ;have cy:=o.out;have bz: ∀W,tS wr.heap.size wr W->tT prog 25 #[u14] W λe w'=>e=ui (I U (FL L k))/\tS W.heap.size W w':=λW a=>by have q:=dG (CM B a) (λt ht=>(hT t ht).2.2.only ((Cw.refl (λ_=>False) wr).below a) id) (by omega);rw[<-bw,m]at q;exact q
    have cq:=Aa bz;have hj:=HJ.out.1.below d HJ.out.1.lt;have j0:=hj.cell 0;have j1:=hj.cell 1;have j2:=hj.cell 2;simp only[Ad,Ac,Ag]at j0 j1 j2;have ai:=f.dY;have HQ:=Aa (Ab f.sq (Ab hI (Ab ai (Cv ad.out d))));have z1:=(D1.CY (k:Int) ⟨by omega,by omega⟩).2.2;have z2:=(D1.CY (s.ms.length:Int) ⟨by omega,by omega⟩).2.2;have n1: ¬9223372036854775807<6+(Lib.itoa (k:Int)).length:=by omega
    have n2: ¬9223372036854775807<6+(Lib.itoa (k:Int)).length+6:=by omega
    have n3: ¬9223372036854775807<6+(Lib.itoa (k:Int)).length+6+(Lib.itoa (s.ms.length:Int)).length:=by omega
    have n4: ¬9223372036854775807<6+(Lib.itoa (k:Int)).length+6+(Lib.itoa (s.ms.length:Int)).length+1:=by omega
    rw[m];clear z1 z2 hk f hI ae af ag B hF hT m R hlen bw d bz hj ai;go_upto_region 17 with(first|(go_at_call 22;refine(av.out wr HQ.out.2.2.2).mono ?_;rintro e w8⟨⟨tt,b4,rfl⟩,b5⟩;have H8:=Aa (Ab b4 b5);clear b4 b5)|(go_at_call 24;refine((HQ.out.1.go H9.out).live HQ.out.2.1).mono ?_;rintro e cz⟨rfl,rfl⟩;have cr:=H9)|(go_at_call 23;have hk:=cr;refine(rL.LU s.ms.length _ (by have:=HQ.out.2.2.1;omega)).mono ?_;rintro e ct⟨rfl,aj⟩;have b7:=Aa (Cv H9.out aj);clear aj hk)|(go_at_call 23;refine(rL.LU k _ (by omega)).mono ?_;rintro e w9⟨rfl,Q⟩;have H9:=Aa (Cv H8.out.2 Q);clear Q))
    rw[dN];generalize LV (k:Int) (s.ms.length:Int)=X;have HH:=Aa (λW(a:tS wr.heap.size wr W)=>bg.out W (Cv HQ.out.2.2.2 a));have dc:=Yc X tt;have df:(X.length:Int)<(X.length:Int)+(tt.length:Int):=by have:=Cf.2 H8.out.1;omega
    go_wp2_with(first|(go_at_call 25;refine(cq.out ct b7.out).mono ?_;rintro e cu⟨rfl,ak⟩;have b8:=Aa (Cv b7.out ak);clear ak)|(go_at_call 8;refine(HH.out cu b8.out).mono ?_;rintro e dh⟨rfl,ao⟩;have cv:=Aa (Cv b8.out ao);clear ao));go_ret;exact⟨rfl,Cv (Cv HB.out HQ.out.2.2.2) cv.out⟩
theorem Ue(w:rO)(a E:Option Addr)(pc lc:Nat)(x y z:Int)(p:List (List Vm.CP×List Bool))(l:List En)(r:U6 w a p)(R:R9 w E l)(S: ∀f∈p,∀i∈f.1,D1.I9 i.n) (T: ∀x∈l,Lx x) (F:Laid w) (G:Mx w) (H:Fq.Pow w):tT prog 5 #[uk #[.slice a p.length pc],uk #[I U x,I U y,I U z],.slice E l.length lc] w λe V=>e=ui (ue tZ)/\tS w.heap.size w V:=by
 by_cases h:l.length<=100/\Mo p=tZ/\It x y z=tZ
 ·obtain⟨X,j,s⟩:=h
  obtain⟨cp,cg,cm,rfl,rfl,rfl,K,L,M⟩:=XZ s;obtain⟨pb,po,rfl,hIn⟩:=mF r j;exact PE w pb po pc lc cp cg cm E p l G H r (Sh.mk F hIn j K L M) R (D1.da j S) T X s
 ·obtain⟨d,O⟩: ∃d,(w.alloc (uj #[.slice a p.length pc] 26)).alloc (uj #[I U x,I U y,I U z] 34)=d:=⟨_,rfl⟩
  obtain⟨k,P⟩:=boxes w _ _ _ _ O;have t:=Aa (λW(m:tS d.heap.size d W)=>OH W (F.below (Cv k m)) (G.below (Cv k m)) (D1.Pow.below H (Cv k m)));have u:=Aa (λW(m:tS d.heap.size d W)=>D8.Oo a E pc l.length lc x y z p W (r.below (Cv k m)));have v:=Aa (λW(m:tS d.heap.size d W)=>D8.Ji a pc x y z p W (r.below (Cv k m)));have HC:=Aa P;have HB:=Aa k;obtain⟨q0,q1,q2,q3⟩:=P d (tU _ _);obtain⟨ok,n⟩: ∃ok,(Mo p&&It x y z)=ok:=⟨_,rfl⟩;rw[n]at v;obtain⟨A,B⟩: ∃A,l.length=A:=⟨_,rfl⟩;rw[B]at u⊢;have hd:decide ((100:Int)<(A:Int))=tZ\/decide ((100:Int)<(A:Int))=tY/\ok=false:=by
   by_cases h1:A<=100
   ·refine .inr ⟨by simp;omega,?_⟩
    rw[<-n];cases e1:Mo p<;>cases e2:It x y z<;>simp_all
   ·exact .inl (by simp;omega)
  clear h r R S T F G H k P n B;rcases hd with d100|⟨d100,rfl⟩
  all_goals
   go_enter func5,ntmps5;go_wp2_with(first|(go_at_call 13;refine(u.out d (tU _ _)).mono ?_;rintro e Q⟨⟨b,rfl⟩,o⟩;obtain⟨b0,b1,b2,b3⟩:=HC.out Q o;have g:=Aa o;clear o;cases b)|(go_at_call 14;refine(v.out Q g.out).mono ?_;rintro e w2⟨rfl,C⟩;have q:=Aa (Cv g.out C);clear C)|(go_at_call 8;first|(have hh:=q;refine(t.out w2 q.out).mono ?_;rintro e w3⟨rfl,c⟩;have D:=Aa (Cv q.out c);clear c hh)|(refine(t.out Q g.out).mono ?_;rintro e w3⟨rfl,c⟩;have D:=Aa (Cv g.out c);clear c)))
   all_goals
    go_ret;exact⟨rfl,Cv HB.out D.out⟩
end qd
namespace topCounts
open Go.Proofs.Tryz
open Go.ChangeShapes Go.WideShapes Go.ChangeAt Go.RowKit Go.CN
def Hp:List (String×DataW Unit):=Rows.topCountsRow.laid.filter λx=>x.2.handleName?.isNone
noncomputable def w0(os:Os):World:=
 let w:=World.holding prog os ⟨#[],#[],[]⟩
 {w with heap:=w.heap.modify 1 λ| uj _ t frozen=>uj #[.iface 395 (uk #[J (Z ⟨8,154,N⟩)])] t frozen|o=>o}
noncomputable def wW(os:Os):World:=(w0 os).layVars prog Hp
theorem pL(os:Os):(wW os).os=os:=World.layVars_os _ _ _
theorem mO(os:Os)(args:Array tR):laidMetH prog Rows.topCountsRow.laid ((wW os).forCall (λ_ _=>0) ⟨#[],args,[]⟩).memory:=by
 have a:(Hp.filter λx=>(Hp.map (·.1)).contains x.1)=Hp:=List.filter_eq_self.2 λx b=>List.contains_iff_mem.2 (BL.2 ⟨x,b,rfl⟩);have c:(Hp.filter λx=>!(Hp.map (·.1)).contains x.1)=[]:=List.filter_eq_nil_iff.2 λx b=>by rw[List.contains_iff_mem.2 (BL.2 ⟨x,b,rfl⟩)];simp
 have h:laidMet prog Hp (wW os):=laidMet_layVars (w0:=w0 os) (Hp.map (·.1)) [] (by rw[a];rfl) (by rw[a];kernel_rfl) (by rw[a];kernel_rfl) (by rw[c];exact LaidIn.none);refine laidMetH_of_parts (h.of_heap (by simp[World.memory,World.forCall,Input.heap])) ?_;kernel_rfl
theorem Yd{W:rO}(h:laidMetH prog Rows.topCountsRow.laid W):laidMet prog Hp W:=by have a:laidMet prog Hp W/\_:=h;exact a.1
theorem lifted(os:Os)(started:os.Started)(H:Type)(enc:TypeId×tR->H):ReturnsInHanded {} checked os 5 .any (λw args=>(Rows.topCountsSpec.pre enc prog f5 [] tY w args/\laidMetH prog Rows.topCountsRow.laid w)/\sizedMet enc prog f5 (OpenSpec.ofChange Rows.topCountsSpec) tY w args) (Rows.topCountsSpec.post enc prog f5 tY tZ tY tY):=by
 refine Nz (C:=checked) (X:=λw _=>laidMetH prog Rows.topCountsRow.laid w) (λ_ _ _ hh h=>h.of_heap hh) own started (by kernel_rfl) func5
  (ChangeSpec.witness_shaped (enc:=enc) (C:=checked) (os:=os) (X:=λw _=>laidMetH prog Rows.topCountsRow.laid w) tY (wW os) #[uk #[Y N 0 0],uk #[I U 0,I U 0,I U 0],Y N 0 0] 8 (pL os) (World.shaped_of_ZipB (by kernel_rfl) (by kernel_rfl)) (by kernel_rfl) (by kernel_rfl) (by kernel_rfl) (mO os _)) ?_
 intro W base args ds gs before b hW hL hS;have hval: ∀(j:Nat) t v,f5.params[j]?=Z t->args[j]?=Z v->Value.okWide prog W .any base t v:=b;have D:=hW;obtain⟨p,q,E,hV,rfl,aa,ab⟩:=hW;have hA:DataW.TrodAll enc prog W 0 (λ_=>tZ) tZ f5.params.toList args.toList ds p:=E;rw[params5]at hA hval;obtain⟨v0,ad,d0,ae,p0,q0,F,rfl,rfl,h0,r0⟩:=trodAll_cons hA;obtain⟨v1,af,d1,ag,p1,q1,A,rfl,rfl,h1,r1⟩:=trodAll_cons r0;obtain⟨v2,ah,d2,ai,p2,q2,B,rfl,rfl,h2,r2⟩:=trodAll_cons r1;obtain⟨rfl,rfl,rfl⟩:=trodAll_nil r2;obtain rfl:args=#[v0,v1,v2]:=by cases args;simp_all
 obtain⟨rfl,rfl⟩:=trodVars_none hV;have k0:=h0;have k1:=h1;have k2:=h2;have G: ∀x∈p0,x.block<W.heap.size:=by obtain⟨m,hm⟩:=k0;exact DataW.trod_lt m _ _ _ hm
 have K: ∀x∈p1,x.block<W.heap.size:=by obtain⟨m,hm⟩:=k1;exact DataW.trod_lt m _ _ _ hm
 have L: ∀x∈p2,x.block<W.heap.size:=by obtain⟨m,hm⟩:=k2;exact DataW.trod_lt m _ _ _ hm
 obtain⟨k,rfl,M⟩:=okWide_struct underlying26 (hval 0 26 v0 rfl rfl);obtain⟨n,rfl,O⟩:=okWide_struct underlying34 (hval 1 34 v1 rfl rfl);have P:k.size=1:=M.trans (by kernel_rfl);have Q:n.size=3:=O.trans (by kernel_rfl);obtain⟨a,R,pl,rfl,S,hZ⟩: ∃(a:Option Addr)(R:Nat)(pl:List (List Vm.CP×List Bool)),k=#[.slice a pl.length R]/\D8.U6 W a pl/\ ∀f∈pl,∀i∈f.1,D1.I9 i.n:=by obtain⟨fuel,o⟩:=h0;obtain⟨a,c,pl,e,S,hz⟩:=X6 (by simpa[Value.cells]using P) o;exact⟨a,c,pl,Array.ext' (by simpa[Value.cells]using e),S,hz⟩
 obtain⟨x,y,z,rfl⟩: ∃x y z:Int,n=#[I U x,I U y,I U z]:=by obtain⟨fuel,o⟩:=h1;obtain⟨x,y,z,e⟩:=X7 (by simpa[Value.cells]using Q) o;exact⟨x,y,z,Array.ext' (by simpa[Value.cells]using e)⟩
 obtain⟨a2,r,s,rfl⟩:=okWide_slice underlying52 (hval 2 52 v2 rfl rfl);obtain⟨l,rfl,T,d⟩: ∃l:List Qv.En,r=l.length/\dC.R9 W a2 l/\ ∀x∈l,D1.Lx x:=by obtain⟨fuel,o⟩:=h2;obtain⟨a,c,l,e,T,d⟩:=PD o;simp[Value.cells]at e;obtain⟨rfl,rfl,rfl⟩:=e;exact⟨l,rfl,T,d⟩
 have u:laidMet prog Hp W:=Yd hL;have hI:=dJ (Lib.laidMet.reads u (by simp[Hp,Rows.topCountsRow];rfl));have V:=mL (Lib.laidMet.reads u (by simp[Hp,Rows.topCountsRow];rfl));have hM:D1.Mx W:=cell_of_shapedOpen_int (g:=3) (t:=3) (zero:=#[I U 0]) hS (B8 (by kernel_rfl)) (by kernel_rfl) rfl (by kernel_rfl) (by kernel_rfl) underlying3;refine(qd.Ue W a a2 R s x y z pl l S T hZ d hI hM V).mono λe W'⟨he,dZ⟩=>?_;subst he;exact⟨_,rfl,_,_,_,[],_,[],D,trodAll_mk1 (shut_bool underlying4 _),(trodAll_cons_mk (Below.trod laidOut (by kernel_rfl) (B8 (by kernel_rfl)) k0 dZ G) (trodAll_cons_mk (Below.trod laidOut (by kernel_rfl) (B8 (by kernel_rfl)) k1 dZ K) (trodAll_cons_mk (Below.trod laidOut (by kernel_rfl) (B8 (by kernel_rfl)) k2 dZ L) trodAll_mk0))),rfl,dZ.frame _,λh=>by cases h⟩
theorem over:Rows.TopCountsSaid:=
 OpenClaim.holds_of_wide 5 f5 rfl rfl rfl rfl rfl rfl rfl ⟨rfl,rfl,rfl,rfl,rfl⟩ rfl rfl rfl rfl rfl YH func5 closed
  (B8 (by kernel_rfl)) (by unfold Func.isWrapper;first|(rw[Ai (by decide+kernel)];kernel_rfl)|(rw[Ah (by decide+kernel)];exact⟨rfl,rfl⟩))
  (λos started H enc _=>lifted os started H enc)
end topCounts
open Go.Proofs.Tryz
theorem topCounts_holds:Rows.TopCountsCardSaid:=
 Claim7.holds_tied_plain_at .later [] [.data,.data,.data,.data,.data,.handle,.pinned] tZ (tZ,"81b73818891692d27b993e6d6bd417915a994d653eb782a953168ccbf78ae42f") tZ
  topCounts.over (λ_ h=>by cases h) topCounts.jW (λ_ h=>by cases h) topCounts_row_tie rfl ⟨rfl,rfl⟩ topCounts.mainIs rfl
  (λf fn d b=>by
   obtain rfl:f=5:=Ba (topCounts.YH.symm.trans d) |>.symm;obtain rfl:fn=f5:=(Ba (func5.symm.trans b)).symm;exact⟨topCounts.YI,λj t c=>by
    rw[params5]at c;have hm:t∈[26,34,52]:=by simpa using Array.mem_of_getElem? c
    have a:([26,34,52].all λu=>!prog.wantsStandIn u)=true:=by kernel_rfl
    exact(show prog.wantsStandIn t=tY by simpa using Bq.1 a t hm)⟩)
  topCounts.eI
end Go.Proofs.YtgadhchejmlfjaaGreatDoor
