/- A part of the proof. -/
import Derived.Test.YtgadhchejmlfjaaGreatDoorA2
set_option linter.unusedVariables false
set_option maxRecDepth 20000
set_option maxHeartbeats 16000000
open Go.Value renaming int->I,pointer->J,slice->Y
open Go.IntKind renaming i64->U
open Option renaming none->N,some->Z
open Bool renaming false->tY
open Go renaming Calls->tT,Ending->uh,TypeId->uf,Value->tR,World->rO
open Go.Ending renaming returned->ui
open Go.Obj renaming cells->uj
open Go.RowKit renaming Below->tS
open Go.RowKit.Below renaming refl->tU
open Go.Value renaming agg->uk,bool->ue,tuple->uo
open Go.World renaming setCell->tV
open Go.Proofs.Tryz Go.RowKit Go.CN
namespace Go.Proofs.YtgadhchejmlfjaaGreatDoor
namespace FU
def Bs(w:rO)(v:tR)(l:List Bool):Prop:= ∃b off cap,v=Y (Z ⟨b,off,N⟩) l.length cap/\b<w.heap.size/\ ∀i,i<l.length->w.cell? ⟨b,off+i,N⟩=Z (ue (l[i]?.getD tY))
def Ip(l:List Bool)(pc:Int):Bool:=if 0<=pc then l[pc.toNat]?.getD tY else tY
def OP(n:Nat)(l:List Bool)(pc:Int):Bool:=decide (pc=0)||(decide (pc<n)&&Ip l pc)
def Ke(b:Bool)(w:rO)(e:uh)(w':rO):Prop:=e=ui (ue b)/\tS w.heap.size w w'
def jX(b:Int)(w:rO)(e:uh)(w':rO):Prop:=e=ui (I U b)/\tS w.heap.size w w'
theorem Kf(a:Option Addr)(n b:Nat)(sv:tR)(pc:Int)(w:rO)(c:0<n):tT prog 154 #[uk #[.slice a n b,sv],I U pc] w (Ke (decide (pc=0)) w):=by
 by_cases h:pc=0
 ·subst h
  rw[A8 rfl];go_enter func154,ntmps154;go_wp2;go_ret;exact⟨rfl,Cu (tU _ _) _⟩
 ·have d:(pc==0)=false:=by simpa using h
  rw[Bi h];go_enter func154,ntmps154;go_wp2;go_ret;exact⟨rfl,Cu (tU _ _) _⟩
theorem MI(c sv:tR)(l:List Bool)(pc:Int)(w:rO)(d:Bs w sv l):tT prog 155 #[uk #[c,sv],I U pc] w (Ke (Ip l pc) w):=by
 obtain⟨b,off,cap,rfl,f,a⟩:=d;unfold Ip;by_cases h:0<=pc
 ·rw[Ai h]
  obtain⟨k,rfl⟩: ∃k:Nat,pc=k:=⟨pc.toNat,by omega⟩;by_cases e:k<l.length
  ·have g:=a k e
   rw[Am];generalize l[k]?.getD tY=x at*
   clear a;go_enter func155,ntmps155;go_wp2;go_ret;exact⟨rfl,Cu (tU _ _) _⟩
  ·rw[Am,A0 (by omega)]
   clear a;go_enter func155,ntmps155;go_wp2;go_ret;exact⟨rfl,Cu (tU _ _) _⟩
 ·rw[Ah h]
  clear a;go_enter func155,ntmps155;go_wp2;go_ret;exact⟨rfl,Cu (tU _ _) _⟩
theorem Bs.below{w w':rO}{v:tR}{l:List Bool}(h:Bs w v l)(a:tS w.heap.size w w'):Bs w' v l:=by obtain⟨b,off,cap,rfl,c,d⟩:=h;exact⟨b,off,cap,rfl,An c a.size,λi e=>(a.cell (p:=⟨b,off+i,N⟩) c).trans (d i e)⟩
theorem VI(i:Option Addr)(n j:Nat)(sv:tR)(l:List Bool)(pc:Int)(w:rO)(z:0<n)(r:Bs w sv l):tT prog 98 #[uk #[.slice i n j,sv],I U pc] w (Ke (OP n l pc) w):=by
 have B:=Aa r;have s: ∃a n c,sv= .slice a n c:=by obtain⟨b,off,cap,rfl,_⟩:=r;exact⟨_,_,_,rfl⟩
 obtain⟨o,sn,sc,rfl⟩:=s;have k:=Aa (λw=>Kf i n j (.slice o sn sc) pc w z);unfold OP;clear r z;by_cases m:pc=0
 ·have:decide (pc=0)=true:=by simpa using m
  simp only[this,Bool.true_or]at k⊢;clear m;go_enter func98,ntmps98;go_wp2_with(go_at_call 154;refine(k.out _).mono ?_;rintro e A⟨rfl,d⟩);go_ret;exact⟨rfl,Cv (Cu (tU _ _) _) d⟩
 ·have:decide (pc=0)=false:=by simpa using m
  simp only[this,Bool.false_or]at k⊢;by_cases q:pc<n
  ·have t:decide (pc<(n:Int))=true:=by simpa using q
   simp only[t,Zbh];clear m q;go_enter func98,ntmps98;go_wp2_with fail;refine(k.out _).mono ?_;rintro e A⟨rfl,d⟩;have g:=Cv (Cu (tU _ _) (uj #[.slice i n j,.slice o sn sc] 87)) d;have f:=d.cell (p:=⟨w.heap.size,0,N⟩) (by simp);have u:=d.cell (p:=⟨w.heap.size,1,N⟩) (by simp);simp at f u;have C:=Aa (λD h=>MI (.slice i n j) (.slice o sn sc) l pc D h);have v:=Aa (B.out.below g);have x:=Aa g;clear d g;go_wp2_with fail;refine(C.out _ v.out).mono ?_;rintro e E⟨rfl,y⟩;go_wp2_with fail;go_ret;exact⟨rfl,Cv x.out y⟩
  ·have t:decide (pc<(n:Int))=false:=by simpa using q
   simp only[t,Bool.false_and];clear m q;go_enter func98,ntmps98;go_wp2_with fail;refine(k.out _).mono ?_;rintro e A⟨rfl,d⟩;have g:=Cv (Cu (tU _ _) (uj #[.slice i n j,.slice o sn sc] 87)) d;have f:=d.cell (p:=⟨w.heap.size,0,N⟩) (by simp);simp at f;have x:=Aa g;clear d g;go_wp2_with fail;go_ret;exact⟨rfl,x.out⟩
def PF(a p b st c sp:Bool):Value:=uk #[ue a,ue p,ue b,ue st,ue c,ue sp]
def Kg(b st a sp:Bool):Int:=if b then 1 else if a then 2 else if st then 3 else if sp then 3 else 4
theorem Hy(a p b st c sp:Bool)(w:rO):tT prog 254 #[PF a p b st c sp] w (jX (Kg b st c sp) w):=by
 unfold PF Kg;cases b<;>cases c<;>cases st<;>cases sp
 all_goals
  go_enter func254,ntmps254;go_wp2;go_ret;exact⟨rfl,Cu (tU _ _) _⟩
def Jb(n:Nat)(l:List Bool)(pc:Int)(a p b st c sp:Bool):Int:=if(a||(p&&decide (pc=0)))&&OP n l pc then Kg b st c sp else 0
theorem SF(m:Option Addr)(n o:Nat)(sv:tR)(l:List Bool)(pc:Int)(a p b st j sp:Bool)(w:rO)(r:0<n)(s:Bs w sv l):tT prog 180 #[uk #[.slice m n o,sv],I U pc,PF a p b st j sp] w (jX (Jb n l pc a p b st j sp) w):=by
 have x:=Aa s;have t: ∃a n c,sv= .slice a n c:=by obtain⟨b,off,cap,rfl,_⟩:=s;exact⟨_,_,_,rfl⟩
 obtain⟨u,sn,sc,rfl⟩:=t;have z:=Aa (λw=>Kf m n o (.slice u sn sc) pc w r);have A:=Aa (λw h=>VI m n o (.slice u sn sc) l pc w r h);have B:=Aa (λw=>Hy a p b st j sp w);unfold Jb;unfold PF at*
 clear s r;generalize OP n l pc=T at*
 generalize decide (pc=0)=d at*
 generalize Kg b st j sp=E at*
 have q:=Aa (Cu (Cu (tU w.heap.size w) (uj #[.slice m n o,.slice u sn sc] 87)) (uj #[ue a,ue p,ue b,ue st,ue j,ue sp] 270));cases a<;>cases p<;>cases d<;>cases T
 all_goals
  go_enter func180,ntmps180;go_wp2_with(first|(go_at_call 154;refine(z.out _).mono ?_;rintro e C⟨rfl,g⟩;obtain⟨c1,f1⟩:=FC g;have D:w.heap.size+1<C.heap.size:=by{have:=g.size;simp at this;omega};have i:=Aa (Cv q.out g);clear g)|(go_at_call 98;refine(A.out _ (by first|exact x.out.below i.out|exact x.out.below q.out)).mono ?_;rintro e y⟨rfl,f⟩;obtain⟨c3,f3⟩:=FC f;have F:w.heap.size+1<y.heap.size:=by{have:=f.size;(try simp at this);omega};have k:=Aa (by first|exact Cv i.out f|exact Cv q.out f:tS w.heap.size w y);clear f)|(go_at_call 254;refine(B.out _).mono ?_;rintro e G⟨rfl,v⟩));go_ret;exact⟨rfl,by first|exact Cv k.out v|exact k.out|exact i.out|exact q.out⟩
def VJ(x:Bool)(act:Int):Bool:=if act=2\/act=3\/act=4 then tY else x
def jY(a p:Bool)(act:Int)(w:rO)(e:uh)(w':rO):Prop:= ∃b st c sp,e=ui (PF (VJ a act) (VJ p act) b st c sp)/\tS w.heap.size w w'
theorem VK(a p b st c sp:Bool)(act:Int)(w:rO)(h:act=2\/act=3\/act=4):tT prog 256 #[PF a p b st c sp,I U act] w (jY a p act w):=by
 unfold PF;rcases h with rfl|rfl|rfl
 ·go_enter func256,ntmps256
  go_wp2;exact AM (v:=PF tY tY b st tY tY) (by simp[results,results256,go_sem,PF]) rfl ⟨b,st,tY,tY,rfl,Cu (Cu (tU _ _) _) _⟩
 ·go_enter func256,ntmps256
  go_wp2;exact AM (v:=PF tY tY b st c tY) (by simp[results,results256,go_sem,PF]) rfl ⟨b,st,c,tY,rfl,Cu (Cu (tU _ _) _) _⟩
 ·go_enter func256,ntmps256
  go_wp2;exact AM (v:=PF tY tY b st c sp) (by simp[results,results256,go_sem,PF]) rfl ⟨b,st,c,sp,rfl,Cu (Cu (tU _ _) _) _⟩
theorem YJ(i s n:Int)(w:rO):tT prog 291 #[I U i,I U s,I U n] w λe c=>e=ui (ue (decide (0<i/\s<=0/\0<n)))/\w=c:=by
 by_cases a:0<i
 ·have d1:decide (0<i)=true:=by simpa using a
  by_cases b:s<=0
  ·have d2:decide (s<=0)=true:=by simpa using b
   rw[show decide (0<i/\s<=0/\0<n)=decide (0<n) by simp[a,b]];clear a b;go_enter func291,ntmps291;go_wp2;go_ret;exact⟨rfl,rfl⟩
  ·have d2:decide (s<=0)=false:=by simpa using b
   rw[show decide (0<i/\s<=0/\0<n)=tY by simp[a,b]];clear a b;go_enter func291,ntmps291;go_wp2;go_ret;exact⟨rfl,rfl⟩
 ·have d1:decide (0<i)=false:=by simpa using a
  rw[show decide (0<i/\s<=0/\0<n)=tY by simp[a]];clear a;go_enter func291,ntmps291;go_wp2;go_ret;exact⟨rfl,rfl⟩
end FU
namespace Cx
section
variable {w w':rO}{t j:Nat}{tv:tR}
abbrev Pr:=Int×Int
variable {l:List Pr}
def pz:Pr:=(0,0)
def ys:List Pr->List tR
 | []=>[]
 |x::l=>[I U x.1,I U x.2]++ys l
theorem MJ(l:List Pr):(ys l).length=l.length*2:=by
 induction l with
 |nil=>rfl
 |cons x l a=>simp[ys,a];omega
theorem KX(l m:List Pr):ys (l++m)=ys l++ys m:=by
 induction l with
 |nil=>rfl
 |cons x l a=>simp[ys,a]
theorem YK(l:List Pr): ∀i,i<l.length->(ys l)[i*2]?=Z (I U (l[i]?.getD pz).1)/\(ys l)[i*2+1]?=Z (I U (l[i]?.getD pz).2):=by
 induction l with
 |nil=>intro i a;simp at a
 |cons x l b=>
  intro i a;cases i with
  |zero=>simp[ys]
  |succ i=>have:=b i (by simpa using a);rw[show(i+1)*2=(i*2)+1+1 by omega];simpa[ys]using this
structure Tb (w:rO) (t:Nat) (tv:tR) (l:List Pr):Prop where
 Dj:Cy w t #[tv] 199
 own:w.ownsRow (t+1) 201 2 tv l.length (ys l)
def Tf(t:Nat)(tv:tR)(j:Nat):Prop:=j=t\/tv.ownBlock=Z j
theorem Tb.off(h:Tb w t tv l):tv.ownBlock≠Z t:=λe=>by have:=(AB h.own t e).1;omega
theorem Tb.lt(h:Tb w t tv l)(a:Tf t tv j):j<w.heap.size:=by
 rcases a with rfl|a
 ·exact h.Dj.lt
 ·exact(AB h.own j a).2
theorem Tb.ge(h:Tb w t tv l)(a:Tf t tv j):t<=j:=by
 rcases a with rfl|a
 ·exact Al _
 ·have:=(AB h.own j a).1;omega
theorem Tb.only{S:Nat->Prop}(h:Tb w t tv l)(o:Cw S w w')(a: ∀j,Tf t tv j-> ¬S j):Tb w' t tv l:=⟨h.Dj.only o (a t (.inl rfl)),De h.own o (λj b=>a j (.inr b))⟩
theorem Tb.below(h:Tb w t tv l)(a:tS w.heap.size w w'):Tb w' t tv l:=h.only (S:=λ_=>False) ((Cw.refl _ w).below a) (λ_ _ x=>x)
theorem Tb.slice(h:Tb w t tv l): ∃a cap,tv= .slice a l.length cap:=by
 rcases C6 h.own with⟨rfl,b⟩|⟨g,cap,rfl,_⟩
 ·exact⟨N,0,by rw[b]⟩
 ·exact⟨_,cap,rfl⟩
theorem Tb.at{a:Option Addr}{n cap:Nat}(h:Tb w t (.slice a n cap) l)(i:Nat)(d:i<l.length):n=l.length/\ ∃g,a=Z ⟨g,0,N⟩/\w.cell? ⟨g,i*2,N⟩=Z (I U (l[i]?.getD pz).1)/\w.cell? ⟨g,i*2+1,N⟩=Z (I U (l[i]?.getD pz).2):=by
 rcases C6 h.own with⟨_,j⟩|⟨g,c,he,_,k,m,b⟩
 ·omega
 ·simp only[As]at he
  obtain⟨rfl,rfl,rfl⟩:=he;obtain⟨e,f⟩:=YK l i d;refine⟨rfl,g,rfl,?_,?_⟩
  ·rw[b (i*2) (by omega),e];rfl
  ·rw[b (i*2+1) (by omega),f];rfl
theorem EY(x:Int)(w:rO):tT prog 109 #[I U x] w λe w'=>e=ui (ue (decide (1<=x/\x<=256)))/\w=w':=by
 by_cases a:1<=x
 ·by_cases b:x<=256
  ·rw[A8 ⟨a,b⟩]
   go_enter func109,ntmps109;go_wp2;go_ret;exact⟨rfl,rfl⟩
  ·rw[Bi (λh=>b h.2)]
   have c:decide (x<=256)=false:=by simpa using b
   go_enter func109,ntmps109;go_wp2;go_ret;exact⟨rfl,rfl⟩
 ·rw[Bi (λh=>a h.1)]
  have c:decide (1<=x)=false:=by simpa using a
  go_enter func109,ntmps109;go_wp2;go_ret;exact⟨rfl,rfl⟩
theorem G0(t:Nat)(tv:tR)(l:List Pr)(p:Int)(w:rO)(h:Tb w t tv l)(f: ¬(0<=p/\p<l.length)):tT prog 124 #[J (Z ⟨t,0,N⟩),I U p] w λe w'=>e=ui (J N)/\w=w':=by
 obtain⟨a,cap,rfl⟩:=h.slice;have c0:=h.Dj.cell 0;simp only[Ad,Ac]at c0;by_cases b:p<0
 ·go_enter func124,ntmps124
  go_wp2;go_ret;exact⟨rfl,rfl⟩
 ·have c:decide (p<0)=false:=by simpa using b
  have d:decide ((l.length:Int)<=p)=true:=by simp;omega
  generalize l.length=n at*
  go_enter func124,ntmps124;go_wp2;go_ret;exact⟨rfl,rfl⟩
theorem JD(t g n cap:Nat)(l:List Pr)(i:Nat)(w:rO)(h:Tb w t (Y (Z ⟨g,0,N⟩) n cap) l)(d:i<n):tT prog 124 #[J (Z ⟨t,0,N⟩),I U i] w λe w'=>e=ui (J (Z ⟨g,i*2,N⟩))/\w=w':=by
 have c0:=h.Dj.cell 0;simp only[Ad,Ac]at c0;have a:decide ((i:Int)<0)=false:=by simp
 have b:decide (n<=i)=false:=by simp;omega
 have c:(i:Int)<(n:Int):=by omega
 go_enter func124,ntmps124;go_wp2;go_ret;exact⟨rfl,rfl⟩
def FV(l:List Pr)(p:Int):Int:=if 0<=p/\p<l.length then(l[p.toNat]?.getD pz).1 else 4
def Iw(l:List Pr)(p:Int):Int:=if 0<=p/\p<l.length then(l[p.toNat]?.getD pz).2 else-1
theorem F9(t:Nat)(tv:tR)(l:List Pr)(p:Int)(w:rO)(h:Tb w t tv l):tT prog 58 #[J (Z ⟨t,0,N⟩),I U p] w λe w'=>e=ui (I U (FV l p))/\w=w':=by
 unfold FV;by_cases b:0<=p/\p<l.length
 ·rw[Ai b]
  obtain⟨i,rfl⟩:=AF b.1;rw[Am];have d:i<l.length:=by omega
  obtain⟨a,cap,rfl⟩:=h.slice;obtain⟨_,g,rfl,c0,c1⟩:=h.at i d;have c:=Aa (JD t g _ cap l i w h d);generalize(l[i]?.getD pz).1=y at*
  go_enter func58,ntmps58;go_wp2_with fail;refine c.out.mono ?_;rintro e w1⟨rfl,rfl⟩;go_wp2_with fail;go_ret;exact⟨rfl,rfl⟩
 ·rw[Ah b]
  have c:=Aa (G0 t tv l p w h b);go_enter func58,ntmps58;go_wp2_with fail;refine c.out.mono ?_;rintro e w1⟨rfl,rfl⟩;go_wp2_with fail;go_ret;exact⟨rfl,rfl⟩
theorem eJ(t:Nat)(tv:tR)(l:List Pr)(p:Int)(w:rO)(h:Tb w t tv l):tT prog 59 #[J (Z ⟨t,0,N⟩),I U p] w λe w'=>e=ui (I U (Iw l p))/\w=w':=by
 unfold Iw;by_cases b:0<=p/\p<l.length
 ·rw[Ai b]
  obtain⟨i,rfl⟩:=AF b.1;rw[Am];have d:i<l.length:=by omega
  obtain⟨a,cap,rfl⟩:=h.slice;obtain⟨_,g,rfl,c0,c1⟩:=h.at i d;have c:=Aa (JD t g _ cap l i w h d);generalize(l[i]?.getD pz).2=y at*
  go_enter func59,ntmps59;go_wp2_with fail;refine c.out.mono ?_;rintro e w1⟨rfl,rfl⟩;go_wp2_with fail;go_ret;exact⟨rfl,rfl⟩
 ·rw[Ah b]
  have c:=Aa (G0 t tv l p w h b);go_enter func59,ntmps59;go_wp2_with fail;refine c.out.mono ?_;rintro e w1⟨rfl,rfl⟩;go_wp2_with fail;go_ret;exact⟨rfl,rfl⟩
def cnt(s:Int)(l:List Pr):Nat:=l.countP (λx=>x.1==s)
theorem YL(s:Int)(l:List Pr)(k:Nat)(h:k<l.length):cnt s (l.take (k+1))=cnt s (l.take k)+(if(l[k]?.getD pz).1==s then 1 else 0):=by unfold cnt;rw[Bg h,Zal];simp[h,List.countP_cons]
theorem MK(s:Int)(l:List Pr):cnt s l<=l.length:=Zap
def eK(x:Int)(w:rO)(e:uh)(w':rO):Prop:=e=ui (I U x)/\tS w.heap.size w w'
theorem NU(t:Nat)(tv:tR)(l:List Pr)(s:Int)(w:rO)(h:Tb w t tv l)(r:l.length<=100000):tT prog 360 #[J (Z ⟨t,0,N⟩),I U s] w (eK (cnt s l) w):=by
 obtain⟨a,cap,rfl⟩:=h.slice;have c0:=h.Dj.cell 0;simp only[Ad,Ac]at c0;have o:=Aa h;obtain⟨n,e⟩: ∃n,Hid (l.length=n):=⟨_,rfl⟩;rw[e.out]at o c0 r;go_enter func360,ntmps360;go_wp2;go_loopw [4,14] (λc i wr=> ∃k:Nat,k<=n/\i=I U k/\c=I U (cnt s (l.take k):Nat)/\tS w.heap.size w wr) (λ_ i _=>n-(intOf i).toNat)
 case atStart=>exact⟨0,Ap _,rfl,by simp[cnt],tU _ _⟩
 case round=>
  obtain⟨k,x,rfl,rfl,p⟩:=hrel;have j:=Aa p;by_cases d:k<n
  ·have m:=o.out.below p
   obtain⟨_,g,rfl,y,z⟩:=m.at k (by rw[e.out];exact d);have f:=Aa (YL s l k (by rw[e.out];exact d));have u:cnt s (l.take k)<=k:=AA (MK _ _) (by rw[AY];omega);generalize(l[k]?.getD pz).1=z0 at*
   generalize(l[k]?.getD pz).2=A at*
   generalize cnt s (l.take k)=c at*
   by_cases q:z0=s
   ·have b:(z0==s)=true:=by simpa using q
    rw[Ai b]at f;go_wp2;go_roundw
    case rel=>exact⟨k+1,by omega,by go_num,by rw[f.out];go_num,Cu j.out _⟩
    case measure=>simp[intOf];omega
   ·have b:(z0==s)=false:=by simpa using q
    rw[Ah (by rw[b];decide)]at f;go_wp2;go_roundw
    case rel=>exact⟨k+1,by omega,by go_num,by rw[f.out];rfl,Cu j.out _⟩
    case measure=>simp[intOf];omega
  ·obtain rfl:k=n:=by omega
   have v:Hid (l.take k=l):=AL (by rw[e.out];exact Al _);rw[v.out];go_wp2;go_ret;exact⟨rfl,j.out⟩
end
def Ix(x:Pr)(b:Bool)(w:rO)(e:uh)(w':rO):Prop:=e=ui (uo #[uk #[I U x.1,I U x.2],ue b])/\tS w.heap.size w w'
theorem VL(s a:Int)(w:rO):tT prog 337 #[uk #[I U s,I U a]] w (Ix (2,a) (s==1) w):=by
 go_enter func337,ntmps337;go_wp2;go_region
 all_goals
  go_wp2;refine AM (v:=uo #[uk #[I U (2),I U (a)],ue (s==1)]) ?_ rfl ⟨rfl,Ce (Cu (Cu (tU _ _) _) _) 1⟩;rw[B6 rfl];simp only[asAddr];go_simp
theorem Qc(s a:Int)(w:rO):tT prog 238 #[uk #[I U s,I U a]] w (Ix (0,-1) (s==1) w):=by
 go_enter func238,ntmps238;go_wp2;go_region
 all_goals
  go_wp2;refine AM (v:=uo #[uk #[I U (0),I U (-1)],ue (s==1)]) ?_ rfl ⟨rfl,Ce (Cu (Cu (tU _ _) _) _) 1⟩;rw[B6 rfl];simp only[asAddr];go_simp
theorem YM(b:Nat)(m s c:Int)(w:rO)(a:Cy w b #[I U m] 3):tT prog 113 #[uk #[I U s,I U c],J (Z ⟨b,0,N⟩)] w (Ix (1,m) (s==0) w):=by
 have c0:=a.cell 0;have d:=a.lt;simp only[Ad,Ac]at c0;go_enter func113,ntmps113;go_wp2;go_region
 all_goals
  go_wp2;refine AM (v:=uo #[uk #[I U (1),I U (m)],ue (s==0)]) ?_ rfl ⟨rfl,Ce (Cu (Cu (tU _ _) _) _) 1⟩;rw[B6 rfl];simp only[asAddr];go_simp
def Iq(s a:Int):Pr:=if s=2 then(3,-1)else if s=0\/s=1 then(3,a)else(s,a)
def F2(s:Int):Bool:=decide (s=2\/s=0\/s=1)
theorem YN(s d:Int)(w:rO):tT prog 239 #[uk #[I U s,I U d]] w (Ix (Iq s d) (F2 s) w):=by
 unfold Iq F2;by_cases a:s=2
 ·rw[Ai a,A8 (.inl a)]
  subst a;go_enter func239,ntmps239;go_wp2;refine AM (v:=uo #[uk #[I U (3),I U (-1)],ue (true)]) ?_ rfl ⟨rfl,Cu (Cu (tU _ _) _) _⟩;rw[B6 rfl];simp only[asAddr];go_simp
 ·rw[Ah a]
  have d2:(s==2)=false:=by rw[Az];exact a
  by_cases b:s=0
  ·rw[Ai (.inl b),A8 (.inr (.inl b))]
   subst b;go_enter func239,ntmps239;go_wp2;refine AM (v:=uo #[uk #[I U (3),I U (d)],ue (true)]) ?_ rfl ⟨rfl,Cu (Cu (tU _ _) _) _⟩;rw[B6 rfl];simp only[asAddr];go_simp
  ·have d0:(s==0)=false:=by rw[Az];exact b
   by_cases c:s=1
   ·rw[Ai (.inr c),A8 (.inr (.inr c))]
    subst c;go_enter func239,ntmps239;go_wp2;refine AM (v:=uo #[uk #[I U (3),I U (d)],ue (true)]) ?_ rfl ⟨rfl,Cu (Cu (tU _ _) _) _⟩;rw[B6 rfl];simp only[asAddr];go_simp
   ·rw[Ah (λh=>h.elim b c),Bi (λh=>h.elim a (λh=>h.elim b c))]
    have d1:(s==1)=false:=by rw[Az];exact c
    go_enter func239,ntmps239;go_wp2;refine AM (v:=uo #[uk #[I U (s),I U (d)],ue (tY)]) ?_ rfl ⟨rfl,Cu (Cu (tU _ _) _) _⟩;rw[B6 rfl];simp only[asAddr];go_simp
def eL(a:Int):Pr:=if a= -1 then(0,-1)else(1,a)
theorem jZ(s a:Int)(w:rO):tT prog 336 #[uk #[I U s,I U a]] w (Ix (eL a) (s==3) w):=by
 unfold eL;by_cases h:a= -1
 ·rw[Ai h]
  subst h;go_enter func336,ntmps336;go_wp2;go_region
  all_goals
   go_wp2;refine AM (v:=uo #[uk #[I U (0),I U (-1)],ue (s==3)]) ?_ rfl ⟨rfl,Ce (Cu (Cu (tU _ _) _) _) 1⟩;rw[B6 rfl];simp only[asAddr];go_simp
 ·rw[Ah h]
  have d:(a== -1)=false:=by rw[Az];exact h
  go_enter func336,ntmps336;go_wp2;go_region
  all_goals
   go_wp2;refine AM (v:=uo #[uk #[I U (1),I U (a)],ue (s==3)]) ?_ rfl ⟨rfl,Ce (Cu (Cu (tU _ _) _) _) 1⟩;rw[B6 rfl];simp only[asAddr];go_simp
variable {w w' w1:rO}{t g n cap:Nat}{l:List Pr}
theorem YO(l:List Pr)(x:Pr): ∀i,i<l.length->ys (l.set i x)=((ys l).set (i*2) (I U x.1)).set (i*2+1) (I U x.2):=by
 induction l with
 |nil=>intro i a;simp at a
 |cons y l b=>
  intro i a;cases i with
  |zero=>simp[ys]
  |succ i=>have h:=b i (by simpa using a);rw[Ck,ys,h,show(i+1)*2=(i*2)+1+1 by omega];simp[ys]
theorem Tb.put(h:Tb w t (Y (Z ⟨g,0,N⟩) n cap) l)(i:Nat)(c:i<l.length)(x:Pr):Tb ((w.setCell ⟨g,i*2,N⟩ (I U x.1)).setCell ⟨g,i*2+1,N⟩ (I U x.2)) t (Y (Z ⟨g,0,N⟩) n cap) (l.set i x):=by
 have a:g≠t:=λe=>h.off (by rw[e];rfl);refine⟨(h.Dj.setOther (Cb a) _).setOther (Cb a) _,?_⟩;obtain⟨q,⟨d,_⟩|⟨r,b,cur,he,f,j,k,hm,m,o⟩⟩:=h.own
 ·cases d
 ·simp only[As,Ak,BN]at he
  obtain⟨⟨rfl,_⟩,rfl,rfl⟩:=he;have p:Cy w g cur 201:=j;refine⟨by rw[AX,MJ,AX],.inr ⟨g,cap,_,by rw[AX],f,(p.set (i*2) (I U x.1)).set (i*2+1) (I U x.2),by rw[AX];exact k,hm,by simpa using m,?_⟩⟩;rw[AX,YO l x i c,<-o];simp[Zcc]
theorem Tb.free(h:Tb w t (Y (Z ⟨g,0,N⟩) n cap) l)(i:Nat):w.frozen? ⟨g,i,N⟩=tY/\g<w.heap.size:=by
 obtain⟨e,⟨c,_⟩|⟨f,a,cur,he,j,d,k,hm,m,o⟩⟩:=h.own
 ·cases c
 ·simp only[As,Ak,BN]at he
  obtain⟨⟨rfl,_⟩,rfl,rfl⟩:=he;have b:Cy w g cur 201:=d;exact⟨b.free i,b.lt⟩
def Dq(t:Nat)(tv:tR)(l':List Pr)(f:Int)(w:rO)(e:uh)(w':rO):Prop:=e=ui (I U f)/\ ∃a,Tb w' t a l'/\Cw (Tf t tv) w w'/\ ∀j,Tf t a j->Tf t tv j\/w.heap.size<=j
theorem Dq.same{tv:tR}{f:Int}(h:Tb w t tv l)(a:tS w.heap.size w w'):Dq t tv l f w (ui (I U f)) w':=⟨rfl,tv,h.below a,(Cw.refl _ w).below a,λj b=>.inl b⟩
theorem Dq.put{i:Nat}{x:Pr}{o:Obj}(h:Tb w t (Y (Z ⟨g,0,N⟩) n cap) l)(a:tS w.heap.size w w1)(b:i<l.length):Dq t (Y (Z ⟨g,0,N⟩) n cap) (l.set i x) 0 w (ui (I U 0)) (((w1.setCell ⟨g,i*2,N⟩ (I U x.1)).setCell ⟨g,i*2+1,N⟩ (I U x.2)).alloc o):=by refine⟨rfl,_,((h.below a).put i b x).below (Cu (tU _ _) o),((((Cw.refl (Tf t (Y (Z ⟨g,0,N⟩) n cap)) w).below a).set (.inr (.inr rfl)) _ _).set (.inr (.inr rfl)) _ _).alloc o,λj c=>.inl c⟩
@[reducible] def G1(m s a:Int):Bool:=decide (s=2/\a=m)
def Dn(l:List Pr)(p:Int)(X:Int->Int->Pr)(B:Int->Int->Bool):List Pr:=if 0<=p/\p<l.length then(if B (l[p.toNat]?.getD pz).1 (l[p.toNat]?.getD pz).2 then l.set p.toNat (X (l[p.toNat]?.getD pz).1 (l[p.toNat]?.getD pz).2)else l)else l
def El(l:List Pr)(p:Int)(B:Int->Int->Bool):Int:=if 0<=p/\p<l.length then(if B (l[p.toNat]?.getD pz).1 (l[p.toNat]?.getD pz).2 then 0 else 9)else 8
def Qd(l:List Pr):Int:=(l.length:Int)-cnt 4 l
theorem DW(t:Nat)(tv:tR)(l:List Pr)(w:rO)(h:Tb w t tv l)(j:l.length<=100000):tT prog 361 #[J (Z ⟨t,0,N⟩)] w (eK (Qd l) w):=by
 obtain⟨a,cap,rfl⟩:=h.slice;have c0:=h.Dj.cell 0;have f:=h.Dj.lt;simp only[Ad,Ac]at c0;have i:Hid (tT prog 360 #[J (Z ⟨t,0,N⟩),I U 4] w.drew (eK (cnt 4 l) w.drew)):=NU t _ l 4 w.drew (h.below ⟨rfl,rfl,rfl,Al _,λ_ _=>rfl⟩) j;have k:=MK 4 l;unfold Qd;generalize cnt 4 l=c at*
 generalize l.length=n at*
 have m:IntKind.i64.wrap ((n:Int)-c)=(n:Int)-c:=Cn _ (by omega);go_enter func361,ntmps361;go_wp2_with fail;refine wp_region_any (by kernel_rfl) ?_;try(change wpAny _ _ _ _ _ _ _ (World.drew _))
 refine R0 0 (v:=?_) rfl (by kernel_rfl) (λ_ _ _ h=>h) ?_ ?_;rotate_left
 ·intro w';go_simp;try(with_reducible rfl)
 refine R0 1 (v:=?_) rfl (by kernel_rfl) (λ_ _ _ h=>h) ?_ ?_;rotate_left
 ·intro w';go_simp;try(with_reducible rfl)
 refine R0 2 (v:=?_) rfl (by kernel_rfl) (λ_ _ _ h=>h) ?_ ?_;rotate_left
 ·intro w';go_simp;try(with_reducible rfl)
 refine R0 5 (v:=?_) rfl (by kernel_rfl) (λ_ _ _ h=>h) ?_ ?_;rotate_left
 ·intro w';go_simp;try(with_reducible rfl)
 refine B9 (rs:=[3,6]) (by kernel_rfl) (by simp) ?_;refine Zat rfl (λK g=>?_) (Zat rfl (λK g=>?_) (Zb6))
 ·go_simp
  refine g _ _ ?_;refine R0 4 (v:=?_) rfl (by kernel_rfl) (λ_ _ _ h=>h) ?_ ?_;rotate_left
  ·intro w';go_simp;try(with_reducible rfl)
  refine dP 6 (by kernel_rfl) rfl λK g=>?_;go_simp;go_wp2_with(go_at_call 360;(with_reducible refine i.out.mono ?_);rintro e w1⟨rfl,b⟩;have d:Hid (tS w.heap.size w w1):=⟨b.os,b.tape,b.output,b.size,b.block⟩;have d0:=(d.out.cell (p:=⟨t,0,N⟩) f).trans c0);refine R0 7 (v:=?_) rfl (by kernel_rfl) (λ_ _ _ h=>h) ?_ ?_;rotate_left
  ·intro w';go_simp;try(with_reducible rfl)
  refine R0 8 (v:=?_) rfl (by kernel_rfl) (λ_ _ _ h=>h) ?_ ?_;rotate_left
  ·intro w';go_simp;try(with_reducible rfl)
  refine wpAny_done (by kernel_rfl) ?_ _;go_wp2;go_ret;exact⟨rfl,d.out⟩
 ·go_simp
  go_wp2_with(go_at_call 360;(with_reducible refine i.out.mono ?_);rintro e w1⟨rfl,b⟩;have d:Hid (tS w.heap.size w w1):=⟨b.os,b.tape,b.output,b.size,b.block⟩;have d0:=(d.out.cell (p:=⟨t,0,N⟩) f).trans c0);refine dP 3 (by kernel_rfl) rfl λK g=>?_;go_simp;refine g _ _ ?_;refine R0 4 (v:=?_) rfl (by kernel_rfl) (λ_ _ _ h=>h) ?_ ?_;rotate_left
  ·intro w';go_simp;try(with_reducible rfl)
  refine R0 7 (v:=?_) rfl (by kernel_rfl) (λ_ _ _ h=>h) ?_ ?_;rotate_left
  ·intro w';go_simp;try(with_reducible rfl)
  refine R0 8 (v:=?_) rfl (by kernel_rfl) (λ_ _ _ h=>h) ?_ ?_;rotate_left
  ·intro w';go_simp;try(with_reducible rfl)
  refine wpAny_done (by kernel_rfl) ?_ _;go_wp2;go_ret;exact⟨rfl,d.out⟩
theorem SG(t:Nat)(tv:tR)(l:List Pr)(p:Int)(w:rO)(h:Tb w t tv l):tT prog 166 #[J (Z ⟨t,0,N⟩),I U p,.func (.func 337) #[] #[]] w (Dq t tv (Dn l p (λs c=>(2,c)) (λs c=>s==1)) (El l p (λs c=>s==1)) w):=by
 unfold Dn El;by_cases j:0<=p/\p<l.length
 ·rw[Ai j,Ai j]
  obtain⟨i,rfl⟩:=AF j.1;rw[Am];have A:i<l.length:=by omega
  obtain⟨a,cap,rfl⟩:=h.slice;obtain⟨K,g,rfl,c0,c1⟩:=h.at i A;have u:=Aa (JD t g _ cap l i w h A);have m:=h.free (i*2);have k:=Aa h;have D:=Aa A;obtain⟨s,C⟩: ∃s,(l[i]?.getD pz).1=s:=⟨_,rfl⟩;obtain⟨c,o⟩: ∃c,(l[i]?.getD pz).2=c:=⟨_,rfl⟩;rw[C,o];rw[C]at c0;rw[o]at c1;have B:=Aa (VL s c w);obtain⟨v,q⟩: ∃v,Hid ((λs c=>s==1) s c=v):=⟨_,rfl⟩;obtain⟨y,z,r⟩: ∃y z:Int,Hid (((λs c=>(2,c)):Int->Int->Pr) s c=(y,z)):=⟨_,_,rfl⟩;rw[q.out,r.out];rw[show Ix _ _ _=Ix (y,z) v w from by rw[<-q.out,<-r.out]]at B;obtain⟨n,E⟩: ∃n,Hid (l.length=n):=⟨_,rfl⟩;rw[E.out]at k⊢;cases v with
  |true=>rw[Ai rfl,Ai rfl];go_enter func166,ntmps166;go_wp2_with fail;refine u.out.mono ?_;rintro e w1⟨rfl,rfl⟩;go_wp2_with fail;refine B.out.mono ?_;rintro e w1⟨rfl,b⟩;have d:=Aa b;have f:=k.out.below b;have F:=(f.free 0).2;have G:=(f.free (i*2)).1;have H:=(f.free (i*2+1)).1;have e0:=(b.cell (p:=⟨g,i*2,N⟩) m.2).trans c0;have L:=(b.cell (p:=⟨g,i*2+1,N⟩) m.2).trans c1;go_wp2_with fail;go_ret;exact Dq.put (x:=(y,z)) k.out d.out D.out
  |false=>rw[Ah (by decide),Ah (by decide)];go_enter func166,ntmps166;go_wp2_with fail;refine u.out.mono ?_;rintro e w1⟨rfl,rfl⟩;go_wp2_with fail;refine B.out.mono ?_;rintro e w1⟨rfl,b⟩;have d:=Aa b;go_wp2_with fail;go_ret;exact Dq.same k.out (Cu d.out _)
 ·rw[Ah j,Ah j]
  have u:=Aa (G0 t tv l p w h j);have k:=Aa h;go_enter func166,ntmps166;go_wp2_with fail;refine u.out.mono ?_;rintro e w1⟨rfl,rfl⟩;go_wp2_with fail;go_ret;exact Dq.same k.out (tU _ _)
theorem OQ(t:Nat)(tv:tR)(l:List Pr)(p:Int)(w:rO)(h:Tb w t tv l):tT prog 166 #[J (Z ⟨t,0,N⟩),I U p,.func (.func 238) #[] #[]] w (Dq t tv (Dn l p (λs c=>(0,-1)) (λs c=>s==1)) (El l p (λs c=>s==1)) w):=by
 unfold Dn El;by_cases j:0<=p/\p<l.length
 ·rw[Ai j,Ai j]
  obtain⟨i,rfl⟩:=AF j.1;rw[Am];have A:i<l.length:=by omega
  obtain⟨a,cap,rfl⟩:=h.slice;obtain⟨K,g,rfl,c0,c1⟩:=h.at i A;have u:=Aa (JD t g _ cap l i w h A);have m:=h.free (i*2);have k:=Aa h;have D:=Aa A;obtain⟨s,C⟩: ∃s,(l[i]?.getD pz).1=s:=⟨_,rfl⟩;obtain⟨c,o⟩: ∃c,(l[i]?.getD pz).2=c:=⟨_,rfl⟩;rw[C,o];rw[C]at c0;rw[o]at c1;have B:=Aa (Qc s c w);obtain⟨v,q⟩: ∃v,Hid ((λs c=>s==1) s c=v):=⟨_,rfl⟩;obtain⟨y,z,r⟩: ∃y z:Int,Hid (((λs c=>(0,-1)):Int->Int->Pr) s c=(y,z)):=⟨_,_,rfl⟩;rw[q.out,r.out];rw[show Ix _ _ _=Ix (y,z) v w from by rw[<-q.out,<-r.out]]at B;obtain⟨n,E⟩: ∃n,Hid (l.length=n):=⟨_,rfl⟩;rw[E.out]at k⊢;cases v with
  |true=>rw[Ai rfl,Ai rfl];go_enter func166,ntmps166;go_wp2_with fail;refine u.out.mono ?_;rintro e w1⟨rfl,rfl⟩;go_wp2_with fail;refine B.out.mono ?_;rintro e w1⟨rfl,b⟩;have d:=Aa b;have f:=k.out.below b;have F:=(f.free 0).2;have G:=(f.free (i*2)).1;have H:=(f.free (i*2+1)).1;have e0:=(b.cell (p:=⟨g,i*2,N⟩) m.2).trans c0;have L:=(b.cell (p:=⟨g,i*2+1,N⟩) m.2).trans c1;go_wp2_with fail;go_ret;exact Dq.put (x:=(y,z)) k.out d.out D.out
  |false=>rw[Ah (by decide),Ah (by decide)];go_enter func166,ntmps166;go_wp2_with fail;refine u.out.mono ?_;rintro e w1⟨rfl,rfl⟩;go_wp2_with fail;refine B.out.mono ?_;rintro e w1⟨rfl,b⟩;have d:=Aa b;go_wp2_with fail;go_ret;exact Dq.same k.out (Cu d.out _)
 ·rw[Ah j,Ah j]
  have u:=Aa (G0 t tv l p w h j);have k:=Aa h;go_enter func166,ntmps166;go_wp2_with fail;refine u.out.mono ?_;rintro e w1⟨rfl,rfl⟩;go_wp2_with fail;go_ret;exact Dq.same k.out (tU _ _)
theorem VM(t:Nat)(tv:tR)(l:List Pr)(p:Int)(w:rO)(h:Tb w t tv l):tT prog 166 #[J (Z ⟨t,0,N⟩),I U p,.func (.func 239) #[] #[]] w (Dq t tv (Dn l p Iq (λs c=>F2 s)) (El l p (λs c=>F2 s)) w):=by
 unfold Dn El;by_cases j:0<=p/\p<l.length
 ·rw[Ai j,Ai j]
  obtain⟨i,rfl⟩:=AF j.1;rw[Am];have A:i<l.length:=by omega
  obtain⟨a,cap,rfl⟩:=h.slice;obtain⟨K,g,rfl,c0,c1⟩:=h.at i A;have u:=Aa (JD t g _ cap l i w h A);have m:=h.free (i*2);have k:=Aa h;have D:=Aa A;obtain⟨s,C⟩: ∃s,(l[i]?.getD pz).1=s:=⟨_,rfl⟩;obtain⟨c,o⟩: ∃c,(l[i]?.getD pz).2=c:=⟨_,rfl⟩;rw[C,o];rw[C]at c0;rw[o]at c1;have B:=Aa (YN s c w);obtain⟨v,q⟩: ∃v,Hid ((λs c=>F2 s) s c=v):=⟨_,rfl⟩;obtain⟨y,z,r⟩: ∃y z:Int,Hid ((Iq:Int->Int->Pr) s c=(y,z)):=⟨_,_,rfl⟩;rw[q.out,r.out];rw[show Ix _ _ _=Ix (y,z) v w from by rw[<-q.out,<-r.out]]at B;obtain⟨n,E⟩: ∃n,Hid (l.length=n):=⟨_,rfl⟩;rw[E.out]at k⊢;cases v with
  |true=>rw[Ai rfl,Ai rfl];go_enter func166,ntmps166;go_wp2_with fail;refine u.out.mono ?_;rintro e w1⟨rfl,rfl⟩;go_wp2_with fail;refine B.out.mono ?_;rintro e w1⟨rfl,b⟩;have d:=Aa b;have f:=k.out.below b;have F:=(f.free 0).2;have G:=(f.free (i*2)).1;have H:=(f.free (i*2+1)).1;have e0:=(b.cell (p:=⟨g,i*2,N⟩) m.2).trans c0;have L:=(b.cell (p:=⟨g,i*2+1,N⟩) m.2).trans c1;go_wp2_with fail;go_ret;exact Dq.put (x:=(y,z)) k.out d.out D.out
  |false=>rw[Ah (by decide),Ah (by decide)];go_enter func166,ntmps166;go_wp2_with fail;refine u.out.mono ?_;rintro e w1⟨rfl,rfl⟩;go_wp2_with fail;refine B.out.mono ?_;rintro e w1⟨rfl,b⟩;have d:=Aa b;go_wp2_with fail;go_ret;exact Dq.same k.out (Cu d.out _)
 ·rw[Ah j,Ah j]
  have u:=Aa (G0 t tv l p w h j);have k:=Aa h;go_enter func166,ntmps166;go_wp2_with fail;refine u.out.mono ?_;rintro e w1⟨rfl,rfl⟩;go_wp2_with fail;go_ret;exact Dq.same k.out (tU _ _)
theorem eM(t:Nat)(tv:tR)(l:List Pr)(p:Int)(w:rO)(h:Tb w t tv l):tT prog 166 #[J (Z ⟨t,0,N⟩),I U p,.func (.func 336) #[] #[]] w (Dq t tv (Dn l p (λs c=>eL c) (λs c=>s==3)) (El l p (λs c=>s==3)) w):=by
 unfold Dn El;by_cases j:0<=p/\p<l.length
 ·rw[Ai j,Ai j]
  obtain⟨i,rfl⟩:=AF j.1;rw[Am];have A:i<l.length:=by omega
  obtain⟨a,cap,rfl⟩:=h.slice;obtain⟨K,g,rfl,c0,c1⟩:=h.at i A;have u:=Aa (JD t g _ cap l i w h A);have m:=h.free (i*2);have k:=Aa h;have D:=Aa A;obtain⟨s,C⟩: ∃s,(l[i]?.getD pz).1=s:=⟨_,rfl⟩;obtain⟨c,o⟩: ∃c,(l[i]?.getD pz).2=c:=⟨_,rfl⟩;rw[C,o];rw[C]at c0;rw[o]at c1;have B:=Aa (jZ s c w);obtain⟨v,q⟩: ∃v,Hid ((λs c=>s==3) s c=v):=⟨_,rfl⟩;obtain⟨y,z,r⟩: ∃y z:Int,Hid (((λs c=>eL c):Int->Int->Pr) s c=(y,z)):=⟨_,_,rfl⟩;rw[q.out,r.out];rw[show Ix _ _ _=Ix (y,z) v w from by rw[<-q.out,<-r.out]]at B;obtain⟨n,E⟩: ∃n,Hid (l.length=n):=⟨_,rfl⟩;rw[E.out]at k⊢;cases v with
  |true=>rw[Ai rfl,Ai rfl];go_enter func166,ntmps166;go_wp2_with fail;refine u.out.mono ?_;rintro e w1⟨rfl,rfl⟩;go_wp2_with fail;refine B.out.mono ?_;rintro e w1⟨rfl,b⟩;have d:=Aa b;have f:=k.out.below b;have F:=(f.free 0).2;have G:=(f.free (i*2)).1;have H:=(f.free (i*2+1)).1;have e0:=(b.cell (p:=⟨g,i*2,N⟩) m.2).trans c0;have L:=(b.cell (p:=⟨g,i*2+1,N⟩) m.2).trans c1;go_wp2_with fail;go_ret;exact Dq.put (x:=(y,z)) k.out d.out D.out
  |false=>rw[Ah (by decide),Ah (by decide)];go_enter func166,ntmps166;go_wp2_with fail;refine u.out.mono ?_;rintro e w1⟨rfl,rfl⟩;go_wp2_with fail;refine B.out.mono ?_;rintro e w1⟨rfl,b⟩;have d:=Aa b;go_wp2_with fail;go_ret;exact Dq.same k.out (Cu d.out _)
 ·rw[Ah j,Ah j]
  have u:=Aa (G0 t tv l p w h j);have k:=Aa h;go_enter func166,ntmps166;go_wp2_with fail;refine u.out.mono ?_;rintro e w1⟨rfl,rfl⟩;go_wp2_with fail;go_ret;exact Dq.same k.out (tU _ _)
theorem VN(t:Nat)(tv:tR)(l:List Pr)(p:Int)(b:Nat)(m:Int)(w:rO)(h:Tb w t tv l)(F:Cy w b #[I U m] 3):tT prog 166 #[J (Z ⟨t,0,N⟩),I U p,.func (.func 113) #[] #[J (Z ⟨b,0,N⟩)]] w (Dq t tv (Dn l p (λs d=>(1,m)) (λs d=>s==0)) (El l p (λs d=>s==0)) w):=by
 unfold Dn El;by_cases k:0<=p/\p<l.length
 ·rw[Ai k,Ai k]
  obtain⟨i,rfl⟩:=AF k.1;rw[Am];have C:i<l.length:=by omega
  obtain⟨a,cap,rfl⟩:=h.slice;obtain⟨O,g,rfl,c0,c1⟩:=h.at i C;have y:=Aa (JD t g _ cap l i w h C);have q:=h.free (i*2);have o:=Aa h;have G:=Aa C;obtain⟨s,E⟩: ∃s,(l[i]?.getD pz).1=s:=⟨_,rfl⟩;obtain⟨d,r⟩: ∃d,(l[i]?.getD pz).2=d:=⟨_,rfl⟩;rw[E,r];rw[E]at c0;rw[r]at c1;have D:=Aa (YM b m s d w F);obtain⟨z,u⟩: ∃z,Hid ((λs d=>s==0) s d=z):=⟨_,rfl⟩;obtain⟨A,B,v⟩: ∃A B:Int,Hid (((λs d=>(1,m)):Int->Int->Pr) s d=(A,B)):=⟨_,_,rfl⟩;rw[u.out,v.out];rw[show Ix _ _ _=Ix (A,B) z w from by rw[<-u.out,<-v.out]]at D;obtain⟨n,H⟩: ∃n,Hid (l.length=n):=⟨_,rfl⟩;rw[H.out]at o⊢;cases z with
  |true=>rw[Ai rfl,Ai rfl];go_enter func166,ntmps166;go_wp2_with fail;refine y.out.mono ?_;rintro e w1⟨rfl,rfl⟩;go_wp2_with fail;refine D.out.mono ?_;rintro e w1⟨rfl,c⟩;have f:=Aa c;have j:=o.out.below c;have K:=(j.free 0).2;have L:=(j.free (i*2)).1;have M:=(j.free (i*2+1)).1;have e0:=(c.cell (p:=⟨g,i*2,N⟩) q.2).trans c0;have P:=(c.cell (p:=⟨g,i*2+1,N⟩) q.2).trans c1;go_wp2_with fail;go_ret;exact Dq.put (x:=(A,B)) o.out f.out G.out
  |false=>rw[Ah (by decide),Ah (by decide)];go_enter func166,ntmps166;go_wp2_with fail;refine y.out.mono ?_;rintro e w1⟨rfl,rfl⟩;go_wp2_with fail;refine D.out.mono ?_;rintro e w1⟨rfl,c⟩;have f:=Aa c;go_wp2_with fail;go_ret;exact Dq.same o.out (Cu f.out _)
 ·rw[Ah k,Ah k]
  have y:=Aa (G0 t tv l p w h k);have o:=Aa h;go_enter func166,ntmps166;go_wp2_with fail;refine y.out.mono ?_;rintro e w1⟨rfl,rfl⟩;go_wp2_with fail;go_ret;exact Dq.same o.out (tU _ _)
def JR(m:Int):Prop:=m<0\/64<=m
instance (m:Int):Decidable (JR m):=by unfold JR;infer_instance
def Mh(l:List Pr)(p m:Int)(X:Int->Int->Pr)(B:Int->Int->Bool):List Pr:=if(0<=p/\p<l.length)/\JR m then l else Dn l p X B
def jd(l:List Pr)(p m:Int)(B:Int->Int->Bool):Int:=if(0<=p/\p<l.length)/\JR m then 2 else El l p B
theorem eN(t:Nat)(tv:tR)(l:List Pr)(p:Int)(b:Nat)(m:Int)(w:rO)(h:Tb w t tv l)(x:Cy w b #[I U m] 3):tT prog 112 #[J (Z ⟨t,0,N⟩),I U p,I U m,.func (.func 113) #[] #[J (Z ⟨b,0,N⟩)]] w (Dq t tv (Mh l p m (λs r=>(1,m)) (λs r=>s==0)) (jd l p m (λs r=>s==0)) w):=by
 have d:=Aa (VN t tv l p b m w h x);have u:=Aa h;unfold Mh jd;by_cases c:0<=p/\p<l.length
 ·obtain⟨i,rfl⟩:=AF c.1
  have v:i<l.length:=by omega
  obtain⟨a,cap,rfl⟩:=h.slice;obtain⟨y,g,rfl,c0,c1⟩:=h.at i v;have f:=Aa (JD t g _ cap l i w h v);by_cases hm:JR m
  ·rw[Ai ⟨c,hm⟩,Ai ⟨c,hm⟩]
   by_cases j:m<0
   ·have k:decide (m<0)=true:=by simpa using j
    go_enter func112,ntmps112;go_wp2_with fail;refine f.out.mono ?_;rintro e w1⟨rfl,rfl⟩;go_wp2_with fail;go_ret;exact Dq.same u.out (tU _ _)
   ·have k:decide (m<0)=false:=by simpa using j
    have n:decide (64<=m)=true:=by unfold JR at hm;simp;omega
    go_enter func112,ntmps112;go_wp2_with fail;refine f.out.mono ?_;rintro e w1⟨rfl,rfl⟩;go_wp2_with fail;go_ret;exact Dq.same u.out (tU _ _)
  ·rw[Ah (λh=>hm h.2),Ah (λh=>hm h.2)]
   have k:decide (m<0)=false:=by unfold JR at hm;simp;omega
   have n:decide (64<=m)=false:=by unfold JR at hm;simp;omega
   go_enter func112,ntmps112;go_wp2_with fail;refine f.out.mono ?_;rintro e w1⟨rfl,rfl⟩;go_wp2_with fail;refine d.out.mono ?_;rintro e w1⟨rfl,o⟩;have q:=Aa o;go_wp2_with fail;go_ret;exact⟨rfl,q.out⟩
 ·rw[Ah (λh=>c h.1),Ah (λh=>c h.1)]
  have f:=Aa (G0 t tv l p w h c);go_enter func112,ntmps112;go_wp2_with fail;refine f.out.mono ?_;rintro e w1⟨rfl,rfl⟩;go_wp2_with fail;refine d.out.mono ?_;rintro e w1⟨rfl,o⟩;have q:=Aa o;go_wp2_with fail;go_ret;exact⟨rfl,q.out⟩
theorem VO(t:Nat)(tv:tR)(l:List Pr)(p:Int)(w:rO)(h:Tb w t tv l):tT prog 301 #[J (Z ⟨t,0,N⟩),I U p] w (Dq t tv (Dn l p (λs a=>(2,a)) (λs a=>s==1)) (El l p (λs a=>s==1)) w):=by have b:=Aa (SG t tv l p w h);go_enter func301,ntmps301;go_wp2_with fail;refine b.out.mono ?_;rintro e w1⟨rfl,c⟩;have d:=Aa c;go_wp2_with fail;go_ret;exact⟨rfl,d.out⟩
theorem IF(t:Nat)(tv:tR)(l:List Pr)(p:Int)(w:rO)(h:Tb w t tv l):tT prog 172 #[J (Z ⟨t,0,N⟩),I U p] w (Dq t tv (Dn l p (λs b=>(0,-1)) (λs b=>s==1)) (El l p (λs b=>s==1)) w):=by have a:=Aa (OQ t tv l p w h);go_enter func172,ntmps172;go_wp2_with fail;refine a.out.mono ?_;rintro e w1⟨rfl,c⟩;have d:=Aa c;go_wp2_with fail;go_ret;exact⟨rfl,d.out⟩
theorem YP(t:Nat)(tv:tR)(l:List Pr)(p:Int)(w:rO)(h:Tb w t tv l):tT prog 173 #[J (Z ⟨t,0,N⟩),I U p] w (Dq t tv (Dn l p Iq (λs b=>F2 s)) (El l p (λs b=>F2 s)) w):=by have a:=Aa (VM t tv l p w h);go_enter func173,ntmps173;go_wp2_with fail;refine a.out.mono ?_;rintro e w1⟨rfl,c⟩;have d:=Aa c;go_wp2_with fail;go_ret;exact⟨rfl,d.out⟩
theorem j3(t:Nat)(tv:tR)(l:List Pr)(p:Int)(w:rO)(h:Tb w t tv l):tT prog 299 #[J (Z ⟨t,0,N⟩),I U p] w (Dq t tv (Dn l p (λs a=>eL a) (λs a=>s==3)) (El l p (λs a=>s==3)) w):=by have b:=Aa (eM t tv l p w h);go_enter func299,ntmps299;go_wp2_with fail;refine b.out.mono ?_;rintro e w1⟨rfl,c⟩;have d:=Aa c;go_wp2_with fail;go_ret;exact⟨rfl,d.out⟩
theorem ML{tv:tR}{l':List Pr}(c:tS w.heap.size w w1)(h: ∃a,Tb w' t a l'/\Cw (Tf t tv) w1 w'/\ ∀j,Tf t a j->Tf t tv j\/w1.heap.size<=j): ∃a,Tb w' t a l'/\Cw (Tf t tv) w w'/\ ∀j,Tf t a j->Tf t tv j\/w.heap.size<=j:=by obtain⟨a,d,e,f⟩:=h;exact⟨a,d,((Cw.refl (Tf t tv) w).below c).andThen e (λj _ b=>b),λj b=>(f j b).imp id (λx=>AA c.size x)⟩
theorem IG(t:Nat)(tv:tR)(l:List Pr)(p m:Int)(w:rO)(h:Tb w t tv l):tT prog 49 #[J (Z ⟨t,0,N⟩),I U p,I U m] w (Dq t tv (Mh l p m (λs a=>(1,m)) (λs a=>s==0)) (jd l p m (λs a=>s==0)) w):=by have b:=Aa (eN t tv l p w.heap.size m (w.alloc (uj #[I U m] 3)) (h.below (Cu (tU _ _) _)) (Cy.new w _ 3));go_enter func49,ntmps49;go_wp2_with fail;refine b.out.mono ?_;rintro e w1⟨rfl,c⟩;have d:=Aa (ML (Cu (tU _ _) _) c);go_wp2_with fail;go_ret;exact⟨rfl,d.out⟩
end Cx
namespace LZ
open Cx (Pr ys pz)
section
variable {w:rO}{b g n cap:Nat}{l:List Pr}{F:Nat->Int}
structure Bx (w:rO) (b:Nat) (v:tR) (l:List Pr) (F:Nat->Int):Prop where
 cs:Dz w b 65 213 (λi=>if i=0 then v else I U (F (i-1)))
 row:w.ownsRow 0 222 2 v l.length (ys l)
 ne:v.ownBlock≠Z b
 at_: ∀i,i<l.length->0<=(l[i]?.getD pz).1/\(l[i]?.getD pz).1<64/\F (l[i]?.getD pz).1.toNat=i
 idx: ∀k,k<64->F k= -1\/ ∃i:Nat,F k=i/\i<l.length/\(l[i]?.getD pz).1=k
def Bf(b:Nat)(v:tR)(j:Nat):Prop:=j=b\/v.ownBlock=Z j
theorem DW(b:Nat)(v:tR)(l:List Pr)(F:Nat->Int)(w:rO)(h:Bx w b v l F):tT prog 398 #[J (Z ⟨b,0,N⟩)] w λe c=>e=ui (I U l.length)/\w=c:=by
 have c0:=h.cs.cell (i:=0) (by decide);simp only[BD]at c0;obtain⟨a,cap,rfl⟩: ∃a cap,v= .slice a l.length cap:=by rcases C6 h.row with⟨rfl,d⟩|⟨g,cap,rfl,_⟩;exact⟨N,0,by rw[d]⟩;exact⟨_,cap,rfl⟩
 go_enter func398,ntmps398;go_wp2;go_ret;exact⟨rfl,rfl⟩
theorem Bx.cell(h:Bx w b (Y (Z ⟨g,0,N⟩) n cap) l F)(i:Nat)(c:i<l.length):w.cell? ⟨g,i*2,N⟩=Z (I U (l[i]?.getD pz).1)/\w.cell? ⟨g,i*2+1,N⟩=Z (I U (l[i]?.getD pz).2)/\g<w.heap.size/\n=l.length:=by
 rcases C6 h.row with⟨e,_⟩|⟨j,d,he,_,f,k,a⟩
 ·cases e
 ·cases he
  refine⟨?_,?_,f,rfl⟩
  ·rw[a _ (by omega),(Cx.YK l i c).1];rfl
  ·rw[a _ (by omega),(Cx.YK l i c).2];rfl
def VP(a b:Int):Int:=if a<b then-1 else if b<a then 1 else 0
theorem ni(a b:Int)(w:rO):tT prog 407 #[I U a,I U b] w λe f=>e=ui (I U (VP a b))/\w=f:=by
 unfold VP;by_cases c:a<b
 ·rw[Ai c]
  have d1:decide (a<b)=true:=by simpa using c
  go_enter func407,ntmps407;go_wp2;go_ret;exact⟨rfl,rfl⟩
 ·rw[Ah c]
  have d1:decide (a<b)=false:=by simpa using c
  by_cases d:b<a
  ·rw[Ai d]
   have d2:decide (b<a)=true:=by simpa using d
   go_enter func407,ntmps407;go_wp2;go_ret;exact⟨rfl,rfl⟩
  ·rw[Ah d]
   have d2:decide (b<a)=false:=by simpa using d
   go_enter func407,ntmps407;go_wp2;go_ret;exact⟨rfl,rfl⟩
theorem j4(a b:Int)(w:rO):tT prog 408 #[I U a,I U b] w λe f=>e=ui (I U (VP a b))/\w=f:=by
 unfold VP;by_cases c:a<b
 ·rw[Ai c]
  have d1:decide (a<b)=true:=by simpa using c
  go_enter func408,ntmps408;go_wp2;go_ret;exact⟨rfl,rfl⟩
 ·rw[Ah c]
  have d1:decide (a<b)=false:=by simpa using c
  by_cases d:b<a
  ·rw[Ai d]
   have d2:decide (b<a)=true:=by simpa using d
   go_enter func408,ntmps408;go_wp2;go_ret;exact⟨rfl,rfl⟩
  ·rw[Ah d]
   have d2:decide (b<a)=false:=by simpa using d
   go_enter func408,ntmps408;go_wp2;go_ret;exact⟨rfl,rfl⟩
def OR(w:rO)(e:uh)(w':rO):Prop:= ∃x:Int,e=ui (I U x)/\tS w.heap.size w w'
def Qe(w:rO)(e:uh)(w':rO):Prop:= ∃x:Bool,e=ui (ue x)/\tS w.heap.size w w'
theorem j5(g:Nat)(x y:Int)(w:rO)(c0:w.cell? ⟨g,0,N⟩=Z (I U x))(c1:w.cell? ⟨g,1,N⟩=Z (I U y)):tT prog 406 #[Y (Z ⟨g,0,N⟩) 2 2] w (OR w):=by
 by_cases a:x=0
 ·subst a
  by_cases hy:y=0
  ·subst hy
   go_enter func406,ntmps406;go_wp2;refine wp_loop_rounds 3 ?_;rw[rounds_succ];go_wp2;rw[rounds_succ];go_wp2;rw[rounds_succ];go_wp2;go_ret;exact⟨0,rfl,tU _ _⟩
  ·have d:(y !=0)=true:=by simpa using hy
   go_enter func406,ntmps406;go_wp2;refine wp_loop_rounds 2 ?_;rw[rounds_succ];go_wp2;rw[rounds_succ];go_wp2;go_ret;exact⟨y,rfl,tU _ _⟩
 ·have d:(x !=0)=true:=by simpa using a
  go_enter func406,ntmps406;go_wp2;refine wp_loop_rounds 1 ?_;rw[rounds_succ];go_wp2;go_ret;exact⟨x,rfl,tU _ _⟩
theorem j6{x y:Int}{t:uf}(h:Cy w g #[I U x,I U y] t):tT prog 406 #[Y (Z ⟨g,0,N⟩) 2 2] w (OR w):=j5 g x y w (h.cell 0) (h.cell 1)
theorem Qg(a b c d:Int)(w:rO):tT prog 405 #[uk #[I U a,I U b],uk #[I U c,I U d]] w (OR w):=by
 have i:w.heap.size<w.heap.size+1+1+1:=by omega
 have j:w.heap.size<w.heap.size+1+1:=by omega
 go_enter func405,ntmps405;go_wp2;go_region_held3(λf=>f.cell? ⟨w.heap.size,0,N⟩=Z (I U a)/\f.cell? ⟨w.heap.size,1,N⟩=Z (I U b)/\f.cell? ⟨w.heap.size+1,0,N⟩=Z (I U c)/\f.cell? ⟨w.heap.size+1,1,N⟩=Z (I U d)) (go_keep) (first|(go_at_call 407;refine(ni _ _ _).mono ?_;rintro e g⟨rfl,rfl⟩)|(go_at_call 408;refine(j4 _ _ _).mono ?_;rintro e g⟨rfl,rfl⟩)|(go_at_call 406;refine(j6 (Cy.drew (Cy.ID #[I U (VP b d),I U (VP a c)] 3 (by simp)))).mono ?_;rintro e g⟨x,rfl,h⟩;obtain⟨c1,f1⟩:=FC h));go_wp2;go_ret;exact⟨x,rfl,Cv (Cu (Cu (Cu (tU _ _) _) _) _) (Gj h)⟩
theorem YQ(b g n cap:Nat)(l:List Pr)(F:Nat->Int)(i j:Nat)(w:rO)(h:Bx w b (Y (Z ⟨g,0,N⟩) n cap) l F)(d:i<l.length)(f:j<l.length):tT prog 401 #[J (Z ⟨b,0,N⟩),I U i,I U j] w (Qe w):=by
 obtain⟨i0,i1,k,rfl⟩:=h.cell i d;obtain⟨m,o,_,_⟩:=h.cell j f;have c0:=h.cs.cell (i:=0) (by decide);simp only[BD]at c0;have p:=h.cs.lt;have q:(i:Int)<(l.length:Int):=by omega
 have r:(j:Int)<(l.length:Int):=by omega
 generalize l[i]?.getD pz=x at*
 generalize l[j]?.getD pz=y at*
 generalize l.length=n at*
 go_enter func401,ntmps401;go_wp2;go_region_held3(λa=>a.cell? ⟨b,0,N⟩=Z (Y (Z ⟨g,0,N⟩) n cap)/\a.cell? ⟨g,i*2,N⟩=Z (I U x.1)/\a.cell? ⟨g,i*2+1,N⟩=Z (I U x.2)/\a.cell? ⟨g,j*2,N⟩=Z (I U y.1)/\a.cell? ⟨g,j*2+1,N⟩=Z (I U y.2)) (go_keep) (first|(go_at_call 405;refine(Qg _ _ _ _ _).mono ?_;rintro e s⟨z,rfl,c⟩;obtain⟨c1,f1⟩:=FC (Gj c)));go_wp2;go_ret;exact⟨_,rfl,Gj c⟩
theorem YR{e:uf}(h:w.ownsRow 0 e 2 (Y (Z ⟨g,0,N⟩) n cap) l.length (ys l))(i:Nat)(b:i<l.length)(x:Pr):((w.setCell ⟨g,i*2,N⟩ (I U x.1)).setCell ⟨g,i*2+1,N⟩ (I U x.2)).ownsRow 0 e 2 (Y (Z ⟨g,0,N⟩) n cap) (l.set i x).length (ys (l.set i x)):=by
 obtain⟨p,⟨c,_⟩|⟨q,a,cur,he,d,f,j,hm,k,m⟩⟩:=h
 ·cases c
 ·simp only[As,Ak,BN]at he
  obtain⟨⟨rfl,_⟩,rfl,rfl⟩:=he;have o:Cy w g cur e:=f;refine⟨by rw[AX,Cx.MJ,AX],.inr ⟨g,cap,_,by rw[AX],d,(o.set (i*2) (I U x.1)).set (i*2+1) (I U x.2),by rw[AX];exact j,hm,by simpa using k,?_⟩⟩;rw[AX,Cx.YO l x i b,<-m];simp[Zcc]
theorem Mi{e:uf}(h:w.ownsRow 0 e 2 (Y (Z ⟨g,0,N⟩) n cap) l.length (ys l))(i:Nat):w.frozen? ⟨g,i,N⟩=false:=by
 obtain⟨f,⟨b,_⟩|⟨j,a,cur,he,k,c,m,hm,o,p⟩⟩:=h
 ·cases b
 ·simp only[As,Ak,BN]at he
  obtain⟨⟨rfl,_⟩,rfl,rfl⟩:=he;have d:Cy w g cur e:=c;exact d.free i
def JE(l:List Pr)(i j:Nat):List Pr:=(l.set i (l[j]?.getD pz)).set j (l[i]?.getD pz)
def Kh(F:Nat->Int)(l:List Pr)(i j:Nat):Nat->Int:=λk=>if k=(l[i]?.getD pz).1.toNat then j else if k=(l[j]?.getD pz).1.toNat then i else F k
def nj(b:Nat)(v:tR)(l:List Pr)(F:Nat->Int)(w:rO)(e:uh)(w':rO):Prop:=e=ui (uo #[])/\Bx w' b v l F/\Cw (Bf b v) w w'
def Qh(b g i j kx a:Nat)(x2 c:Int)(w:rO):World:=(((((w.setCell ⟨g,i*2,N⟩ (I U a)).setCell ⟨g,i*2+1,N⟩ (I U c)).setCell ⟨g,j*2,N⟩ (I U kx)).setCell ⟨g,j*2+1,N⟩ (I U x2)).setCell ⟨b,1+a,N⟩ (I U i)).setCell ⟨b,1+kx,N⟩ (I U j)
theorem VQ(b g n cap i j kx a:Nat)(x2 f h k:Int)(w:rO)(c0:w.cell? ⟨b,0,N⟩=Z (Y (Z ⟨g,0,N⟩) n cap))(i0:w.cell? ⟨g,i*2,N⟩=Z (I U kx))(i1:w.cell? ⟨g,i*2+1,N⟩=Z (I U x2))(s:w.cell? ⟨g,j*2,N⟩=Z (I U a))(t:w.cell? ⟨g,j*2+1,N⟩=Z (I U f))(f1:w.frozen? ⟨g,i*2,N⟩=tY)(f2:w.frozen? ⟨g,i*2+1,N⟩=tY)(f3:w.frozen? ⟨g,j*2,N⟩=tY)(f4:w.frozen? ⟨g,j*2+1,N⟩=tY)(a1:w.cell? ⟨b,1+a,N⟩=Z (I U k))(a2:w.cell? ⟨b,1+kx,N⟩=Z (I U h))(f5:w.frozen? ⟨b,1+a,N⟩=tY)(f6:w.frozen? ⟨b,1+kx,N⟩=tY)(l: ¬g=b)(m: ¬b=g)(o:i<n)(p:j<n)(c:i≠j)(u:kx<64)(hy:a<64)(d:kx≠a):tT prog 404 #[J (Z ⟨b,0,N⟩),I U i,I U j] w λe q=>e=ui (uo #[])/\q=(Qh b g i j kx a x2 f w).drew.drew:=by
 have v:(i:Int)<(n:Int):=by omega
 have x:(j:Int)<(n:Int):=by omega
 have y:(kx:Int)<64:=by omega
 have z:(a:Int)<64:=by omega
 have A: ¬i*2=j*2:=by omega
 have B: ¬j*2=i*2:=by omega
 have n3: ¬i*2+1=j*2:=by omega
 have n4: ¬j*2=i*2+1:=by omega
 have C: ¬i*2=j*2+1:=by omega
 have n6: ¬j*2+1=i*2:=by omega
 have D: ¬i=j:=c;have E: ¬j=i:=λe=>c e.symm;have F: ¬kx=a:=d;have r: ¬a=kx:=λe=>d e.symm;unfold Qh;go_enter func404,ntmps404;go_wp2;go_region
 go_wp2;go_region
 go_end0;exact⟨rfl,rfl⟩
theorem Bx.drew{v:tR}(h:Bx w b v l F):Bx w.drew b v l F:=⟨h.cs,h.row,h.ne,h.at_,h.idx⟩
theorem Jc(l:List Pr)(i j:Nat):(JE l i j).length=l.length:=by simp[JE]
theorem FH(l:List Pr)(i j k:Nat)(c:i<l.length)(d:j<l.length):(JE l i j)[k]?.getD pz=if k=j then l[i]?.getD pz else if k=i then l[j]?.getD pz else l[k]?.getD pz:=by
 unfold JE;by_cases a:k=j
 ·subst a;rw[Ai rfl,Aj (by simpa using d)];rfl
 ·rw[Ah a,Ao (λe=>a e.symm)]
  by_cases b:k=i
  ·subst b;rw[Ai rfl,Aj c];rfl
  ·rw[Ah b,Ao (λe=>b e.symm)]
theorem Bx.swap(h:Bx w b (Y (Z ⟨g,0,N⟩) n cap) l F){i j kx c:Nat}{x2 y:Int}(p:i<l.length)(q:j<l.length)(t:i≠j)(r:l[i]?.getD pz=((kx:Int),x2))(s:l[j]?.getD pz=((c:Int),y)):Bx (Qh b g i j kx c x2 y w) b (Y (Z ⟨g,0,N⟩) n cap) (JE l i j) (Kh F l i j):=by
 have a:g≠b:=λe=>h.ne (by rw[e];rfl);obtain⟨A,B,z⟩:=h.at_ i p;obtain⟨C,D,y3⟩:=h.at_ j q;rw[r]at A B z;rw[s]at C D y3;simp only[Am]at z y3;have u:kx≠c:=λe=>t (by rw[e,y3]at z;omega);unfold Qh;refine⟨?_,?_,h.ne,?_,?_⟩
 ·refine(((((((h.cs.setOther (Cb a) _).setOther (Cb a) _).setOther (Cb a) _).setOther (Cb a) _).set (i:=1+c) (by omega) _).set (i:=1+kx) (by omega) _)).congr λk d=>?_
  simp only[Kh,r,s,Am];by_cases f:k=1+kx
  ·subst f;simp
  ·rw[Ah f]
   by_cases o:k=1+c
   ·subst o
    simp[show¬c=kx from λe=>u e.symm]
   ·rw[Ah o]
    by_cases E:k=0
    ·simp[E]
    ·have v: ¬k-1=kx:=by omega
     have a2: ¬k-1=c:=by omega
     simp[E,v,a2]
 ·have r1:=YR h.row i p ((c:Int),y)
  have G:=YR r1 j (by simpa using q) ((kx:Int),x2);have H:(l.set i ((c:Int),y)).set j ((kx:Int),x2)=JE l i j:=by unfold JE;rw[r,s]
  rw[<-H];exact De (De G ((Cw.refl (λk=>k=b) _).set (.inr rfl) _ _) (λk d e=>a (by cases d;exact e))) ((Cw.refl (λk=>k=b) _).set (.inr rfl) _ _) (λk d e=>a (by cases d;exact e))
 ·intro k d
  rw[Jc]at d;rw[FH l i j k p q];simp only[Kh,r,s,Am];by_cases f:k=j
  ·subst f;rw[Ai rfl];exact⟨A,B,by simp⟩
  ·rw[Ah f]
   by_cases o:k=i
   ·subst o;rw[Ai rfl];exact⟨C,D,by simp[show¬c=kx from λe=>u e.symm]⟩
   ·rw[Ah o]
    obtain⟨z0,K,z2⟩:=h.at_ k d;refine⟨z0,K,?_⟩;have v: ¬(l[k]?.getD pz).1.toNat=kx:=λe=>by rw[e,z]at z2;omega
    have a2: ¬(l[k]?.getD pz).1.toNat=c:=λe=>by rw[e,y3]at z2;omega
    rw[Ah v,Ah a2];exact z2
 ·intro k d
  simp only[Kh,r,s,Am,Jc];by_cases f:k=kx
  ·subst f;exact .inr ⟨j,by simp,q,by rw[FH l i j j p q,Ai rfl,r]⟩
  ·rw[Ah f]
   by_cases o:k=c
   ·subst o;exact .inr ⟨i,by simp,p,by rw[FH l i j i p q,Ah t,Ai rfl,s]⟩
   ·rw[Ah o]
    rcases h.idx k d with L|⟨m,M,O,x⟩
    ·exact .inl L
    ·refine .inr ⟨m,M,O,?_⟩
     have v: ¬m=j:=λe=>o (by subst e;rw[s]at x;simp at x;omega);have a2: ¬m=i:=λe=>f (by subst e;rw[r]at x;simp at x;omega);rw[FH l i j m p q,Ah v,Ah a2];exact x
theorem Qi(b g n cap:Nat)(l:List Pr)(F:Nat->Int)(i j:Nat)(w:rO)(h:Bx w b (Y (Z ⟨g,0,N⟩) n cap) l F)(o:i<l.length)(p:j<l.length)(a:i≠j):tT prog 404 #[J (Z ⟨b,0,N⟩),I U i,I U j] w (nj b (Y (Z ⟨g,0,N⟩) n cap) (JE l i j) (Kh F l i j) w):=by obtain⟨y,z,q⟩:=h.at_ i o;obtain⟨A,B,y3⟩:=h.at_ j p;obtain⟨f,c,s⟩: ∃(k:Nat)(c:Int),l[i]?.getD pz=((k:Int),c):=⟨(l[i]?.getD pz).1.toNat,(l[i]?.getD pz).2,Prod.ext (by simp;omega) rfl⟩;obtain⟨m,C,t⟩: ∃(k:Nat)(c:Int),l[j]?.getD pz=((k:Int),c):=⟨(l[j]?.getD pz).1.toNat,(l[j]?.getD pz).2,Prod.ext (by simp;omega) rfl⟩;obtain⟨i0,i1,D,E⟩:=h.cell i o;obtain⟨u,v,_,_⟩:=h.cell j p;rw[s]at i0 i1 y z q;rw[t]at u v A B y3;simp only[Am]at q y3;have r:f≠m:=λe=>a (by rw[e,y3]at q;omega);have d: ¬g=b:=λe=>h.ne (by rw[e];rfl);have c0:=h.cs.cell (i:=0) (by decide);simp only[BD]at c0;have x:=h.cs.cell (i:=1+m) (by omega);have a2:=h.cs.cell (i:=1+f) (by omega);simp only[show¬1+m=0 by omega,show¬1+f=0 by omega,Bn]at x a2;refine(VQ b g n cap i j f m c C _ _ w c0 i0 i1 u v (Mi h.row _) (Mi h.row _) (Mi h.row _) (Mi h.row _) x a2 (h.cs.free _) (h.cs.free _) d (λe=>d e.symm) (by omega) (by omega) a (by omega) (by omega) r).mono ?_;rintro e G⟨rfl,rfl⟩;refine⟨rfl,((h.swap o p a s t).drew).drew,?_⟩;unfold Qh;exact((((((((Cw.refl (Bf b (Y (Z ⟨g,0,N⟩) n cap)) w).set (.inr (.inr rfl)) _ _).set (.inr (.inr rfl)) _ _).set (.inr (.inr rfl)) _ _).set (.inr (.inr rfl)) _ _).set (.inr (.inl rfl)) _ _).set (.inr (.inl rfl)) _ _).drew).drew
end
section
variable {b n m g c cap:Nat}{v:tR}{D:Nat->Option Int}{q:Pr}{w w':rO}
theorem j7(a:Addr)(w:rO):(method 571 224 (J (Z a)) "Len").run prog w= .ok (398,J (Z a)) w:=by kernel_rfl
theorem je(a:Addr)(w:rO):(method 571 224 (J (Z a)) "Less").run prog w= .ok (401,J (Z a)) w:=by kernel_rfl
theorem YS(a:Addr)(w:rO):(method 571 224 (J (Z a)) "Swap").run prog w= .ok (404,J (Z a)) w:=by kernel_rfl
theorem nk(a:Addr)(w:rO):(method 571 224 (J (Z a)) "Push").run prog w= .ok (403,J (Z a)) w:=by kernel_rfl
theorem qy(a:Addr)(w:rO):(method 571 224 (J (Z a)) "Pop").run prog w= .ok (402,J (Z a)) w:=by kernel_rfl
structure Hx (b:Nat) (v:tR) (D:Nat->Option Int) (n m:Nat) (q:Pr) (w:rO):Prop where
 bx: ∃l F,Bx w b v l F/\l.length=n/\(∀i,i<n->D (l[i]?.getD pz).1.toNat=Z (l[i]?.getD pz).2)/\(∀k,k<64->F k= -1->D k=N)/\(m<n->l[m]?.getD pz=q)
theorem Hx.only{S:Nat->Prop}(h:Hx b v D n m q w)(o:Cw S w w')(c: ∀j,Bf b v j-> ¬S j):Hx b v D n m q w':=by obtain⟨l,F,a,r⟩:=h.bx;exact⟨l,F,⟨a.cs.only o (c b (.inl rfl)),De a.row o (λj d=>c j (.inr d)),a.ne,a.at_,a.idx⟩,r⟩
theorem Hx.below(h:Hx b v D n m q w)(o:tS w.heap.size w w'):Hx b v D n m q w':=h.only (S:=λ_=>False) ((Cw.refl _ w).below o) (λ_ _ x=>x)
theorem Hx.less(h:Hx b (Y (Z ⟨g,0,N⟩) c cap) D n m q w)(i j:Nat)(d:i<n)(e:j<n):tT prog 401 #[J (Z ⟨b,0,N⟩),I U i,I U j] w (Qe w):=by obtain⟨l,F,a,f,r⟩:=h.bx;exact YQ b g c cap l F i j w a (by omega) (by omega)
def Ur(b:Nat)(v:tR)(D:Nat->Option Int)(n m:Nat)(q:Pr)(w:rO)(e:uh)(w':rO):Prop:=e=ui (uo #[])/\Hx b v D n m q w'/\Cw (Bf b v) w w'
theorem Hx.swap(h:Hx b (Y (Z ⟨g,0,N⟩) c cap) D n m q w)(i j:Nat)(y:i<n)(z:j<n)(r:i≠j)(s:i≠m)(t:j≠m):tT prog 404 #[J (Z ⟨b,0,N⟩),I U i,I U j] w (Ur b (Y (Z ⟨g,0,N⟩) c cap) D n m q w):=by
 obtain⟨l,F,A,B,u,C,E⟩:=h.bx;have a:i<l.length:=by omega
 have d:j<l.length:=by omega
 refine(Qi b g c cap l F i j w A a d r).mono ?_;rintro e w'⟨rfl,v,G⟩;refine⟨rfl,⟨JE l i j,Kh F l i j,v,by rw[Jc];exact B,?_,?_,?_⟩,G⟩
 ·intro k x
  rw[FH l i j k a d];by_cases o:k=j
  ·rw[Ai o];exact u i y
  ·rw[Ah o]
   by_cases p:k=i
   ·rw[Ai p];exact u j z
   ·rw[Ah p];exact u k x
 ·intro k x f
  unfold Kh at f;by_cases o:k=(l[i]?.getD pz).1.toNat
  ·rw[Ai o]at f;omega
  ·rw[Ah o]at f
   by_cases p:k=(l[j]?.getD pz).1.toNat
   ·rw[Ai p]at f;omega
   ·rw[Ah p]at f;exact C k x f
 ·intro hm
  rw[FH l i j m a d,Ah (λe=>t e.symm),Ah (λe=>s e.symm)];exact E hm
theorem SH(b g c cap:Nat)(D:Nat->Option Int)(n m:Nat)(q:Pr)(j:Nat)(w:rO)(h:Hx b (Y (Z ⟨g,0,N⟩) c cap) D n m q w)(F:j<n)(hm:j<m)(G:n<=64):tT prog 195 #[.iface 224 (J (Z ⟨b,0,N⟩)),I U j] w (Ur b (Y (Z ⟨g,0,N⟩) c cap) D n m q w):=by
 have v:=je ⟨b,0,N⟩;have y:=YS ⟨b,0,N⟩;go_enter func195,ntmps195;go_wp2;go_loopw [1] (λt wr=> ∃k:Nat,k<=j/\t=I U k/\Hx b (Y (Z ⟨g,0,N⟩) c cap) D n m q wr/\Cw (Bf b (Y (Z ⟨g,0,N⟩) c cap)) w wr) (λt _=>(intOf t).toNat)
 case atStart=>exact⟨j,Al _,rfl,h,Cw.refl _ _⟩
 case round=>
  obtain⟨k,H,rfl,r,s⟩:=hrel;have l:=Aa r;have o:=Aa s;clear r s h;by_cases z:k=0
  ·subst z
   go_wp2;go_end0;exact⟨rfl,l.out,o.out⟩
  ·obtain⟨i,A⟩: ∃i:Nat,i=(k-1)/2:=⟨_,rfl⟩
   have B:i<k:=by omega
   have K:((k:Int)-1)/2=i:=by omega
   have C:((i:Int)==(k:Int))=false:=by rw[Az];omega
   have E:=Aa (l.out.less k i (by omega) (by omega));have L:(1:Int)<=k:=by omega
   clear A;go_wp2_with(first|(go_at_call 401;refine E.out.mono ?_;rintro e M⟨x,rfl,a⟩))
   ·go_end0
    exact⟨rfl,l.out.below a,o.out.below a⟩
   ·refine((l.out.below a).swap i k (by omega) (by omega) (by omega) (by omega) (by omega)).mono ?_
    rintro e u⟨rfl,d,f⟩;have p:Hid (i<=j/\Hx b (Y (Z ⟨g,0,N⟩) c cap) D n m q u/\Cw (Bf b (Y (Z ⟨g,0,N⟩) c cap)) w u):=⟨by omega,d,(o.out.below a).trans f⟩;clear d f a;go_wp2;go_roundw
    case rel=>exact⟨i,p.out.1,rfl,p.out.2.1,p.out.2.2⟩
    case measure=>simp[intOf];omega
def nt(b:Nat)(v:tR)(D:Nat->Option Int)(n m:Nat)(q:Pr)(w:rO)(e:uh)(w':rO):Prop:= ∃x:Bool,e=ui (ue x)/\Hx b v D n m q w'/\Cw (Bf b v) w w'
theorem Qj(b g c cap:Nat)(D:Nat->Option Int)(n m:Nat)(q:Pr)(i0 n0:Nat)(w:rO)(h:Hx b (Y (Z ⟨g,0,N⟩) c cap) D n m q w)(O:i0<n0)(aa:n0<=n)(hm:n0<=m)(hn:n<=64):tT prog 194 #[.iface 224 (J (Z ⟨b,0,N⟩)),I U i0,I U n0] w (nt b (Y (Z ⟨g,0,N⟩) c cap) D n m q w):=by
 have ab:=je ⟨b,0,N⟩;have ad:=YS ⟨b,0,N⟩;go_enter func194,ntmps194;go_wp2;go_loopw [7] (λt wr=> ∃k:Nat,k<n0/\t=I U k/\Hx b (Y (Z ⟨g,0,N⟩) c cap) D n m q wr/\Cw (Bf b (Y (Z ⟨g,0,N⟩) c cap)) w wr) (λt _=>n0-(intOf t).toNat)
 case atStart=>exact⟨i0,O,rfl,h,Cw.refl _ _⟩
 case round=>
  obtain⟨k,hk,rfl,T,V⟩:=hrel;have F:=Aa T;have P:=Aa V;clear T V h;obtain⟨o,v⟩: ∃j:Nat,j=2*k+1:=⟨_,rfl⟩;obtain⟨s,z⟩: ∃j:Nat,j=2*k+2:=⟨_,rfl⟩;have e1:2*(k:Int)+1=o:=by omega
  have e2:(o:Int)+1=s:=by omega
  have d0:decide ((o:Int)<0)=false:=by simp
  by_cases Q:o<n0
  ·have d1:decide (n0<=o)=false:=by simp;omega
   have A:=Aa (λW(B:Hx b (Y (Z ⟨g,0,N⟩) c cap) D n m q W)=>B.less o k (by omega) (by omega));have G:=Aa (λW(B:Hx b (Y (Z ⟨g,0,N⟩) c cap) D n m q W)=>B.swap k o (by omega) (by omega) (by omega) (by omega) (by omega));by_cases M:s<n0
   ·have d2:decide (s<n0)=true:=by simpa using M
    have H:=Aa (F.out.less s o (by omega) (by omega));have R:=Aa (λW(B:Hx b (Y (Z ⟨g,0,N⟩) c cap) D n m q W)=>B.less s k (by omega) (by omega));have S:=Aa (λW(B:Hx b (Y (Z ⟨g,0,N⟩) c cap) D n m q W)=>B.swap k s (by omega) (by omega) (by omega) (by omega) (by omega));have C:=Aa (show(k<o/\k<s)/\o<n0/\s<n0 by omega);clear v z Q M;go_wp2_with(first|(go_at_call 401;refine H.out.mono ?_;rintro e w1⟨x,rfl,E⟩;have u:=Aa (F.out.below E);have K:=Aa (P.out.below E);clear E H))
    ·skip
     refine(R.out _ u.out).mono ?_;rintro e X⟨y,rfl,a⟩;have d:=Aa (u.out.below a);have f:=Aa (K.out.below a);clear a;cases y
     ·go_wp2
      go_ret;exact⟨_,rfl,d.out,f.out⟩
     ·go_wp2_with(first|(go_at_call 404;refine(S.out _ d.out).mono ?_;rintro e w3⟨rfl,i,l⟩;have p:=Aa i;have r:=Aa (f.out.trans l);clear i l))
      go_roundw
      case rel=>exact⟨s,by have:=C.out;omega,rfl,p.out,r.out⟩
      case measure=>have:=C.out;simp[intOf];omega
    ·skip
     refine(A.out _ u.out).mono ?_;rintro e X⟨y,rfl,a⟩;have d:=Aa (u.out.below a);have f:=Aa (K.out.below a);clear a;cases y
     ·go_wp2
      go_ret;exact⟨_,rfl,d.out,f.out⟩
     ·go_wp2_with(first|(go_at_call 404;refine(G.out _ d.out).mono ?_;rintro e w3⟨rfl,i,l⟩;have p:=Aa i;have r:=Aa (f.out.trans l);clear i l))
      go_roundw
      case rel=>exact⟨o,by have:=C.out;omega,rfl,p.out,r.out⟩
      case measure=>have:=C.out;simp[intOf];omega
   ·have d2:decide (s<n0)=false:=by simpa using M
    have C:=Aa (show k<o/\o<n0 by omega);have L:=Aa (A.out _ F.out);clear v z Q M A;go_wp2_with(first|(go_at_call 401;refine L.out.mono ?_;rintro e X⟨y,rfl,a⟩;have d:=Aa (F.out.below a);have f:=Aa (P.out.below a);clear a L))
    ·go_ret
     exact⟨_,rfl,d.out,f.out⟩
    ·refine(G.out _ d.out).mono ?_
     rintro e w3⟨rfl,i,l⟩;have p:=Aa i;have r:=Aa (f.out.trans l);clear i l;go_wp2;go_roundw
     case rel=>exact⟨o,by have:=C.out;omega,rfl,p.out,r.out⟩
     case measure=>have:=C.out;simp[intOf];omega
  ·have d1:decide (n0<=o)=true:=by simp;omega
   clear v z e2 Q;go_wp2;go_ret;exact⟨_,rfl,F.out,P.out⟩
theorem Hx.len(h:Hx b v D n m q w):tT prog 398 #[J (Z ⟨b,0,N⟩)] w λe w'=>e=ui (I U n)/\w=w':=by obtain⟨l,F,a,c,r⟩:=h.bx;have:=DW b v l F w a;rwa [c]at this
theorem eO(b g c cap:Nat)(D:Nat->Option Int)(n m:Nat)(q:Pr)(i:Nat)(w:rO)(h:Hx b (Y (Z ⟨g,0,N⟩) c cap) D n m q w)(f:i<n)(hm:n<=m)(j:n<=64):tT prog 346 #[.iface 224 (J (Z ⟨b,0,N⟩)),I U i] w (Ur b (Y (Z ⟨g,0,N⟩) c cap) D n m q w):=by
 have t:=j7 ⟨b,0,N⟩;have u:=Aa h.len;have v:=Aa (Qj b g c cap D n m q i n w h f (Al _) hm j);have y:=Aa (λW(z:Hx b (Y (Z ⟨g,0,N⟩) c cap) D n m q W)=>SH b g c cap D n m q i W z f (by omega) j);clear h f hm j;go_enter func346,ntmps346;go_wp2_with(first|(go_at_call 398;refine u.out.mono ?_;rintro e A⟨rfl,rfl⟩)|(go_at_call 194;refine v.out.mono ?_;rintro e B⟨x,rfl,o,p⟩;have r:=Aa o;have s:=Aa p;clear o p))
 ·refine(y.out _ r.out).mono ?_
  rintro e C⟨rfl,a,d⟩;have k:=Aa a;have l:=Aa (s.out.trans d);clear a d;go_wp2;go_end0;exact⟨rfl,k.out,l.out⟩
 ·go_end0
  exact⟨rfl,r.out,s.out⟩
end
section
variable {w:rO}{g n cap b:Nat}{l:List Pr}
theorem YT(b g n cap kx:Nat)(x2 a:Int)(w:rO)(c0:w.cell? ⟨b,0,N⟩=Z (Y (Z ⟨g,0,N⟩) (n+1) cap))(f0:w.frozen? ⟨b,0,N⟩=tY)(i0:w.cell? ⟨g,n*2,N⟩=Z (I U kx))(i1:w.cell? ⟨g,n*2+1,N⟩=Z (I U x2))(a1:w.cell? ⟨b,1+kx,N⟩=Z (I U a))(f1:w.frozen? ⟨b,1+kx,N⟩=tY)(c: ¬g=b)(d: ¬b=g)(h:b<w.heap.size)(i:g<w.heap.size)(j:kx<64)(k:n<64)(l:n+1<=cap):tT prog 402 #[J (Z ⟨b,0,N⟩)] w λe f=>e=ui (.iface 222 (uk #[I U kx,I U x2]))/\f=(((w.setCell ⟨b,0,N⟩ (Y (Z ⟨g,0,N⟩) n cap)).setCell ⟨b,1+kx,N⟩ (I U (-1))).alloc (uj #[I U kx,I U x2] 222)).drew:=by
 have m:(kx:Int)<64:=by omega
 have o:(n:Int)<=(cap:Int):=by omega
 have p:(n:Int)+1-1=n:=by omega
 have q:(n:Int)<(n:Int)+1:=by omega
 go_enter func402,ntmps402;go_wp2;go_region
 go_wp2;go_ret;exact⟨rfl,rfl⟩
theorem j8{e:uf}{q:Pr}(h:w.ownsRow 0 e 2 (Y (Z ⟨g,0,N⟩) n cap) (l++[q]).length (ys (l++[q]))):w.ownsRow 0 e 2 (Y (Z ⟨g,0,N⟩) l.length cap) l.length (ys l):=by
 obtain⟨k,⟨c,_⟩|⟨m,a,cur,he,d,f,i,hm,j,b⟩⟩:=h
 ·cases c
 ·simp only[As,Ak,BN]at he
  obtain⟨⟨rfl,_⟩,rfl,rfl⟩:=he;simp only[Au,Av,AG]at i hm b;refine⟨Cx.MJ l,.inr ⟨g,cap,cur,rfl,d,f,by omega,hm,j,?_⟩⟩;have:=Aq (List.take (l.length*2)) b;rw[Za7,Cx.KX,List.take_left' (Cx.MJ l)]at this;rw[<-this];congr 1;omega
theorem Gn(l:List Pr)(q:Pr)(i:Nat)(h:i<l.length):(l++[q])[i]?.getD pz=l[i]?.getD pz:=by rw[Aw h]
theorem IH(l:List Pr)(q:Pr):(l++[q])[l.length]?.getD pz=q:=by simp
theorem Bx.pop{q:Pr}{F:Nat->Int}{kx:Nat}(h:Bx w b (Y (Z ⟨g,0,N⟩) n cap) (l++[q]) F)(j:q.1=kx):Bx ((w.setCell ⟨b,0,N⟩ (Y (Z ⟨g,0,N⟩) l.length cap)).setCell ⟨b,1+kx,N⟩ (I U (-1))) b (Y (Z ⟨g,0,N⟩) l.length cap) l (λk=>if k=kx then-1 else F k):=by
 have d:g≠b:=λe=>h.ne (by rw[e];rfl);obtain⟨s,t,f⟩:=h.at_ l.length (by simp);rw[IH,j]at s t f;simp only[Am]at f;refine⟨?_,?_,h.ne,?_,?_⟩
 ·refine((h.cs.set (i:=0) (by decide) _).set (i:=1+kx) (by omega) _).congr λk a=>?_
  by_cases c:k=1+kx
  ·subst c;simp
  ·rw[Ah c]
   by_cases o:k=0
   ·simp[o]
   ·have u: ¬k-1=kx:=by omega
    simp[o,u]
 ·exact De (De (j8 h.row) ((Cw.refl (λk=>k=b) _).set (.inr rfl) _ _) (λk a e=>d (by cases a;exact e))) ((Cw.refl (λk=>k=b) _).set (.inr rfl) _ _) (λk a e=>d (by cases a;exact e))
 ·intro i v
  obtain⟨z0,p,z2⟩:=h.at_ i (by simp;omega);rw[Gn l q i v]at z0 p z2;refine⟨z0,p,?_⟩;rw[Ah (λe=>by rw[e,f]at z2;omega)];exact z2
 ·intro k a
  by_cases c:k=kx
  ·exact .inl (Ai c)
  ·simp only[Ah c]
   rcases h.idx k a with x|⟨m,y,z,r⟩
   ·exact .inl x
   ·have hm:m<l.length:=by
     rcases Bc m l.length with hm|hm
     ·exact hm
     ·obtain rfl:m=l.length:=by simp at z;omega
      rw[IH,j]at r;exact absurd (by omega) c
    exact .inr ⟨m,y,hm,by rw[<-Gn l q m hm];exact r⟩
theorem Bx.only{S:Nat->Prop}{w':rO}{v:tR}{F:Nat->Int}(h:Bx w b v l F)(o:Cw S w w')(a: ∀j,Bf b v j-> ¬S j):Bx w' b v l F:=⟨h.cs.only o (a b (.inl rfl)),De h.row o (λj c=>a j (.inr c)),h.ne,h.at_,h.idx⟩
theorem SI(l:List Pr)(n:Nat)(q:Pr)(d:l.length=n+1)(b:l[n]?.getD pz=q):l=l.take n++[q]:=by
 have a:l.take (n+1)=l.take n++[l[n]'(by omega)]:=Bg (by omega);rw[AL (by omega)]at a;have c:l[n]'(by omega)=q:=by rw[<-b,Ae (by omega)];rfl
 rw[c]at a;exact a
def qz(b g cap:Nat)(c:Nat)(D:Nat->Option Int)(n:Nat)(q:Pr)(w:rO)(e:uh)(w':rO):Prop:=(∃v,e=ui v)/\Hx b (Y (Z ⟨g,0,N⟩) n cap) (λk=>if k=q.1.toNat then N else D k) n n q w'/\Cw (Bf b (Y (Z ⟨g,0,N⟩) c cap)) w w'
theorem Hx.pop{c:Nat}{D:Nat->Option Int}{q:Pr}(h:Hx b (Y (Z ⟨g,0,N⟩) c cap) D (n+1) n q w)(A:n<64):tT prog 402 #[J (Z ⟨b,0,N⟩)] w (qz b g cap c D n q w):=by
 obtain⟨l,F,a,B,C,E,G⟩:=h.bx;have p:=G (by omega);obtain⟨L,r⟩: ∃L,L=l.take n:=⟨_,rfl⟩;have s:=SI l n q B p;rw[<-r]at s;have f:L.length=n:=by rw[r,AY];omega
 subst s;obtain⟨H,K,t⟩:=a.at_ n (by omega);rw[p]at H K t;obtain⟨d,j⟩: ∃k:Nat,q.1=k:=⟨q.1.toNat,by omega⟩;obtain⟨i0,i1,M,S⟩:=a.cell n (by omega);rw[p,j]at i0;rw[p]at i1;have m: ¬g=b:=λe=>a.ne (by rw[e];rfl);have c0:=a.cs.cell (i:=0) (by decide);simp only[BD]at c0;have u:=a.cs.cell (i:=1+d) (by omega);simp only[show¬1+d=0 by omega,Bn]at u;have o:n+1<=cap:=by
  obtain⟨_,⟨O,_⟩|⟨T,v,cur,he,_,_,P,_⟩⟩:=a.row
  ·cases O
  ·simp only[As]at he;omega
 obtain rfl:c=n+1:=by omega
 refine(YT b g n cap d q.2 _ w c0 (a.cs.free _) i0 i1 u (a.cs.free _) m (λe=>m e.symm) a.cs.lt M (by omega) A o).mono ?_;rintro e V⟨rfl,rfl⟩;have y:=a.pop (kx:=d) j;rw[f]at y;refine⟨⟨_,rfl⟩,⟨L,_,y.only (((Cw.refl (λ_=>False) _).alloc _).drew) (λ_ _ x=>x),f,?_,?_,λx=>absurd x (Zbx _)⟩,?_⟩
 ·intro i W
  have:=C i (by omega);rw[Gn L q i (by omega)]at this;obtain⟨z0,X,z2⟩:=a.at_ i (by omega);rw[Gn L q i (by omega)]at z2;rw[Ah (λe=>by rw[e,t]at z2;omega)];exact this
 ·intro k Q z
  by_cases R:k=d
  ·rw[Ai (by omega)]
  ·rw[Ah R]at z
   rw[Ah (by omega)];exact E k Q z
 ·exact((((Cw.refl (Bf b (Y (Z ⟨g,0,N⟩) (n+1) cap)) w).set (.inr (.inl rfl)) _ _).set (.inr (.inl rfl)) _ _).alloc _).drew
end
variable {w:rO}{b n m kx g cap c i:Nat}{v:tR}{D:Nat->Option Int}{q:Pr}
theorem NV{a:rO}(h:Cw (λj=>j=b) a w) (i:Nat) (u:tR):Cw (λj=>j=b) a (w.setCell ⟨b,i,N⟩ u):=h.set (.inr rfl) i u
theorem Hx.JS{a:Nat->Option Int}(h:Hx b v D n m q w)(hd: ∀k,k<64->D k=a k):Hx b v a n m q w:=by obtain⟨l,F,c,e,f,g,j⟩:=h.bx;exact⟨l,F,c,e,λi o=>by rw[<-hd _ (by have:=c.at_ i (by omega);omega)];exact f i o,λk d p=>by rw[<-hd k d];exact g k d p,j⟩
theorem Hx.nu(h:Hx b v D n m q w)(m':Nat)(a:Pr)(hm:n<=m'):Hx b v D n m' a w:=by obtain⟨l,F,c,d,e,f,g⟩:=h.bx;exact⟨l,F,c,d,e,f,λx=>by omega⟩
theorem Hx.lt(h:Hx b v D n m q w){j:Nat}(a:Bf b v j):j<w.heap.size:=by
 obtain⟨l,F,c,_⟩:=h.bx;rcases a with rfl|a
 ·exact c.cs.lt
 ·exact(AB c.row j a).2
theorem Hx.room(h:Hx b v D n m q w)(k:Nat)(u:k<64)(r:D k=N):n<64:=by
 obtain⟨l,F,f,z,s,A,B⟩:=h.bx;have g:((k:Int)::l.map (·.1)).Nodup:=by
  refine BH.2 ⟨λhm=>?_,?_⟩
  ·obtain⟨x,d,o⟩:=BL.1 hm
   obtain⟨i,a,rfl⟩:=Zas.1 d;have:=s i (by omega);rw[Ae a]at this;simp only[AW,o,Am,r]at this;cases this
  ·refine List.pairwise_iff_getElem.2 λi j a p t=>?_
   simp only[A9]at a p;simp only[Zbt];intro e;have c:=f.at_ i a;have a2:=f.at_ j p;rw[Ae a]at c;rw[Ae p]at a2;simp only[AW]at c a2;rw[e]at c;have:=c.2.2.symm.trans a2.2.2;omega
 have:=Ys 64 _ g (λx d=>by
  rcases Be.1 d with rfl|d
  ·omega
  ·obtain⟨y,hy,rfl⟩:=BL.1 d
   obtain⟨i,a,rfl⟩:=Zas.1 hy;have c:=f.at_ i a;rw[Ae a]at c;simp only[AW]at c;omega)
 simp at this;omega
theorem Hx.YU(h:Hx b v D n m q w)(k:Nat)(r:k<64):(D k=N/\w.cell? ⟨b,1+k,N⟩=Z (I U (-1)))\/ ∃(i g c cap:Nat)(d:Int),v=Y (Z ⟨g,0,N⟩) c cap/\i<n/\c=n/\D k=Z d/\w.cell? ⟨b,1+k,N⟩=Z (I U i)/\w.cell? ⟨g,i*2,N⟩=Z (I U k)/\w.cell? ⟨g,i*2+1,N⟩=Z (I U d)/\g<w.heap.size/\g≠b/\Hx b v D n i (k,d) w:=by
 obtain⟨l,F,f,z,s,t,E⟩:=h.bx;have j:=f.cs.cell (i:=1+k) (by omega);simp only[show¬1+k=0 by omega,Bn,Nat.add_sub_cancel_left]at j;rcases f.idx k r with u|⟨i,A,o,a⟩
 ·exact .inl ⟨t k r u,by rw[j,u]⟩
 ·have p: ∃g c cap,v=Y (Z ⟨g,0,N⟩) c cap:=by
   rcases C6 f.row with⟨_,G⟩|⟨g,cap,p,_⟩
   ·omega
   ·exact⟨g,_,cap,p⟩
  obtain⟨g,c,cap,rfl⟩:=p;obtain⟨x,B,C,H⟩:=f.cell i o;have y:=s i (by omega);rw[a,Am]at y;rw[a]at x;refine .inr ⟨i,g,c,cap,(l[i]?.getD pz).2,rfl,by omega,by omega,y,by rw[j,A],x,B,C,λe=>f.ne (by rw[e];rfl),⟨l,F,f,z,s,t,λ_=>?_⟩⟩;rw[<-a]
def Us(b:Nat)(v:tR)(D:Nat->Option Int)(n:Nat)(x:Pr)(w:rO)(e:uh)(w':rO):Prop:=e=ui (uo #[])/\ ∃g cap,Hx b (Y (Z ⟨g,0,N⟩) (n+1) cap) (λk=>if k=x.1.toNat then Z x.2 else D k) (n+1) (n+1) pz w'/\Cw (Bf b v) w w'/\(v.ownBlock=Z g\/w.heap.size<=g)
theorem eP:(prog.info? 222).map (λi=>(i.zero,i.size,i.bytes))=Z (Z (uk #[I U 0,I U 0]),2,16):=by kernel_rfl
theorem eQ(w:rO)(x y:tR)(t:uf): ∀(j:Nat)(z:tR),[x,y][j]?=Z z->(w.alloc (uj #[x,y] t)).cell? ((⟨w.heap.size,0,N⟩:Addr).add j)=Z z:=by intro j z a;rw[AE,(Cy.new w #[x,y] t).cell];simpa using a
theorem jf(x y:tR)(t:uf)(h:w.heap.size=b): ∀(j:Nat)(z:tR),[x,y][j]?=Z z->(w.alloc (uj #[x,y] t)).cell? ((⟨b,0,N⟩:Addr).add j)=Z z:=h▸eQ w x y t
theorem Bx.push{w1 c:rO}{v':tR}{l:List Pr}{F:Nat->Int}{x2:Int}(h:Bx w b v l F)(C:kx<64)(p:F kx= -1)(o:Cw (λj=>j=b) w w1) (q:Dz w1 b 65 213 (λi=>if i=0 then v else I U (if i-1=kx then(l.length:Int)else F (i-1)))) (f:Du w1 0 222 2 v l.length (ys l) [I U kx,I U x2] v' c):Bx (c.setCell ⟨b,0,N⟩ v') b v' (l++[((kx:Int),x2)]) (λk=>if k=kx then(l.length:Int)else F k)/\Cw (Bf b v) w (c.setCell ⟨b,0,N⟩ v')/\c.cell? ⟨b,0,N⟩=Z v/\c.frozen? ⟨b,0,N⟩=false:=by
 have r:=h.cs.lt;have d:v'.ownBlock≠Z b:=λe=>(f.2.2 b e).elim h.ne (λx=>by have:=o.size;omega);have a:=q.kept f.2.1 (λe=>h.ne e.symm);refine⟨⟨?_,?_,d,?_,?_⟩,?_,by simpa using a.cell (i:=0) (by decide),a.free 0⟩
 ·refine(a.set (i:=0) (by decide) v').congr λk n=>?_
  by_cases e:k=0
  ·simp[e]
  ·simp[e]
 ·have g:=f.1
  rw[show l.length+1=(l++[((kx:Int),x2)]).length by simp,show ys l++[I U kx,I U x2]=ys (l++[((kx:Int),x2)]) by rw[Cx.KX];rfl]at g;exact De g ((Cw.refl (λj=>j=b) c).set (.inr rfl) _ _) (λj m e=>d (by rw[m,show j=b from e]))
 ·intro i s
  have t:i<l.length+1:=by simpa using s
  by_cases e:i=l.length
  ·subst e
   rw[IH];exact⟨by simp,by simp;omega,by simp⟩
  ·rw[Gn l _ i (by omega)]
   obtain⟨z0,u,z2⟩:=h.at_ i (by omega);refine⟨z0,u,?_⟩;rw[Ah (λy=>by rw[y,p]at z2;omega)];exact z2
 ·intro k n
  by_cases e:k=kx
  ·rw[Ai e]
   exact .inr ⟨l.length,rfl,by simp,by rw[IH,e]⟩
  ·rw[Ah e]
   rcases h.idx k n with z|⟨i,g,A,B⟩
   ·exact .inl z
   ·exact .inr ⟨i,g,by simp;omega,by rw[Gn l _ i A];exact B⟩
 ·exact((o.mono (T:=Bf b v) (λj _ e=>.inl e)).grown f.2.1 (λj m=>.inr (.inr m))).set (.inr (.inl rfl)) _ _
theorem j9(x y:Int)(w:rO):Sem.run prog (Instr.typeAssert (.iface 222 (uk #[I U x,I U y])) 20 222 true) w= .ok (uo #[uk #[I U x,I U y],ue true]) w:=by kernel_rfl
theorem Hx.YV{l:List Pr}{F:Nat->Int}{w':rO}{x2:Int}(d: ∀i,i<l.length->D (l[i]?.getD pz).1.toNat=Z (l[i]?.getD pz).2) (f: ∀k,k<64->F k= -1->D k=N) (h:Bx w b v l F) (j:F kx= -1) (c:Bx w' b (Y (Z ⟨g,0,N⟩) (l.length+1) cap) (l++[((kx:Int),x2)]) (λk=>if k=kx then(l.length:Int)else F k)):Hx b (Y (Z ⟨g,0,N⟩) (l.length+1) cap) (λk=>if k=kx then Z x2 else D k) (l.length+1) (l.length+1) pz w':=by
 refine⟨_,_,c,by simp,λi o=>?_,λk m a=>?_,λx=>absurd x (Zbx _)⟩
 ·by_cases e:i=l.length
  ·subst e;rw[IH];simp
  ·rw[Gn l _ i (by omega)]
   have:=h.at_ i (by omega);rw[Ah (λn=>by rw[n,j]at this;omega)];exact d i (by omega)
 ·by_cases e:k=kx
  ·rw[Ai e]at a;omega
  ·rw[Ah e]at a⊢;exact f k m a
theorem Hx.push(h:Hx b v D n m q w)(x:Pr)(t:0<=x.1)(u:x.1<64)(y:D x.1.toNat=N):tT prog 403 #[J (Z ⟨b,0,N⟩),.iface 222 (uk #[I U x.1,I U x.2])] w (Us b v D n x w):=by
 have f:=h.room x.1.toNat (by omega) y;obtain⟨l,F,c,rfl,M,R,h3⟩:=h.bx;obtain⟨O,o⟩:=x;obtain⟨kx,rfl⟩: ∃k:Nat,O=k:=⟨O.toNat,by simp at t;omega⟩;simp only[Am]at y f u;have p:kx<64:=by omega
 have S:F kx= -1:=by
  rcases c.idx kx p with t|⟨i,hi,T,z⟩
  ·exact t
  ·have:=M i (by omega)
   rw[z,Am,y]at this;cases this
 obtain⟨a,cap,rfl⟩: ∃a cap,v= .slice a l.length cap:=by rcases C6 c.row with⟨rfl,V⟩|⟨g,cap,rfl,_⟩;exact⟨N,0,by rw[V]⟩;exact⟨_,cap,rfl⟩
 have c0:=c.cs.cell (i:=0) (by decide);simp only[BD]at c0;have A:=c.cs.cell (i:=1+kx) (by omega);simp only[show¬1+kx=0 by omega,Bn]at A;have f1:=c.cs.free (1+kx);have X:=c.cs.lt;have B:Dz ((w.setCell ⟨b,1+kx,N⟩ (I U l.length)).alloc (uj #[I U kx,I U o] 222)) b 65 213 (λi=>if i=0 then .slice a l.length cap else I U (if i-1=kx then(l.length:Int)else F (i-1))):=by
  refine Dz.alloc ((c.cs.set (i:=1+kx) (by omega) _).congr λk hk=>?_) _;by_cases P:k=1+kx
  ·subst P;simp
  ·rw[Ah P]
   by_cases Q:k=0
   ·simp[Q]
   ·have A: ¬k-1=kx:=by omega
    simp[Q,A]
 have s:=Aa c;have C:=Aa B;have E:=Aa (Ab p S);have H1:=Aa M;have H2:=Aa R;have aa:=j9 kx o;have r:Hid (∀W,Cw (λj=>j=b) w W->W.ownsRow 0 222 2 (.slice a l.length cap) l.length (ys l)):=λW hW=>De s.out.row hW (λj hj e=>s.out.ne (by rw[hj,show j=b from e]));go_enter func403,ntmps403;go_wp2;go_region
 go_wp2;go_region_law(refine JA underlying208 eP rfl (by decide) (by decide) 0 _ rfl (.tmp 28) (.tmp 30) rfl (.slice a l.length cap) l.length (ys l) ⟨w.heap.size+1,0,N⟩ 1 [I U kx,I U o] (by simp[Act.eval]) (by simp[Act.eval]) (.inl (r.out _ (by(repeat(first|exact Cw.refl _ _|refine Cw.drew ?_|refine Cw.alloc ?_ _|refine NV ?_ _ _))))) rfl (jf (w:=(w.setCell ⟨b,1+kx,N⟩ (I U l.length)).alloc (uj #[I U kx,I U o] 222)) _ _ 222 (by simp[tV])) (by simp[Value.oneCell']) (Ap _) (by omega) ?_;intro v' w3 G;obtain⟨H,d,rfl⟩:=G.some;obtain⟨K,L,q0,ab⟩:=s.out.push E.out.1 E.out.2 (by(repeat(first|exact Cw.refl _ _|refine Cw.drew ?_|refine Cw.alloc ?_ _|refine NV ?_ _ _))) (w1:=(((w.setCell ⟨b,1+kx,N⟩ (I U l.length)).alloc (uj #[I U kx,I U o] 222)).alloc (uj #[I U kx,I U o] 222)).drew.drew) (C.out.alloc _) G;have HR:Hid (Us b (.slice a l.length cap) D l.length (kx,o) w (ui (uo #[])) (w3.setCell ⟨b,0,N⟩ (Y (Z ⟨H,0,N⟩) (l.length+1) d))):=⟨rfl,H,d,Hx.YV H1.out H2.out s.out E.out.2 K,L,(G.2.2 H rfl).imp id (λx=>AA (by simp[tV]<;>omega) x)⟩)
 all_goals
  go_wp2;go_end0;exact HR.out
theorem Hx.nv(h:Hx b v D n m q w)(x:Pr)(l:0<=x.1)(a:x.1<64)(f:D x.1.toNat=N):tT prog 345 #[.iface 224 (J (Z ⟨b,0,N⟩)),.iface 222 (uk #[I U x.1,I U x.2])] w (Us b v D n x w):=by
 have o:=j7 ⟨b,0,N⟩;have p:=nk ⟨b,0,N⟩;have r:=h.room x.1.toNat (by omega) f;have s:=Aa (h.push x l a f);obtain⟨t,u⟩:=x;have K:(n:Int)+1-1=n:=by omega
 go_enter func345,ntmps345;go_wp2_with(first|(go_at_call 403;refine s.out.mono ?_;rintro e y⟨rfl,g,cap,z,A,B⟩;have i:=Aa z;have C:=Aa A;have j:=Aa B)|(go_at_call 398;refine i.out.len.mono ?_;rintro e L⟨rfl,rfl⟩));refine(SH b g (n+1) cap _ (n+1) (n+1) pz n y i.out (Nat.lt_succ_self _) (Nat.lt_succ_self _) r).mono ?_;rintro e E⟨rfl,c,d⟩;have F:Hid (Us b v D n (t,u) w (ui (uo #[])) E):=⟨rfl,g,cap,c,C.out.andThen d (λk M G=>G.elim .inl (λe=>by have H:g=k:=by{simpa[Value.ownBlock]using e};subst H;exact j.out.elim .inr (λx=>absurd x (by omega)))),j.out⟩;go_wp2;go_end0;exact F.out
theorem Hx.eR(h:Hx b (Y (Z ⟨g,0,N⟩) c cap) D (n+1) i q w)(y:i<n):tT prog 404 #[J (Z ⟨b,0,N⟩),I U i,I U n] w (Ur b (Y (Z ⟨g,0,N⟩) c cap) D (n+1) n q w):=by
 obtain⟨l,F,s,t,o,u,v⟩:=h.bx;have a:i<l.length:=by omega
 have d:n<l.length:=by omega
 refine(Qi b g c cap l F i n w s a d (by omega)).mono ?_;rintro e z⟨rfl,p,x⟩;refine⟨rfl,⟨JE l i n,Kh F l i n,p,by rw[Jc];exact t,?_,?_,?_⟩,x⟩
 ·intro k r
  rw[FH l i n k a d];by_cases j:k=n
  ·rw[Ai j];exact o i (by omega)
  ·rw[Ah j]
   by_cases m:k=i
   ·rw[Ai m];exact o n (by omega)
   ·rw[Ah m];exact o k r
 ·intro k r f
  unfold Kh at f;by_cases j:k=(l[i]?.getD pz).1.toNat
  ·rw[Ai j]at f;omega
  ·rw[Ah j]at f
   by_cases m:k=(l[n]?.getD pz).1.toNat
   ·rw[Ai m]at f;omega
   ·rw[Ah m]at f;exact u k r f
 ·intro hm
  rw[FH l i n n a d,Ai rfl];exact v (by omega)
def eS(b g cap:Nat)(c:Nat)(D:Nat->Option Int)(n:Nat)(q:Pr)(w:rO)(e:uh)(w':rO):Prop:=(∃v,e=ui v)/\Hx b (Y (Z ⟨g,0,N⟩) n cap) (λk=>if k=q.1.toNat then N else D k) n n q w'/\Cw (Bf b (Y (Z ⟨g,0,N⟩) c cap)) w w'
theorem Hx.remove(h:Hx b (Y (Z ⟨g,0,N⟩) c cap) D (n+1) i q w)(L:i<=n)(z:n<64):tT prog 122 #[.iface 224 (J (Z ⟨b,0,N⟩)),I U i] w (eS b g cap c D n q w):=by
 have A:=j7 ⟨b,0,N⟩;have B:=YS ⟨b,0,N⟩;have C:=qy ⟨b,0,N⟩;have u:=Aa h.len;have M:(n:Int)+1-1=n:=by omega
 have m:=Aa (λW(f:Hx b (Y (Z ⟨g,0,N⟩) c cap) D (n+1) n q W)=>f.pop z);by_cases e:i=n
 ·subst e
  have o:=Aa h;have E:((i:Int) !=(i:Int))=false:=by simp
  go_enter func122,ntmps122;go_wp2_with(first|(go_at_call 398;refine u.out.mono ?_;rintro e F⟨rfl,rfl⟩)|(go_at_call 402;refine(m.out _ o.out).mono ?_;rintro e y⟨⟨v,rfl⟩,a,d⟩;have j:Hid (eS b g cap c D i q w (ui v) y):=⟨⟨_,rfl⟩,a,d⟩));go_ret;exact j.out
 ·have E:((n:Int) !=(i:Int))=true:=by simp;omega
  have G:=Aa (h.eR (show i<n by omega));have p:=Aa (λW(f:Hx b (Y (Z ⟨g,0,N⟩) c cap) D (n+1) n q W)=>Qj b g c cap D (n+1) n q i n W f (by omega) (by omega) (by omega) (by omega));have H:=Aa (λW(f:Hx b (Y (Z ⟨g,0,N⟩) c cap) D (n+1) n q W)=>SH b g c cap D (n+1) n q i W f (by omega) (by omega) (by omega));go_enter func122,ntmps122;go_wp2_with(first|(go_at_call 398;refine u.out.mono ?_;rintro e F⟨rfl,rfl⟩)|(go_at_call 404;refine G.out.mono ?_;rintro e y⟨rfl,a,d⟩;have o:=Aa a;have K:=Aa d)|(go_at_call 194;refine(p.out _ o.out).mono ?_;rintro e O⟨x,rfl,a,d⟩;have k:=Aa a;have l:=Aa (K.out.trans d)))
  ·refine(H.out _ k.out).mono ?_
   rintro e P⟨rfl,a,d⟩;have r:=Aa a;have s:=Aa (l.out.trans d);go_wp2_with(first|(go_at_call 402;refine(m.out _ r.out).mono ?_;rintro e t⟨⟨v,rfl⟩,a,d⟩;have j:Hid (eS b g cap c D n q w (ui v) t):=⟨⟨_,rfl⟩,a,s.out.trans d⟩));go_ret;exact j.out
  ·refine(m.out _ k.out).mono ?_
   rintro e t⟨⟨v,rfl⟩,a,d⟩;have j:Hid (eS b g cap c D n q w (ui v) t):=⟨⟨_,rfl⟩,a,l.out.trans d⟩;go_wp2;go_ret;exact j.out
end LZ
end Go.Proofs.YtgadhchejmlfjaaGreatDoor
