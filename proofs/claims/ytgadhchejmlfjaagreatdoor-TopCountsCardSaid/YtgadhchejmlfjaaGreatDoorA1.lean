/- A part of the proof. -/
import Derived.Test.YtgadhchejmlfjaaGreatDoorA0
set_option linter.unusedVariables false
set_option maxRecDepth 20000
set_option maxHeartbeats 16000000
open Go.Value renaming int->I,pointer->J,slice->Y
open Go.IntKind renaming i64->U
open Option renaming none->N,some->Z
open Bool renaming false->tY,true->tZ
open Go renaming Calls->tT,Ending->uh,TypeId->uf,Value->tR,World->rO
open Go.Ending renaming returned->ui
open Go.Obj renaming cells->uj
open Go.RowKit renaming Below->tS
open Go.RowKit.Below renaming drew->tX,refl->tU
open Go.Value renaming agg->uk,bool->ue,string->um,tuple->uo
open Go.World renaming setCell->tV
open Go.Proofs.Tryz Go.RowKit Go.CN
namespace Go.Proofs.YtgadhchejmlfjaaGreatDoor
namespace D1
open Go
theorem I8(c:UInt8)(b:List UInt8): ∀a:List UInt8,c∉a->Lib.index (a++c::b) [c]=a.length
 | [],_=>by simp[Lib.index,List.isPrefixOf]
 |x::a,h=>by
  have d:(c==x)=false:=by simp;intro e;exact h (by simp[e])
  have f:=I8 c b a (λe=>h (AO _ e));rw[Bp,Lib.index];rw[show([c].isPrefixOf (x::(a++c::b)))=tY by simp[List.isPrefixOf,d],f];rw[Ah (by decide),Ah (by simp)];simp
theorem index_none(c:UInt8): ∀a:List UInt8,c∉a->Lib.index a [c]= -1
 | [],_=>by simp[Lib.index]
 |x::a,h=>by
  have b:(c==x)=false:=by simp;intro e;exact h (by simp[e])
  have d:=index_none c a (λe=>h (AO _ e));rw[Lib.index,show([c].isPrefixOf (x::a))=tY by simp[List.isPrefixOf,b],d];rw[Ah (by decide),Ai (by decide)]
theorem Uh(c:UInt8)(a b:List UInt8)(h:c∉a):Lib.cut (a++c::b) [c]=(a,b,tZ):=by unfold Lib.cut;rw[I8 c b a h,Ai (by omega)];simp
theorem Se(c:UInt8)(a:List UInt8)(h:c∉a)(f:Nat):Lib.countFrom [c] f a=0:=by
 cases f with
 |zero=>rfl
 |succ f=>rw[Lib.countFrom,index_none c a h,Ai (by decide)]
theorem Vt(c:UInt8)(a b:List UInt8)(h:c∉a)(f:Nat):Lib.countFrom [c] (f+1) (a++c::b)=1+Lib.countFrom [c] f b:=by rw[Lib.countFrom,I8 c b a h,Ah (by simp)];congr 2;simp
theorem Si(c:UInt8)(a b:List UInt8)(h:c∉a)(k:Nat):Lib.splitK [c] 0 (k+1) (a++c::b)=a::Lib.splitK [c] 0 k b:=by rw[Lib.splitK,I8 c b a h,Ah (by simp)];simp
def Dl(c:UInt8):List (List UInt8)->List UInt8
 | []=>[]
 | [a]=>a
 |a::b::l=>a++c::Dl c (b::l)
theorem PM(c:UInt8): ∀l:List (List UInt8),l.length<=(Dl c l).length+1
 | []=>by simp
 | [a]=>by simp
 |a::b::l=>by
  have:=PM c (b::l);simp only[Dl,Au,Av]at*
  omega
theorem Mv(c:UInt8): ∀(l:List (List UInt8))(f:Nat),l≠[]->(∀a∈l,c∉a)->l.length<=f+1->Lib.countFrom [c] f (Dl c l)=l.length-1
 | [],_,h,_,_=>absurd rfl h
 | [a],f,_,h,_=>by rw[Dl,Se c a (h a (by simp)) f];rfl
 |a::b::l,f,_,h,d=>by obtain⟨f,rfl⟩: ∃g,f=g+1:=⟨f-1,by simp at d;omega⟩;rw[Dl,Vt c a _ (h a (by simp)) f,Mv c (b::l) f (by simp) (λx e=>h x (AO _ e)) (by simp at d⊢;omega)];simp;omega
theorem Lv(c:UInt8): ∀(l:List (List UInt8)),l≠[]->(∀a∈l,c∉a)->Lib.splitK [c] 0 (l.length-1) (Dl c l)=l
 | [],h,_=>absurd rfl h
 | [a],_,h=>rfl
 |a::b::l,_,h=>by have d:=Lv c (b::l) (by simp) (λx e=>h x (AO _ e));rw[show(a::b::l).length-1=((b::l).length-1)+1 by simp,Dl,Si c a _ (h a (by simp)),d]
theorem Vu(x:ByteArray):x=⟨x.data.toList.toArray⟩:=by cases x;simp
theorem Lw(c:UInt8)(l:List (List UInt8))(b:l≠[])(h: ∀a∈l,c∉a):Lib.countB ⟨(Dl c l).toArray⟩ ⟨#[c]⟩=l.length-1/\Lib.splitB ⟨#[c]⟩ 0 (l.length-1) ⟨(Dl c l).toArray⟩=l.map λa=>⟨a.toArray⟩:=by
 constructor
 ·show Lib.count _ _=_
  unfold Lib.count;exact Mv c l _ b h (by have:=PM c l;simp at this⊢;omega)
 ·have e:=Lib.splitB_data ⟨#[c]⟩ 0 (l.length-1) ⟨(Dl c l).toArray⟩
  rw[show(⟨#[c]⟩:ByteArray).data.toList=[c]from rfl,show(⟨(Dl c l).toArray⟩:ByteArray).data.toList=Dl c l from by simp,Lv c l b h]at e;have d:=Aq (List.map λa:List UInt8=>(⟨a.toArray⟩:ByteArray)) e;rw[List.map_map]at d;rw[<-d];exact(List.map_id' _).symm.trans (Cp λx _=>Vu x)
def JN(l:List UInt8):Nat:=l.foldl (λa c=>a*10+(c.toNat-48)) 0
theorem NP(l:List UInt8)(k:Nat)(h:k<l.length):JN (l.take (k+1))=JN (l.take k)*10+(l[k].toNat-48):=by unfold JN;rw[Bu,Za5,Ae h];rfl
theorem NQ(l:List UInt8): ∀j,j<=l.length->JN (l.take (l.length-j))<=JN l
 |0,_=>by simp
 |j+1,h=>by have a:=NQ l j (by omega);have:=NP l (l.length-(j+1)) (by omega);rw[show l.length-(j+1)+1=l.length-j by omega]at this;omega
structure rP (l:List UInt8) (u:Nat):Prop where
 num:JN l=u
 pM: ∀c∈l,48<=c.toNat/\c.toNat<=57
 ne:l≠[]
 Hc:l=[48]\/l.head?≠Z 48
theorem PN(u:Nat)(h:u<10):(UInt8.ofNat (48+u)).toNat=48+u:=by rw[UInt8.toNat_ofNat'];omega
theorem Mc(u:Nat):rP (Lib.decDigits u) u/\(0<u->(Lib.decDigits u).head?≠Z 48):=by
 induction u using Nat.strongRecOn with
 |_ u f=>
  rw[Lib.decDigits];by_cases h:u<10
  ·rw[dif_pos h]
   have e:=PN u h;have q:0<u->([UInt8.ofNat (48+u)]:List UInt8).head?≠Z 48:=λb d=>by simp only[List.head?_cons,Ak]at d;rw[d]at e;have:(48:UInt8).toNat=48:=rfl;omega
   refine⟨⟨by simp[JN];omega,λc a=>?_,by simp,?_⟩,q⟩
   ·rw[Cj.1 a,e];omega
   ·rcases Nat.eq_zero_or_pos u with rfl|b
    ·exact .inl rfl
    ·exact .inr (q b)
  ·rw[dif_neg h]
   obtain⟨⟨i1,i2,i3,_⟩,i5⟩:=f (u/10) (by omega);have e:=PN (u%10) (by omega);have q:(Lib.decDigits (u/10)++[UInt8.ofNat (48+u%10)]).head?≠Z 48:=by rw[List.head?_append,List.head?_eq_some_head i3,Option.some_or,<-List.head?_eq_some_head i3];exact i5 (by omega)
   refine⟨⟨?_,λc a=>?_,by simp,.inr q⟩,λ_=>q⟩
   ·have: ∀(l:List UInt8)(c:UInt8),JN (l++[c])=JN l*10+(c.toNat-48):=λl c=>by simp[JN]
    rw[this,i1,e];omega
   ·rcases Br.1 a with a|a
    ·exact i2 c a
    ·rw[Cj.1 a,e];omega
def I9(a:Int):Prop:= -9223372036854775808<=a/\a<9223372036854775808
theorem Ht(a:Int):(a<0/\Lib.itoa a=45::Lib.decDigits a.natAbs)\/(0<=a/\Lib.itoa a=Lib.decDigits a.toNat):=by
 unfold Lib.itoa;by_cases h:a<0
 ·exact .inl ⟨h,Ai h⟩
 ·exact .inr ⟨by omega,Ah h⟩
theorem CY(a:Int)(h:I9 a):32∉Lib.itoa a/\10∉Lib.itoa a/\(Lib.itoa a).length<=21:=by
 have q: ∀c∈Lib.itoa a,c=45\/48<=c.toNat:=λc b=>by
  rcases Ht a with⟨_,e⟩|⟨_,e⟩<;>rw[e]at b
  ·rcases Be.1 b with rfl|b
   ·exact .inl rfl
   ·exact .inr ((Mc _).1.pM c b).1
  ·exact .inr ((Mc _).1.pM c b).1
 have r: ∀c:UInt8,c.toNat<45->c∉Lib.itoa a:=λc d b=>by
  rcases q c b with rfl|f
  ·exact absurd d (by decide)
  ·omega
 exact⟨r 32 (by decide),r 10 (by decide),Lib.itoa_length_le a h.1 (by have:=h.2;omega)⟩
def Ds(x:Int×Int×Int):List UInt8:=Dl 32 [Lib.itoa x.1,Lib.itoa x.2.1,Lib.itoa x.2.2]
def C0(l:List (Int×Int×Int)):List UInt8:=l.flatMap λx=>Ds x++[10]
theorem IE(x:Int×Int×Int)(l:List (Int×Int×Int)):C0 (x::l)=Ds x++10::C0 l:=by simp[C0]
theorem PO(l:List (Int×Int×Int))(x:Int×Int×Int):C0 (l++[x])=C0 l++(Ds x++[10]):=by simp[C0]
def Lx(x:Int×Int×Int):Prop:=I9 x.1/\I9 x.2.1/\I9 x.2.2
theorem Vv(x:Int×Int×Int)(h:Lx x):(10:UInt8)∉Ds x:=by have a:=(CY _ h.1).2.1;have b:=(CY _ h.2.1).2.1;have c:=(CY _ h.2.2).2.1;simp only[Ds,Dl,Br,Be,not_or];exact⟨a,by decide,b,by decide,c⟩
theorem Kc(x:Int×Int×Int)(h:Lx x):(Ds x).length<=65:=by have a:=(CY _ h.1).2.2;have b:=(CY _ h.2.1).2.2;have c:=(CY _ h.2.2).2.2;simp only[Ds,Dl,Au,Av];omega
theorem NR(l:List (Int×Int×Int))(h: ∀x∈l,Lx x):(C0 l).length<=l.length*66:=by
 induction l with
 |nil=>simp[C0]
 |cons x l a=>have b:=Kc x (h x (by simp));have c:=a (λy hy=>h y (AO _ hy));rw[IE];simp only[Au,Av];omega
theorem Vw(x:Int×Int×Int)(l:List (Int×Int×Int))(h:Lx x):Lib.cut (C0 (x::l)) [10]=(Ds x,C0 l,tZ):=by rw[IE];exact Uh 10 _ _ (Vv x h)
theorem Yl(x:Int×Int×Int)(l:List (Int×Int×Int)):C0 (x::l)≠[]:=by rw[IE];simp
end D1
namespace D3
variable {w w':rO}
structure Row where
 name:List UInt8
 CO:Int
 target:Int
 number:Bool
 waits:Bool
 ends:Bool
 asks:Bool
def Di:Row:=⟨[],0,0,tY,tY,tY,tY⟩
def rows:List Row:=[⟨[110,111,112],0,0,tY,tY,tY,tY⟩,⟨[99,111,110,115,116],1,0,tZ,tY,tY,tY⟩,⟨[97,100,100],3,0,tY,tY,tY,tY⟩,⟨[115,117,98],3,0,tY,tY,tY,tY⟩,⟨[109,117,108],3,0,tY,tY,tY,tY⟩,⟨[108,101,115,115],3,0,tY,tY,tY,tY⟩,⟨[106,117,109,112],0,1,tY,tY,tZ,tY⟩,⟨[105,102],1,1,tY,tY,tY,tY⟩,⟨[99,97,108,108],0,2,tY,tY,tY,tY⟩,⟨[114,101,116],0,0,tY,tY,tZ,tY⟩,⟨[115,112,97,119,110],1,2,tY,tY,tY,tZ⟩,⟨[121,105,101,108,100],0,0,tY,tZ,tY,tY⟩,⟨[98,108,111,99,107],0,0,tY,tZ,tY,tY⟩,⟨[114,101,97,100,121],1,0,tY,tY,tY,tZ⟩,⟨[101,120,105,116],0,0,tY,tY,tZ,tY⟩,⟨[101,109,105,116],1,0,tY,tY,tY,tY⟩,⟨[115,121,115],1,0,tY,tZ,tY,tY⟩,⟨[115,116,111,112],0,0,tY,tZ,tY,tY⟩,⟨[115,116,97,114,116],0,0,tY,tY,tY,tY⟩,⟨[98,97,114,114,105,101,114],0,0,tY,tZ,tY,tY⟩,⟨[115,117,115,112,101,110,100],1,0,tY,tZ,tY,tZ⟩,⟨[114,101,115,117,109,101],1,0,tY,tY,tY,tZ⟩,⟨[114,101,115,105,122,101],1,0,tY,tY,tY,tZ⟩,⟨[115,101,108,102],1,0,tY,tY,tY,tZ⟩]
def row(op:Int):Row:=if 0<=op then rows[op.toNat]?.getD Di else Di
def agg(r:Row):Value:=uk #[um ⟨r.name.toArray⟩,I U r.CO,I U r.target,ue r.number,ue r.waits,ue r.ends,ue r.asks]
structure Laid (w:rO):Prop where
 lt:0<w.heap.size
 cell: ∀k,k<24->w.cell? ⟨0,k*7,N⟩=Z (um ⟨(rows[k]?.getD Di).name.toArray⟩)/\w.cell? ⟨0,k*7+1,N⟩=Z (I U (rows[k]?.getD Di).CO)/\w.cell? ⟨0,k*7+2,N⟩=Z (I U (rows[k]?.getD Di).target)/\
  w.cell? ⟨0,k*7+3,N⟩=Z (ue (rows[k]?.getD Di).number)/\w.cell? ⟨0,k*7+4,N⟩=Z (ue (rows[k]?.getD Di).waits)/\w.cell? ⟨0,k*7+5,N⟩=Z (ue (rows[k]?.getD Di).ends)/\w.cell? ⟨0,k*7+6,N⟩=Z (ue (rows[k]?.getD Di).asks)
theorem Laid.kept(h:Laid w)(a:0<w'.heap.size)(b:w'.heap[0]?=w.heap[0]?):Laid w':=
 have c: ∀i,w'.cell? ⟨0,i,N⟩=w.cell? ⟨0,i,N⟩:=λi=>AK b
 ⟨a,λk d=>by simp only[c];exact h.cell k d⟩
theorem Laid.only{S:Nat->Prop}(h:Laid w)(o:Cw S w w')(a: ¬S 0):Laid w':=h.kept (An h.lt o.size) (o.block 0 h.lt a)
theorem Laid.below(h:Laid w)(o:tS w.heap.size w w'):Laid w':=h.kept (An h.lt o.size) (o.block 0 h.lt)
def qe(op:Int)(w:rO)(e:uh)(w':rO):Prop:=e=ui (agg (row op))/\tS w.heap.size w w'
theorem Ym(op:Int)(w:rO)(h:Laid w):tT prog 162 #[I U op] w (qe op w):=by
 unfold qe row;by_cases a:0<=op
 ·rw[Ai a]
  obtain⟨k,rfl⟩: ∃k:Nat,op=k:=⟨op.toNat,by omega⟩;rw[Am];by_cases b:k<24
  ·obtain⟨c0,c1,e,c3,c4,c5,c6⟩:=h.cell k b
   have c:=h.lt;have d1:decide ((k:Int)<0)=false:=by simp
   have d2:decide (24<=(k:Int))=false:=by simp;omega
   have f:(k:Int)<24:=by omega
   generalize rows[k]?.getD Di=r at*
   unfold agg;go_enter func162,ntmps162;go_wp2;exact AM (v:=uk #[um ⟨r.name.toArray⟩,I U r.CO,I U r.target,ue r.number,ue r.waits,ue r.ends,ue r.asks]) (by simp[results,results162,go_sem]) rfl ⟨rfl,Cu (tU _ _) _⟩
  ·have d:rows[k]?.getD Di=Di:=by rw[A0 (by simp[rows];omega)];rfl
   have d1:decide ((k:Int)<0)=false:=by simp
   have d2:decide (24<=(k:Int))=true:=by simp;omega
   rw[d];go_enter func162,ntmps162;go_wp2;exact AM (v:=agg Di) (by simp[results,results162,go_sem,agg,Di]) rfl ⟨rfl,Cu (tU _ _) _⟩
 ·rw[Ah a]
  have d1:decide (op<0)=true:=by simp;omega
  go_enter func162,ntmps162;go_wp2;exact AM (v:=agg Di) (by simp[results,results162,go_sem,agg,Di]) rfl ⟨rfl,Cu (tU _ _) _⟩
theorem Sj(op:Int)(w:rO)(h:Laid w):tT prog 162 #[I U op] w λe w'=>e=ui (uk #[um ⟨(row op).name.toArray⟩,I U (row op).CO,I U (row op).target,ue (row op).number,ue (row op).waits,ue (row op).ends,ue (row op).asks])/\tS w.heap.size w w':=Ym op w h
theorem PR(op:Int)(w:rO)(h:Laid w):tT prog 132 #[I U op] w λe w'=>e=ui (um ⟨(row op).name.toArray⟩)/\tS w.heap.size w w':=by
 have H:=Aa (Sj op w h);generalize row op=r at*
 have b: ∀w,(Instr.field 258 (uk #[um ⟨r.name.toArray⟩,I U r.CO,I U r.target,ue r.number,ue r.waits,ue r.ends,ue r.asks]) 0).run prog w= .ok (um ⟨r.name.toArray⟩) w:=λw=>by kernel_rfl
 go_enter func132,ntmps132;go_wp2_with(go_at_call 162;refine H.out.mono ?_;rintro e c⟨rfl,a⟩);go_ret;exact⟨rfl,a⟩
theorem PS(op:Int)(w:rO)(h:Laid w):tT prog 133 #[I U op] w λe w'=>e=ui (I U (row op).CO)/\tS w.heap.size w w':=by
 have H:=Aa (Sj op w h);generalize row op=r at*
 have b: ∀w,(Instr.field 258 (uk #[um ⟨r.name.toArray⟩,I U r.CO,I U r.target,ue r.number,ue r.waits,ue r.ends,ue r.asks]) 1).run prog w= .ok (I U r.CO) w:=λw=>by kernel_rfl
 go_enter func133,ntmps133;go_wp2_with(go_at_call 162;refine H.out.mono ?_;rintro e c⟨rfl,a⟩);go_ret;exact⟨rfl,a⟩
theorem Mw(op:Int)(w:rO)(h:Laid w):tT prog 130 #[I U op] w λe w'=>e=ui (I U (row op).target)/\tS w.heap.size w w':=by
 have H:=Aa (Sj op w h);generalize row op=r at*
 have b: ∀w,(Instr.field 258 (uk #[um ⟨r.name.toArray⟩,I U r.CO,I U r.target,ue r.number,ue r.waits,ue r.ends,ue r.asks]) 2).run prog w= .ok (I U r.target) w:=λw=>by kernel_rfl
 go_enter func130,ntmps130;go_wp2_with(go_at_call 162;refine H.out.mono ?_;rintro e c⟨rfl,a⟩);go_ret;exact⟨rfl,a⟩
theorem Fl(op:Int)(w:rO)(h:Laid w):tT prog 205 #[I U op] w λe w'=>e=ui (ue (row op).number)/\tS w.heap.size w w':=by
 have H:=Aa (Sj op w h);generalize row op=r at*
 have b: ∀w,(Instr.field 258 (uk #[um ⟨r.name.toArray⟩,I U r.CO,I U r.target,ue r.number,ue r.waits,ue r.ends,ue r.asks]) 3).run prog w= .ok (ue r.number) w:=λw=>by kernel_rfl
 go_enter func205,ntmps205;go_wp2_with(go_at_call 162;refine H.out.mono ?_;rintro e c⟨rfl,a⟩);go_ret;exact⟨rfl,a⟩
theorem KQ(op:Int)(w:rO)(h:Laid w):tT prog 104 #[I U op] w λe w'=>e=ui (ue (row op).waits)/\tS w.heap.size w w':=by
 have H:=Aa (Sj op w h);generalize row op=r at*
 have b: ∀w,(Instr.field 258 (uk #[um ⟨r.name.toArray⟩,I U r.CO,I U r.target,ue r.number,ue r.waits,ue r.ends,ue r.asks]) 4).run prog w= .ok (ue r.waits) w:=λw=>by kernel_rfl
 go_enter func104,ntmps104;go_wp2_with(go_at_call 162;refine H.out.mono ?_;rintro e c⟨rfl,a⟩);go_ret;exact⟨rfl,a⟩
theorem My(op:Int)(w:rO)(h:Laid w):tT prog 164 #[I U op] w λe w'=>e=ui (ue (row op).ends)/\tS w.heap.size w w':=by
 have H:=Aa (Sj op w h);generalize row op=r at*
 have b: ∀w,(Instr.field 258 (uk #[um ⟨r.name.toArray⟩,I U r.CO,I U r.target,ue r.number,ue r.waits,ue r.ends,ue r.asks]) 5).run prog w= .ok (ue r.ends) w:=λw=>by kernel_rfl
 go_enter func164,ntmps164;go_wp2_with(go_at_call 162;refine H.out.mono ?_;rintro e c⟨rfl,a⟩);go_ret;exact⟨rfl,a⟩
theorem Mz(op:Int)(w:rO)(h:Laid w):tT prog 313 #[I U op] w λe w'=>e=ui (ue (row op).asks)/\tS w.heap.size w w':=by
 have H:=Aa (Sj op w h);generalize row op=r at*
 have b: ∀w,(Instr.field 258 (uk #[um ⟨r.name.toArray⟩,I U r.CO,I U r.target,ue r.number,ue r.waits,ue r.ends,ue r.asks]) 6).run prog w= .ok (ue r.asks) w:=λw=>by kernel_rfl
 go_enter func313,ntmps313;go_wp2_with(go_at_call 162;refine H.out.mono ?_;rintro e c⟨rfl,a⟩);go_ret;exact⟨rfl,a⟩
end D3
namespace Vm
variable {l:List (Int×Int)}{w w' a W:rO}{lo k b:Nat}{v sv x0 x1 x2 x3 x4 x5 x6 x7 x8 x9 F1 Ly u u0 u1 u2 u3 u4 u5 u6 u7 u8 u9 u10 u11:tR}{fn pc:Int}{t:uf}{tmps:Array tR}{Q:uh->rO->Prop}
structure CP where
 op:Int
 a:Int
 b:Int
 c:Int
 n:Int
abbrev JO:Value:=Y N 0 0
def LW(l:List (Int×Int)):List Value:=l.flatMap λr=>[I U r.1,I U r.2]
theorem Ui(l:List (Int×Int)):(LW l).length=l.length*2:=by induction l with
 |nil=>rfl
 |cons x l a=>simp[LW]at*;omega
theorem Uj(l:List (Int×Int))(r:Int×Int):LW (l++[r])=LW l++[I U r.1,I U r.2]:=by simp[LW]
theorem jQ{i:Nat}{r:Int×Int}(h:l[i]?=Z r):(LW l)[i*2]?=Z (I U r.1)/\(LW l)[i*2+1]?=Z (I U r.2):=by
 induction l generalizing i with
 |nil=>cases h
 |cons x l a=>
  cases i with
  |zero=>cases h;exact⟨rfl,rfl⟩
  |succ i=>rw[show(i+1)*2=i*2+1+1 by omega];exact a h
def Hu(w:rO)(lo:Nat)(v:tR)(l:List (Int×Int)):Prop:=(v=JO/\l=[])\/ ∃g cap,v=Y (Z ⟨g,0,N⟩) l.length cap/\lo<=g/\g<w.heap.size/\l.length<=cap/\ ∀(j:Nat)(u:tR),(LW l)[j]?=Z u->w.cell? ⟨g,j,N⟩=Z u
theorem Hu.below(h:Hu w lo v l)(a:tS w.heap.size w w'):Hu w' lo v l:=by
 rcases h with h|⟨g,cap,c,d,b,e,f⟩
 ·exact .inl h
 ·exact .inr ⟨g,cap,c,d,An b a.size,e,λj u i=>(a.cell (p:=⟨g,j,N⟩) b).trans (f j u i)⟩
theorem Hu.only{S:Nat->Prop}(h:Hu w lo v l)(o:Cw S w w')(c:Hs S v):Hu w' lo v l:=by
 rcases h with h|⟨g,cap,a,d,b,e,f⟩
 ·exact .inl h
 ·exact .inr ⟨g,cap,a,d,An b o.size,e,λj u i=>(AK (o.block g b (c g (by rw[a];rfl)))).trans (f j u i)⟩
theorem Hu.mono{a:Nat}(h:Hu w lo v l)(b:a<=lo):Hu w a v l:=by
 rcases h with h|⟨g,cap,c,d,e⟩
 ·exact .inl h
 ·exact .inr ⟨g,cap,c,AA b d,e⟩
theorem KR(h:GM w lo 227 2 v l.length (LW l)):Hu w lo v l:=by
 rcases h.open with⟨a,b⟩|⟨g,cap,a,b,e,f,i⟩
 ·exact .inl ⟨a,Bl.1 b⟩
 ·exact .inr ⟨g,cap,a,b,e,f,λj u c=>by have d:=(Af.1 c).1;rw[Ui]at d;rw[i j d,c];rfl⟩
theorem Uk:(prog.info? 227).map (λi=>(i.zero,i.size,i.bytes))=Z (Z (uk #[I U 0,I U 0]),2,16):=by kernel_rfl
theorem qg(W:rO){ops:Array Oper}{rest:List Oper}{o:Oper}{a:Act}{Q:Exit->Act->rO->Prop}(p:o.guard=N)(s y:Operand)(A:o.op= .call {callee:=.builtin .append,args:=#[s,y],argTypes:=#[48,48]})(b:Nat)(f:Addr)(m c:Nat)(ys:List tR)(B:a.eval s=Y (Z ⟨b,0,N⟩) 0 0)(hy:a.eval y=Y (Z f) m c)(C:b<W.heap.size)
  (e:ys.length=m*2) (d: ∀(j:Nat)(x:tR),ys[j]?=Z x->W.cell? (f.add j)=Z x) (hlen:m<100000000)
  (h: ∀g w',GM w' b 227 2 g m ys->tS W.heap.size W w'->wpList prog ops Q rest (a.put o.dst g) w'):
  wpList prog ops Q (o::rest) a W:=by
 refine wpList_plain p λK D=>?_;obtain⟨i0,l,q,r,t⟩: ∃i,prog.info? 227=Z i/\i.zero=Z (uk #[I U 0,I U 0])/\i.size=2/\i.bytes=16:=by obtain⟨i,l,n⟩:=AD.1 Uk;simp only[AV]at n;exact⟨i,l,n.1,n.2.1,n.2.2⟩
 rcases Nat.eq_zero_or_pos m with rfl|hm
 ·have v:ys=[]:=Bl.1 (by simpa using e)
  subst v;have w:=run_append_room_cells (P:=prog) W 48 o.type 227 i0 underlying48 l b 0 0 0 f 0 c [] (by simp) (by simp) (by simp) (by simp) (by simp) (by simp);unfold Oper.wp;simp[execOp,A,resolve,invoke,builtin,B,hy,w,Result.andThen];exact D _ _ (h _ _ (.inr ⟨b,rfl,Al _,C,rfl,by simp⟩) (tU _ _))
 ·have z:0+m<=maxLen:=by unfold maxLen;omega
  obtain⟨g,w',w,E,F⟩:=Zac (P:=prog) W 48 o.type 227 i0 _ 2 16 underlying48 l q r t rfl (by decide) ⟨b,0,N⟩ 0 0 [] (by simp) (λj u G=>by simp at G) f m c ys e d (by omega) z (by omega);rw[AJ,A7]at E;unfold Oper.wp;simp[execOp,A,resolve,invoke,builtin,B,hy,w,Result.andThen];exact D _ _ (h g w' (.inl (Fk E (Nat.le_of_lt C))) (CK (tU _ _) F (λk H=>by cases H)))
theorem ES(v:tR)(l:List (Int×Int))(w:rO)(h:Hu w 0 v l)(k:l.length<=1000):tT prog 123 #[v] w λe w'=> ∃d,e=ui d/\GM w' w.heap.size 227 2 d l.length (LW l)/\tS w.heap.size w w':=by
 have f:=λ(w:rO)(a:Option Addr)(n c m o:Nat)=>Za3 (P:=prog) w 48 227 a n c m o underlying48;rcases h with⟨rfl,rfl⟩|⟨g,cap,rfl,-,q,A,b⟩
 ·go_enter func123,ntmps123
  go_wp2;go_ret;exact⟨_,rfl,.inl (AH _ _ _ _),tU _ _⟩
 ·have i:=Aa (Ab b q)
  have r:=Aa k;go_enter func123,ntmps123;go_wp2_with(at_builtin;refine qg _ rfl _ _ rfl w.heap.size ⟨g,0,N⟩ l.length cap (LW l) rfl rfl (by simp) (Ui l) (λj x s=>by rw[AE,AJ];exact((Cu (tU w.heap.size w) _).cell (p:=⟨g,j,N⟩) i.out.2).trans (i.out.1 j x s)) (by have:=r.out;omega) ?_;intro d w' t u;have y:=Aa t;have z:=Aa u);go_ret;exact⟨_,rfl,y.out,Cv (Cu (tU _ _) _) z.out⟩
theorem Ew{n:Nat}{xs:List tR}(h:GM w lo 227 2 v n xs): ∃a c,v= .slice a n c:=by
 rcases h.open with⟨b,d⟩|⟨g,cap,b,-⟩
 ·exact⟨N,0,by rw[b,d]⟩
 ·exact⟨_,cap,b⟩
theorem Fm(h:Hu w lo v l): ∃a c,v= .slice a l.length c:=by
 rcases h with⟨b,d⟩|⟨g,cap,b,-⟩
 ·exact⟨N,0,by rw[b,d];rfl⟩
 ·exact⟨_,cap,b⟩
abbrev r_ (r:List Int) (k:Nat):Int:=r[k]?.getD 0
def tv(fn pc:Int)(r:List Int)(sv:tR)(d:Bool):Array Value:=#[I U fn,I U pc,I U (r_ r 0),I U (r_ r 1),I U (r_ r 2),I U (r_ r 3),I U (r_ r 4),I U (r_ r 5),I U (r_ r 6),I U (r_ r 7),sv,ue d]
theorem MA{r:List Int}{d:Bool}(a:k<8):(tv fn pc r sv d)[2+k]?=Z (I U (r_ r k)):=by
 have:k=0\/k=1\/k=2\/k=3\/k=4\/k=5\/k=6\/k=7:=by omega
 rcases this with rfl|rfl|rfl|rfl|rfl|rfl|rfl|rfl<;>rfl
theorem jR{r:List Int}{d:Bool}(b:k<8)(a:r.length=8)(x:Int):(tv fn pc r sv d).setIfInBounds (2+k) (I U x)=tv fn pc (r.set k x) sv d:=by
 match r,a with
 | [r0,r1,c,e,f,g,h,i],_=>
  have:k=0\/k=1\/k=2\/k=3\/k=4\/k=5\/k=6\/k=7:=by omega
  rcases this with rfl|rfl|rfl|rfl|rfl|rfl|rfl|rfl<;>rfl
theorem Yn{l:List tR}(h:Cy w b l.toArray t): ∀(j:Nat)(u:tR),l[j]?=Z u->w.cell? ((⟨b,0,N⟩:Addr).add j)=Z u:=by intro j u a;rw[AE,AJ,h.cell j,<-a];simp
theorem Ul(w:rO)(o:Obj)(cs:Array tR)(t:uf):Cy ((w.alloc o).alloc (uj cs t)) (w.heap.size+1) cs t:=Cy.ID cs t (by simp)
theorem Io(h:Cy w b #[x0,x1,x2,x3,x4,x5,x6,x7,x8,x9,F1,Ly] t):(∀o,w.frozen? ⟨b,o,N⟩=tY)/\w.cell? ⟨b,0,N⟩=Z x0/\w.cell? ⟨b,1,N⟩=Z x1/\w.cell? ⟨b,2,N⟩=Z x2/\w.cell? ⟨b,3,N⟩=Z x3/\w.cell? ⟨b,4,N⟩=Z x4/\w.cell? ⟨b,5,N⟩=Z x5/\w.cell? ⟨b,6,N⟩=Z x6/\w.cell? ⟨b,7,N⟩=Z x7/\w.cell? ⟨b,8,N⟩=Z x8/\w.cell? ⟨b,9,N⟩=Z x9/\w.cell? ⟨b,10,N⟩=Z F1/\w.cell? ⟨b,11,N⟩=Z Ly:=⟨h.free,h.cell 0,h.cell 1,h.cell 2,h.cell 3,h.cell 4,h.cell 5,h.cell 6,h.cell 7,h.cell 8,h.cell 9,h.cell 10,h.cell 11⟩
theorem JB(w:rO)(a:Addr)(v:tR):(w.setCell a v).heap.size=w.heap.size:=by simp[tV]
theorem ek(h:Cy w b #[x0,x1,x2,x3,x4,x5,x6,x7,x8,x9,F1,Ly] t):Cy (w.setCell ⟨b,0,N⟩ u) b #[u,x1,x2,x3,x4,x5,x6,x7,x8,x9,F1,Ly] t:=h.set 0 u
theorem mZ(h:Cy w b #[x0,x1,x2,x3,x4,x5,x6,x7,x8,x9,F1,Ly] t):Cy (w.setCell ⟨b,1,N⟩ u) b #[x0,u,x2,x3,x4,x5,x6,x7,x8,x9,F1,Ly] t:=h.set 1 u
theorem sC(h:Cy w b #[x0,x1,x2,x3,x4,x5,x6,x7,x8,x9,F1,Ly] t):Cy (w.setCell ⟨b,2,N⟩ u) b #[x0,x1,u,x3,x4,x5,x6,x7,x8,x9,F1,Ly] t:=h.set 2 u
theorem sD(h:Cy w b #[x0,x1,x2,x3,x4,x5,x6,x7,x8,x9,F1,Ly] t):Cy (w.setCell ⟨b,3,N⟩ u) b #[x0,x1,x2,u,x4,x5,x6,x7,x8,x9,F1,Ly] t:=h.set 3 u
theorem sE(h:Cy w b #[x0,x1,x2,x3,x4,x5,x6,x7,x8,x9,F1,Ly] t):Cy (w.setCell ⟨b,4,N⟩ u) b #[x0,x1,x2,x3,u,x5,x6,x7,x8,x9,F1,Ly] t:=h.set 4 u
theorem sF(h:Cy w b #[x0,x1,x2,x3,x4,x5,x6,x7,x8,x9,F1,Ly] t):Cy (w.setCell ⟨b,5,N⟩ u) b #[x0,x1,x2,x3,x4,u,x6,x7,x8,x9,F1,Ly] t:=h.set 5 u
theorem sG(h:Cy w b #[x0,x1,x2,x3,x4,x5,x6,x7,x8,x9,F1,Ly] t):Cy (w.setCell ⟨b,6,N⟩ u) b #[x0,x1,x2,x3,x4,x5,u,x7,x8,x9,F1,Ly] t:=h.set 6 u
theorem sH(h:Cy w b #[x0,x1,x2,x3,x4,x5,x6,x7,x8,x9,F1,Ly] t):Cy (w.setCell ⟨b,7,N⟩ u) b #[x0,x1,x2,x3,x4,x5,x6,u,x8,x9,F1,Ly] t:=h.set 7 u
theorem sI(h:Cy w b #[x0,x1,x2,x3,x4,x5,x6,x7,x8,x9,F1,Ly] t):Cy (w.setCell ⟨b,8,N⟩ u) b #[x0,x1,x2,x3,x4,x5,x6,x7,u,x9,F1,Ly] t:=h.set 8 u
theorem sJ(h:Cy w b #[x0,x1,x2,x3,x4,x5,x6,x7,x8,x9,F1,Ly] t):Cy (w.setCell ⟨b,9,N⟩ u) b #[x0,x1,x2,x3,x4,x5,x6,x7,x8,u,F1,Ly] t:=h.set 9 u
theorem qh(h:Cy w b #[x0,x1,x2,x3,x4,x5,x6,x7,x8,x9,F1,Ly] t):Cy (w.setCell ⟨b,10,N⟩ u) b #[x0,x1,x2,x3,x4,x5,x6,x7,x8,x9,u,Ly] t:=h.set 10 u
theorem qi(h:Cy w b #[x0,x1,x2,x3,x4,x5,x6,x7,x8,x9,F1,Ly] t):Cy (w.setCell ⟨b,11,N⟩ u) b #[x0,x1,x2,x3,x4,x5,x6,x7,x8,x9,F1,u] t:=h.set 11 u
theorem LX(h:Cy w b #[x0,x1,x2,x3,x4,x5,x6,x7,x8,x9,F1,Ly] t):Cy ((((((((((((w.setCell ⟨b,0,N⟩ u0).setCell ⟨b,1,N⟩ u1).setCell ⟨b,2,N⟩ u2).setCell ⟨b,3,N⟩ u3).setCell ⟨b,4,N⟩ u4).setCell ⟨b,5,N⟩ u5).setCell ⟨b,6,N⟩ u6).setCell ⟨b,7,N⟩ u7).setCell ⟨b,8,N⟩ u8).setCell ⟨b,9,N⟩ u9).setCell ⟨b,10,N⟩ u10).setCell ⟨b,11,N⟩ u11) b #[u0,u1,u2,u3,u4,u5,u6,u7,u8,u9,u10,u11] t:=qi (qh (sJ (sI (sH (sG (sF (sE (sD (sC (mZ (ek (h))))))))))))
theorem EX(h:tS a.heap.size a w)(c:a.heap.size<=b):tS a.heap.size a ((((((((((((w.setCell ⟨b,0,N⟩ u0).setCell ⟨b,1,N⟩ u1).setCell ⟨b,2,N⟩ u2).setCell ⟨b,3,N⟩ u3).setCell ⟨b,4,N⟩ u4).setCell ⟨b,5,N⟩ u5).setCell ⟨b,6,N⟩ u6).setCell ⟨b,7,N⟩ u7).setCell ⟨b,8,N⟩ u8).setCell ⟨b,9,N⟩ u9).setCell ⟨b,10,N⟩ u10).setCell ⟨b,11,N⟩ u11):=C5 (C5 (C5 (C5 (C5 (C5 (C5 (C5 (C5 (C5 (C5 (C5 (h) c _ _) c _ _) c _ _) c _ _) c _ _) c _ _) c _ _) c _ _) c _ _) c _ _) c _ _) c _ _
theorem KS{S:Nat->Prop}(h:Cw S a w)(c:S b):Cw S a ((((((((((((w.setCell ⟨b,0,N⟩ u0).setCell ⟨b,1,N⟩ u1).setCell ⟨b,2,N⟩ u2).setCell ⟨b,3,N⟩ u3).setCell ⟨b,4,N⟩ u4).setCell ⟨b,5,N⟩ u5).setCell ⟨b,6,N⟩ u6).setCell ⟨b,7,N⟩ u7).setCell ⟨b,8,N⟩ u8).setCell ⟨b,9,N⟩ u9).setCell ⟨b,10,N⟩ u10).setCell ⟨b,11,N⟩ u11):=((((((((((((h.set (.inr c) _ _).set (.inr c) _ _).set (.inr c) _ _).set (.inr c) _ _).set (.inr c) _ _).set (.inr c) _ _).set (.inr c) _ _).set (.inr c) _ _).set (.inr c) _ _).set (.inr c) _ _).set (.inr c) _ _).set (.inr c) _ _)
theorem Fy{n:Int}(h:Cy W b #[u0,u1,u2,u3,u4,u5,u6,u7,u8,u9,u10,u11] 50)(c:tmps[6]?.getD undef=J (Z ⟨b,0,N⟩))(d:tmps[7]?.getD undef=I U n)(e:tmps[8]?.getD undef=ue tZ)(f:Q (ui (uo #[uk #[u0,u1,u2,u3,u4,u5,u6,u7,u8,u9,u10,u11],I U n,ue tZ])) W):bodyPost prog f259 Q Exit.ret {tmps:=tmps,defers:=[]} W:=by have a:=h.cell 0;have k1:=h.cell 1;have k2:=h.cell 2;have k3:=h.cell 3;have k4:=h.cell 4;have k5:=h.cell 5;have k6:=h.cell 6;have k7:=h.cell 7;have k8:=h.cell 8;have k9:=h.cell 9;have Sk:=h.cell 10;have Yo:=h.cell 11;simp only[Ad,Ag,Ac]at a k1 k2 k3 k4 k5 k6 k7 k8 k9 Sk Yo;exact AM (v:=uo #[uk #[u0,u1,u2,u3,u4,u5,u6,u7,u8,u9,u10,u11],I U n,ue tZ]) (by simp[results,results259,go_sem,c,d,e,a,k1,k2,k3,k4,k5,k6,k7,k8,k9,Sk,Yo]) rfl f
theorem eo(h:Cy W b #[u0,u1,u2,u3,u4,u5,u6,u7,u8,u9,u10,u11] 50)(c:tmps[2]?.getD undef=J (Z ⟨b,0,N⟩))(d:Q (ui (uk #[u0,u1,u2,u3,u4,u5,u6,u7,u8,u9,u10,u11])) W):bodyPost prog f56 Q Exit.ret {tmps:=tmps,defers:=[]} W:=by have a:=h.cell 0;have k1:=h.cell 1;have k2:=h.cell 2;have k3:=h.cell 3;have k4:=h.cell 4;have k5:=h.cell 5;have k6:=h.cell 6;have k7:=h.cell 7;have k8:=h.cell 8;have k9:=h.cell 9;have Sk:=h.cell 10;have Yo:=h.cell 11;simp only[Ad,Ag,Ac]at a k1 k2 k3 k4 k5 k6 k7 k8 k9 Sk Yo;exact AM (v:=uk #[u0,u1,u2,u3,u4,u5,u6,u7,u8,u9,u10,u11]) (by simp[results,results56,go_sem,c,a,k1,k2,k3,k4,k5,k6,k7,k8,k9,Sk,Yo]) rfl d
theorem Fo(fn pc r0 r1 b c f g i m:Int)(v:tR)(l:List (Int×Int))(d:Bool)(w:rO)(h:Hu w 0 v l)(r:l.length<=1000):tT prog 56 #[uk #[I U fn,I U pc,I U r0,I U r1,I U b,I U c,I U f,I U g,I U i,I U m,v,ue d]] w λe w'=> ∃n,e=ui (uk #[I U fn,I U pc,I U r0,I U r1,I U b,I U c,I U f,I U g,I U i,I U m,n,ue d])/\GM w' w.heap.size 227 2 n l.length (LW l)/\tS w.heap.size w w':=by have s:=Aa (λW(t:tS w.heap.size w W)=>ES v l W (h.below t) r);go_enter func56,ntmps56;go_wp2_with(go_at_call 123;refine(s.out _ (Cu (Cu (tU _ _) _) _)).mono ?_;rintro e D⟨n,rfl,o,a⟩;obtain⟨E,sc,rfl⟩:=Ew o;have u:=Aa (((Cy.new w #[I U fn,I U pc,I U r0,I U r1,I U b,I U c,I U f,I U g,I U i,I U m,v,ue d] 50).alloc _).below a (by simp<;>omega));have p:=Aa ((Ul w _ #[I U 0,I U 0,I U 0,I U 0,I U 0,I U 0,I U 0,I U 0,I U 0,I U 0,Y N 0 0,ue tY] 50).below a (by simp<;>omega));obtain⟨f1,z0,F,z2,z3,z4,z5,G,H,K,z9,x,y⟩:=Io u.out;obtain⟨g1,L,M,O,y3,y4,P,y6,Q,R,T,z,A⟩:=Io p.out;have B:=Aa a;have q:=Aa o);exact eo (LX (p.out.setOther (by omega) _)) rfl ⟨_,rfl,(q.out.mono (by simp<;>omega)).off (S:=λj=>j<=w.heap.size+1) (KS ((Cw.refl (λj=>j<=w.heap.size+1) _).set (.inr (Bh _)) _ _) (Al _)) (λk C V=>by have:=(q.out.lt k C).1;simp at this;omega),EX (C5 (Cv (Cu (Cu (tU _ _) _) _) B.out) (Al _) _ _) (Bh _)⟩
theorem F8(fn arg:Int)(w:rO):tT prog 115 #[I U fn,I U arg] w λe w'=>e=ui (uk #[I U fn,I U 0,I U arg,I U 0,I U 0,I U 0,I U 0,I U 0,I U 0,I U 0,JO,ue tY])/\tS w.heap.size w w':=by go_enter func115,ntmps115;go_wp2;exact AM (v:=uk #[I U fn,I U 0,I U arg,I U 0,I U 0,I U 0,I U 0,I U 0,I U 0,I U 0,JO,ue tY]) (by simp[results,results115,go_sem]) rfl ⟨rfl,Cu (tU _ _) _⟩
def Vx(op n x pc:Int):Int:=if op=6 then n else if op=7/\x≠0 then n else pc
def mv(op n x fn pc:Int)(l:List (Int×Int)):Option (Int×Int×List (Int×Int)):=
 if op=14\/(op=8/\l.length=16)\/(op=9/\l=[])then N
 else if op=8 then Z (n,0,l++[(fn,pc)])
 else if op=9 then Z ((l.getLast?.getD (0,0)).1,(l.getLast?.getD (0,0)).2,l.dropLast)
 else Z (fn,Vx op n x pc,l)
def Sn(tb lo:Nat)(sv:tR)(m:Option (Int×Int×List (Int×Int)))(r:List Int)(w:rO)(e:uh)(w':rO):Prop:=e=ui (ue m.isSome)/\Cw (λj=>j=tb\/sv.ownBlock=Z j) w w'/\ ∀x,m=Z x-> ∃a,Cy w' tb (tv x.1 x.2.1 r a tY) 50/\Hu w' lo a x.2.2
section
variable (op a b c n fn pc:Int)(r:List Int)(sv:tR)(l:List (Int×Int))(tb lo:Nat)(w:rO)(h:Cy w tb (tv fn pc r sv tY) 50)(hS:GM w lo 227 2 sv l.length (LW l))(R6:Hs (λj=>j=tb) sv)
include h hS R6
theorem So(x:Int):tT prog 314 #[J (Z ⟨tb,0,N⟩),uk #[I U 6,I U a,I U b,I U c,I U n]] w (Sn tb lo sv (mv 6 n x fn pc l) r w):=by have c1:w.cell? ⟨tb,1,N⟩=Z (I U pc):=h.cell 1;have f1:=h.free 1;have f:=h.lt;have d:=Aa (Ab h (Ab hS R6));go_enter func314,ntmps314;go_wp2;go_ret;have o:Cw (λj=>j=tb) w ((w.setCell ⟨tb,1,N⟩ (I U n)).alloc (uj #[I U 6,I U a,I U b,I U c,I U n] 84)):=((Cw.refl (λj=>j=tb) w).set (.inr rfl) _ _).alloc _;exact⟨rfl,o.mono (λj _ e=>.inl e),λx g=>by cases g;exact⟨sv,(d.out.1.set 1 _).alloc _,(KR d.out.2.1).only o d.out.2.2⟩⟩
theorem Vy(x:Int)(f:op=14\/(op=8/\l.length=16)\/(op=9/\l=[])):tT prog 314 #[J (Z ⟨tb,0,N⟩),uk #[I U op,I U a,I U b,I U c,I U n]] w (Sn tb lo sv (mv op n x fn pc l) r w):=by
 unfold mv;rw[Ai f];obtain⟨g,sc,rfl⟩:=Ew hS;have c1:w.cell? ⟨tb,10,N⟩=Z (.slice g l.length sc):=h.cell 10;have i:=h.lt;rcases f with rfl|⟨rfl,e⟩|⟨rfl,e⟩
 ·go_enter func314,ntmps314
  go_wp2;go_ret;exact⟨rfl,(Cw.refl _ w).alloc _,λx d=>by cases d⟩
 ·rw[e]at c1
  go_enter func314,ntmps314;go_wp2;go_ret;exact⟨rfl,(Cw.refl _ w).alloc _,λx d=>by cases d⟩
 ·rw[e]at c1
  go_enter func314,ntmps314;go_wp2;go_ret;exact⟨rfl,(Cw.refl _ w).alloc _,λx d=>by cases d⟩
theorem Yp(g:(op==6)=tY)(i:(op==7)=tY)(j:(op==8)=tY)(k:(op==9)=tY)(e:(op==14)=tY)(x:Int):tT prog 314 #[J (Z ⟨tb,0,N⟩),uk #[I U op,I U a,I U b,I U c,I U n]] w (Sn tb lo sv (mv op n x fn pc l) r w):=by
 have hm:mv op n x fn pc l=Z (fn,pc,l):=by simp only[Az,ne_eq]at*;simp[mv,Vx, *]
 rw[hm];have d:=Aa (Ab h (Ab hS R6));go_enter func314,ntmps314;go_wp2;go_ret;exact⟨rfl,(Cw.refl _ w).alloc _,λx f=>by cases f;exact⟨sv,d.out.1.alloc _,(KR d.out.2.1).below (Cu (tU _ _) _)⟩⟩
theorem Yq(k:Nat)(x:Int)(g:k<8)(i:a=k)(m:r_ r k=x):tT prog 314 #[J (Z ⟨tb,0,N⟩),uk #[I U 7,I U a,I U b,I U c,I U n]] w (Sn tb lo sv (mv 7 n x fn pc l) r w):=by
 subst i;have c1:w.cell? ⟨tb,2+k,N⟩=Z (I U x):=by rw[h.cell,MA g,m]
 have t:w.cell? ⟨tb,1,N⟩=Z (I U pc):=h.cell 1;have f2:=h.free 1;have p:=h.lt;have q:(k:Int)<8:=by omega
 have f:=Aa (Ab h (Ab hS R6));by_cases d:x=0
 ·subst d
  go_enter func314,ntmps314;go_wp2;go_region
  all_goals(go_wp2;go_ret;exact⟨rfl,((Cw.refl _ w).alloc _).drew,λx d=>by cases d;exact⟨sv,(f.out.1.alloc _).drew,(KR f.out.2.1).below (Cu (tU _ _) _).drew⟩⟩)
 ·have hm:mv 7 n x fn pc l=Z (fn,n,l):=by simp[mv,Vx,d]
  rw[hm];have s:(x==0)=false:=by simpa using d
  go_enter func314,ntmps314;go_wp2;go_region
  all_goals(go_wp2;go_ret;have o:Cw (λj=>j=tb) w (((w.setCell ⟨tb,1,N⟩ (I U n)).alloc (uj #[I U 7,I U k,I U b,I U c,I U n] 84)).drew):=(((Cw.refl (λj=>j=tb) w).set (.inr rfl) _ _).alloc _).drew;exact⟨rfl,o.mono (λj _ e=>.inl e),λx d=>by cases d;exact⟨sv,((f.out.1.set 1 _).alloc _).drew,(KR f.out.2.1).only o f.out.2.2⟩⟩)
theorem Vz(x:Int)(k:l≠[])(C:l.length<=16):tT prog 314 #[J (Z ⟨tb,0,N⟩),uk #[I U 9,I U a,I U b,I U c,I U n]] w (Sn tb lo sv (mv 9 n x fn pc l) r w):=by
 obtain⟨m,hm⟩: ∃m,l.length=m+1:=⟨l.length-1,by have:=Cf.2 k;omega⟩;have D:l[m]?=Z (l.getLast?.getD (0,0)):=by rw[List.getLast?_eq_getElem?,hm,Nat.add_sub_cancel,Ae (by omega)];rfl
 have t:mv 9 n x fn pc l=Z ((l.getLast?.getD (0,0)).1,(l.getLast?.getD (0,0)).2,l.dropLast):=by simp[mv,k]
 rw[t];generalize l.getLast?.getD (0,0)=fr at*
 have v:l.dropLast.length=m:=by simp[hm]
 have p: ∀(j:Nat)(u:tR),(LW l.dropLast)[j]?=Z u->(LW l)[j]?=Z u:=λj u s=>by have E:=(Af.1 s).1;have e:l=l.dropLast++[l.getLast k]:=(List.dropLast_concat_getLast k).symm;rw[e,Uj,Aw E];exact s
 have y:=KR hS;rcases y with⟨-,F⟩|⟨g,cap,rfl,z,A,f,d⟩
 ·exact absurd F k
 obtain⟨g1,g2⟩:=jQ D;have d1:=d _ _ g1;have d2:=d _ _ g2;rw[hm]at f⊢;have c1:w.cell? ⟨tb,10,N⟩=Z (Y (Z ⟨g,0,N⟩) (m+1) cap):=by rw[<-hm];exact h.cell 10
 have K:w.cell? ⟨tb,0,N⟩=Z (I U fn):=h.cell 0;have c3:w.cell? ⟨tb,1,N⟩=Z (I U pc):=h.cell 1;have f0:=h.free 0;have f1:=h.free 1;have f2:=h.free 10;have G:=h.lt;have q: ¬g=tb:=λe=>R6 g rfl e;have L:((m:Int)+1-1)=m:=by omega
 have M:m<16:=by omega
 have i:=Aa (Ab h (Ab z (Ab A (Ab f d))));have B:=Aa (Ab p v);have O:(m:Int)<m+1:=by omega
 go_enter func314,ntmps314;go_wp2;go_region
 all_goals
  go_wp2;go_ret;have o:Cw (λj=>j=tb) w ((((w.setCell ⟨tb,0,N⟩ (I U fr.1)).setCell ⟨tb,1,N⟩ (I U fr.2)).setCell ⟨tb,10,N⟩ (Y (Z ⟨g,0,N⟩) m cap)).alloc (uj #[I U 9,I U a,I U b,I U c,I U n] 84)).drew:=(((((Cw.refl (λj=>j=tb) w).set (.inr rfl) _ _).set (.inr rfl) _ _).set (.inr rfl) _ _).alloc _).drew;refine⟨rfl,o.mono (λj _ e=>.inl e),λx H=>?_⟩;cases H;refine⟨Y (Z ⟨g,0,N⟩) m cap,((((i.out.1.set 0 _).set 1 _).set 10 _).alloc _).drew,.inr ⟨g,cap,by rw[B.out.2],i.out.2.1,An i.out.2.2.1 o.size,by rw[B.out.2];exact Nat.le_of_succ_le i.out.2.2.2.1,λj u s=>(AK (o.block g i.out.2.2.1 q)).trans (i.out.2.2.2.2 j u (B.out.1 j u s))⟩⟩
end
end Vm
open Go.RowKit Go.CN
variable {w w':rO}{base size n j:Nat}{e t:uf}{v:tR}{xs:List tR}{cs:Array tR}{T:List uf}
theorem D6(h:w.ownsRow base e size v n xs)(a:v.ownBlock=Z j): ∃cs,Cy w j cs e:=by
 obtain⟨_,⟨rfl,_⟩|⟨g,cap,cur,rfl,_,b,_⟩⟩:=h
 ·cases a
 ·cases a;exact⟨cur,b⟩
theorem DV{a b:Array tR}{s:uf}(d:Cy w j a s)(c:Cy w j b t):s=t:=by unfold Cy at d c;rw[d]at c;cases c;rfl
theorem Md{g:Nat}(h:Cy w g cs e)(b:base<=g)(a:cs.size=n*size)(hm:n<=1000000):w.ownsRow base e size (Y (Z ⟨g,0,N⟩) n n) n cs.toList:=⟨by simpa using a,.inr ⟨g,n,cs,rfl,b,h,Al _,by unfold maxLen;omega,a,by rw[<-a];exact AL (by simp)⟩⟩
theorem DD(h:w.ownsRow base e size v n xs): ∃a c,v= .slice a n c:=by
 rcases C6 h with⟨rfl,b⟩|⟨g,cap,rfl,_⟩
 ·exact⟨N,0,by rw[b]⟩
 ·exact⟨_,cap,rfl⟩
theorem Et(h:w.ownsRow base e size v n xs)(f:0<n): ∃g cap cur,v=Y (Z ⟨g,0,N⟩) n cap/\base<=g/\Cy w g cur e/\cur.toList.take (n*size)=xs:=by
 obtain⟨_,⟨_,i⟩|⟨g,cap,cur,a,b,c,_,_,_,d⟩⟩:=h
 ·omega
 ·exact⟨g,cap,cur,a,b,c,d⟩
structure KT (T:List uf) (w w':rO):Prop where
 size:w.heap.size<=w'.heap.size
 keep: ∀{j:Nat}{cs:Array tR}{t:uf},Cy w j cs t->t∉T->Cy w' j cs t
theorem KT.refl(T:List uf)(w:rO):KT T w w:=⟨Al _,λh _=>h⟩
theorem KT.trans{a b c:rO}(h:KT T a b)(k:KT T b c):KT T a c:=⟨AA h.size k.size,λe d=>k.keep (h.keep e d) d⟩
theorem KT.below(a:tS w.heap.size w w'):KT T w w':=⟨a.size,λh _=>h.below a h.lt⟩
theorem KT.set{b:Nat}(c:Cy w b cs t)(d:t∈T)(i:Nat)(u:tR):KT T w (w.setCell ⟨b,i,N⟩ u):=⟨by simp[tV],λ{j f t'} h a=>h.setOther (λe=>by subst e;rw[DV h c]at a;exact a d) _⟩
theorem KT.grown(h:w.ownsRow base e size v n xs)(a:w.grownBy w' v.ownBlock)(he:e∈T):KT T w w':=⟨a.size,λ{j cs t} b c=>b.kept a (λe'=>by obtain⟨d,q⟩:=D6 h e'.symm;rw[DV b q]at c;exact c he)⟩
theorem KT.row(k:KT T w w')(h:w.ownsRow base e size v n xs)(he:e∉T):w'.ownsRow base e size v n xs:=by
 obtain⟨a,b|⟨g,cap,cur,c,d,f,r⟩⟩:=h
 ·exact⟨a,.inl b⟩
 ·exact⟨a,.inr ⟨g,cap,cur,c,d,k.keep f he,r⟩⟩
namespace Vm
section
variable (op a b c n fn pc:Int)(r:List Int)(sv:tR)(l:List (Int×Int))(tb lo:Nat)(w:rO)(h:Cy w tb (tv fn pc r sv tY) 50)(hS:GM w lo 227 2 sv l.length (LW l))(R6:Hs (λj=>j=tb) sv)
include h hS R6
theorem Su(x:Int)(hl:l.length<16)(qm:lo<=w.heap.size):tT prog 314 #[J (Z ⟨tb,0,N⟩),uk #[I U 8,I U a,I U b,I U c,I U n]] w (Sn tb lo sv (mv 8 n x fn pc l) r w):=by
 have p:mv 8 n x fn pc l=Z (n,0,l++[(fn,pc)]):=by simp[mv];omega
 rw[p];obtain⟨g,sc,rfl⟩:=Ew hS;have c1:w.cell? ⟨tb,10,N⟩=Z (.slice g l.length sc):=h.cell 10;have F:w.cell? ⟨tb,0,N⟩=Z (I U fn):=h.cell 0;have c3:w.cell? ⟨tb,1,N⟩=Z (I U pc):=h.cell 1;have A:=h.lt;have i: ¬((l.length:Int)=16):=by omega
 have q:((l.length:Int)==16)=false:=by simpa using i
 have d:=Aa (Ab h (Ab hS R6));have B:=Aa hl;have s:Hid (lo<=w.heap.size):=qm;go_enter func314,ntmps314;go_wp2;go_region_law(refine JA underlying48 Uk rfl (by decide) (by decide) lo _ rfl (.tmp 41) (.tmp 51) rfl (.slice g l.length sc) l.length (LW l) ⟨w.heap.size+1,0,N⟩ 1 [I U fn,I U pc] (by simp[Act.eval]) (by simp[Act.eval]) (d.out.2.1.below (by(repeat(first|exact tU _ _|refine tX ?_|refine Cu ?_ _)))) rfl (Yn (t:=227) (by first|exact Ul _ _ _ _|exact(Ul _ _ _ _).drew)) (by simp[Value.oneCell']) (by have:=s.out;simp;omega) (by have:=B.out;omega) ?_;intro G f m;obtain⟨v,y,rfl⟩:=m.some;have o:=Aa (Cy.kept (by first|exact d.out.1.alloc _ |>.drew |>.alloc _|exact((d.out.1.alloc _).alloc _).drew:Cy _ tb (tv fn pc r (.slice g l.length sc) tY) 50) m.2.1 (λe=>d.out.2.2 tb e.symm rfl));have z0:f.cell? ⟨tb,0,N⟩=Z (I U fn):=o.out.cell 0;have H:f.cell? ⟨tb,1,N⟩=Z (I U pc):=o.out.cell 1;have z2:f.cell? ⟨tb,10,N⟩=Z (.slice g l.length sc):=o.out.cell 10;have K:=o.out.free;have L:f.cell? ⟨w.heap.size,4,N⟩=Z (I U n):=(Cy.kept (by first|exact(Cy.new w _ _).alloc _ |>.drew|exact((Cy.new w _ _).alloc _):Cy _ w.heap.size #[I U 8,I U a,I U b,I U c,I U n] 84) m.2.1 (λe=>by have:=(d.out.2.1.lt _ e.symm).2;omega)).cell 4;have C:Hid (Cw (λj=>(Value.slice g l.length sc).ownBlock=Z j) w f):=Cw.grown (by first|exact((Cw.refl _ w).alloc _ |>.alloc _).drew|exact((Cw.refl _ w).alloc _).alloc _) m.2.1 (λk hk=>.inr hk);have z:=Aa m)
 all_goals
  go_wp2;go_ret;refine⟨rfl,(((C.out.mono (λj _ e=>.inr e)).set (.inr (.inl rfl)) _ _).set (.inr (.inl rfl)) _ _).set (.inr (.inl rfl)) _ _,λx D=>?_⟩;cases D;have E:GM f lo 227 2 (Y (Z ⟨v,0,N⟩) (l.length+1) y) (l++[(fn,pc)]).length (LW (l++[(fn,pc)])):=by rw[Uj,Au];exact .inl z.out.1
  exact⟨Y (Z ⟨v,0,N⟩) (l.length+1) y,((o.out.set 10 _).set 0 _).set 1 _,(KR E).only ((((Cw.refl (λj=>j=tb) _).set (.inr rfl) _ _).set (.inr rfl) _ _).set (.inr rfl) _ _) (λk hk e=>by
   rcases z.out.2.2 k hk with u|u
   ·exact d.out.2.2 k u e
   ·simp at u;omega)⟩
omit h hS R6 in
theorem Hd(x:Int)(h:Cy w tb (tv fn pc r sv tY) 50)(hS:GM w lo 227 2 sv l.length (LW l))(R6:Hs (λj=>j=tb) sv) (k:Nat) (hk:k<8) (ha:a=k) (hr:r_ r k=x) (hl:l.length<=16) (qm:lo<=w.heap.size):tT prog 314 #[J (Z ⟨tb,0,N⟩),uk #[I U op,I U a,I U b,I U c,I U n]] w (Sn tb lo sv (mv op n x fn pc l) r w):=by
 by_cases he:op=14\/(op=8/\l.length=16)\/(op=9/\l=[])
 ·exact Vy op a b c n fn pc r sv l tb lo w h hS R6 x he
 by_cases e6:op=6
 ·subst e6;exact So a b c n fn pc r sv l tb lo w h hS R6 x
 by_cases e7:op=7
 ·subst e7;exact Yq a b c n fn pc r sv l tb lo w h hS R6 k x hk ha hr
 by_cases e8:op=8
 ·subst e8;exact Su a b c n fn pc r sv l tb lo w h hS R6 x (by omega) qm
 by_cases e9:op=9
 ·subst e9;exact Vz a b c n fn pc r sv l tb lo w h hS R6 x (λe=>he (.inr (.inr ⟨rfl,e⟩))) hl
 have sK:op≠14:=λe=>he (.inl e);exact Yp op a b c n fn pc r sv l tb lo w h hS R6 (by simpa using e6) (by simpa using e7) (by simpa using e8) (by simpa using e9) (by simpa using sK) x
end
variable {b k:Nat}{fn pc:Int}
structure At (w:rO) (fv:tR) (kf kp:Nat) (i:CP):Prop where
 at_: ∃pb po np pc cb co nc cc,fv=Y (Z ⟨pb,po,N⟩) np pc/\kf<np/\kp<nc/\pb<w.heap.size/\cb<w.heap.size/\w.cell? ⟨pb,po+kf*2,N⟩=Z (Y (Z ⟨cb,co,N⟩) nc cc)/\
  w.cell? ⟨cb,co+kp*5,N⟩=Z (I U i.op)/\w.cell? ⟨cb,co+kp*5+1,N⟩=Z (I U i.a)/\w.cell? ⟨cb,co+kp*5+2,N⟩=Z (I U i.b)/\w.cell? ⟨cb,co+kp*5+3,N⟩=Z (I U i.c)/\w.cell? ⟨cb,co+kp*5+4,N⟩=Z (I U i.n)
theorem PT{S:Nat->Prop}{W w1:rO}(h:Cw S W w1):(∀b o,b<W.heap.size-> ¬S b->w1.cell? ⟨b,o,N⟩=W.cell? ⟨b,o,N⟩)/\(∀b o,b<W.heap.size-> ¬S b->w1.frozen? ⟨b,o,N⟩=W.frozen? ⟨b,o,N⟩):=⟨λb o a c=>AK (h.block b a c),λb o a c=>World.frozen?_of_block (h.block b a c)⟩
def JP(op b c:Int):Int:=if op=2 then wrap64 (b+c)else if op=3 then wrap64 (b-c)else if op=4 then wrap64 (b*c)else if b<c then 1 else 0
theorem Kd(op:Nat)(h:op=2\/op=3\/op=4\/op=5)(b c:Int)(w:rO):tT prog (345+op) #[uk #[I U b,I U c]] w λe d=>e=ui (I U (JP op b c))/\tS w.heap.size w d:=by
 rcases h with rfl|rfl|rfl|rfl
 ·go_enter func347,ntmps347
  go_wp2;go_ret;exact⟨rfl,Cu (tU _ _) _⟩
 ·go_enter func348,ntmps348
  go_wp2;go_ret;exact⟨rfl,Cu (tU _ _) _⟩
 ·go_enter func349,ntmps349
  go_wp2;go_ret;exact⟨rfl,Cu (tU _ _) _⟩
 ·by_cases a:b<c
  ·have e:JP (5:Nat) b c=1:=by simp[JP,a]
   rw[e];go_enter func350,ntmps350;go_wp2;go_ret;exact⟨rfl,Cu (tU _ _) _⟩
  ·have e:JP (5:Nat) b c=0:=by simp[JP,a]
   rw[e];go_enter func350,ntmps350;go_wp2;go_ret;exact⟨rfl,Cu (tU _ _) _⟩
theorem Hv(op:Int)(w:rO)(b:(op==2)=tY)(c:(op==3)=tY)(d:(op==4)=tY)(f:(op==5)=tY):tT prog 312 #[I U op] w λe a=>e=ui .nilFunc/\w=a:=by go_enter func312,ntmps312;go_wp2;go_ret;exact⟨rfl,rfl⟩
theorem GN(op:Nat)(h:op=2\/op=3\/op=4\/op=5)(w:rO):tT prog 312 #[I U op] w λe a=>e=ui (.func (.func (345+op)) #[] #[])/\w=a:=by
 rcases h with rfl|rfl|rfl|rfl
 all_goals
  go_enter func312,ntmps312;go_wp2;go_ret;exact⟨rfl,rfl⟩
def jS(m:Option (Int×Int×List (Int×Int)))(r:List Int)(n:Int)(w:rO)(e:uh)(w':rO):Prop:=
 tS w.heap.size w w'/\match m with
 |none=>e=ui (uo #[uk (tv 0 0 [0,0,0,0,0,0,0,0] JO tZ),I U 0,ue tZ])
 |some x=> ∃a,e=ui (uo #[uk (tv x.1 x.2.1 r a tY),I U n,ue tZ])/\Hu w' w.heap.size a x.2.2
theorem qo{w:rO}{r:List Int}{sv:tR}{d:Bool}(h:Cy w b (tv fn pc r sv d) 50)(hk:k<8)(hr:r.length=8)(x:Int):Cy (w.setCell ⟨b,2+k,N⟩ (I U x)) b (tv fn pc (r.set k x) sv d) 50:=by rw[<-jR hk hr];exact h.set _ _
theorem qt{w:rO}{r:List Int}{sv:tR}{d:Bool}(h:Cy w b (tv fn pc r sv d) 50)(hk:k<8):w.cell? ⟨b,2+k,N⟩=Z (I U (r_ r k)):=by rw[h.cell,MA hk]
theorem MB{a b:rO}(h:a=b):tS a.heap.size a b:=h▸tU _ _
section
variable (fv:tR)(kf kp:Nat)(r:List Int)(sv:tR)(l:List (Int×Int))(op b c n PU:Int)(ka:Nat)(w:rO)(hA:At w fv kf kp ⟨op,ka,b,c,n⟩)(hI:D3.Laid w)(hr:r.length=8)(hS:Hu w 0 sv l)(hl:l.length<=16)(hk:ka<8)
include hA hI hr hS hl hk
theorem nd(O:(op==1)=tY)(aa:(op==15)=tY)(v:(op==2)=tY)(P:(op==3)=tY)(Q:(op==4)=tY)(h5:(op==5)=tY)(hq:(D3.row op).asks=tY):tT prog 259 #[uk #[fv],uk #[I U kf,I U kp,I U (r_ r 0),I U (r_ r 1),I U (r_ r 2),I U (r_ r 3),I U (r_ r 4),I U (r_ r 5),I U (r_ r 6),I U (r_ r 7),sv,ue tY],I U PU] w (jS (mv op n (r_ (r) ka) kf (wrap64 (kp+1)) l) (r) (0) w):=by
 have z9:=hr;clear z9;obtain⟨y,po,np,R,z,co,nc,cc,rfl,hf,hp,ab,ad,cF,i0,i1,i2,i3,i4⟩:=hA.at_;simp only at i0 i1 i2 i3 i4;have T:=Aa (λV(A:tS w.heap.size w V)=>D3.Mz op V (hI.below A));have HC:=Aa (λW(A:tS w.heap.size w W)=>Fo kf kp (r_ r 0) (r_ r 1) (r_ r 2) (r_ r 3) (r_ r 4) (r_ r 5) (r_ r 6) (r_ r 7) sv l tY W (hS.below A) (by omega));have HM:=Aa (λW tb lo v1 O v P Q=>Hd op ka b c n kf (wrap64 (kp+1)) (r) v1 l tb lo W _ O v P ka hk rfl rfl hl Q);have ae:y<w.heap.size+1:=by omega
 have af:y<w.heap.size+2:=by omega
 have ag:y<w.heap.size+3:=by omega
 have ah:z<w.heap.size+1:=by omega
 have ai:z<w.heap.size+2:=by omega
 have aj:z<w.heap.size+3:=by omega
 have q1:(kf:Int)<(np:Int):=by omega
 have q2:(kp:Int)<(nc:Int):=by omega
 generalize mv op n (r_ (r) ka) kf (wrap64 (kp+1)) l=M at*
 rw[hq]at T;have ak: ∀w,(binOp .neq 376 .nilFunc .nilFunc).run prog w= .ok (ue tY) w:=λ_=>by kernel_rfl
 go_enter func259,ntmps259;go_wp2;go_region
 go_wp2_with(first|(go_at_call 56;refine(HC.out _ (by(repeat(first|exact tU _ _|refine tX ?_|refine Cu ?_ _)))).mono ?_;rintro e d⟨v1,rfl,q,i⟩;obtain⟨B,sc,rfl⟩:=Ew q;obtain⟨c1,f1⟩:=FC i;have ao:w.heap.size+3<d.heap.size:=(by have:=i.size;simp at this;omega);have s:Hid (tS w.heap.size w d):=Aa (Cv (by(repeat(first|exact tU _ _|refine tX ?_|refine Cu ?_ _))) i);have C:=Aa (((((Cy.ID #[I U 0,I U 0,I U 0,I U 0,I U 0,I U 0,I U 0,I U 0,I U 0,I U 0,JO,ue tY] 50 (show((w.alloc _).alloc _).heap.size=w.heap.size+1+1 by simp)).alloc _).drew).below i (by simp<;>omega)));have f:Hid (GM d (w.heap.size+4) 227 2 (.slice B l.length sc) l.length (LW l)):=Aa (q.mono (by simp));have X: ¬w.heap.size+1+1=d.heap.size:=(by omega);have e3:w.heap.size+1+1+1<d.heap.size+1:=(by omega);have e8:w.heap.size+1<d.heap.size:=(by omega))|(go_at_call 312;refine(Hv _ _ (by assumption) (by assumption) (by assumption) (by assumption)).mono ?_;rintro e D⟨rfl,rfl⟩)|(go_at_call 313;refine(T.out _ (Cu s.out _)).mono ?_;rintro e D⟨rfl,a⟩;obtain⟨c2,f2⟩:=FC a;have aq:d.heap.size<D.heap.size:=(by have:=a.size;simp at this;omega);have HK:=Aa ((Cy.new d _ 50:Cy _ d.heap.size (tv kf kp r (.slice B l.length sc) tY) 50).below a (by simp));have E:Hid (tS w.heap.size w D):=Aa (Cv (by(repeat(first|exact s.out|refine tX ?_|refine Cu ?_ _))) a);have F:=Aa ((C.out.alloc _).below a (by simp<;>omega));have G:=Aa ((f.out.below (Cu (tU _ _) _)).below a)));refine(HM.out _ _ (w.heap.size+4) _ (HK.out.set 1 _) (G.out.off ((Cw.refl (λj=>j=d.heap.size) _).set (.inr rfl) _ _) (λk hk e=>by have:=(f.out.lt k hk).2;omega)) (λk hk e=>by have:=(f.out.lt k hk).2;omega) (by first|(simp only[JB];omega)|(simp[tV];omega))).mono ?_;rintro e w3⟨rfl,m,H⟩;obtain⟨c3,f3⟩:=PT m;try simp only[JB]at c3 f3
 have t:Hid (tS w.heap.size w w3):=Aa (Ea (C5 E.out (by omega) 1 _) m (λk hk=>by rcases hk with rfl|hk;omega;have:=(f.out.lt _ hk).1;omega));have K: ¬(w.heap.size+1+1=d.heap.size\/(Value.slice B l.length sc).ownBlock=Z (w.heap.size+1+1)):=λh=>by
  rcases h with h|h
  ·omega
  ·have:=(f.out.lt _ h).1;omega
 have o:=Aa ((F.out.setOther X _).only m K);obtain⟨zf,zc⟩:=Io o.out;cases M with
 |none=>go_wp2_with fail;exact Fy (n:=0) (LX o.out) rfl rfl rfl ⟨EX t.out (B7 (Bh _)),rfl⟩
 |some x=>obtain⟨x1,x2,x3⟩:=x;obtain⟨v3,L,p⟩:=H _ rfl;obtain⟨ar,au,rfl⟩:=Fm p;obtain⟨yf,yc⟩:=Io L;dsimp only at yc p;have u:=Aa p;go_wp2_with fail;exact Fy (n:=0) (LX o.out) rfl rfl rfl ⟨EX t.out (B7 (Bh _)),_,rfl,(u.out.only (S:=λj=>j=w.heap.size+1+1) (KS (Cw.refl _ _) rfl) (λk hk e=>by rcases u.out with⟨h,-⟩|⟨g,cap,h,v,-⟩;rw[h]at hk;cases hk;rw[h]at hk;cases hk;have X:g=w.heap.size+1+1:=e;omega)).mono (by omega)⟩
theorem et(R:(op==1)=tY)(ab:(op==15)=tY)(z:(op==2)=tY)(T:(op==3)=tY)(V:(op==4)=tY)(h5:(op==5)=tY)(hq:(D3.row op).asks=tZ):tT prog 259 #[uk #[fv],uk #[I U kf,I U kp,I U (r_ r 0),I U (r_ r 1),I U (r_ r 2),I U (r_ r 3),I U (r_ r 4),I U (r_ r 5),I U (r_ r 6),I U (r_ r 7),sv,ue tY],I U PU] w (jS (mv op n (r_ (r.set ka PU) ka) kf (wrap64 (kp+1)) l) (r.set ka PU) (PU) w):=by
 obtain⟨A,po,np,X,B,co,nc,cc,rfl,hf,hp,ad,ae,cF,i0,i1,i2,i3,i4⟩:=hA.at_;simp only at i0 i1 i2 i3 i4;have HI:=Aa (λw'(C:tS w.heap.size w w')=>D3.Mz op w' (hI.below C));have HC:=Aa (λW(C:tS w.heap.size w W)=>Fo kf kp (r_ r 0) (r_ r 1) (r_ r 2) (r_ r 3) (r_ r 4) (r_ r 5) (r_ r 6) (r_ r 7) sv l tY W (hS.below C) (by omega));have HM:=Aa (λW tb lo v1 R z T V=>Hd op ka b c n kf (wrap64 (kp+1)) (r.set ka PU) v1 l tb lo W _ R z T ka hk rfl rfl hl V);have HR:=Aa (Ab hr hk);have af:A<w.heap.size+1:=by omega
 have ag:A<w.heap.size+2:=by omega
 have ah:A<w.heap.size+3:=by omega
 have ai:B<w.heap.size+1:=by omega
 have aj:B<w.heap.size+2:=by omega
 have ak:B<w.heap.size+3:=by omega
 have q1:(kf:Int)<(np:Int):=by omega
 have q2:(kp:Int)<(nc:Int):=by omega
 have q3:(ka:Int)<8:=by omega
 generalize mv op n (r_ (r.set ka PU) ka) kf (wrap64 (kp+1)) l=M at*
 rw[hq]at HI;have aa: ∀v:tR,[I U kf,I U kp,I U (r_ r 0),I U (r_ r 1),I U (r_ r 2),I U (r_ r 3),I U (r_ r 4),I U (r_ r 5),I U (r_ r 6),I U (r_ r 7),v,ue tY][2+ka]?=Z (I U (r_ r ka)):=λv=>by have:=MA (fn:=kf) (pc:=kp) (r:=r) (sv:=v) (d:=tY) hk;simpa[tv]using this
 have ao: ∀w,(binOp .neq 376 .nilFunc .nilFunc).run prog w= .ok (ue tY) w:=λ_=>by kernel_rfl
 go_enter func259,ntmps259;go_wp2;go_region
 go_wp2_with(first|(go_at_call 56;refine(HC.out _ (by(repeat(first|exact tU _ _|refine tX ?_|refine Cu ?_ _)))).mono ?_;rintro e f⟨v1,rfl,s,m⟩;obtain⟨D,sc,rfl⟩:=Ew s;obtain⟨c1,f1⟩:=FC m;have aq:w.heap.size+3<f.heap.size:=(by have:=m.size;simp at this;omega);have t:Hid (tS w.heap.size w f):=Aa (Cv (by(repeat(first|exact tU _ _|refine tX ?_|refine Cu ?_ _))) m);have E:=Aa (((((Cy.ID #[I U 0,I U 0,I U 0,I U 0,I U 0,I U 0,I U 0,I U 0,I U 0,I U 0,JO,ue tY] 50 (show((w.alloc _).alloc _).heap.size=w.heap.size+1+1 by simp)).alloc _).drew).below m (by simp<;>omega)));have i:Hid (GM f (w.heap.size+4) 227 2 (.slice D l.length sc) l.length (LW l)):=Aa (s.mono (by simp));have F: ¬w.heap.size+1+1=f.heap.size:=(by omega);have e3:w.heap.size+1+1+1<f.heap.size+1:=(by omega);have e8:w.heap.size+1<f.heap.size:=(by omega))|(go_at_call 312;refine(Hv _ _ (by assumption) (by assumption) (by assumption) (by assumption)).mono ?_;rintro e G⟨rfl,rfl⟩)|(go_at_call 313;refine(HI.out _ (Cu t.out _)).mono ?_;rintro e G⟨rfl,a⟩;obtain⟨c2,f2⟩:=FC a;have ar:f.heap.size<G.heap.size:=(by have:=a.size;simp at this;omega);have HK:=Aa ((Cy.new f _ 50:Cy _ f.heap.size (tv kf kp r (.slice D l.length sc) tY) 50).below a (by simp));have H:Hid (tS w.heap.size w G):=Aa (Cv (by(repeat(first|exact t.out|refine tX ?_|refine Cu ?_ _))) a);have K:=Aa ((E.out.alloc _).below a (by simp<;>omega));have L:=Aa ((i.out.below (Cu (tU _ _) _)).below a)));refine(HM.out _ _ (w.heap.size+4) _ ((qo HK.out HR.out.2 HR.out.1 PU).set 1 _) (L.out.off (((Cw.refl (λj=>j=f.heap.size) _).set (.inr rfl) _ _).set (.inr rfl) _ _) (λk hk e=>by have:=(i.out.lt k hk).2;omega)) (λk hk e=>by have:=(i.out.lt k hk).2;omega) (by first|(simp only[JB];omega)|(simp[tV];omega))).mono ?_;rintro e w3⟨rfl,o,O⟩;obtain⟨c3,f3⟩:=PT o;try simp only[JB]at c3 f3
 have u:Hid (tS w.heap.size w w3):=Aa (Ea (C5 (C5 H.out (by omega) _ _) (by omega) 1 _) o (λk hk=>by rcases hk with rfl|hk;omega;have:=(i.out.lt _ hk).1;omega));have P: ¬(w.heap.size+1+1=f.heap.size\/(Value.slice D l.length sc).ownBlock=Z (w.heap.size+1+1)):=λh=>by
  rcases h with h|h
  ·omega
  ·have:=(i.out.lt _ h).1;omega
 have p:=Aa (((K.out.setOther F _).setOther F _).only o P);obtain⟨zf,zc⟩:=Io p.out;cases M with
 |none=>go_wp2_with fail;exact Fy (n:=0) (LX p.out) rfl rfl rfl ⟨EX u.out (B7 (Bh _)),rfl⟩
 |some x=>obtain⟨x1,x2,x3⟩:=x;obtain⟨v3,Q,q⟩:=O _ rfl;obtain⟨au,av,rfl⟩:=Fm q;obtain⟨yf,yc⟩:=Io Q;dsimp only at yc q;have y:=Aa q;go_wp2_with fail;exact Fy (n:=PU) (LX p.out) rfl rfl rfl ⟨EX u.out (B7 (Bh _)),_,rfl,(y.out.only (S:=λj=>j=w.heap.size+1+1) (KS (Cw.refl _ _) rfl) (λk hk e=>by rcases y.out with⟨h,-⟩|⟨g,cap,h,z,-⟩;rw[h]at hk;cases hk;rw[h]at hk;cases hk;have F:g=w.heap.size+1+1:=e;omega)).mono (by omega)⟩
theorem Yr(B:op=1):tT prog 259 #[uk #[fv],uk #[I U kf,I U kp,I U (r_ r 0),I U (r_ r 1),I U (r_ r 2),I U (r_ r 3),I U (r_ r 4),I U (r_ r 5),I U (r_ r 6),I U (r_ r 7),sv,ue tY],I U PU] w (jS (mv 1 n (r_ (r.set ka n) ka) kf (wrap64 (kp+1)) l) (r.set ka n) (0) w):=by
 have z9:=hI;clear z9;subst B;obtain⟨C,po,np,R,D,co,nc,cc,rfl,hf,hp,ab,ad,cF,i0,i1,i2,i3,i4⟩:=hA.at_;simp only at i0 i1 i2 i3 i4;have HC:=Aa (λW(hb:tS w.heap.size w W)=>Fo kf kp (r_ r 0) (r_ r 1) (r_ r 2) (r_ r 3) (r_ r 4) (r_ r 5) (r_ r 6) (r_ r 7) sv l tY W (hS.below hb) (by omega));have T:=Aa (λW tb lo v1 B E V X=>Hd 1 ka b c n kf (wrap64 (kp+1)) (r.set ka n) v1 l tb lo W _ B E V ka hk rfl rfl hl X);have HR:=Aa (Ab hr hk);have ae:C<w.heap.size+1:=by omega
 have af:C<w.heap.size+2:=by omega
 have ag:C<w.heap.size+3:=by omega
 have ah:D<w.heap.size+1:=by omega
 have ai:D<w.heap.size+2:=by omega
 have aj:D<w.heap.size+3:=by omega
 have q1:(kf:Int)<(np:Int):=by omega
 have q2:(kp:Int)<(nc:Int):=by omega
 have q3:(ka:Int)<8:=by omega
 generalize mv 1 n (r_ (r.set ka n) ka) kf (wrap64 (kp+1)) l=M at*
 have E:((1:Int)==2)=false:=by decide
 have V:((1:Int)==3)=false:=by decide
 have X:((1:Int)==4)=false:=by decide
 have h5:((1:Int)==5)=false:=by decide
 have aa: ∀v:tR,[I U kf,I U kp,I U (r_ r 0),I U (r_ r 1),I U (r_ r 2),I U (r_ r 3),I U (r_ r 4),I U (r_ r 5),I U (r_ r 6),I U (r_ r 7),v,ue tY][2+ka]?=Z (I U (r_ r ka)):=λv=>by have:=MA (fn:=kf) (pc:=kp) (r:=r) (sv:=v) (d:=tY) hk;simpa[tv]using this
 clear hA hI hk hr hS hl;have ak: ∀w,(binOp .neq 376 .nilFunc .nilFunc).run prog w= .ok (ue tY) w:=λ_=>by kernel_rfl
 go_enter func259,ntmps259;go_wp2;go_region
 go_wp2_with(first|(go_at_call 56;refine(HC.out _ (by(repeat(first|exact tU _ _|refine tX ?_|refine Cu ?_ _)))).mono ?_;rintro e f⟨v1,rfl,q,i⟩;obtain⟨F,sc,rfl⟩:=Ew q;obtain⟨c1,f1⟩:=FC i;have ao:w.heap.size+3<f.heap.size:=(by have:=i.size;simp at this;omega);have G:Hid (tS w.heap.size w f):=Aa (Cv (by(repeat(first|exact tU _ _|refine tX ?_|refine Cu ?_ _))) i);have H:=Aa (((((Cy.ID #[I U 0,I U 0,I U 0,I U 0,I U 0,I U 0,I U 0,I U 0,I U 0,I U 0,JO,ue tY] 50 (show((w.alloc _).alloc _).heap.size=w.heap.size+1+1 by simp)).alloc _).drew).below i (by simp<;>omega)));have m:Hid (GM f (w.heap.size+4) 227 2 (.slice F l.length sc) l.length (LW l)):=Aa (q.mono (by simp));clear i q;have K: ¬w.heap.size+1+1=f.heap.size:=(by omega);have e3:w.heap.size+1+1+1<f.heap.size+1:=(by omega);have e8:w.heap.size+1<f.heap.size:=(by omega))|(go_at_call 312;refine(Hv _ _ (by assumption) (by assumption) (by assumption) (by assumption)).mono ?_;rintro e w2⟨rfl,u⟩;have a:=MB u;clear u;obtain⟨c2,f2⟩:=FC a;have aq:f.heap.size<w2.heap.size:=(by have:=a.size;simp at this;omega);have HK:=Aa ((Cy.new f _ 50:Cy _ f.heap.size (tv kf kp r (.slice F l.length sc) tY) 50).below a (by simp));have L:Hid (tS w.heap.size w w2):=Aa (Cv (by(repeat(first|exact G.out|refine tX ?_|refine Cu ?_ _))) a);have O:=Aa ((H.out.alloc _).below a (by simp<;>omega));have P:=Aa ((m.out.below (Cu (tU _ _) _)).below a);clear a));refine(T.out _ _ (w.heap.size+4) _ ((qo HK.out HR.out.2 HR.out.1 n).set 1 _) (P.out.off (((Cw.refl (λj=>j=f.heap.size) _).set (.inr rfl) _ _).set (.inr rfl) _ _) (λk hk e=>by have:=(m.out.lt k hk).2;omega)) (λk hk e=>by have:=(m.out.lt k hk).2;omega) (by first|(simp only[JB];omega)|(simp[tV];omega))).mono ?_;rintro e w3⟨rfl,o,s⟩;obtain⟨c3,f3⟩:=PT o;try simp only[JB]at c3 f3
 have y:Hid (tS w.heap.size w w3):=Aa (Ea (C5 (C5 L.out (by omega) _ _) (by omega) 1 _) o (λk hk=>by rcases hk with rfl|hk;omega;have:=(m.out.lt _ hk).1;omega));have Q: ¬(w.heap.size+1+1=f.heap.size\/(Value.slice F l.length sc).ownBlock=Z (w.heap.size+1+1)):=λh=>by
  rcases h with h|h
  ·omega
  ·have:=(m.out.lt _ h).1;omega
 have t:=Aa (((O.out.setOther K _).setOther K _).only o Q);obtain⟨zf,zc⟩:=Io t.out;clear o;clear c3 f3;clear T;cases M with
 |none=>clear s;go_wp2_with fail;exact Fy (n:=0) (LX t.out) rfl rfl rfl ⟨EX y.out (B7 (Bh _)),rfl⟩
 |some x=>obtain⟨x1,x2,x3⟩:=x;obtain⟨v3,z,p⟩:=s _ rfl;obtain⟨ar,au,rfl⟩:=Fm p;obtain⟨yf,yc⟩:=Io z;dsimp only at yc p;have A:=Aa p;clear s z p;go_wp2_with fail;exact Fy (n:=0) (LX t.out) rfl rfl rfl ⟨EX y.out (B7 (Bh _)),_,rfl,(A.out.only (S:=λj=>j=w.heap.size+1+1) (KS (Cw.refl _ _) rfl) (λk hk e=>by rcases A.out with⟨h,-⟩|⟨g,cap,h,E,-⟩;rw[h]at hk;cases hk;rw[h]at hk;cases hk;have K:g=w.heap.size+1+1:=e;omega)).mono (by omega)⟩
theorem eu(B:op=15):tT prog 259 #[uk #[fv],uk #[I U kf,I U kp,I U (r_ r 0),I U (r_ r 1),I U (r_ r 2),I U (r_ r 3),I U (r_ r 4),I U (r_ r 5),I U (r_ r 6),I U (r_ r 7),sv,ue tY],I U PU] w (jS (mv 15 n (r_ (r) ka) kf (wrap64 (kp+1)) l) (r) (r_ r ka) w):=by
 have z9:=hI;clear z9;have z9:=hr;clear z9;subst B;obtain⟨C,po,np,Q,D,co,nc,cc,rfl,hf,hp,aa,ab,cF,i0,i1,i2,i3,i4⟩:=hA.at_;simp only at i0 i1 i2 i3 i4;have HC:=Aa (λW(hb:tS w.heap.size w W)=>Fo kf kp (r_ r 0) (r_ r 1) (r_ r 2) (r_ r 3) (r_ r 4) (r_ r 5) (r_ r 6) (r_ r 7) sv l tY W (hS.below hb) (by omega));have R:=Aa (λW tb lo v1 B E T V=>Hd 15 ka b c n kf (wrap64 (kp+1)) (r) v1 l tb lo W _ B E T ka hk rfl rfl hl V);have ad:C<w.heap.size+1:=by omega
 have ae:C<w.heap.size+2:=by omega
 have af:C<w.heap.size+3:=by omega
 have ag:D<w.heap.size+1:=by omega
 have ah:D<w.heap.size+2:=by omega
 have ai:D<w.heap.size+3:=by omega
 have q1:(kf:Int)<(np:Int):=by omega
 have q2:(kp:Int)<(nc:Int):=by omega
 have q3:(ka:Int)<8:=by omega
 generalize mv 15 n (r_ (r) ka) kf (wrap64 (kp+1)) l=M at*
 have E:((15:Int)==2)=false:=by decide
 have T:((15:Int)==3)=false:=by decide
 have V:((15:Int)==4)=false:=by decide
 have h5:((15:Int)==5)=false:=by decide
 have X: ∀v:tR,[I U kf,I U kp,I U (r_ r 0),I U (r_ r 1),I U (r_ r 2),I U (r_ r 3),I U (r_ r 4),I U (r_ r 5),I U (r_ r 6),I U (r_ r 7),v,ue tY][2+ka]?=Z (I U (r_ r ka)):=λv=>by have:=MA (fn:=kf) (pc:=kp) (r:=r) (sv:=v) (d:=tY) hk;simpa[tv]using this
 clear hA hI hk hr hS hl;have aj: ∀w,(binOp .neq 376 .nilFunc .nilFunc).run prog w= .ok (ue tY) w:=λ_=>by kernel_rfl
 go_enter func259,ntmps259;go_wp2;go_region
 go_wp2_with(first|(go_at_call 56;refine(HC.out _ (by(repeat(first|exact tU _ _|refine tX ?_|refine Cu ?_ _)))).mono ?_;rintro e f⟨v1,rfl,q,i⟩;obtain⟨F,sc,rfl⟩:=Ew q;obtain⟨c1,f1⟩:=FC i;have ak:w.heap.size+3<f.heap.size:=(by have:=i.size;simp at this;omega);have G:Hid (tS w.heap.size w f):=Aa (Cv (by(repeat(first|exact tU _ _|refine tX ?_|refine Cu ?_ _))) i);have H:=Aa (((((Cy.ID #[I U 0,I U 0,I U 0,I U 0,I U 0,I U 0,I U 0,I U 0,I U 0,I U 0,JO,ue tY] 50 (show((w.alloc _).alloc _).heap.size=w.heap.size+1+1 by simp)).alloc _).drew).below i (by simp<;>omega)));have m:Hid (GM f (w.heap.size+4) 227 2 (.slice F l.length sc) l.length (LW l)):=Aa (q.mono (by simp));clear i q;have e2: ¬w.heap.size+1+1=f.heap.size:=(by omega);have e3:w.heap.size+1+1+1<f.heap.size+1:=(by omega);have e8:w.heap.size+1<f.heap.size:=(by omega);have ea:w.heap.size+1<f.heap.size+1:=(by omega))|(go_at_call 312;refine(Hv _ _ (by assumption) (by assumption) (by assumption) (by assumption)).mono ?_;rintro e w2⟨rfl,u⟩;have a:=MB u;clear u;obtain⟨c2,f2⟩:=FC a;have ao:f.heap.size<w2.heap.size:=(by have:=a.size;simp at this;omega);have HK:=Aa ((Cy.new f _ 50:Cy _ f.heap.size (tv kf kp r (.slice F l.length sc) tY) 50).below a (by simp));have K:Hid (tS w.heap.size w w2):=Aa (Cv (by(repeat(first|exact G.out|refine tX ?_|refine Cu ?_ _))) a);have L:=Aa ((H.out.alloc _).below a (by simp<;>omega));have O:=Aa ((m.out.below (Cu (tU _ _) _)).below a);clear a));refine(R.out _ _ (w.heap.size+4) _ (HK.out.set 1 _) (O.out.off ((Cw.refl (λj=>j=f.heap.size) _).set (.inr rfl) _ _) (λk hk e=>by have:=(m.out.lt k hk).2;omega)) (λk hk e=>by have:=(m.out.lt k hk).2;omega) (by first|(simp only[JB];omega)|(simp[tV];omega))).mono ?_;rintro e w3⟨rfl,o,s⟩;obtain⟨c3,f3⟩:=PT o;try simp only[JB]at c3 f3
 have y:Hid (tS w.heap.size w w3):=Aa (Ea (C5 K.out (by omega) 1 _) o (λk hk=>by rcases hk with rfl|hk;omega;have:=(m.out.lt _ hk).1;omega));have P: ¬(w.heap.size+1+1=f.heap.size\/(Value.slice F l.length sc).ownBlock=Z (w.heap.size+1+1)):=λh=>by
  rcases h with h|h
  ·omega
  ·have:=(m.out.lt _ h).1;omega
 have t:=Aa ((L.out.setOther e2 _).only o P);obtain⟨zf,zc⟩:=Io t.out;clear o;clear c3 f3;clear R;cases M with
 |none=>clear s;go_wp2_with fail;exact Fy (n:=0) (LX t.out) rfl rfl rfl ⟨EX y.out (B7 (Bh _)),rfl⟩
 |some x=>obtain⟨x1,x2,x3⟩:=x;obtain⟨v3,z,p⟩:=s _ rfl;obtain⟨aq,ar,rfl⟩:=Fm p;obtain⟨yf,yc⟩:=Io z;dsimp only at yc p;have A:=Aa p;clear s z p;go_wp2_with fail;exact Fy (n:=r_ r ka) (LX t.out) rfl rfl rfl ⟨EX y.out (B7 (Bh _)),_,rfl,(A.out.only (S:=λj=>j=w.heap.size+1+1) (KS (Cw.refl _ _) rfl) (λk hk e=>by rcases A.out with⟨h,-⟩|⟨g,cap,h,E,-⟩;rw[h]at hk;cases hk;rw[h]at hk;cases hk;have e2:g=w.heap.size+1+1:=e;omega)).mono (by omega)⟩
end
end Vm
end Go.Proofs.YtgadhchejmlfjaaGreatDoor
