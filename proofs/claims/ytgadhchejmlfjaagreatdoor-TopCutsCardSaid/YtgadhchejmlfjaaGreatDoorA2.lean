/- A part of the proof. -/
import Derived.Test.YtgadhchejmlfjaaGreatDoorA1
set_option linter.unusedVariables false
set_option maxRecDepth 20000
set_option maxHeartbeats 16000000
open Go.Value renaming int→I,pointer→J,slice→Y
open Go.IntKind renaming i64→U
open Option renaming none→N,some→Z
open Bool renaming false→rm,true→rq
open Go renaming Calls→re,Ending→rB,Value→qY,World→oZ
open Go.Ending renaming returned→rC
open Go.Obj renaming cells→rD
open Go.RowKit renaming Below→qZ
open Go.RowKit.Below renaming refl→rf
open Go.Value renaming agg→rE,bool→ry,ownBlock→ru,string→rF,tuple→rG
namespace Go.Proofs.YtgadhchejmlfjaaGreatDoor.FO
open Go.Proofs.Tryz Go.RowKit Go.CL
def Bs(w:oZ)(v:qY)(l:List Bool):Prop:= ∃b off cap,v=Y (Z ⟨b,off,N⟩) l.length cap∧b<w.heap.size∧ ∀i,i<l.length→w.cell? ⟨b,off+i,N⟩=Z (ry (l[i]?.getD rm))
def H6(l:List Bool)(pc:Int):Bool:=if 0≤pc then l[pc.toNat]?.getD rm else rm
def Ok(n:Nat)(l:List Bool)(pc:Int):Bool:=decide (pc=0)||(decide (pc<n)&&H6 l pc)
def J4(b:Bool)(w:oZ)(e:rB)(w':oZ):Prop:=e=rC (ry b)∧qZ w.heap.size w w'
def iE(b:Int)(w:oZ)(e:rB)(w':oZ):Prop:=e=rC (I U b)∧qZ w.heap.size w w'
theorem J5(a:Option Addr)(n b:Nat)(sv:qY)(pc:Int)(w:oZ)(c:0<n):re prog 154 #[rE #[.slice a n b,sv],I U pc] w (J4 (decide (pc=0)) w):=by
 by_cases h:pc=0
 ·subst h
  rw[AZ rfl];go_enter func154,ntmps154;go_wp2;go_ret;exact⟨rfl,Ct (rf _ _) _⟩
 ·have d:(pc==0)=false:=by simpa using h
  rw[Bb h];go_enter func154,ntmps154;go_wp2;go_ret;exact⟨rfl,Ct (rf _ _) _⟩
theorem Ml(e sv:qY)(l:List Bool)(pc:Int)(w:oZ)(f:Bs w sv l):re prog 155 #[rE #[e,sv],I U pc] w (J4 (H6 l pc) w):=by
 obtain⟨b,off,cap,rfl,i,a⟩:=f;unfold H6;by_cases h:0≤pc
 ·rw[Ai h]
  obtain⟨k,rfl⟩: ∃k:Nat,pc=k:=⟨pc.toNat,by omega⟩;by_cases c:k<l.length
  ·have j:=a k c
   have d:decide ((k:Int)<(l.length:Int))=true:=by simpa using c
   have g: ¬b=w.heap.size:=by omega
   rw[An];generalize l[k]?.getD rm=x at*
   clear a;go_enter func155,ntmps155;go_wp2;go_ret;exact⟨rfl,Ct (rf _ _) _⟩
  ·have d:decide (k<l.length)=false:=by simpa using c
   rw[An,A9 (by omega)];clear a;go_enter func155,ntmps155;go_wp2;go_ret;exact⟨rfl,Ct (rf _ _) _⟩
 ·rw[Ah h]
  have d:decide (0≤pc)=false:=by simpa using h
  clear a;go_enter func155,ntmps155;go_wp2;go_ret;exact⟨rfl,Ct (rf _ _) _⟩
theorem Bs.below{w w':oZ}{v:qY}{l:List Bool}(h:Bs w v l)(a:qZ w.heap.size w w'):Bs w' v l:=by obtain⟨b,off,cap,rfl,c,d⟩:=h;exact⟨b,off,cap,rfl,Am c a.size,fun i e=>(a.cell (p:=⟨b,off+i,N⟩) c).trans (d i e)⟩
theorem U5(i:Option Addr)(n j:Nat)(sv:qY)(l:List Bool)(pc:Int)(w:oZ)(A:0<n)(s:Bs w sv l):re prog 98 #[rE #[.slice i n j,sv],I U pc] w (J4 (Ok n l pc) w):=by
 have B:=Aa s;have t: ∃a n c,sv= .slice a n c:=by obtain⟨b,off,cap,rfl,_⟩:=s;exact⟨_,_,_,rfl⟩
 obtain⟨o,sn,sc,rfl⟩:=t;have k:=Aa (fun w=>J5 i n j (.slice o sn sc) pc w A);unfold Ok;clear s A;by_cases m:pc=0
 ·have:decide (pc=0)=true:=by simpa using m
  simp only[this,Bool.true_or]at k⊢;clear m;go_enter func98,ntmps98;go_wp2_with(go_at_call 154;refine(k.out _).mono ?_;rintro e q⟨rfl,d⟩);go_ret;exact⟨rfl,Cu (Ct (rf _ _) _) d⟩
 ·have:decide (pc=0)=false:=by simpa using m
  simp only[this,Bool.false_or]at k⊢;by_cases r:pc<n
  ·have u:decide (pc<(n:Int))=true:=by simpa using r
   simp only[u,Zcb];clear m r;go_enter func98,ntmps98;go_wp2_with fail;refine(k.out _).mono ?_;rintro e q⟨rfl,d⟩;have g:=Cu (Ct (rf _ _) (rD #[.slice i n j,.slice o sn sc] 87)) d;have f:=d.cell (p:=⟨w.heap.size,0,N⟩) (by simp);have v:=d.cell (p:=⟨w.heap.size,1,N⟩) (by simp);simp at f v;have C:w.heap.size<q.heap.size:=by have:=d.size;simp at this;omega
   have D:=Aa (fun E h=>Ml (.slice i n j) (.slice o sn sc) l pc E h);have x:=Aa (B.out.below g);have y:=Aa g;clear d g;go_wp2_with fail;refine(D.out _ x.out).mono ?_;rintro e F⟨rfl,z⟩;go_wp2_with fail;go_ret;exact⟨rfl,Cu y.out z⟩
  ·have u:decide (pc<(n:Int))=false:=by simpa using r
   simp only[u,Bool.false_and];clear m r;go_enter func98,ntmps98;go_wp2_with fail;refine(k.out _).mono ?_;rintro e q⟨rfl,d⟩;have g:=Cu (Ct (rf _ _) (rD #[.slice i n j,.slice o sn sc] 87)) d;have f:=d.cell (p:=⟨w.heap.size,0,N⟩) (by simp);simp at f;have C:w.heap.size<q.heap.size:=by have:=d.size;simp at this;omega
   have y:=Aa g;clear d g;go_wp2_with fail;go_ret;exact⟨rfl,y.out⟩
def Pk(a p b st c sp:Bool):Value:=rE #[ry a,ry p,ry b,ry st,ry c,ry sp]
def J6(b st a sp:Bool):Int:=if b then 1 else if a then 2 else if st then 3 else if sp then 3 else 4
theorem Hj(a p b st c sp:Bool)(w:oZ):re prog 254 #[Pk a p b st c sp] w (iE (J6 b st c sp) w):=by
 unfold Pk J6;cases b<;>cases c<;>cases st<;>cases sp
 all_goals
  go_enter func254,ntmps254;go_wp2;go_ret;exact⟨rfl,Ct (rf _ _) _⟩
def IZ(n:Nat)(l:List Bool)(pc:Int)(a p b st c sp:Bool):Int:=if(a||(p&&decide (pc=0)))&&Ok n l pc then J6 b st c sp else 0
theorem RN(m:Option Addr)(n o:Nat)(sv:qY)(l:List Bool)(pc:Int)(a p b st j sp:Bool)(w:oZ)(r:0<n)(s:Bs w sv l):re prog 180 #[rE #[.slice m n o,sv],I U pc,Pk a p b st j sp] w (iE (IZ n l pc a p b st j sp) w):=by
 have x:=Aa s;have t: ∃a n c,sv= .slice a n c:=by obtain⟨b,off,cap,rfl,_⟩:=s;exact⟨_,_,_,rfl⟩
 obtain⟨u,sn,sc,rfl⟩:=t;have z:=Aa (fun w=>J5 m n o (.slice u sn sc) pc w r);have A:=Aa (fun w h=>U5 m n o (.slice u sn sc) l pc w r h);have B:=Aa (fun w=>Hj a p b st j sp w);unfold IZ;unfold Pk at*
 clear s r;generalize Ok n l pc=T at*
 generalize decide (pc=0)=d at*
 generalize J6 b st j sp=E at*
 have q:=Aa (Ct (Ct (rf w.heap.size w) (rD #[.slice m n o,.slice u sn sc] 87)) (rD #[ry a,ry p,ry b,ry st,ry j,ry sp] 270));cases a<;>cases p<;>cases d<;>cases T
 all_goals
  go_enter func180,ntmps180;go_wp2_with(first|(go_at_call 154;refine(z.out _).mono ?_;rintro e C⟨rfl,g⟩;obtain⟨c1,f1⟩:=Ft g;have D:w.heap.size+1<C.heap.size:=by{have:=g.size;simp at this;omega};have i:=Aa (Cu q.out g);clear g)|(go_at_call 98;refine(A.out _ (by first|exact x.out.below i.out|exact x.out.below q.out)).mono ?_;rintro e y⟨rfl,f⟩;obtain⟨c3,f3⟩:=Ft f;have F:w.heap.size+1<y.heap.size:=by{have:=f.size;(try simp at this);omega};have k:=Aa (by first|exact Cu i.out f|exact Cu q.out f:qZ w.heap.size w y);clear f)|(go_at_call 254;refine(B.out _).mono ?_;rintro e G⟨rfl,v⟩));go_ret;exact⟨rfl,by first|exact Cu k.out v|exact k.out|exact i.out|exact q.out⟩
def U6(x:Bool)(act:Int):Bool:=if act=2∨act=3∨act=4 then rm else x
def iF(a p:Bool)(act:Int)(w:oZ)(e:rB)(w':oZ):Prop:= ∃b st c sp,e=rC (Pk (U6 a act) (U6 p act) b st c sp)∧qZ w.heap.size w w'
theorem U7(a p b st c sp:Bool)(act:Int)(w:oZ)(h:act=2∨act=3∨act=4):re prog 256 #[Pk a p b st c sp,I U act] w (iF a p act w):=by
 unfold Pk;rcases h with rfl|rfl|rfl
 ·go_enter func256,ntmps256
  go_wp2;exact AG (v:=Pk rm rm b st rm rm) (by simp[results,results256,go_sem,Pk]) rfl ⟨b,st,rm,rm,rfl,Ct (Ct (rf _ _) _) _⟩
 ·go_enter func256,ntmps256
  go_wp2;exact AG (v:=Pk rm rm b st c rm) (by simp[results,results256,go_sem,Pk]) rfl ⟨b,st,c,rm,rfl,Ct (Ct (rf _ _) _) _⟩
 ·go_enter func256,ntmps256
  go_wp2;exact AG (v:=Pk rm rm b st c sp) (by simp[results,results256,go_sem,Pk]) rfl ⟨b,st,c,sp,rfl,Ct (Ct (rf _ _) _) _⟩
theorem XW(i s n:Int)(w:oZ):re prog 291 #[I U i,I U s,I U n] w fun e c=>e=rC (ry (decide (0<i∧s≤0∧0<n)))∧w=c:=by
 by_cases a:0<i
 ·have d1:decide (0<i)=true:=by simpa using a
  by_cases b:s≤0
  ·have d2:decide (s≤0)=true:=by simpa using b
   rw[show decide (0<i∧s≤0∧0<n)=decide (0<n) by simp[a,b]];clear a b;go_enter func291,ntmps291;go_wp2;go_ret;exact⟨rfl,rfl⟩
  ·have d2:decide (s≤0)=false:=by simpa using b
   rw[show decide (0<i∧s≤0∧0<n)=rm by simp[a,b]];clear a b;go_enter func291,ntmps291;go_wp2;go_ret;exact⟨rfl,rfl⟩
 ·have d1:decide (0<i)=false:=by simpa using a
  rw[show decide (0<i∧s≤0∧0<n)=rm by simp[a]];clear a;go_enter func291,ntmps291;go_wp2;go_ret;exact⟨rfl,rfl⟩
end Go.Proofs.YtgadhchejmlfjaaGreatDoor.FO
namespace Go.Proofs.YtgadhchejmlfjaaGreatDoor.DX
open Go.Proofs.Tryz Go.RowKit Go.CL
variable {w w':oZ}
structure Row where
 name:List UInt8
 CS:Int
 target:Int
 number:Bool
 waits:Bool
 ends:Bool
 asks:Bool
def Df:Row:=⟨[],0,0,rm,rm,rm,rm⟩
def rows:List Row:=[⟨[110,111,112],0,0,rm,rm,rm,rm⟩,⟨[99,111,110,115,116],1,0,rq,rm,rm,rm⟩,⟨[97,100,100],3,0,rm,rm,rm,rm⟩,⟨[115,117,98],3,0,rm,rm,rm,rm⟩,⟨[109,117,108],3,0,rm,rm,rm,rm⟩,⟨[108,101,115,115],3,0,rm,rm,rm,rm⟩,⟨[106,117,109,112],0,1,rm,rm,rq,rm⟩,⟨[105,102],1,1,rm,rm,rm,rm⟩,⟨[99,97,108,108],0,2,rm,rm,rm,rm⟩,⟨[114,101,116],0,0,rm,rm,rq,rm⟩,⟨[115,112,97,119,110],1,2,rm,rm,rm,rq⟩,⟨[121,105,101,108,100],0,0,rm,rq,rm,rm⟩,⟨[98,108,111,99,107],0,0,rm,rq,rm,rm⟩,⟨[114,101,97,100,121],1,0,rm,rm,rm,rq⟩,⟨[101,120,105,116],0,0,rm,rm,rq,rm⟩,⟨[101,109,105,116],1,0,rm,rm,rm,rm⟩,⟨[115,121,115],1,0,rm,rq,rm,rm⟩,⟨[115,116,111,112],0,0,rm,rq,rm,rm⟩,⟨[115,116,97,114,116],0,0,rm,rm,rm,rm⟩,⟨[98,97,114,114,105,101,114],0,0,rm,rq,rm,rm⟩,⟨[115,117,115,112,101,110,100],1,0,rm,rq,rm,rq⟩,⟨[114,101,115,117,109,101],1,0,rm,rm,rm,rq⟩,⟨[114,101,115,105,122,101],1,0,rm,rm,rm,rq⟩,⟨[115,101,108,102],1,0,rm,rm,rm,rq⟩]
def row(op:Int):Row:=if 0≤op then rows[op.toNat]?.getD Df else Df
def agg(r:Row):Value:=rE #[rF ⟨r.name.toArray⟩,I U r.CS,I U r.target,ry r.number,ry r.waits,ry r.ends,ry r.asks]
structure Laid (w:oZ):Prop where
 lt:0<w.heap.size
 cell: ∀k,k<24→w.cell? ⟨0,k*7,N⟩=Z (rF ⟨(rows[k]?.getD Df).name.toArray⟩)∧w.cell? ⟨0,k*7+1,N⟩=Z (I U (rows[k]?.getD Df).CS)∧w.cell? ⟨0,k*7+2,N⟩=Z (I U (rows[k]?.getD Df).target)∧
  w.cell? ⟨0,k*7+3,N⟩=Z (ry (rows[k]?.getD Df).number)∧w.cell? ⟨0,k*7+4,N⟩=Z (ry (rows[k]?.getD Df).waits)∧w.cell? ⟨0,k*7+5,N⟩=Z (ry (rows[k]?.getD Df).ends)∧w.cell? ⟨0,k*7+6,N⟩=Z (ry (rows[k]?.getD Df).asks)
theorem Laid.kept(h:Laid w)(a:0<w'.heap.size)(b:w'.heap[0]?=w.heap[0]?):Laid w':=
 have c: ∀i,w'.cell? ⟨0,i,N⟩=w.cell? ⟨0,i,N⟩:=fun i=>AH b
 ⟨a,fun k d=>by simp only[c];exact h.cell k d⟩
theorem Laid.only{S:Nat→Prop}(h:Laid w)(o:Cv S w w')(a: ¬S 0):Laid w':=h.kept (Am h.lt o.size) (o.block 0 h.lt a)
theorem Laid.below(h:Laid w)(o:qZ w.heap.size w w'):Laid w':=h.kept (Am h.lt o.size) (o.block 0 h.lt)
def nK(op:Int)(w:oZ)(e:rB)(w':oZ):Prop:=e=rC (agg (row op))∧qZ w.heap.size w w'
theorem XY(op:Int)(w:oZ)(h:Laid w):re prog 162 #[I U op] w (nK op w):=by
 unfold nK row;by_cases a:0≤op
 ·rw[Ai a]
  obtain⟨k,rfl⟩: ∃k:Nat,op=k:=⟨op.toNat,by omega⟩;rw[An];by_cases c:k<24
  ·obtain⟨c0,c1,f,c3,c4,c5,c6⟩:=h.cell k c
   have d:=h.lt;have e: ¬0=w.heap.size:=by omega
   have d1:decide ((k:Int)<0)=false:=by simp
   have d2:decide (24≤(k:Int))=false:=by simp;omega
   have g:(k:Int)<24:=by omega
   generalize rows[k]?.getD Df=r at*
   unfold agg;clear h;go_enter func162,ntmps162;go_wp2;exact AG (v:=rE #[rF ⟨r.name.toArray⟩,I U r.CS,I U r.target,ry r.number,ry r.waits,ry r.ends,ry r.asks]) (by simp[results,results162,go_sem]) rfl ⟨rfl,Ct (rf _ _) _⟩
  ·have b:rows[k]?.getD Df=Df:=by rw[A9 (by simp[rows];omega)];rfl
   have d1:decide ((k:Int)<0)=false:=by simp
   have d2:decide (24≤(k:Int))=true:=by simp;omega
   rw[b];clear h b;go_enter func162,ntmps162;go_wp2;exact AG (v:=agg Df) (by simp[results,results162,go_sem,agg,Df]) rfl ⟨rfl,Ct (rf _ _) _⟩
 ·rw[Ah a]
  have d1:decide (op<0)=true:=by simp;omega
  clear h a;go_enter func162,ntmps162;go_wp2;exact AG (v:=agg Df) (by simp[results,results162,go_sem,agg,Df]) rfl ⟨rfl,Ct (rf _ _) _⟩
theorem RO(op:Int)(w:oZ)(h:Laid w):re prog 162 #[I U op] w fun e w'=>e=rC (rE #[rF ⟨(row op).name.toArray⟩,I U (row op).CS,I U (row op).target,ry (row op).number,ry (row op).waits,ry (row op).ends,ry (row op).asks])∧qZ w.heap.size w w':=XY op w h
theorem PA(op:Int)(w:oZ)(h:Laid w):re prog 132 #[I U op] w fun e w'=>e=rC (rF ⟨(row op).name.toArray⟩)∧qZ w.heap.size w w':=by
 have H:=Aa (RO op w h);clear h;generalize row op=r at*
 have b: ∀w,(Instr.field 258 (rE #[rF ⟨r.name.toArray⟩,I U r.CS,I U r.target,ry r.number,ry r.waits,ry r.ends,ry r.asks]) 0).run prog w= .ok (rF ⟨r.name.toArray⟩) w:=fun w=>by kernel_rfl
 go_enter func132,ntmps132;go_wp2_with(go_at_call 162;refine H.out.mono ?_;rintro e c⟨rfl,a⟩);go_ret;exact⟨rfl,a⟩
theorem Iu(op:Int)(w:oZ)(h:Laid w):re prog 133 #[I U op] w fun e w'=>e=rC (I U (row op).CS)∧qZ w.heap.size w w':=by
 have H:=Aa (RO op w h);clear h;generalize row op=r at*
 have b: ∀w,(Instr.field 258 (rE #[rF ⟨r.name.toArray⟩,I U r.CS,I U r.target,ry r.number,ry r.waits,ry r.ends,ry r.asks]) 1).run prog w= .ok (I U r.CS) w:=fun w=>by kernel_rfl
 go_enter func133,ntmps133;go_wp2_with(go_at_call 162;refine H.out.mono ?_;rintro e c⟨rfl,a⟩);go_ret;exact⟨rfl,a⟩
theorem Mm(op:Int)(w:oZ)(h:Laid w):re prog 130 #[I U op] w fun e w'=>e=rC (I U (row op).target)∧qZ w.heap.size w w':=by
 have H:=Aa (RO op w h);clear h;generalize row op=r at*
 have b: ∀w,(Instr.field 258 (rE #[rF ⟨r.name.toArray⟩,I U r.CS,I U r.target,ry r.number,ry r.waits,ry r.ends,ry r.asks]) 2).run prog w= .ok (I U r.target) w:=fun w=>by kernel_rfl
 go_enter func130,ntmps130;go_wp2_with(go_at_call 162;refine H.out.mono ?_;rintro e c⟨rfl,a⟩);go_ret;exact⟨rfl,a⟩
theorem Fe(op:Int)(w:oZ)(h:Laid w):re prog 205 #[I U op] w fun e w'=>e=rC (ry (row op).number)∧qZ w.heap.size w w':=by
 have H:=Aa (RO op w h);clear h;generalize row op=r at*
 have b: ∀w,(Instr.field 258 (rE #[rF ⟨r.name.toArray⟩,I U r.CS,I U r.target,ry r.number,ry r.waits,ry r.ends,ry r.asks]) 3).run prog w= .ok (ry r.number) w:=fun w=>by kernel_rfl
 go_enter func205,ntmps205;go_wp2_with(go_at_call 162;refine H.out.mono ?_;rintro e c⟨rfl,a⟩);go_ret;exact⟨rfl,a⟩
theorem KI(op:Int)(w:oZ)(h:Laid w):re prog 104 #[I U op] w fun e w'=>e=rC (ry (row op).waits)∧qZ w.heap.size w w':=by
 have H:=Aa (RO op w h);clear h;generalize row op=r at*
 have b: ∀w,(Instr.field 258 (rE #[rF ⟨r.name.toArray⟩,I U r.CS,I U r.target,ry r.number,ry r.waits,ry r.ends,ry r.asks]) 4).run prog w= .ok (ry r.waits) w:=fun w=>by kernel_rfl
 go_enter func104,ntmps104;go_wp2_with(go_at_call 162;refine H.out.mono ?_;rintro e c⟨rfl,a⟩);go_ret;exact⟨rfl,a⟩
theorem XZ(op:Int)(w:oZ)(h:Laid w):re prog 164 #[I U op] w fun e w'=>e=rC (ry (row op).ends)∧qZ w.heap.size w w':=by
 have H:=Aa (RO op w h);clear h;generalize row op=r at*
 have b: ∀w,(Instr.field 258 (rE #[rF ⟨r.name.toArray⟩,I U r.CS,I U r.target,ry r.number,ry r.waits,ry r.ends,ry r.asks]) 5).run prog w= .ok (ry r.ends) w:=fun w=>by kernel_rfl
 go_enter func164,ntmps164;go_wp2_with(go_at_call 162;refine H.out.mono ?_;rintro e c⟨rfl,a⟩);go_ret;exact⟨rfl,a⟩
theorem Iv(op:Int)(w:oZ)(h:Laid w):re prog 313 #[I U op] w fun e w'=>e=rC (ry (row op).asks)∧qZ w.heap.size w w':=by
 have H:=Aa (RO op w h);clear h;generalize row op=r at*
 have b: ∀w,(Instr.field 258 (rE #[rF ⟨r.name.toArray⟩,I U r.CS,I U r.target,ry r.number,ry r.waits,ry r.ends,ry r.asks]) 6).run prog w= .ok (ry r.asks) w:=fun w=>by kernel_rfl
 go_enter func313,ntmps313;go_wp2_with(go_at_call 162;refine H.out.mono ?_;rintro e c⟨rfl,a⟩);go_ret;exact⟨rfl,a⟩
end Go.Proofs.YtgadhchejmlfjaaGreatDoor.DX
namespace Go.Proofs.YtgadhchejmlfjaaGreatDoor.EO
open Go.Proofs.Tryz Go.RowKit Go.CL
theorem cO(n most:Int)(w:oZ)(h:1≤n∧n≤most):re prog 106 #[I U n,I U most] w fun e a=>e=rC (ry rm)∧w=a:=by
 have d1:decide (n<1)=false:=by simpa using h.1
 have d2:decide (n>most)=false:=by simpa using h.2
 have d3:decide (most<n)=false:=by simpa using h.2
 have d4:(1:Int)≤n:=h.1;have d5:n≤most:=h.2;clear h;go_enter func106,ntmps106;go_wp2;go_ret;exact⟨rfl,rfl⟩
theorem J7(p g m:Int)(w:oZ)(a:1≤p∧p≤256)(b:1≤g∧g≤64)(hm:1≤m∧m≤64):re prog 41 #[rE #[I U p,I U g,I U m]] w fun e c=>e=rC (I U 0)∧qZ w.heap.size w c:=by have H:=Aa (Ab a (Ab b hm));clear a b hm;go_enter func41,ntmps41;go_wp2_with(go_at_call 106;refine(cO _ _ _ (by first|exact H.out.1|exact H.out.2.1|exact H.out.2.2)).mono ?_;rintro e d⟨rfl,rfl⟩);go_ret;exact⟨rfl,Ct (rf _ _) _⟩
end Go.Proofs.YtgadhchejmlfjaaGreatDoor.EO
namespace Go.Proofs.YtgadhchejmlfjaaGreatDoor.FM
open Go.Proofs.Tryz Go.RowKit Go.CL
theorem J7(a b c:Int)(w:oZ)(p:1≤a∧a≤256)(k:1≤b∧b≤64)(l:1≤c∧c≤64)(hm:Mx w):re prog 209 #[rF ⟨(DL (a,b,c)).toArray⟩] w fun e s=>e=rC (rG #[rE #[I U a,I U b,I U c],ry rq])∧qZ w.heap.size w s:=by
 have f:Cx (w.alloc (rD #[I U 0,I U 0,I U 0] 34)) w.heap.size #[I U 0,I U 0,I U 0] 34:=Cx.new w _ 34;have t:=Aa (Nu a b c w.heap.size _ _ _ 34 _ ⟨⟨by simp only;omega,by simp only;omega⟩,⟨by simp only;omega,by simp only;omega⟩,⟨by simp only;omega,by simp only;omega⟩⟩ (hm.below (Ct (rf _ _) _)) f);have m:=Aa (Ab p (Ab k l));have u:=Aa (Ct (rf w.heap.size w) (rD #[I U 0,I U 0,I U 0] 34));clear p k l hm f;go_enter func209,ntmps209;go_wp2_with(first|(go_at_call 273;refine t.out.mono ?_;rintro e E⟨rfl,g,q⟩;have n:=Aa (Ab g q);have x:=g.cell 0;have y:=g.cell 1;have z:=g.cell 2;simp only[Ad,Ac,Ag]at x y z;clear g q)|(go_at_call 41;refine(EO.J7 a b c _ m.out.1 m.out.2.1 m.out.2.2).mono ?_;rintro e o⟨rfl,h⟩;have d:=n.out.1.below h n.out.1.lt;have i:=Aa (Ab d h);have A:=d.cell 0;have B:=d.cell 1;have C:=d.cell 2;have f3:=d.free 0;have f4:=d.free 1;have f5:=d.free 2;simp only[Ad,Ac,Ag]at A B C;clear d h));have f:=((i.out.1.set 0 (I U a)).set 1 (I U b)).set 2 (I U c);have h:qZ w.heap.size w (((o.setCell ⟨w.heap.size,0,N⟩ (I U a)).setCell ⟨w.heap.size,1,N⟩ (I U b)).setCell ⟨w.heap.size,2,N⟩ (I U c)):=by have k:=n.out.2.below i.out.2;have l:qZ w.heap.size (w.alloc (rD #[I U 0,I U 0,I U 0] 34)) o:=k.toBelow (by simp) (fun j D=>by rw[show j=w.heap.size from D];exact Al _);exact(((u.out.trans l).setCell (Al _) _).setCell (Al _) _).setCell (Al _) _
 generalize(((o.setCell ⟨w.heap.size,0,N⟩ (I U a)).setCell ⟨w.heap.size,1,N⟩ (I U b)).setCell ⟨w.heap.size,2,N⟩ (I U c))=W at*
 have c0:=f.cell 0;have c1:=f.cell 1;have r:=f.cell 2;simp only[Ba,Bj,BZ,Ad,Ac,Ag]at c0 c1 r;exact AG (v:=rG #[rE #[I U a,I U b,I U c],ry rq]) (by simp[results,results209,go_sem,c0,c1,r]) rfl ⟨rfl,h⟩
open cN (es Oj It XU XV)
theorem Ol(x:Int×Int×Int)(l:List (Int×Int×Int))(w:oZ)(a: ∀y∈x::l,TM y) (f:(x::l).length≤65536) (hm:Mx w):re prog 271 #[rF ⟨(C7 (x::l)).toArray⟩,rF ⟨#[10]⟩] w fun e b=>e=rC (rG #[rF ⟨(DL x).toArray⟩,rF ⟨(C7 l).toArray⟩,ry rq])∧qZ w.heap.size w b:=by obtain⟨m,hm⟩:=hm;have c:=Nt (x::l) a;refine(F2.cut ⟨(C7 (x::l)).toArray⟩ ⟨#[10]⟩ m w (by show(C7 (x::l)).toArray.size<_;simp only[Bd];omega) hm).mono ?_;rintro e b⟨rfl,n,rfl⟩;have d:=UU x l (a x (by simp));rw[show(⟨(C7 (x::l)).toArray⟩:ByteArray).data.toList=C7 (x::l) by simp,show(⟨#[10]⟩:ByteArray).data.toList=[10]from rfl,d];exact⟨rfl,BX (rf _ _) n⟩
def pH(w:oZ)(l:List (Int×Int×Int))(k:Nat)(v0 v2 v3:qY)(wr:oZ):Prop:=k≤l.length∧v0=rF ⟨(C7 (l.drop k)).toArray⟩∧v3=I U ((k:Int)+1)∧wr.ownsRow w.heap.size 36 3 v2 k (es (l.take k))∧qZ w.heap.size w wr
theorem DE{w:oZ}{base:Nat}{e:TypeId}{size:Nat}{v:qY}{n:Nat}{xs:List qY}(h:w.ownsRow base e size v n xs): ∃a c,v= .slice a n c:=by
 rcases Dr h with⟨rfl,b⟩|⟨g,cap,rfl,_⟩
 ·exact⟨N,0,by rw[b]⟩
 ·exact⟨_,cap,rfl⟩
theorem X0(a b c:Int)(w:oZ)(f:TM (a,b,c))(hm:Mx w):re prog 273 #[rF ⟨(DL (a,b,c)).toArray⟩,rE #[J (Z ⟨w.heap.size,0,N⟩),J (Z ⟨w.heap.size,1,N⟩),J (Z ⟨w.heap.size,2,N⟩)]] (w.alloc (rD #[I U 0,I U 0,I U 0] 36)) fun r d=>r=rC (ry rq)∧Cx d w.heap.size #[I U a,I U b,I U c] 36∧qZ w.heap.size w d:=by refine(Nu a b c w.heap.size _ _ _ 36 _ f (hm.below (Ct (rf _ _) _)) (Cx.new w _ 36)).mono ?_;rintro e d⟨rfl,g,h⟩;exact⟨rfl,g,(Ct (rf _ _) _).trans (h.toBelow (by simp) (fun j i=>by rw[show j=w.heap.size from i];exact Al _))⟩
theorem U8(l:List (Int×Int×Int))(w:oZ)(F: ∀x∈l,TM x) (o:l.length≤65536) (hm:Mx w):re prog 210 #[rF ⟨(C7 l).toArray⟩] w fun e G=> ∃v,e=rC (rG #[v,I U 0,I U 0])∧G.ownsRow w.heap.size 36 3 v l.length (es l)∧qZ w.heap.size w G:=by
 have d:=Aa (Ab F (Ab o hm));clear F o hm;go_enter func210,ntmps210;go_wp2;go_step3;go_wp2;go_step3;go_wp2;go_loopw [0,2,3] (fun v0 v2 v3 wr=> ∃k,pH w l k v0 v2 v3 wr) (fun _ _ t _=>l.length+1-(intOf t).toNat)
 case atStart=>exact⟨0,Ap _,rfl,rfl,AL w w.heap.size 36 3,rf _ _⟩
 case round=>
  obtain⟨k,P,rfl,rfl,n,p⟩:=hrel;obtain⟨a2,p2,rfl⟩:=DE n;by_cases f:k<l.length
  ·obtain⟨x,A⟩: ∃x,l[k]=x:=⟨_,rfl⟩
   have hdr:l.drop k=x::l.drop (k+1):=by rw[A0 f,A]
   have g:l[k]?=Z x:=by rw[Ae f,A]
   have H:=Ol x (l.drop (k+1)) wr (fun y hy=>d.out.1 y (Za3 (by rw[hdr];exact hy))) (by rw[←hdr];have:=d.out.2.1;simp;omega) (d.out.2.2.below p);have q:TM x:=d.out.1 x (A7 g);rw[hdr];have B:(C7 (x::l.drop (k+1))).isEmpty=false:=by
    cases Q:C7 (x::l.drop (k+1))with
    |nil=>exact absurd Q (XH _ _)
    |cons _ _=>rfl
   obtain⟨a,b,c⟩:=x;have K:=Aa (Ab g (Ab q hdr));have R:=Aa H;have C:=Aa n;have z:=Aa p;have S:((k:Int)==65536)=false:=by have:=d.out.2.1;simp;omega
   clear H n p A g q hdr;go_wp2_with(first|(go_at_call 271;refine R.out.mono ?_;rintro e T⟨rfl,h⟩;have i:=Aa (z.out.trans (h.mono z.out.size));have D:=Aa (CJ C.out h);have E:=Aa (d.out.2.2.below i.out);clear h)|(go_at_call 273;refine(X0 a b c T K.out.2.1 E.out).mono ?_;rintro e L⟨rfl,r,m⟩;have s:=Aa (i.out.trans (m.mono i.out.size));have u:=Aa (CJ D.out m);have V:=r.cell 0;have W:=r.cell 1;have X:=r.cell 2;simp only[Ad,Ac,Ag]at V W X;have aa:=r.lt;clear r m)|(at_builtin;refine Jg underlying52 It rfl (by decide) (by decide) w.heap.size _ rfl _ _ rfl _ k (es (l.take k)) ⟨L.heap.size,0,N⟩ 1 [I U a,I U b,I U c] rfl rfl (.inl (CJ u.out (Ct (rf _ _) _))) rfl (XU L _ _ _ 36) (XV _ _ _) (by have:=s.out.size;simp;omega) (by have:=d.out.2.1;omega) ?_;intro v' w3 M;have O:=Aa M;clear M));have hw:wrap64 ((k:Int)+1+1)=((k+1:Nat):Int)+1:=by have:=d.out.2.1;unfold wrap64;omega
   rw[hw];refine⟨⟨k+1,by omega,rfl,rfl,?_,?_⟩,by simp only[intOf];omega⟩
   ·rw[Ca,K.out.1,Zbh,Oj];exact O.out.1
   ·exact CI (Ct s.out _) O.out.2.1 (fun j hj=>(Az u.out j hj).1)
  ·obtain rfl:k=l.length:=by omega
   have B:(C7 (l.drop l.length)).isEmpty=true:=by rw[Zat];rfl
   rw[BJ]at n;have C:=Aa n;have z:=Aa p;clear n p f P;go_wp2;rw[Bp];go_ret3
   exact⟨_,rfl,C.out,z.out⟩
end Go.Proofs.YtgadhchejmlfjaaGreatDoor.FM
namespace Go.Proofs.YtgadhchejmlfjaaGreatDoor.EO
open Go.Proofs.Tryz Go.RowKit Go.CL
open DX (row rows Laid)
variable {r k n:Int}
def Ef(r k n:Int):Bool:=if k<n then decide (0≤r∧r<8)else decide (r=0)
def Jw(op a b c n places funcs:Int):Bool:=!(row op).name.isEmpty&&(Ef a 0 (row op).CS&&(Ef b 1 (row op).CS&&Ef c 2 (row op).CS))&&(if(row op).target=0 then decide (n=0)||(row op).number else if(row op).target=2 then decide (0≤n∧n<funcs)else decide (0≤n∧n<places))
theorem Om(h:Ef r k n=rq)(a:k<n):decide (r<0)=rm∧decide (8≤r)=false:=by unfold Ef at h;rw[Ai a]at h;simp at h;simp;omega
theorem On(h:Ef r k n=rq)(a:n≤k):(r !=0)=false:=by unfold Ef at h;rw[Ah (by omega)]at h;simpa using h
theorem KJ(op a b c n places funcs:Int)(w:oZ)(P:Laid w)(h:Jw op a b c n places funcs=rq)(hp:places≤9223372036854775807)(hf:funcs≤9223372036854775807)(hn:0≤n→n≤9223372036854775807):re prog 131 #[rE #[I U op,I U a,I U b,I U c,I U n],I U places,I U funcs] w fun e X=>e=rC (I U 0)∧qZ w.heap.size w X:=by
 have l:qZ w.heap.size w (w.alloc (rD #[I U op,I U a,I U b,I U c,I U n] 84)):=Ct (rf _ _) _;have H:=Aa (DX.XY op _ (P.below l));unfold Jw at h;obtain⟨r,u⟩: ∃r,row op=r:=⟨_,rfl⟩;unfold DX.nK DX.agg at H;rw[u]at h H;have Q:Cx (w.alloc (rD #[I U op,I U a,I U b,I U c,I U n] 84)) w.heap.size #[I U op,I U a,I U b,I U c,I U n] 84:=Cx.new w _ 84;have v:=Aa (Ab l Q);obtain⟨rn,m,rt,d,o,K,L⟩:=r;simp only[AP,Zap]at h;obtain⟨⟨aa,z,A,B⟩,g⟩:=h;have R:=Aa g;have f:=Aa (Ab z (Ab A B));clear P l u Q g z A B;go_enter func131,ntmps131;go_wp2_with(go_at_call 162;refine H.out.mono ?_;rintro e C⟨rfl,D⟩;have E:=(v.out.2.below D v.out.2.lt).below (Ct (rf C.heap.size C) (rD #[rF ⟨rn.toArray⟩,I U m,I U rt,ry d,ry o,ry K,ry L] 258)) (v.out.2.below D v.out.2.lt).lt;have q1:=E.cell 1;have q2:=E.cell 2;have q3:=E.cell 3;have q4:=E.cell 4;simp only[Ad,Ac,Ag]at q1 q2 q3 q4;have M:=Aa (v.out.1.trans ((D.alloc D.size (rD #[rF ⟨rn.toArray⟩,I U m,I U rt,ry d,ry o,ry K,ry L] 258)).mono v.out.1.size));clear D E);have p:=Cx.new C #[rF ⟨rn.toArray⟩,I U m,I U rt,ry d,ry o,ry K,ry L] 258;have p1:=p.cell 1;have p2:=p.cell 2;have p3:=p.cell 3;simp only[Ad,Ac,Ag]at p1 p2 p3;clear p H v;generalize C.alloc (rD #[rF ⟨rn.toArray⟩,I U m,I U rt,ry d,ry o,ry K,ry L] 258)=W at*
 generalize C.heap.size=L7 at*
 generalize F:w.heap.size=L3 at*
 go_loop [8,25] (fun t8 t25=> ∃k:Nat,k≤3∧t8=ry rm∧t25=I U k) (fun _ t=>3-(intOf t).toNat)
 case atStart=>exact⟨0,by omega,rfl,rfl⟩
 case round=>
  obtain⟨k,hk,rfl,rfl⟩:=hrel;have q:=Aa F;have S: ∀W,(Instr.index 237 (rE #[I U a,I U b,I U c]) (I U 0)).run prog W= .ok (I U a) W:=fun _=>by kernel_rfl
  have T: ∀W,(Instr.index 237 (rE #[I U a,I U b,I U c]) (I U 1)).run prog W= .ok (I U b) W:=fun _=>by kernel_rfl
  have V: ∀W,(Instr.index 237 (rE #[I U a,I U b,I U c]) (I U 2)).run prog W= .ok (I U c) W:=fun _=>by kernel_rfl
  clear F;rcases(show k=0∨k=1∨k=2∨k=3 by omega)with rfl|rfl|rfl|rfl
  ·by_cases u:(0:Int)<m
   ·obtain⟨x,O⟩:=Om f.out.1 u
    go_wp2;go_round
    case rel=>exact⟨1,by omega,rfl,rfl⟩
    case measure=>simp[intOf]
   ·have i:m≤0:=by omega
    have x:=On f.out.1 i;go_wp2;go_round
    case rel=>exact⟨1,by omega,rfl,rfl⟩
    case measure=>simp[intOf]
  ·by_cases u:(1:Int)<m
   ·obtain⟨x,O⟩:=Om f.out.2.1 u
    go_wp2;go_round
    case rel=>exact⟨2,by omega,rfl,rfl⟩
    case measure=>simp[intOf]
   ·have i:m≤1:=by omega
    have x:=On f.out.2.1 i;go_wp2;go_round
    case rel=>exact⟨2,by omega,rfl,rfl⟩
    case measure=>simp[intOf]
  ·by_cases u:(2:Int)<m
   ·obtain⟨x,O⟩:=Om f.out.2.2 u
    go_wp2;go_round
    case rel=>exact⟨3,by omega,rfl,rfl⟩
    case measure=>simp[intOf]
   ·have i:m≤2:=by omega
    have x:=On f.out.2.2 i;go_wp2;go_round
    case rel=>exact⟨3,by omega,rfl,rfl⟩
    case measure=>simp[intOf]
  ·have j:=R.out
   clear R;by_cases l:rt=0
   ·rw[Ai l]at j
    subst l;by_cases s:n=0
    ·subst s
     clear j;go_wp2;go_ret;exact⟨rfl,by rw[q.out];exact M.out⟩
    ·have d1:(n !=0)=true:=by simpa using s
     have d2:d=true:=by simpa[s]using j
     subst d2;clear j s;go_wp2;go_ret;exact⟨rfl,by rw[q.out];exact M.out⟩
   ·rw[Ah l]at j
    have d0:(rt==0)=false:=by simpa using l
    by_cases G:rt=2
    ·rw[Ai G]at j
     subst G;have y:0≤n∧n<funcs:=by simpa using j
     obtain⟨x,O⟩:=y;have e3:decide (n<0)=false:=by simp;omega
     have e4:decide (funcs≤n)=false:=by simp;omega
     clear j l d0;go_wp2;go_ret;exact⟨rfl,by rw[q.out];exact M.out⟩
    ·rw[Ah G]at j
     have d2:(rt==2)=false:=by simpa using G
     have y:0≤n∧n<places:=by simpa using j
     obtain⟨x,O⟩:=y;have e3:decide (n<0)=false:=by simp;omega
     have e4:decide (places≤n)=false:=by simp;omega
     clear j l G;go_wp2;go_ret;exact⟨rfl,by rw[q.out];exact M.out⟩
end Go.Proofs.YtgadhchejmlfjaaGreatDoor.EO
namespace Go.Proofs.YtgadhchejmlfjaaGreatDoor.cP
open Go.Proofs.Tryz Go.RowKit Go.CL
open DX (row rows Laid)
def TQ(op:Int):Bool:=(row op).number||(row op).target !=0
theorem X1(op:Int)(w:oZ)(h:Laid w):re prog 135 #[I U op] w fun e g=>e=rC (ry (TQ op))∧qZ w.heap.size w g:=by
 unfold TQ;have c:=Aa (DX.Fe op w h);have i:=Aa h;clear h;cases f:(row op).number with
 |true=>rw[f]at c;go_enter func135,ntmps135;go_wp2_with(go_at_call 205;refine c.out.mono ?_;rintro e j⟨rfl,a⟩;have b:=Aa a;clear a);go_ret;exact⟨rfl,b.out⟩
 |false=>rw[f]at c;go_enter func135,ntmps135;go_wp2_with(first|(go_at_call 205;refine c.out.mono ?_;rintro e j⟨rfl,a⟩;have b:=Aa a;clear a)|(go_at_call 130;refine(DX.Mm op _ (i.out.below b.out)).mono ?_;rintro e k⟨rfl,a⟩;have d:=Aa (b.out.trans (a.mono b.out.size));clear a));go_ret;exact⟨rfl,d.out⟩
end Go.Proofs.YtgadhchejmlfjaaGreatDoor.cP
namespace Go.Proofs.YtgadhchejmlfjaaGreatDoor.FM
open Go.Proofs.Tryz Go.RowKit Go.CL
section
open DX (row rows Laid)
open cP (TQ)
variable {W w3 w0:oZ} {v v':qY} {ws:List (List UInt8)} {a:List UInt8} {op n:Int}
theorem join_eq(c:UInt8): ∀l:List (List UInt8),Lib.join l [c]=CZ c l
 | []=>by simp[Lib.join,CZ,List.intercalate]
 | [a]=>by rw[Lib.join_one];rfl
 |a::b::l=>by have d:=join_eq c (b::l);rw[CZ,←d,Lib.join_cons,Lib.join_cons];simp[Lib.joinTail]
theorem Lo:(prog.info? 9).map (fun i=>(i.zero,i.size,i.bytes))=Z (Z (rF ⟨#[]⟩),1,16):=by kernel_rfl
def sc(l:List (List UInt8)):List Value:=l.map fun a=>rF ⟨a.toArray⟩
theorem Oo(l:List (List UInt8))(a:List UInt8):sc (l++[a])=sc l++[rF ⟨a.toArray⟩]:=by simp[sc]
theorem Fc(w:oZ)(x:qY)(t:TypeId): ∀(j:Nat)(u:qY),[x][j]?=Z u→(w.alloc (rD #[x] t)).cell? ((⟨w.heap.size,0,N⟩:Addr).add j)=Z u:=by have h:=Cx.new w #[x] t;intro j u hu;rw[show((⟨w.heap.size,0,N⟩:Addr).add j)=⟨w.heap.size,j,N⟩from by rw[Ay,AO]];rw[h.cell j,←hu];simp
theorem Iw(l:List (List UInt8))(v:qY)(base:Nat)(w:oZ)(h:w.ownsRow base 9 1 v l.length (sc l))(k:l≠[])(r:l.length≤100)(m:(CZ 32 l).length≤140737488355328):re prog 80 #[v,rF ⟨#[32]⟩] w fun e n=>e=rC (rF ⟨(CZ 32 l).toArray⟩)∧qZ w.heap.size w n:=by
 rcases Dr h with⟨rfl,o⟩|⟨g,cap,rfl,s,t,p,q⟩
 ·exact absurd (A3.1 o) k
 ·have c:=(Az h g rfl).2
  have f:(l.map fun a=>(⟨a.toArray⟩:ByteArray)).map (·.data.toList)=l:=by rw[List.map_map,show((fun x:ByteArray=>x.data.toList)∘fun a:List UInt8=>(⟨a.toArray⟩:ByteArray))=id from by funext a;simp,List.map_id]
  have i:=F2.join g 0 cap (l.map fun a=>⟨a.toArray⟩) ⟨#[32]⟩ w (fun j x d=>by
   have b:j<l.length:=by have:=(Af.1 d).1;simpa using this
   rw[AO,q j (by omega)];simp only[Bn,Ae b,BA,Ak]at d;simp[sc,b,d]) c (by simp;omega) (by simpa using p) (by rw[f,show(⟨#[32]⟩:ByteArray).data.toList=[32]from rfl,join_eq];exact m)
  rw[f,show(⟨#[32]⟩:ByteArray).data.toList=[32]from rfl,join_eq,Bg]at i;exact i
def EA(op:Int)(n:Nat)(sf:Bool):List (List UInt8):=(if sf then [[42]]else [])++[(row op).name]++List.replicate (row op).CS.toNat [114,48]++(if(row op).number then [Lib.decDigits n]else [])
abbrev ic (op n:Int):Array Value:=#[I U op,I U 0,I U 0,I U 0,I U n]
theorem I0{base:Nat}(b:Dn W base 9 1 v ws.length (sc ws) [rF ⟨a.toArray⟩] v' w3):w3.ownsRow base 9 1 v' (ws++[a]).length (sc (ws++[a])):=by rw[Oo,Aw];exact b.1
theorem J8(op:Int)(w:oZ)(b:Laid w)(c:(row op).target=0):re prog 135 #[I U op] w fun e a=>e=rC (ry (row op).number)∧qZ w.heap.size w a:=by refine(cP.X1 op w b).mono ?_;rintro e a⟨rfl,d⟩;refine⟨?_,d⟩;unfold TQ;rw[c];simp
theorem Fv(c:UInt8)(m:Nat): ∀l:List (List UInt8),(∀a∈l,a.length≤m)→(CZ c l).length≤l.length*(m+1)
 | [],_=>by simp[CZ]
 | [a],h=>by have:=h a (by simp);simp[CZ];omega
 |a::b::l,h=>by have d:=Fv c m (b::l) (fun x e=>h x (A6 _ e));have f:=h a (by simp);simp only[CZ,Aw,AB]at d⊢;rw[Nat.add_mul (l.length+1) 1 (m+1)];omega
theorem Nw(op:Int)(n:Nat)(sf:Bool)(g:n<100)(c:(row op).name.length≤20)(h:(row op).CS≤1):(EA op n sf).length≤100∧(CZ 32 (EA op n sf)).length≤2100:=by
 have f:(Lib.decDigits n).length≤20:=by have:=(Mg n (by omega)).2.2.2.2;unfold Lib.itoa at this;rw[Ah (by omega),An]at this;omega
 have d:(EA op n sf).length≤100:=by unfold EA;cases sf<;>cases(row op).number<;>simp<;>omega
 have i:=Fv 32 20 (EA op n sf) (fun a b=>by
  unfold EA at b;simp only[BU,List.mem_replicate,Zb7]at b;rcases b with((b|rfl)|⟨_,rfl⟩)|b
  ·cases sf
   ·cases b
   ·simp at b;rw[b];decide
  ·exact c
  ·decide
  ·cases e:(row op).number
   ·rw[e]at b;cases b
   ·rw[e]at b;simp at b;rw[b];exact f)
 refine⟨d,?_⟩;have:(EA op n sf).length*21≤100*21:=Cs _ d;omega
theorem PB(op:Int)(n:Nat)(sf:Bool)(b:n<100)(a:(row op).name.length≤20)(c:(row op).CS≤1):EA op n sf≠[]∧(EA op n sf).length≤100∧(CZ 32 (EA op n sf)).length≤140737488355328:=by have h:=Nw op n sf b a c;exact⟨by unfold EA;simp,h.1,by omega⟩
structure RP (w0:oZ) (op n:Int) (v:qY) (ws:List (List UInt8)) (W:oZ):Prop where
 below:qZ w0.heap.size w0 W
 ins:Cx W w0.heap.size (ic op n) 84
 row:W.ownsRow w0.heap.size 9 1 v ws.length (sc ws)
theorem RP.go{W':oZ}(h:RP w0 op n v ws W)(a:qZ W.heap.size W W'):RP w0 op n v ws W':=⟨h.below.trans (a.mono h.below.size),h.ins.below a h.ins.lt,CJ h.row a⟩
theorem RP.app(h:RP w0 op n v ws W)(c:v.ownBlock≠Z w0.heap.size)(b:Dn W w0.heap.size 9 1 v ws.length (sc ws) [rF ⟨a.toArray⟩] v' w3):RP w0 op n v' (ws++[a]) w3:=⟨CI h.below b.2.1 (fun j d=>(Az h.row j d).1),h.ins.kept b.2.1 (fun e=>c e.symm),I0 b⟩
theorem RP.iG(h:RP w0 op n v ws W)(c:v.ownBlock≠Z w0.heap.size)(d:Dn W w0.heap.size 9 1 v ws.length (sc ws) [rF ⟨a.toArray⟩] v' w3):v'.ownBlock≠Z w0.heap.size:=fun e=>by
 rcases d.2.2 _ e with b|b
 ·exact c b
 ·have:=h.ins.lt;omega
theorem U9(op:Int)(n r:Nat)(sf:Bool)(H:List UInt8)(w:oZ)(hL:Laid w)(L:F2.Pow w)(hc:EO.Jw op 0 0 0 n 1 1=rq)(ht:(row op).target=0)(hr:(row op).CS=r)(aa:r≤1)(hn:n<100)(M:(row op).name=H)(O:H.length≤20):re prog 71 #[rE #[I U op,I U 0,I U 0,I U 0,I U n],ry sf] w fun e w'=>e=rC (rG #[rF ⟨(CZ 32 (EA op n sf)).toArray⟩,I U 0])∧qZ w.heap.size w w':=by
 have x:=Aa (Ab hL L);obtain⟨y,P,Q⟩: ∃i:Int,i=r∧(row op).CS=i:=⟨_,rfl,hr⟩;have g:=Aa (Ab Q (Ab (show y≤1 by omega) (Ab hn (Ab M O))));have HC:=Aa hc;have HT:=Aa ht;have R:qZ w.heap.size w ((w.alloc (rD #[I U op,I U 0,I U 0,I U 0,I U n] 84)).alloc (rD #[I U op,I U 0,I U 0,I U 0,I U n] 84)):=Ct (Ct (rf _ _) _) _;have b1:Cx ((w.alloc (rD #[I U op,I U 0,I U 0,I U 0,I U n] 84)).alloc (rD #[I U op,I U 0,I U 0,I U 0,I U n] 84)) w.heap.size #[I U op,I U 0,I U 0,I U 0,I U n] 84:=(Cx.new w _ 84).below (Ct (rf _ _) _) (by simp);have b2:Cx ((w.alloc (rD #[I U op,I U 0,I U 0,I U 0,I U n] 84)).alloc (rD #[I U op,I U 0,I U 0,I U 0,I U n] 84)) (w.heap.size+1) #[I U op,I U 0,I U 0,I U 0,I U n] 84:=by have:=Cx.new (w.alloc (rD #[I U op,I U 0,I U 0,I U 0,I U n] 84)) #[I U op,I U 0,I U 0,I U 0,I U n] 84;simpa using this
 have f:=Aa (Ab R (Ab b1 b2));have q:r=0∧y=0∨r=1∧y=1:=by omega
 have HI:=Aa P;clear Q P hL L hc ht hr aa hn M O R b1 b2;obtain⟨X,S⟩: ∃X,Hid (X=sf):=⟨sf,rfl⟩;have s0: ∀(b:Nat)(W:oZ),(Instr.sliceAt 237 (J (Z ⟨b,0,N⟩)) N (Z (I U y)) N).run prog W= .ok (Y (Z ⟨b,0,N⟩) r 3) W:=fun b W=>by rcases q with⟨rfl,rfl⟩|⟨rfl,rfl⟩<;>kernel_rfl
 go_enter func71,ntmps71;cases sf
 all_goals
  go_wp2_with(first|(go_at_call 130;refine(DX.Mm op _ (x.out.1.below f.out.1)).mono ?_;rintro e w1⟨rfl,c⟩;rw[HT.out];have k1:=f.out.2.1.below c f.out.2.1.lt;have k2:=f.out.2.2.below c f.out.2.2.lt;have l:=Aa (Ab (f.out.1.trans (c.mono f.out.1.size)) (Ab k1 k2));have q0:=k2.cell 0;have q1:=k2.cell 1;have q2:=k2.cell 2;have q3:=k2.cell 3;have q4:=k2.cell 4;simp only[Ad,Ac,Ag]at q0 q1 q2 q3 q4;clear c k1 k2)|(go_at_call 131;refine(EO.KJ op 0 0 0 n 1 1 _ (x.out.1.below l.out.1) HC.out (by decide) (by decide) (by have:=g.out;omega)).mono ?_;rintro e z⟨rfl,c⟩;have k1:=l.out.2.1.below c l.out.2.1.lt;have m:Hid (RP w op n (Y N 0 0) [] z):=⟨l.out.1.trans (c.mono l.out.1.size),k1,AL _ _ _ _⟩;have q5:=k1.cell 0;simp only[Ad,Ac]at q5;clear c k1 q0 q1 q2 q3 q4)|(go_at_call 132;first|(have hh:=s;refine(DX.PA op _ (x.out.1.below s.out.below)).mono ?_;rintro e A⟨rfl,c⟩;rw[g.out.2.2.2.1];have h:=Aa (s.out.go c);clear c hh)|(refine(DX.PA op _ (x.out.1.below m.out.below)).mono ?_;rintro e A⟨rfl,c⟩;rw[g.out.2.2.2.1];have h:=Aa (m.out.go c);have B:Hid ((Y N 0 0).ownBlock≠Z w.heap.size):=(fun e=>(by simp[ru]at e));clear c))|(at_builtin;first|(have hh:=h;refine Jg underlying170 Lo rfl (by decide) (by decide) w.heap.size _ rfl _ _ rfl _ _ _ ⟨A.heap.size,0,N⟩ 1 [rF ⟨H.toArray⟩] rfl rfl (.inl (CJ h.out.row (Ct (rf _ _) _))) rfl (Fc A _ 9) (by simp[Value.oneCell']) (by have:=h.out.below.size;simp;omega) (by simp) ?_;intro v5 w5 k;have ab:=Aa ((h.out.go (Ct (rf A.heap.size A) (rD #[rF ⟨H.toArray⟩] 9))).iG B.out k);have o:=Aa ((h.out.go (Ct (rf A.heap.size A) (rD #[rF ⟨H.toArray⟩] 9))).app B.out k);have p0:=o.out.ins.cell 0;have p1:=o.out.ins.cell 1;have p2:=o.out.ins.cell 2;have p3:=o.out.ins.cell 3;simp only[Ad,Ac,Ag]at p0 p1 p2 p3;have u:Hid (RP w op n v5 _ (w5.alloc (rD #[I U 0,I U 0,I U 0] 237))):=o.out.go (Ct (rf _ _) _);have x0:=u.out.ins.cell 0;simp only[Ad,Ac]at x0;clear k hh)|(refine Jg underlying170 Lo rfl (by decide) (by decide) w.heap.size _ rfl _ _ rfl (Y N 0 0) 0 [] ⟨z.heap.size,0,N⟩ 1 [rF ⟨#[42]⟩] rfl rfl (.inl (AL _ _ _ _)) rfl (Fc z _ 9) (by simp[Value.oneCell']) (by have:=m.out.below.size;simp;omega) (by simp) ?_;intro v3 w3 k;have B:=Aa ((m.out.go (Ct (rf z.heap.size z) (rD #[rF ⟨#[42]⟩] 9))).iG (a:=[42]) (by simp[ru]) k);have s:=Aa ((m.out.go (Ct (rf z.heap.size z) (rD #[rF ⟨#[42]⟩] 9))).app (a:=[42]) (by simp[ru]) k);have p9:=s.out.ins.cell 0;simp only[Ad,Ac]at p9;clear k))|(go_at_call 133;refine(DX.Iu op _ (x.out.1.below u.out.below)).mono ?_;rintro e w6⟨rfl,c⟩;rw[g.out.1];have T:=Aa (u.out.go c);have C:=(Cx.new w5 #[I U 0,I U 0,I U 0] 237).below c (by simp);have ad:=Aa C;clear c C));clear s0 q5 p0 p1 p2 p3 x0;try clear p9
  obtain⟨ws,D,HW⟩: ∃ws,Hid (ws=_)∧Hid (RP w op n v5 ws w6):=⟨_,rfl,T⟩;clear T u o h m l f;rw[←HI.out];go_loopw [7,42] (fun t7 t42 wr=>((t42=I U 0∧RP w op n t7 ws wr∧Cx wr w5.heap.size #[I U 0,I U 0,I U 0] 237)∨(t42=I U 1∧(row op).CS=1∧RP w op n t7 (ws++[[114,48]]) wr))∧t7.ownBlock≠Z w.heap.size) (fun _ t _=>1-(intOf t).toNat)
  case atStart=>exact⟨.inl ⟨rfl,HW.out,ad.out⟩,ab.out⟩
  case round=>
   obtain⟨hk,hv⟩:=hrel;have HV:=Aa hv;clear hv;have K:((r=1∧y=1)∧u42=I U 0∧RP w op n u7 ws wr∧Cx wr w5.heap.size #[I U 0,I U 0,I U 0] 237)∨ ∃F,((r=0∧y=0)∧u42=I U 0∨(r=1∧y=1)∧u42=I U 1)∧EA op n X=F++(if(row op).number then [Lib.decDigits n]else [])∧RP w op n u7 F wr:=by
    rw[S.out];rcases q with⟨rfl,rfl⟩|⟨rfl,rfl⟩<;>rcases hk with⟨rfl,p,C⟩|⟨rfl,h1,p⟩
    ·exact .inr ⟨_,.inl ⟨⟨rfl,rfl⟩,rfl⟩,by simp[EA,g.out.1,g.out.2.2.2.1,D.out],p⟩
    ·rw[g.out.1]at h1;exact absurd h1 (by decide)
    ·exact .inl ⟨⟨rfl,rfl⟩,rfl,p,C⟩
    ·exact .inr ⟨_,.inr ⟨⟨rfl,rfl⟩,rfl⟩,by simp[EA,g.out.1,g.out.2.2.2.1,D.out],p⟩
   clear hk q;rcases K with⟨⟨rfl,rfl⟩,rfl,p,C⟩|⟨F,hq,e,p⟩
   ·have G:=Aa p
    have z0:=C.cell 0;simp only[Ad,Ac]at z0;have L:=Pow.below x.out.2 p.below;have hlen: ¬9223372036854775807<1+(Lib.itoa 0).length:=(by rw[show Lib.itoa 0=[48]from Mf 0 (by decide)];decide);have HP:=Aa L;have ae:(⟨#[114]⟩:ByteArray)++⟨(Lib.itoa 0).toArray⟩=⟨([114,48]:List UInt8).toArray⟩:=(by rw[show Lib.itoa 0=[48]from Mf 0 (by decide)];exact Dg [114] [48]);clear p L C;go_wp2_with(first|(go_at_call 134;refine(F2.itoa 0 (by decide) (by decide) wr HP.out).mono ?_;rintro e w7⟨rfl,c⟩;have d:=Aa (G.out.go c);clear c)|(at_builtin;(refine Jg underlying170 Lo rfl (by decide) (by decide) w.heap.size _ rfl _ _ rfl _ _ _ ⟨w7.heap.size,0,N⟩ 1 [rF ⟨([114,48]:List UInt8).toArray⟩] rfl rfl (.inl (CJ d.out.row (Ct (rf _ _) _))) rfl (by first|exact Fc w7 _ 9|(rw[ae];exact Fc w7 _ 9)) (by simp[Value.oneCell']) (by have:=d.out.below.size;simp;omega) (by rw[D.out];simp) ?_;intro v9 w9 k;have af:=Aa ((d.out.go (Ct (rf _ _) _)).app HV.out k);have ag:=Aa ((d.out.go (Ct (rf _ _) _)).iG HV.out k);clear k)));refine⟨⟨.inr ⟨rfl,g.out.1,af.out⟩,ag.out⟩,by simp[intOf]⟩
   ·have G:=Aa p
    have y0:=p.ins.cell 0;simp only[Ad,Ac]at y0;have V:=Aa (J8 op wr (x.out.1.below p.below) HT.out);have HE:=Aa e;have j:=Aa (PB op n X g.out.2.2.1 (by rw[g.out.2.2.2.1];exact g.out.2.2.2.2) (by rw[g.out.1];exact g.out.2.1));rw[e]at j;clear p e;cases v:(row op).number<;>rw[v]at V j HE<;>simp only[B6,BM,BH,Cf]at j HE<;>clear v<;>rcases hq with⟨⟨rfl,rfl⟩,rfl⟩|⟨⟨rfl,rfl⟩,rfl⟩
    all_goals
     go_wp2_with(first|(go_at_call 135;refine V.out.mono ?_;rintro e w7⟨rfl,c⟩;have d:=Aa (G.out.go c);have y4:=d.out.ins.cell 4;simp only[Ad,Ac,Ag]at y4;clear c)|(go_at_call 136;refine(F2.kN n g.out.2.2.1 _).mono ?_;rintro e w8⟨rfl,rfl⟩)|(at_builtin;refine Jg underlying170 Lo rfl (by decide) (by decide) w.heap.size _ rfl _ _ rfl _ _ _ ⟨_,0,N⟩ 1 [rF ⟨(Lib.decDigits n).toArray⟩] rfl rfl (.inl (CJ d.out.row (Ct (rf _ _) _))) rfl (Fc _ _ 9) (by simp[Value.oneCell']) (by have:=d.out.below.size;simp;omega) (by have:=j.out.2.1;simp at this;simp;omega) ?_;intro v9 w9 k;have d:=Aa ((d.out.go (Ct (rf _ _) (rD #[rF ⟨(Lib.decDigits n).toArray⟩] 9))).app HV.out k);clear k)|(go_at_call 80;refine(Iw _ _ _ _ d.out.row j.out.1 j.out.2.1 j.out.2.2).mono ?_;rintro e w8⟨rfl,c⟩;have ah:=Aa (d.out.below.trans (c.mono d.out.below.size));clear c));go_ret2;have E:=HE.out;rw[S.out]at E;rw[E];exact⟨rfl,ah.out⟩
end
variable {w w':oZ} {wb sb j:Nat} {ws:List (List UInt8)}
structure Wd (w:oZ) (wb sb:Nat) (ws:List (List UInt8)) (j:Nat):Prop where
 Dp: ∃o,(j<ws.length→o=j)∧Cx w wb #[Y (Z ⟨sb,o,N⟩) (ws.length-j:Nat) (ws.length-j:Nat),ry rq] 391
 str: ∀i,i<ws.length→w.cell? ⟨sb,i,N⟩=Z (rF ⟨(ws[i]?.getD []).toArray⟩)
 lt:sb<w.heap.size
 ne:sb≠wb
theorem Wd.only(h:Wd w wb sb ws j){S:Nat→Prop}(o:Cv S w w')(d: ¬S wb)(e: ¬S sb):Wd w' wb sb ws j:=⟨(by obtain⟨a,b,c⟩:=h.Dp;exact⟨a,b,c.only o d⟩),fun i f=>(AH (o.block sb h.lt e)).trans (h.str i f),Am h.lt o.size,h.ne⟩
theorem Wd.below(h:Wd w wb sb ws j)(o:qZ w.heap.size w w'):Wd w' wb sb ws j:=h.only (S:=fun _=>False) ((Cv.refl _ w).below o) (fun x=>x) (fun x=>x)
theorem Ek(wb sb:Nat)(ws:List (List UInt8))(j:Nat)(w:oZ)(h:Wd w wb sb ws j)(b:j<ws.length)(d:ws.length≤1000):re prog 323 #[J (Z ⟨wb,0,N⟩)] w fun e w'=>e=rC (rF ⟨(ws[j]?.getD []).toArray⟩)∧Wd w' wb sb ws (j+1)∧Cv (fun k=>k=wb) w w':=by
 obtain⟨m,hm⟩: ∃m,ws.length-j=m:=⟨_,rfl⟩;obtain⟨o,f,a⟩:=h.Dp;obtain rfl:=f b;rw[hm]at a;have g:=a.cell 0;have f0:=a.free 0;simp only[Ad,Ac]at g;have qs:=h.str o b;have l:((m:Int)==0)=false:=by simp;omega
 have n:(0:Int)<(m:Int):=by omega
 have p:(1:Int)≤(m:Int):=by omega
 have H:=Aa (Ab h (Ab a (Ab hm d)));clear h a hm b d;generalize ws[o]?.getD []=s at*
 go_enter func323,ntmps323;by_cases r:m=1
 ·subst r
  go_wp2;go_ret;refine⟨rfl,⟨⟨o,fun h=>by have:=H.out.2.2.1;omega,?_⟩,fun i c=>(AH ((Cv.set (S:=fun k=>k=wb) (Cv.refl _ w) (.inr rfl) 0 _).block sb H.out.1.lt H.out.1.ne)).trans (H.out.1.str i c),by have:=H.out.1.lt;simpa using this,H.out.1.ne⟩,Cv.set (S:=fun k=>k=wb) (Cv.refl _ w) (.inr rfl) _ _⟩;have q:=H.out.2.1.set 0 (Y (Z ⟨sb,o,N⟩) 0 0);rw[show ws.length-(o+1)=0 by have:=H.out.2.2.1;omega];exact q
 ·go_wp2
  go_ret;refine⟨rfl,⟨⟨o+1,fun h=>rfl,?_⟩,fun i c=>(AH ((Cv.set (S:=fun k=>k=wb) (Cv.refl _ w) (.inr rfl) 0 _).block sb H.out.1.lt H.out.1.ne)).trans (H.out.1.str i c),by have:=H.out.1.lt;simpa using this,H.out.1.ne⟩,Cv.set (S:=fun k=>k=wb) (Cv.refl _ w) (.inr rfl) _ _⟩;have q:=H.out.2.1.set 0 (Y (Z ⟨sb,o+1,N⟩) (m-1) (m-1));rw[show ws.length-(o+1)=m-1 by have:=H.out.2.2.1;omega];exact q
theorem TR(wb sb:Nat)(ws:List (List UInt8))(j:Nat)(w:oZ)(h:Wd w wb sb ws j)(c:ws[j]?=Z [114,48])(d:ws.length≤1000):re prog 325 #[J (Z ⟨wb,0,N⟩)] w fun e w'=>e=rC (I U 0)∧Wd w' wb sb ws (j+1)∧Cv (fun k=>k=wb) w w':=by have a:j<ws.length:=(Af.1 c).1;have b:=Ek wb sb ws j w h a d;rw[c,AQ]at b;have b:=Aa b;clear h c a d;go_enter func325,ntmps325;go_wp2_with(go_at_call 323;refine b.out.mono ?_;rintro e l⟨rfl,f,g⟩;have i:=Aa (Ab f g);clear f g);go_ret;exact⟨rfl,i.out.1,i.out.2⟩
end Go.Proofs.YtgadhchejmlfjaaGreatDoor.FM
namespace Go.Proofs.YtgadhchejmlfjaaGreatDoor.cP
open Go.Proofs.Tryz Go.RowKit Go.CL
open DX (row rows Laid Df)
def Va(r:DX.Row):List Value:=[rF ⟨r.name.toArray⟩,I U r.CS,I U r.target,ry r.number,ry r.waits,ry r.ends,ry r.asks]
def Vb:List Value:=rows.flatMap Va
theorem iH(k j:Nat)(a:k<24)(b:j<7):Vb[k*7+j]?=(Va (rows[k]?.getD Df))[j]?:=by rcases(show k=0∨k=1∨k=2∨k=3∨k=4∨k=5∨k=6∨k=7∨k=8∨k=9∨k=10∨k=11∨k=12∨k=13∨k=14∨k=15∨k=16∨k=17∨k=18∨k=19∨k=20∨k=21∨k=22∨k=23 by omega)with rfl|rfl|rfl|rfl|rfl|rfl|rfl|rfl|rfl|rfl|rfl|rfl|rfl|rfl|rfl|rfl|rfl|rfl|rfl|rfl|rfl|rfl|rfl|rfl<;>rcases(show j=0∨j=1∨j=2∨j=3∨j=4∨j=5∨j=6 by omega)with rfl|rfl|rfl|rfl|rfl|rfl|rfl<;>rfl
theorem X2(w:oZ)(h:Laid w):w.rangeAt 0 0 Vb:=fun j v b=>by
 have d:j<168:=(Af.1 b).1;obtain⟨c0,c1,c,c3,c4,c5,c6⟩:=h.cell (j/7) (by omega);have a:=iH (j/7) (j%7) (by omega) (by omega);rw[show j/7*7+j%7=j by omega,b]at a;rw[AO,show j=j/7*7+j%7 by omega];generalize rows[j/7]?.getD Df=r at*
 generalize j/7=q at*
 rcases(show j%7=0∨j%7=1∨j%7=2∨j%7=3∨j%7=4∨j%7=5∨j%7=6 by omega)with e|e|e|e|e|e|e<;>rw[e]at a⊢ <;>(rw[a];first|exact c0|exact c1|exact c|exact c3|exact c4|exact c5|exact c6)
theorem Vc(k:Nat)(a:k<24)(w:oZ):(Instr.index 312 (rE Vb.toArray) (I U k)).run prog w= .ok (rE (Va (rows[k]?.getD Df)).toArray) w:=by rcases(show k=0∨k=1∨k=2∨k=3∨k=4∨k=5∨k=6∨k=7∨k=8∨k=9∨k=10∨k=11∨k=12∨k=13∨k=14∨k=15∨k=16∨k=17∨k=18∨k=19∨k=20∨k=21∨k=22∨k=23 by omega)with rfl|rfl|rfl|rfl|rfl|rfl|rfl|rfl|rfl|rfl|rfl|rfl|rfl|rfl|rfl|rfl|rfl|rfl|rfl|rfl|rfl|rfl|rfl|rfl<;>kernel_rfl
theorem X3(k op:Nat)(a:k<op)(b:op<24):((rows[k]?.getD Df).name==(rows[op]?.getD Df).name)=false:=by
 have h:(List.range 24).all (fun o=>(List.range o).all fun k=>!((rows[k]?.getD Df).name==(rows[o]?.getD Df).name))=true:=by kernel_rfl
 have c:=Be.1 h op (BN.2 b);have d:=Be.1 c k (BN.2 a);simpa using d
theorem Jy(op:Nat)(l:List UInt8)(w:oZ)(o:Laid w)(p:op<24)(a:(rows[op]?.getD Df).name=l):re prog 324 #[rF ⟨l.toArray⟩] w fun e u=>e=rC (rG #[I U op,ry rq])∧qZ w.heap.size w u:=by
 have b:=X2 w o;have m:Hid (∀k:Nat,k<24→ ∀W,(Instr.index 312 (rE Vb.toArray) (I U k)).run prog W= .ok (rE (Va (rows[k]?.getD Df)).toArray) W):=fun k q W=>Vc k q W;have j:=Aa (Ab p a);have c:(prog.info? 312).map (·.size)=Z Vb.length:=by kernel_rfl
 clear o p a;generalize Vb=tab at*
 go_enter func324,ntmps324;go_wp2;rename_i s;refine wp_load_mid 312 _ rfl 0 0 rfl tab _ b underlying312 rfl c ?_;refine s _ _ ?_;clear s b c;go_wp2;go_loopw [7] (fun t wr=> ∃k:Nat,k≤op∧t=I U k∧qZ w.heap.size w wr) (fun t _=>op+1-(intOf t).toNat)
 case atStart=>exact⟨0,Ap _,rfl,rf _ _⟩
 case round=>
  obtain⟨k,q,rfl,n⟩:=hrel;have d:k<24:=by have:=j.out.1;omega
  have v:(k:Int)<24:=by omega
  have f:=m.out k d;have g:=Aa n;by_cases h:k<op
  ·have i:=X3 k op h j.out.1
   rw[j.out.2]at i;unfold Va at f;generalize rows[k]?.getD Df=r at*
   clear n;go_wp2;exact⟨⟨k+1,by omega,by go_num,Ct g.out _⟩,by simp only[intOf];omega⟩
  ·obtain rfl:k=op:=by omega
   have i:((rows[k]?.getD Df).name==l)=true:=by rw[j.out.2];simp
   unfold Va at f;generalize rows[k]?.getD Df=r at*
   clear n h;go_wp2;go_ret2;exact⟨rfl,Ct g.out _⟩
end Go.Proofs.YtgadhchejmlfjaaGreatDoor.cP
