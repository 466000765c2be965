/- A part of the proof. -/
import Derived.Test.YtgadhchejmlfjaaGreatDoorB5
set_option linter.unusedVariables false
set_option maxRecDepth 20000
set_option maxHeartbeats 16000000
open Go.Value renaming int->I,pointer->J,slice->Y
open Go.IntKind renaming i64->U
open Option renaming none->N,some->Z
open Bool renaming false->tY,true->tZ
open Go renaming Calls->tT,Value->tR,World->rO
open Go.Ending renaming returned->ui
open Go.Obj renaming cells->uj
open Go.RowKit renaming Below->tS
open Go.RowKit.Below renaming refl->tU
open Go.Value renaming agg->uk,bool->ue,tuple->uo
open Go.World renaming setCell->tV
open List renaming replicate->tW
open Go.Proofs.Tryz Go.RowKit Go.CN
namespace Go.Proofs.YtgadhchejmlfjaaGreatDoor
namespace C2
variable {mb:Nat}{V:Vr}{own:Nat->Nat}{w:rO}{s:St}
section
open Vm (CP)
section
variable {b k:Nat}
theorem CE.pt(h:CE mb V own w s)(g:Int)(b:s.waits.length<1000000):tT prog 339 #[ptr V.CA,I U g] w (Dd mb V own w (ue (decide (g∈s.waits))) {s with owner:=s.owner,waits:=s.waits.erase g}):=by obtain⟨v,c,d⟩:=h.CA (by decide);refine(Dg.MF _ _ v _ g w c b).mono ?_;rintro e k⟨rfl,f⟩;obtain⟨a,i,j⟩:=h.Zk d f;exact⟨rfl,a,i,j⟩
theorem CE.mo(h:CE mb V own w s):tT prog 340 #[ptr V.CA] w λe a=>e=ui (I U s.owner)/\a=w:=by
 obtain⟨v,b,c⟩:=h.CA (by decide);have c0:w.cell? ⟨V.CA,0,N⟩=Z (I U s.owner):=b.Dj.cell 0;generalize s.owner=o at*
 go_enter func340,ntmps340;go_wp2;go_ret;exact⟨rfl,rfl⟩
theorem CE.px(h:CE mb V own w s){x:G}(d:own b=20+5*k)(f:s.gs[k]?=Z x)(n:s.waits.length<100000)(m:Nat):tT prog 339 #[ptr V.CA,I U ((k:Int)+1)] ((w.setCell ⟨b,16,N⟩ (ue tY)).drewN m) λe c=>(∃v,e=ui v)/\ ∃a,CE mb V a c {s.CJ k {x with CA:=tY}with waits:=s.waits.erase ((k:Int)+1)}/\Ext own w a c:=by obtain⟨g,i⟩:=h.Mq d f tY;refine((g.drewN m).pt _ (by show s.waits.length<_;omega)).mono ?_;rintro e c⟨rfl,a,j,l⟩;exact⟨⟨_,rfl⟩,a,j,(i.drewN m).trans l⟩
def I6(s:St)(k:Nat)(x:G):St:=if x.CA then{s.CJ k {x with CA:=tY}with waits:=s.waits.erase ((k:Int)+1)}else s
theorem RG{x:G}(a:s.gs[k]?=Z x):(I6 s k x).gs[k]?=Z {x with CA:=tY}:=by
 unfold I6;split
 ·exact Fc (CC a)
 ·rename_i b;rw[a];cases x;simp_all
theorem Oy(s:St)(k:Nat)(x:G):(I6 s k x).owner=s.owner:=by unfold I6;split<;>rfl
theorem CE.lock(h:CE mb V own w s){x:G}{s':St}(q:own b=20+5*k)(B:s.gs[k]?=Z x)(hw:x.word=1\/x.word=3\/x.word=4\/x.word=5)(c:JI s k=Z s'):tT prog 304 #[ptr mb,ptr b] w (Ge mb V own w unit s'):=by
 unfold JI at c;rw[B]at c;dsimp only at c;obtain⟨s2,hu,c⟩:=bind_some c;unfold UH at c;cases i:s2.gs[k]? with
 |none=>rw[i]at c;cases c
 |some j=>
 rw[i]at c;dsimp only at c;obtain⟨aa,c⟩:=CT c;replace c:MV k (I6 s2 k j)=Z s':=c;unfold MV at c;rw[RG i,Oy]at c;dsimp only at c;have ab:=(h.Hr q B).wd;have af:=(MX ab (by omega)).2;obtain⟨-,z1,-,-,-,-,ag,zf⟩:=h.gF q B;obtain⟨R1,E1⟩:=h.U1 q B (x.word+8) (by unfold D9.Dt;omega);have ad:(s.CJ k {x with word:=x.word+8}).gs[k]?=Z {x with word:=x.word+8}:=Fc (CC B);obtain⟨R2,E2⟩:=R1.Rk q ad 0;have e2:(s.CJ k {x with word:=x.word+8}).CJ k {{x with word:=x.word+8}with Db:=0}=s.CJ k {x with word:=x.word+8,Db:=0}:=by simp[St.CJ]
 rw[e2]at R2;have ae:(s.CJ k {x with word:=x.word+8,Db:=0}).gs[k]?=Z {x with word:=x.word+8,Db:=0}:=Fc (CC B);have HU:=Aa (R2.ZX q ae hu);have HE:=Aa (E1.trans E2);have T:=Aa (Ab q (h.CX q (by omega)));have X:=Aa (Ab i aa);obtain⟨sm,D⟩: ∃sm,j.CA=sm:=⟨_,rfl⟩;obtain⟨E,F⟩: ∃E,j.begun=E:=⟨_,rfl⟩;obtain⟨rl,H⟩: ∃rl,(s2.owner==(k:Int)+1)=rl:=⟨_,rfl⟩;have HS:Hid ((if rl=tZ/\E=tY then EM (I6 s2 k j) k else Z (I6 s2 k j))=Z s'):=by show _=_;rw[<-H,<-F,<-c];simp only[Zbs]
 have K:=Aa (Ab D F);have HL:Hid (I6 s2 k j=if sm then{s2.CJ k {j with CA:=tY}with waits:=s2.waits.erase ((k:Int)+1)}else s2):=by show _=_;unfold I6;rw[D]
 have HA:=Aa (RG i);generalize x.word=wd at*
 generalize x.Db=ak at*
 have L:((I6 s2 k j).owner==(k:Int)+1)=rl:=by rw[Oy];exact H
 generalize ah:I6 s2 k j=C at*
 obtain⟨ow,how⟩: ∃ow,C.owner=ow:=⟨_,rfl⟩;rw[how]at L;have HO:Hid (∀{o:Nat->Nat}{W:rO}{r:Vr}(m:Nat),CE mb r o W C->tT prog 340 #[ptr r.CA] (W.drewN m) λe w'=>e=ui (I U ow)/\w'=W.drewN m):=λm g=>by rw[<-how];exact(g.drewN m).mo
 cases sm with
 |true=>
  have M:=HL.out;rw[Ai rfl]at M;cases rl<;>cases E
  all_goals
   go_enter func304,ntmps304;go_wp2_with(go_at_call 184;refine HU.out.mono ?_;rintro e w1⟨rfl,r,o1,g,hE,hF⟩;have l:=HE.out.trans hE;have d:=l.keep T.out.1 T.out.2;have O:=g.CX d (by omega);obtain⟨y0,-,-,-,t,n,-,yf⟩:=g.gF d X.out.1;rw[K.out.1]at t;rw[K.out.2]at n;have R7:=g.R7;have ai:=g.gy d;have aj: ∀W v,(tV W ⟨b,16,N⟩ v).cell? ⟨b,0,N⟩=W.cell? ⟨b,0,N⟩:=(λW v=>Cq W _ _ v (by simp));have HD:=Aa (λm=>g.px d X.out.1 X.out.2 m);have P:=Aa (Ab l (Ab hF (Ab d O))));go_region_held3(λW=>W.cell? ⟨mb,12,N⟩=Z (ptr r.CA)/\W.cell? ⟨b,0,N⟩=Z (I U ((k:Int)+1))) (go_keep) (first|(go_at_call 339;refine(HD.out _).mono ?_;rintro e w2⟨⟨v2,rfl⟩,o2,p,Q⟩;rw[<-M]at p;have R:=Q.keep P.out.2.2.1 P.out.2.2.2;obtain⟨y0,-,-,-,-,n,-,yf⟩:=p.gF R HA.out;rw[show({j with CA:=tY}:G).begun=j.begun from rfl,K.out.2]at n;have R7:=p.R7;have a:=Aa (Ab p (Ab (P.out.1.trans Q) R))));go_wp2;go_quiet((go_at_call 340;exact BO (HO.out _ a.out.1)))
   first
    |(have hrel:C=s':=(by simpa using HS.out);go_wp2;go_end0;exact⟨rfl,r,o2,by rw[<-hrel];exact a.out.1.drewN _,a.out.2.1.drewN _,P.out.2.1⟩)
    |(have hrel:EM C k=Z s':=(by simpa using HS.out);have u:=Aa (λm=>(a.out.1.drewN m).release a.out.2.2 HA.out hrel);go_wp2_with(go_at_call 188;refine(u.out _).mono ?_;rintro e w3⟨rfl,V3,o3,y,z,A⟩;have f:=Aa (Ab y (Ab ((a.out.2.1.drewN _).trans z) (P.out.2.1.trans A))));go_end0;exact⟨rfl,V3,o3,f.out.1,f.out.2.1,f.out.2.2⟩)
 |false=>
  have M:=HL.out;rw[Ah (by decide)]at M;cases rl<;>cases E
  all_goals
   go_enter func304,ntmps304;go_wp2_with(go_at_call 184;refine HU.out.mono ?_;rintro e w2⟨rfl,r,o2,g,hE,hF⟩;have l:=HE.out.trans hE;have d:=l.keep T.out.1 T.out.2;obtain⟨y0,-,-,-,t,n,-,-⟩:=g.gF d X.out.1;rw[K.out.1]at t;rw[K.out.2]at n;have R7:=g.R7;rw[<-M]at g;have a:=Aa (Ab g (Ab l d));have S:=Aa hF);go_quiet((go_at_call 340;exact BO (HO.out _ a.out.1)))
   first
    |(have hrel:C=s':=(by simpa using HS.out);go_wp2;go_end0;exact⟨rfl,r,o2,by rw[<-hrel];exact a.out.1.drewN _,a.out.2.1.drewN _,S.out⟩)
    |(have hrel:EM C k=Z s':=(by simpa using HS.out);have u:=Aa (λm=>(a.out.1.drewN m).release a.out.2.2 HA.out hrel);go_wp2_with(go_at_call 188;refine(u.out _).mono ?_;rintro e w3⟨rfl,V3,o3,y,z,A⟩;have f:=Aa (Ab y (Ab ((a.out.2.1.drewN _).trans z) (S.out.trans A))));go_end0;exact⟨rfl,V3,o3,f.out.1,f.out.2.1,f.out.2.2⟩)
end
end
section
open Vm (CP)
section
variable {b i j:Nat}{s s':St}
theorem XJ(w:rO)(b:Nat):(binOp .neq 119 (ptr b) (ptr b)).run prog w= .ok (ue tY) w:=by
 obtain⟨i,a,_⟩:=AD.1 KC;have h: ∀d:Nat,(Op.equalIn (d+1) 119 (ptr b) (ptr b)).run prog w= .ok tZ w:=λd=>by simp[Op.equalIn,Co K9,sizeOf,typeInfo,a,run_sameAddr_same]
 simp only[binOp];simp[Op.equal,Op.maxDepth,h 9999]
theorem TY{c:Nat}{f g:Array tR}(h: ¬b=c)(j:Cy w b f 130)(k:Cy w c g 130):(binOp .neq 119 (ptr b) (ptr c)).run prog w= .ok (ue tZ) w:=by
 obtain⟨i,l,m⟩:=AD.1 KC;have h: ∀d:Nat,(Op.equalIn (d+1) 119 (ptr b) (ptr c)).run prog w= .ok tY w:=λd=>by simp[Op.equalIn,Co K9,sizeOf,typeInfo,l,m,run_sameAddr_other w (a:=⟨b,0,N⟩) (b:=⟨c,0,N⟩) (λe=>h (Aq Addr.block e)) j k]
 simp only[binOp];simp[Op.equal,Op.maxDepth,h 9999]
theorem cI(W:rO)(V:Vr)(t:Option Nat):(binOp .neq 119 (J7 V t) (J N)).run prog W= .ok (ue t.isSome) W:=by
 cases t with
 |none=>kernel_rfl
 |some k=>rfl
theorem Va(w:rO)(b:Nat):(binOp .neq 119 (J N) (ptr b)).run prog w= .ok (ue tZ) w:=by
 have h: ∀d:Nat,(Op.equalIn (d+1) 119 (J N) (ptr b)).run prog w= .ok tY w:=λd=>by simp[Op.equalIn,Co K9]
 simp only[binOp];simp[Op.equal,Op.maxDepth,h 9999]
theorem Vb(x y:Operand)(v:tR)(b:Nat)(w:rO):(eqGuard .neq 119 x y v (ptr b)).run prog w= .ok () w:=by cases v<;>simp[eqGuard]
theorem iF(x y:Operand)(V:Vr)(t:Option Nat)(w:rO):(eqGuard .neq 119 x y (J7 V t) (J N)).run prog w= .ok () w:=by cases t<;>simp[eqGuard]
theorem CE.py(h:CE mb V own w s){t:Nat}(c:own b=20+5*i)(g:t<s.gs.length):(binOp .neq 119 (ptr (V.CR t)) (ptr b)).run prog w= .ok (ue (!decide (t=i))) w:=by
 have a:=h.lg b i c;have j:=h.og t g;by_cases e:t=i
 ·subst e
  rw[<-h.fH c (Ae a)];simpa using XJ w b
 ·obtain⟨_,_,m,d,_⟩:=h.Hr c (Ae a)
  obtain⟨_,_,k,f,_⟩:=h.Hr j (Ae g);simpa[e]using TY (by intro l;rw[l]at j;omega) f d
theorem XK(w:Int)(a b:Bool):Is w a b=0\/Is w a b=1\/Is w a b=2\/Is w a b=3\/Is w a b=4:=by unfold Is;(repeat' split)<;>simp
theorem XL{q:Nat}{z:G}(a:s.gs[q]?=Z z)(h:D7 s i (Z q)=4):z.word=1\/z.word=3\/z.word=4\/z.word=5:=by
 have e:G7 s q=z.word:=by simp[G7,a]
 unfold D7 Is at h;dsimp only at h;rw[e]at h
 (repeat' split at h)<;>first|assumption|(exfalso;omega)
theorem XM{x:G}{t:Option Nat}(l:s.gs[i]?=Z x)(h:(match t with|none=>Dc s j (-1)|some k=>if D7 s i t=3 then(match s.gs[k]? with|some z=>Hh (s.CJ k {z with Db:=(i:Int)+1}) k|none=>N)else if D7 s i t=2 then Gx s j else if D7 s i t=4 then(JI s k).bind λs1=>Dc s1 j 1 else Dc s j (if D7 s i t=0 then-1 else 0))=Z s'):
  (∃a,(a=0\/a=1)/\D7 s i t=a/\Dc s j (kB a)=Z s')\/
  (∃q z s1,t=Z q/\s.gs[q]?=Z z/\D7 s i t=4/\(z.word=1\/z.word=3\/z.word=4\/z.word=5)/\JI s q=Z s1/\Dc s1 j 1=Z s')\/
  (D7 s i t=2/\Gx s j=Z s')\/
  ∃q z,t=Z q/\s.gs[q]?=Z z/\D7 s i t=3/\Hh (s.CJ q {z with Db:=(i:Int)+1}) q=Z s':=by
 cases t with
 |none=>exact .inl ⟨0,.inl rfl,rfl,h⟩
 |some q=>
  dsimp only at h;have m:D7 s i (Z q)=0\/D7 s i (Z q)=1\/D7 s i (Z q)=2\/D7 s i (Z q)=3\/D7 s i (Z q)=4:=XK _ _ _;by_cases e:D7 s i (Z q)=3
  ·rw[Ai e]at h
   cases b:s.gs[q]? with
   |none=>rw[b]at h;cases h
   |some z=>rw[b]at h;exact .inr (.inr (.inr ⟨q,z,rfl,b,e,h⟩))
  ·rw[Ah e]at h
   by_cases f:D7 s i (Z q)=2
   ·rw[Ai f]at h;exact .inr (.inr (.inl ⟨f,h⟩))
   ·rw[Ah f]at h
    by_cases c:D7 s i (Z q)=4
    ·rw[Ai c]at h
     obtain⟨s1,d,g⟩:=bind_some h;have b: ∃z,s.gs[q]?=Z z:=by
      unfold JI at d;cases b:s.gs[q]? with
      |none=>rw[b]at d;cases d
      |some z=>exact⟨z,rfl⟩
     obtain⟨z,b⟩:=b;exact .inr (.inl ⟨q,z,s1,rfl,b,c,XL b c,d,g⟩)
    ·rw[Ah c]at h
     refine .inl ⟨D7 s i (Z q),by omega,rfl,?_⟩;unfold kB;rw[Ah c];exact h
theorem CE.suspend(h:CE mb V own w s){xb:Nat}{alone:Bool}(op C c n:Int)(k:Nat)(hk:k<8)(hx:own xb=22+5*j)(d:GD s j ⟨op,k,C,c,n⟩ alone=Z s'):tT prog 252 #[ptr mb,ptr xb,uk #[I U op,I U k,I U C,I U c,I U n],ue alone] w (Ge mb V own w unit s'):=by
 unfold GD at d;cases hj:s.ms[j]? with
 |none=>rw[hj]at d;cases d
 |some y=>
 rw[hj]at d;dsimp only at d;replace d:=CT d;obtain⟨ao,d⟩:=d;obtain⟨yp,yg,aw,ax,ay,az,a1⟩:=y;dsimp only at*
 obtain⟨i,rfl⟩: ∃i:Nat,yg=(i:Int)+1:=⟨(yg-1).toNat,by omega⟩;have e2:((i:Int)+1-1).toNat=i:=by omega
 rw[e2]at d;cases hi:s.gs[i]? with
 |none=>rw[hi]at d;cases d
 |some x=>
 rw[hi]at d;dsimp only at d;obtain⟨b,z,x2,S,-⟩:=h.Rl hx hj ao;dsimp only at S;rw[e2]at S;have HT:=Aa (λW(hW:tS w.heap.size w W)=>(h.below hW).target op C c n k S hi hk);have M:=Aa (λW(hW:tS w.heap.size w W)=>(h.below hW).next op C c n k S hi hk);obtain⟨t,ht⟩: ∃t,tgt s x k=t:=⟨_,rfl⟩;rw[ht]at HT M d;have af: ∀q,t=Z q->q<s.gs.length:=λq e=>UZ (s:=s) (id:=rg x k) (by rw[<-e,<-ht];rfl);have X:=Aa (Ab S (h.CX S (by omega)));have HX:=Aa (Ab hx (h.CX hx (by omega)));have B:=Aa (Ab h (Ab hj hi))
 have E:Hid (∀W,tS (w.alloc (uj #[I U op,I U k,I U C,I U c,I U n] 84)).heap.size (w.alloc (uj #[I U op,I U k,I U C,I U c,I U n] 84)) W->
   W.cell? ⟨w.heap.size,0,N⟩=Z (I U op)/\W.cell? ⟨w.heap.size,1,N⟩=Z (I U k)/\W.cell? ⟨w.heap.size,2,N⟩=Z (I U C)/\W.cell? ⟨w.heap.size,3,N⟩=Z (I U c)/\W.cell? ⟨w.heap.size,4,N⟩=Z (I U n)/\W.cell? ⟨xb,2,N⟩=Z (ptr b)/\tS w.heap.size w W):=λW hW=>by
  have B0:=(Cy.new w #[I U op,I U k,I U C,I U c,I U n] 84).below hW (by simp);have F:=Cv (Cu (tU w.heap.size w) (uj #[I U op,I U k,I U C,I U c,I U n] 84)) hW;exact⟨B0.cell 0,B0.cell 1,B0.cell 2,B0.cell 3,B0.cell 4,(F.cell HX.out.2).trans x2,F⟩
 have HS:=Aa d;have ag:=Aa af;clear h hx hj S hi hk ht d af x2;obtain⟨l0,l1,l2,l3,l4,x2,-⟩:=E.out _ (tU _ _);go_enter func252,ntmps252;go_wp2;go_region_held3(λW=>W.cell? ⟨w.heap.size,0,N⟩=Z (I U op)/\W.cell? ⟨w.heap.size,1,N⟩=Z (I U k)/\W.cell? ⟨w.heap.size,2,N⟩=Z (I U C)/\W.cell? ⟨w.heap.size,3,N⟩=Z (I U c)/\W.cell? ⟨w.heap.size,4,N⟩=Z (I U n)/\W.cell? ⟨xb,2,N⟩=Z (ptr b)) (go_keep) (first|(go_at_call 302;refine(HT.out _ (by repeat(first|exact tU _ _|apply DK|apply Gh))).mono ?_;rintro e w1⟨rfl,ah⟩;have HW:Hid (tS (w.alloc (uj #[I U op,I U k,I U C,I U c,I U n] 84)).heap.size (w.alloc (uj #[I U op,I U k,I U C,I U c,I U n] 84)) w1):=Cv (DF _) ah;obtain⟨l0,l1,l2,l3,l4,x2,-⟩:=E.out _ HW.out;clear ah))
 all_goals
  have d:=HS.out;have F:=(E.out _ HW.out).2.2.2.2.2.2;have D:=B.out.1.below F;have z0:w1.cell? ⟨b,0,N⟩=Z (I U ((i:Int)+1)):=(D.gF X.out.1 B.out.2.2).1;obtain⟨-,-,-,-,-,ai,-,zf⟩:=D.gF X.out.1 B.out.2.2;have aq:=λW=>cI W V t;have a6:=λW x y=>iF x y V t W;obtain⟨tw,a7,g⟩: ∃tw,(binOp .neq 119 (J7 V t) (ptr b)).run prog w1= .ok (ue tw) w1/\(t.isSome=tZ->tw= !decide (t=Z i)):=by
   cases t with
   |none=>exact⟨tZ,Va w1 b,λh=>by cases h⟩
   |some q=>exact⟨_,D.py X.out.1 (ag.out q rfl),λ_=>by simp⟩
  have a8:=λW x y=>Vb x y (J7 V t) b W;obtain⟨tn,l⟩: ∃tn,t.isSome=tn:=⟨_,rfl⟩;obtain⟨bg,m⟩: ∃bg,x.begun=bg:=⟨_,rfl⟩;rw[l]at aq g;rw[m]at ai;have HE:=Aa (Ext.below (own:=own) F);by_cases Q:alone=tY/\t≠N/\t≠Z i/\x.begun=tY
  ·rw[Ai Q]at d
   obtain⟨rfl,h2,h3,h4⟩:=Q;obtain rfl:tn=true:=by rw[<-l];exact Option.isSome_iff_ne_none.2 h2
   obtain rfl:tw=true:=by rw[g rfl];simpa using h3
   obtain rfl:bg=false:=by rw[<-m];exact h4
   unfold Kv at d;rw[B.out.2.2]at d;simp only[BJ,Ak]at d;have aj:=Aa (D.see 1 X.out.1 B.out.2.2 0);have ar:=Aa d;have au:=Aa (D.CX X.out.1 (by omega));clear d F D g l m h2 h3 h4 M;generalize J7 V t=T at*
   go_wp2_with(go_at_call 260;refine aj.out.mono ?_;rintro e w2⟨rfl,o2,aa,ab⟩;have f:=ab.keep X.out.1 au.out;obtain⟨ai,zf⟩:=aa.UR f (show _=Z x from B.out.2.2);have G:=Aa (aa.Q3 f (show _=Z x from B.out.2.2) tZ);have ad:=Aa (HE.out.trans ab);clear aa ab f);go_end0;exact⟨rfl,V,o2,by rw[<-ar.out];exact G.out.1,ad.out.trans G.out.2,Fx.refl V⟩
  ·rw[Ah Q]at d
   have O:alone=tZ\/alone=tY/\tn=tY\/alone=tY/\tn=tZ/\tw=tY\/alone=tY/\tn=tZ/\tw=tZ/\bg=true:=by
    cases alone with
    |true=>exact .inl rfl
    |false=>
     cases tn with
     |false=>exact .inr (.inl ⟨rfl,rfl⟩)
     |true=>
      cases tw with
      |false=>exact .inr (.inr (.inl ⟨rfl,rfl,rfl⟩))
      |true=>
       cases bg with
       |true=>exact .inr (.inr (.inr ⟨rfl,rfl,rfl,rfl⟩))
       |false=>exact absurd ⟨rfl,Option.isSome_iff_ne_none.1 l,by simpa using g rfl,m⟩ Q
   have P:=ag.out;have o:=Aa F;rcases XM (B.out.2.2) d with⟨a,ha,H,d⟩|⟨q,z,s1,rfl,R,H,hw,hl,d⟩|⟨H,d⟩|⟨q,z,rfl,R,H,d⟩
   ·have d3:(a==3)=false:=by simp;omega
    have d2:(a==2)=false:=by simp;omega
    have d4:(a==4)=false:=by simp;omega
    rw[H]at M;have p:=Aa (Ab (show a=0\/a=1\/a=4 by omega) d);clear F D Q d ha H l g m P;generalize J7 V t=T at*
    rcases O with rfl|⟨rfl,rfl⟩|⟨rfl,rfl,rfl⟩|⟨rfl,rfl,rfl,rfl⟩
    all_goals
     go_wp2_with(first|(go_at_call 255;refine(M.out _ o.out).mono ?_;rintro e w2⟨rfl,f⟩;have r:=Aa (Cv o.out f);have HC:=Aa ((B.out.1.below r.out).GG HX.out.1 p.out.2);clear f)|(go_at_call 305;refine(LG a _ p.out.1).mono ?_;rintro e w3⟨rfl,rfl⟩)|(go_at_call 187;refine HC.out.mono ?_;rintro e w4⟨rfl,V4,o4,v,u,K⟩;have A:=Aa (Ab v (Ab ((Ext.below r.out).trans u) K));clear v u K));go_end0;exact⟨rfl,V4,o4,A.out.1,A.out.2.1,A.out.2.2⟩
   ·rw[H]at M
    have L:=D.og q (CC R);have p:=Aa (Ab R (Ab hw (Ab hl (Ab d (Ab L (CC R))))));clear F D Q d H l g m P R hw hl L;have hT:J7 V (Z q)=ptr (V.CR q):=rfl;rw[hT]at*
    clear hT;rcases O with rfl|⟨rfl,rfl⟩|⟨rfl,rfl,rfl⟩|⟨rfl,rfl,rfl,rfl⟩
    all_goals
     go_wp2_with(first|(go_at_call 255;refine(M.out _ o.out).mono ?_;rintro e w2⟨rfl,f⟩;have r:=Aa (Cv o.out f);have HL:=Aa ((B.out.1.below r.out).lock p.out.2.2.2.2.1 p.out.1 p.out.2.1 p.out.2.2.1);clear f)|(go_at_call 304;refine HL.out.mono ?_;rintro e w3⟨rfl,V3,o3,v,u,K⟩;have u:=(Ext.below r.out).trans u;have HC:=Aa (v.GG (u.keep HX.out.1 HX.out.2) p.out.2.2.2.1);have ak:=Aa (Ab u K);clear v u K)|(go_at_call 305;refine(LG 4 _ (.inr (.inr rfl))).mono ?_;rintro e w3⟨rfl,rfl⟩)|(go_at_call 187;refine HC.out.mono ?_;rintro e w4⟨rfl,V4,o4,v,u,K⟩;have A:=Aa (Ab v (Ab (ak.out.1.trans u) (ak.out.2.trans K)));clear v u K));go_end0;exact⟨rfl,V4,o4,A.out.1,A.out.2.1,A.out.2.2⟩
   ·rw[H]at M
    have p:=Aa d;clear F D Q d H l g m P;generalize J7 V t=T at*
    rcases O with rfl|⟨rfl,rfl⟩|⟨rfl,rfl,rfl⟩|⟨rfl,rfl,rfl,rfl⟩
    all_goals
     go_wp2_with(first|(go_at_call 255;refine(M.out _ o.out).mono ?_;rintro e w2⟨rfl,f⟩;have r:=Aa (Cv o.out f);have HC:=Aa ((B.out.1.below r.out).back HX.out.1 p.out);clear f)|(go_at_call 185;refine HC.out.mono ?_;rintro e w4⟨rfl,V4,o4,v,u,K⟩;have A:=Aa (Ab v (Ab ((Ext.below r.out).trans u) K));clear v u K));go_end0;exact⟨rfl,V4,o4,A.out.1,A.out.2.1,A.out.2.2⟩
   ·rw[H]at M
    have L:=D.og q (CC R);have p:=Aa (Ab R (Ab d L));clear F D Q d H l g m P R L;have hT:J7 V (Z q)=ptr (V.CR q):=rfl;rw[hT]at*
    clear hT;rcases O with rfl|⟨rfl,rfl⟩|⟨rfl,rfl,rfl⟩|⟨rfl,rfl,rfl,rfl⟩
    all_goals
     go_wp2_with(first|(go_at_call 255;refine(M.out _ o.out).mono ?_;rintro e w2⟨rfl,f⟩;have ae:=Cv o.out f;have R2:=B.out.1.below ae;have z0:=(R2.gF X.out.1 B.out.2.2).1;obtain⟨-,-,-,-,-,-,ba,yf⟩:=R2.gF p.out.2.2 p.out.1;have G:=Aa (R2.Rk p.out.2.2 p.out.1 ((i:Int)+1));have av:=Aa (G.out.1.gS p.out.2.2 p.out.2.1);have ad:=Aa (Ext.below (own:=own) ae);clear f ae R2)|(go_at_call 303;refine av.out.mono ?_;rintro e w3⟨rfl,o3,v,u⟩;have A:=Aa (Ab v ((ad.out.trans G.out.2).trans u));clear v u));go_end0;exact⟨rfl,V,o3,A.out.1,A.out.2,Fx.refl V⟩
end
end
section
open Cx (Pr pz)
section
variable {v v':tR}{l:List Pc}
theorem ZC(w:rO)(a b c:tR)(t:TypeId): ∀(j:Nat)(u:tR),[a,b,c][j]?=Z u->(w.alloc (uj #[a,b,c] t)).cell? ((⟨w.heap.size,0,N⟩:Addr).add j)=Z u:=by have h:=Cy.new w #[a,b,c] t;intro j u hu;rw[show((⟨w.heap.size,0,N⟩:Addr).add j)=⟨w.heap.size,j,N⟩from by rw[AE,AJ]];rw[h.cell j,<-hu];simp
theorem ZD: ∀x∈([ue tY,ue tY,I U 0]:List tR),x.oneCell'=true:=by intro x a;simp at a;rcases a with rfl|rfl<;>rfl
theorem cJ(l:List Pc)(x:Pc):EU (l++[x])=EU l++[ue x.pre,ue x.Eo,I U x.count]:=by
 induction l with
 |nil=>rfl
 |cons y l a=>simp[EU,a]
theorem XN(l:List Pc): ∀n,n<=l.length->(EU l).take (n*3)=EU (l.take n):=by
 induction l with
 |nil=>intro n a;obtain rfl:n=0:=(by simpa using a);rfl
 |cons y l b=>
  intro n a;cases n with
  |zero=>rfl
  |succ n=>rw[show(n+1)*3=n*3+1+1+1 by omega];simp[EU,b n (by simpa using a)]
theorem Hf.rdv(h:Hf w v l):GM w 0 139 3 v l.length (EU l):=by
 obtain⟨g,cap,cs,rfl,b,e,k,f,a,d⟩:=h;rcases a with a|a
 ·exact .inl ⟨by rw[MQ],.inr ⟨g,cap,cs,rfl,Ap _,b,e,f,a.symm,d⟩⟩
 ·subst a
  refine .inr ⟨g,rfl,Ap _,b.lt,by rw[MQ],λi j=>?_⟩;have c:i<cs.toList.length:=by rw[Zbe];omega
  rw[b.cell,<-d,AN j,Ae c];simp[show i<cs.size by omega]
theorem iG{n:Nat}(h:w.ownsRow 0 139 3 v (n+1) (EU l))(a:l.length=n+1):Hf w v l:=by
 obtain⟨e,⟨_,f⟩|⟨g,cap,cur,rfl,i,b,j,hm,c,d⟩⟩:=h
 ·omega
 ·exact⟨g,cap,cur,by rw[a],b,by omega,by omega,hm,.inl c.symm,by rw[a];exact d⟩
theorem CE.cK(h:CE mb V own w s){w2:rO}(A:Cw (λj=>V.EG.ownBlock=Z j) w w2) (E:Hf w2 v' l) (F: ∀j,v'.ownBlock=Z j->V.EG.ownBlock=Z j\/w.heap.size<=j):(w2.cell? ⟨mb,7,N⟩=Z V.EG/\w2.frozen? ⟨mb,7,N⟩=tY)/\ ∃f,CE mb {V with EG:=v'} f (w2.setCell ⟨mb,7,N⟩ v') {s with asked:=l}/\Ext own w f (w2.setCell ⟨mb,7,N⟩ v'):=by
 classical
 have y:=(h.EO (by decide)).2;have q:V.EG.ownBlock≠Z mb:=λe=>by have:=y mb e;rw[h.om]at this;omega
 have r:=h.D5.only A q;have u:Cw (λj=>V.EG.ownBlock=Z j\/j=mb) w (w2.setCell ⟨mb,7,N⟩ v'):=(A.mono (λj _ c=>.inl c)).set (.inr (.inr rfl)) 7 v';have k: ∀j,v'.ownBlock=Z j->j<w2.heap.size:=λj c=>by obtain⟨g,cap,cs,rfl,r,-⟩:=E;cases c;exact r.lt
 have B:(w2.setCell ⟨mb,7,N⟩ v').heap.size=w2.heap.size:=by simp[tV]
 obtain⟨n,z⟩: ∃n:Nat->Nat,n=λj=>if j<w.heap.size then own j else if v'.ownBlock=Z j then 4 else 0:=⟨_,rfl⟩
 have m: ∀j,j<w.heap.size->n j=own j:=λj c=>by rw[z];exact Ai c
 have d: ∀j,w.heap.size<=j->n j=0\/n j=4:=λj c=>by
  rw[z];dsimp only;rw[if_neg (by omega)];split
  ·exact .inr rfl
  ·exact .inl rfl
 have v: ∀j,(w2.setCell ⟨mb,7,N⟩ v').heap.size<=j->n j=0:=λj c=>by rw[B]at c;have:=A.size;rw[z];dsimp only;rw[if_neg (by omega),if_neg (λe=>by have:=k j e;omega)]
 have a:=h.UJ (X:=λt=>t=1\/t=4) (C8:=n) u (λj c=>by
  rcases c with c|rfl
  ·right;rw[y j c];rfl
  ·left;rw[h.om];rfl) (by decide) m (λj c=>by
  refine⟨λ_=>?_,λi G e=>?_,λi G e=>?_⟩
  ·rcases d j c with e|e<;>rw[e]<;>decide
  ·rcases d j c with p|p<;>omega
  ·rcases d j c with p|p<;>omega) v
 have C: ∀j,v'.ownBlock=Z j->n j=4:=λj c=>by
  by_cases x:j<w.heap.size
  ·rw[m j x]
   rcases F j c with e|e
   ·exact y j e
   ·omega
  ·rw[z];dsimp only;rw[if_neg x,if_pos c]
 have D:Hf (w2.setCell ⟨mb,7,N⟩ v') v' l:=E.only (S:=λj=>j=mb) (Cw.set (S:=λj=>j=mb) (Cw.refl _ w2) (.inr rfl) 7 v') (λj c e=>by
  have e:j=mb:=e;subst e;rcases F _ c with p|p
  ·exact q p
  ·have:=h.dT;omega)
 refine⟨⟨r.cell 7,r.free 7⟩,n,⟨a.fresh,a.om,a.prog,a.laid,h.hold,λ_=>a.L1 (by decide),λ_=>a.L8 (by decide),λ_=>⟨D,C⟩,λ_=>r.set 7 v',λ_=>a.rings (by decide),λ_=>a.stat (by decide),λ_=>a.all (by decide),λ_=>a.GQ (by decide),λ_=>a.FM (by decide),λ_=>a.CA (by decide),λ_=>a.box (by decide),λ_=>a.gs (by decide),λ_=>a.ms (by decide),h.mg,a.og,a.ug,a.ox,a.ux,λb i o=>?_,λb i o=>?_,h.Hb⟩,⟨u.mono (λj _ c=>?_),m⟩⟩
 ·by_cases k:b<w.heap.size
  ·exact a.lg b i k o
  ·rcases d b (by omega)with e|e<;>omega
 ·by_cases k:b<w.heap.size
  ·exact a.lx b i k o
  ·rcases d b (by omega)with e|e<;>omega
 ·rcases c with c|rfl
  ·rw[y j c];decide
  ·rw[h.om];decide
theorem CE.iH(h:CE mb V own w s){w2:rO}(b:Du (w.alloc (uj #[ue tY,ue tY,I U 0] 139)) 0 139 3 V.EG s.asked.length (EU s.asked) [ue tY,ue tY,I U 0] v' w2):(w2.cell? ⟨mb,7,N⟩=Z V.EG/\w2.frozen? ⟨mb,7,N⟩=tY)/\ ∃a,CE mb {V with EG:=v'} a (w2.setCell ⟨mb,7,N⟩ v') {s with asked:=s.asked++[p0]}/\Ext own w a (w2.setCell ⟨mb,7,N⟩ v'):=by obtain⟨c,d,f⟩:=b;refine h.cK ((Cw.refl (λj=>V.EG.ownBlock=Z j) w).alloc _ |>.grown d (λj e=>.inr e)) (iG (n:=s.asked.length) (by rw[cJ];exact c) (by simp)) (λj g=>(f j g).imp id (λx=>by simp at x;omega))
theorem CE.mq(h:CE mb V own w s){n g cap:Nat}(c:V.EG=Y (Z ⟨g,0,N⟩) s.asked.length cap)(b:n<=s.asked.length): ∃a,CE mb {V with EG:=Y (Z ⟨g,0,N⟩) n n} a (w.setCell ⟨mb,7,N⟩ (Y (Z ⟨g,0,N⟩) n n)) {s with asked:=s.asked.take n}/\Ext own w a (w.setCell ⟨mb,7,N⟩ (Y (Z ⟨g,0,N⟩) n n)):=by obtain⟨d,-⟩:=h.EO (by decide);rw[c]at d;obtain⟨o,f,cs,e,i,p,q,r,t,k⟩:=d;cases e;refine(h.cK (v':=Y (Z ⟨g,0,N⟩) n n) (l:=s.asked.take n) (Cw.refl _ w) ⟨g,n,cs,by simp[b],i,by simp;omega,by omega,by omega,.inr (by simp[b]),?_⟩ (λj m=>.inl (by rw[c];exact m))).2;rw[AY,Nat.min_eq_left b,<-XN _ _ b,<-k,Za7,Nat.min_eq_left (by omega)]
theorem CE.rA(h:CE mb V own w s){b i:Nat}(a:own b=20+5*i){u:Int}(e:0<=u)(c:u<=s.gs.length):(binOp .neq 119 (Ej V.CR u) (ptr b)).run prog w= .ok (ue (!decide (u=(i:Int)+1))) w:=by
 by_cases hu:u=0
 ·subst hu
  rw[show Ej V.CR 0=J N from rfl,Va w b];simp;omega
 ·obtain⟨d,f⟩:=h.gp (by omega) c
  rw[d,h.py a (by omega)];congr 3;simp;omega
theorem cL(V:Vr)(ri:Nat->Nat)(a:tR):Fx V {V with GJ:=ri,EG:=a}:=⟨⟨rfl,rfl,rfl,rfl,rfl,rfl,rfl,rfl⟩,rfl,rfl⟩
theorem CE.pA(h:CE mb V own w s): ∃g cap,V.EG=Y (Z ⟨g,0,N⟩) s.asked.length cap/\s.asked.length<=cap:=by obtain⟨g,cap,cs,a,c,b,-⟩:=(h.EO (by decide)).1;exact⟨g,cap,a,b⟩
def PA(l:List Pc)(n k:Nat):List Pc:=l++tW (n-l.length-k) p0
theorem cM(l:List Pc)(n k:Nat):(PA l n k).length=l.length+(n-l.length-k):=by simp[PA]
theorem XO(l:List Pc)(n k:Nat)(a:k+1<=n-l.length):PA l n (k+1)++[p0]=PA l n k:=by unfold PA;rw[show n-l.length-k=(n-l.length-(k+1))+1 by omega,Zby,AU]
theorem cN(l:List Pc)(n:Nat):(PA l n 0).take n=l.take n++tW (n-l.length) p0:=by
 unfold PA;by_cases h:n<=l.length
 ·rw[show n-l.length=0 by omega];simp
 ·rw[AL (by simp;omega),AL (by omega),Nat.sub_zero]
def Ma(s:St)(n k:Nat):St:={s with asked:=PA s.asked n k,rings:=FZ s.rings n,stat:=Ee s.stat n,all:=Ed (s.rings.drop n) s.all}
theorem TZ(s:St)(n:Nat):Ma s n (n-s.asked.length)={s with rings:=FZ s.rings n,stat:=Ee s.stat n,all:=Ed (s.rings.drop n) s.all}:=by unfold Ma PA;rw[Bj];simp
theorem CE.resize(h:CE mb V own w s){xb j:Nat}{y:M1}{n r:Int}{s':St}(S:own xb=22+5*j)(T:s.ms[j]?=Z y)(G:1<=y.g)(l:FB s j n=Z (r,s')):tT prog 309 #[ptr mb,ptr xb,I U n] w (Ge mb V own w (ue (decide (r=1))) s'):=by
 unfold FB at l;rw[T]at l;dsimp only at l;obtain⟨b,z,x2,hb,-⟩:=h.Rl S T G;obtain⟨i,H⟩: ∃i:Nat,y.g=(i:Int)+1:=⟨(y.g-1).toNat,by omega⟩;rw[H,show((i:Int)+1-1).toNat=i by omega]at hb;have JX:=h.JX;have c8:=h.c8;have hq:=λm=>(h.drewN m).rA hb h.hold.1 h.hold.2;obtain⟨E,K⟩: ∃E,Ej V.CR s.sc.CF=E:=⟨_,rfl⟩;rw[K]at JX hq;have au:=λx y' W=>Vb x y' E b W;obtain⟨c1,t⟩: ∃c1,(!decide (s.sc.CF=(i:Int)+1))=c1:=⟨_,rfl⟩;rw[t]at hq;by_cases hc:s.sc.CF≠y.g\/n<1\/256<n
 ·rw[Ai hc]at l
  cases l;have aw:c1=tZ\/c1=tY/\n<1\/c1=tY/\ ¬n<1/\256<n:=by
   rw[<-t];by_cases e:s.sc.CF=(i:Int)+1
   ·by_cases e1:n<1
    ·exact .inr (.inl ⟨by simp[e],e1⟩)
    ·exact .inr (.inr ⟨by simp[e],e1,by omega⟩)
   ·exact .inl (by simp[e])
  have X:=Aa h;clear h S T hb H hc t G K;rcases aw with rfl|⟨rfl,h1⟩|⟨rfl,h1,h2⟩
  all_goals
   go_enter func309,ntmps309;go_wp2;go_quiet(fail)
   go_wp2;go_ret;exact⟨rfl,V,own,X.out.drewN _,(Ext.refl own w).drewN _,Fx.refl V⟩
 ·rw[Ah hc]at l
  replace l:=CT l;obtain⟨⟨aa,ab,ad⟩,l⟩:=l;obtain⟨a,rfl⟩: ∃a:Nat,n=a:=⟨n.toNat,by omega⟩;rw[Am]at l;obtain rfl:c1=false:=by rw[<-t];simp;omega
  have t1:1<=a:=by omega
  have t2:a<=256:=by omega
  have i1: ¬(a:Int)<1:=by omega
  have i2: ¬256<(a:Int):=by omega
  have ae:=Aa (λm=>(h.drewN m).gK a t1 t2 aa);have HT:=Aa (Ab t1 (Ab t2 (Ab ad ab)));have HX:=Aa (Ab S (Ab (h.CX S (by omega)) T));have R:=Aa l;clear h S T hb H hc t G K l t1 t2 aa ab ad;go_enter func309,ntmps309;go_wp2;go_quiet(fail)
  go_wp2_with(go_at_call 342;refine(ae.out _).mono ?_;rintro e w1⟨⟨f,rfl⟩,o1,c,o⟩;have c0:=c.c0;have c9:=c.c9;have HP:=Aa (λm=>(c.drewN m).gL a HT.out.1 HT.out.2.1 HT.out.2.2.1 HT.out.2.2.2);have HE:=Aa (((Ext.refl own w).drewN _).trans o);clear c o);go_region_held3(λW=>W.cell? ⟨mb,0,N⟩=Z (ptr V.procs)/\W.cell? ⟨mb,9,N⟩=Z (ptr V.all)) (go_keep) (first|(go_at_call 343;refine(HP.out _).mono ?_;rintro e w2⟨⟨f2,rfl⟩,ri,o2,c,o⟩;have c0:=c.c0;have c9:=c.c9;have A:=Aa (Ab c ((HE.out.drewN _).trans o));clear c o));clear c0 c9 c8 JX hq au ae HP HE x2;rw[<-TZ]at A;go_wp2;go_loopg [42] (a-s.asked.length) (λgk _ wr=> ∃av F,CE mb {V with GJ:=ri,EG:=av} F wr (Ma s a gk)/\Ext own w F wr/\gk<=a-s.asked.length)
  case atStart=>exact⟨V.EG,o2,A.out.1,A.out.2,Al _⟩
  case round=>
   obtain⟨av,o3,c,o,a8⟩:=hrel;obtain⟨g,cap,E,af⟩:=c.pA;have ag:av=Y (Z ⟨g,0,N⟩) (Ma s a gk).asked.length cap:=E;have c7:wr.cell? ⟨mb,7,N⟩=Z av:=c.c7;have ah:(Ma s a gk).asked.length=s.asked.length+(a-s.asked.length-gk):=cM _ _ _;obtain⟨v,u⟩: ∃v,(Ma s a gk).asked.length=v:=⟨_,rfl⟩;rw[u]at ag af;subst ag;have B:=(c.EO (by decide)).1.rdv;rw[u]at B;have X:=Aa (Ab c o);cases gk with
   |succ q=>
    have hd:(v:Int)<(a:Int):=by omega
    have ax:=Aa (B.below (Cu (tU wr.heap.size wr) (uj #[ue tY,ue tY,I U 0] 139)));have ay:Hid (v<100000000):=by show _<_;have:=HT.out.2.1;omega
    have ai:=Aa u;have HK:=Aa (XO s.asked a q (by omega));clear c o E B ah u;go_wp2_with(at_builtin;refine Iu underlying118 aG rfl (by decide) (by decide) 0 _ rfl _ _ rfl (Y (Z ⟨g,0,N⟩) v cap) v (EU (Ma s a (q+1)).asked) ⟨wr.heap.size,0,N⟩ 1 [ue tY,ue tY,I U 0] rfl rfl ax.out rfl (ZC wr _ _ _ 139) ZD (Ap _) ay.out ?_;intro v' w' hA;obtain⟨g',a7,rfl⟩:=hA.some;rw[<-ai.out]at hA;obtain⟨⟨q7,qf⟩,o4,L,M⟩:=X.out.1.iH hA;replace q7:w'.cell? ⟨mb,7,N⟩=Z (Y (Z ⟨g,0,N⟩) v cap):=q7;rw[ai.out]at L M;have d:=Aa (Ab L (X.out.2.trans M));clear hA L M);go_roundg q
    case rel=>exact⟨_,o4,by have k:=d.out.1;unfold Ma at k⊢;rw[HK.out]at k;exact k,d.out.2,by omega⟩
    case measure=>omega
   |zero=>
    obtain⟨t,az⟩:(a:Int)<=(v:Int)/\a<=v:=by omega
    have hd: ¬(v:Int)<(a:Int):=by omega
    have ba:(a:Int)<=(cap:Int):=by omega
    have f7:=c.Fa 7;obtain⟨o4,R4,E4⟩:=c.mq E (n:=a) (by rw[u];exact az);have e4:({Ma s a 0 with asked:=(Ma s a 0).asked.take a}:St)={s with stat:=Ee s.stat a,rings:=s.rings.take a++tW (a-s.rings.length) r0,all:=Ed (s.rings.drop a) s.all,asked:=s.asked.take a++tW (a-s.asked.length) p0}:=by unfold Ma FZ;dsimp only;rw[cN]
    rw[e4]at R4;have C:=o.keep HX.out.1 HX.out.2.1;have O:=c.C3 C (show(Ma s a 0).ms[j]?=Z y from HX.out.2.2);have x1:=LH O;have f1:=O.free 1;have ak:({s with stat:=Ee s.stat a,rings:=s.rings.take a++tW (a-s.rings.length) r0,all:=Ed (s.rings.drop a) s.all,asked:=s.asked.take a++tW (a-s.asked.length) p0}:St).ms[j]?=Z y:=HX.out.2.2;have d:=Aa (Ab R4 (Ab (o.trans E4) (Ab (E4.keep C (c.CX C (by omega))) ak)));clear C O ak;clear c o E B ah u X R4 E4 e4 A;generalize({s with stat:=Ee s.stat a,rings:=s.rings.take a++tW (a-s.rings.length) r0,all:=Ed (s.rings.drop a) s.all,asked:=s.asked.take a++tW (a-s.asked.length) p0}:St)=S4 at*
    have l:=R.out;clear R;by_cases hp:(a:Int)<=y.p
    ·rw[Ai hp]at l
     simp only[Ak,AV]at l;obtain⟨rfl,l⟩:=l;have R:=Aa l;obtain⟨R5,E5⟩:=d.out.1.lu d.out.2.2.1 d.out.2.2.2 0;have c8:=R5.c8;have HG:=Aa (R5.pR 0);have P:=Aa (Ab (d.out.2.1.trans E5) (Ab (E5.keep d.out.2.2.1 (d.out.1.CX d.out.2.2.1 (by omega))) (R5.CX (E5.keep d.out.2.2.1 (d.out.1.CX d.out.2.2.1 (by omega))) (by omega))));have ao:(S4.CQ j {y with p:=0}).ms[j]?=Z {y with p:=0}:=Jl (CC d.out.2.2.2);have aq:=Aa ao;clear l R5 E5 ao;generalize y.p=yp at*
     go_wp2_with(go_at_call 299;refine HG.out.mono ?_;rintro e w5⟨rfl,o5,c,o⟩;have D:=o.keep P.out.2.1 P.out.2.2;have c8:=c.c8;have x0:w5.cell? ⟨xb,0,N⟩=Z (I U j):=((c.C3 D aq.out).cell 0);have HK:=Aa (λm=>(c.drewN m).Qz 0 j);have Q:=Aa (Ab (P.out.1.trans o) (Ab D (c.CX D (by omega))));clear c o D);go_region_held3(λW=>W.cell? ⟨mb,8,N⟩=Z (ptr V.stat)/\W.cell? ⟨xb,0,N⟩=Z (I U j)) (go_keep) (first|(go_at_call 49;refine(HK.out _).mono ?_;rintro e w6⟨rfl,o6,c,o⟩;have c8:=c.c8;have x0:w6.cell? ⟨xb,0,N⟩=Z (I U j):=((c.C3 (o.keep Q.out.2.1 Q.out.2.2) aq.out).cell 0);have a1:=Aa (c.Qy 0);have a6:=Aa ((Q.out.1.drewN _).trans o);clear c o));go_wp2_with(go_at_call 173;refine a1.out.mono ?_;rintro e w7⟨rfl,o7,c,o⟩;have ar:=Aa (Ab c (a6.out.trans o));clear c o);go_ret;exact⟨rfl,_,o7,by rw[<-R.out];exact ar.out.1,ar.out.2,cL V ri _⟩
    ·rw[Ah hp]at l
     simp only[Ak,AV]at l;obtain⟨rfl,l⟩:=l;have R:=Aa l;clear l;generalize y.p=yp at*
     go_wp2;go_ret;exact⟨rfl,_,o4,by rw[<-R.out];exact d.out.1,d.out.2.1,cL V ri _⟩
end
end
section
open Cx (Pr pz)
open Vm (CP)
section
variable {b i j:Nat}{s s':St}{n r:Int}
theorem CE.sw(h:CE mb V own w s){u:Int}(a:own b=20+5*i)(hu:(i:Int)+1=u):w.cell? ⟨b,0,N⟩=Z (I U u):=Jw h a (Ae (h.lg b i a)) hu
theorem iI{x:G}{f a:Int}(h:s.gs[i]?=Z x):(GU s f a).gs[i]?=Z x:=by unfold GU;show(s.gs++_)[i]?=Z x;rw[Aw (CC h)];exact h
theorem XP(b:Bool)(w:rO):tT prog 308 #[ue b] w λe a=>e=ui (I U (if b then 1 else 0))/\w=a:=by
 cases b
 all_goals
  go_enter func308,ntmps308;go_wp2;go_ret;exact⟨rfl,rfl⟩
theorem XQ(h:FB s j n=Z (r,s')):s'.gs=s.gs:=by
 unfold FB at h;split at h
 ·cases h
 ·split at h
  ·cases h;rfl
  ·split at h
   ·dsimp only at h
    split at h<;>(cases h;rfl)
   ·cases h
theorem T0(h:FB s j n=Z (r,s')):(if decide (r=1)=tZ then(1:Int)else 0)=r:=by
 unfold FB at h;split at h
 ·cases h
 ·split at h
  ·cases h;rfl
  ·split at h
   ·dsimp only at h
    split at h<;>(cases h;rfl)
   ·cases h
theorem CE.answer(h:CE mb V own w s){xb:Nat}{op g c:Int}(k:Nat)(hk:k<8)(hx:own xb=22+5*j)(z:own b=20+5*i)(ao: ∀y,s.ms[j]?=Z y->1<=y.g) (d:Ig s j i ⟨op,k,g,c,n⟩=Z (r,s')):tT prog 253 #[ptr mb,ptr xb,ptr b,uk #[I U op,I U k,I U g,I U c,I U n]] w (Ze mb V own w (I U r) s'):=by
 unfold Ig at d;cases M:s.ms[j]? with
 |none=>rw[M]at d;cases d
 |some y=>
 cases A:s.gs[i]? with
 |none=>rw[M,A]at d;cases d
 |some x=>
 rw[M,A]at d;dsimp only at d;rw[Am]at d;have q8:(k:Int)<8:=by omega
 have l:=h.alloc (EI op k g c n);have E0:=(Ext.refl own w).alloc (EI op k g c n);have B0:Cy (w.alloc (EI op k g c n)) w.heap.size #[I U op,I U k,I U g,I U c,I U n] 84:=Cy.new w _ 84;have hL:=h.fresh w.heap.size (Al _);by_cases P:op=10
 ·rw[Ai P]at d
  subst P;have c5:=l.c5;have c3:=l.c3;obtain⟨ga,bb,aq⟩:=l.pV;rw[aq]at c5;unfold EI at c5 c3;by_cases C:s.sc.G2<=s.gs.length
  ·rw[Ai C]at d
   simp only[Ak,AV]at d;obtain⟨rfl,rfl⟩:=d;have hd:decide (s.sc.G2<=(s.gs.length:Int))=true:=by simpa using C
   have a:=Aa (Ab l E0);unfold EI at a;generalize s.gs.length=ng at*
   generalize s.sc.G2=cg at*
   go_enter func253,ntmps253;go_wp2;go_quiet(fail)
   go_wp2;go_ret;exact⟨rfl,V,own,a.out.1.drewN _,a.out.2.drewN _,Fw.refl V⟩
  ·rw[Ah C]at d
   replace d:=CT d;obtain⟨ar,d⟩:=d;cases hq:Ec (GU s n (rg x k)) y.p s.gs.length tZ with
   |none=>rw[hq]at d;cases d
   |some sq=>
    rw[hq]at d;simp only[BJ,Ak,AV]at d;obtain⟨rfl,rfl⟩:=d;have hd:decide (s.sc.G2<=(s.gs.length:Int))=false:=by simpa using C
    have b4:(w.alloc (EI 10 k g c n)).cell? ⟨b,4+k,N⟩=Z (I U (rg x k)):=by exact l.oU z A hk
    have Q:=l.Z4 hx M;have R:=l.jx z A;have a:=Aa (Ab l (Ab E0 (Ab B0 hL)));have O:=Aa (Ab hx (Ab Q (Ab z (Ab R (Ab M (Ab A hq))))));have au:=Aa ar;unfold EI at a O b4;generalize av:rg x k=r0 at*
    obtain⟨u,hu⟩: ∃u,(s.gs.length:Int)+1=u:=⟨_,rfl⟩;rw[hu];have HU:=Aa (Ab hu av);go_enter func253,ntmps253;go_wp2;go_quiet(fail)
    have p:=Aa (a.out.1.drewN nq);have q:=Aa (a.out.2.1.drewN nq);have B1:Cy ((w.alloc (uj #[I U 10,I U k,I U g,I U c,I U n] 84)).drewN nq) w.heap.size #[I U 10,I U k,I U g,I U c,I U n] 84:=a.out.2.2.1;have l1:=B1.cell 1;have l4:=B1.cell 4;simp only[Ad,Ac,Ag]at l1 l4;have k4:((w.alloc (uj #[I U 10,I U k,I U g,I U c,I U n] 84)).drewN nq).cell? ⟨b,4+k,N⟩=Z (I U r0):=b4;have aw:=Aa B1;have Q:xb<((w.alloc (uj #[I U 10,I U k,I U g,I U c,I U n] 84)).drewN nq).heap.size:=O.out.2.1;have R:b<((w.alloc (uj #[I U 10,I U k,I U g,I U c,I U n] 84)).drewN nq).heap.size:=O.out.2.2.2.1;have ad:=Aa (Ab Q R);generalize(w.alloc (uj #[I U 10,I U k,I U g,I U c,I U n] 84)).drewN nq=W at*
    generalize w.heap.size=L at*
    go_wp2;go_region_held3(λw'=>w'.cell? ⟨L,4,N⟩=Z (I U n)/\w'.cell? ⟨L,1,N⟩=Z (I U k)/\w'.cell? ⟨b,4+k,N⟩=Z (I U r0)) (go_keep) (first|(go_at_call 52;refine((p.out.drewN 1).born n r0 au.out).mono ?_;rintro e w2⟨B,rfl,bc,V2,o2,ae,ax,ay,_,az⟩;have D:=Aa (((Ext.refl own W).drewN 1).trans ax);have hP:=Ey aw.out a.out.2.2.2 D.out;have l1:=hP.cell 1;have l4:=hP.cell 4;simp only[Ad,Ac,Ag]at l1 l4;have a1:(GU s n r0).gs[i]?=Z x:=iI O.out.2.2.2.2.2.1;have k4:=ae.oU (D.out.keep O.out.2.2.1 ad.out.2) a1 hk;rw[HU.out.2]at k4;have f:=Aa ae;have E:=Aa (Ab ay az)))
    all_goals
     have HQ:=Aa (f.out.Pj (y:=y) (D.out.keep O.out.1 ad.out.1) O.out.2.2.2.2.1 E.out.2 O.out.2.2.2.2.2.2);go_wp2_with(go_at_call 192;refine HQ.out.mono ?_;rintro e w3⟨rfl,V3,o3,af,ag,a6⟩;have z0:=af.sw (ag.keep E.out.2 (f.out.CX E.out.2 (by omega))) HU.out.1;have a7:=Aa af;have a8:=Aa (D.out.trans ag);have ba:=Aa (E.out.1.trans a6.toFw));go_ret;exact⟨rfl,V3,o3,a7.out,q.out.trans a8.out,ba.out⟩
 ·rw[Ah P]at d
  have d10:(op==10)=false:=by simp;omega
  have HT:=Aa (λW(hW:tS w.heap.size w W)=>(h.below hW).target op g c n k z A hk);have S:=Aa (Ab h (Ab hx (Ab M (Ab (h.CX hx (by omega)) (Ab z (h.CX z (by omega)))))));have o:=Aa (Cu (tU w.heap.size w) (EI op k g c n));by_cases F:op=13
  ·rw[Ai F]at d
   subst F;have HS:=Aa d;unfold EI at o;generalize tgt s x k=t at*
   go_enter func253,ntmps253;go_wp2_with(first|(go_at_call 302;refine(HT.out _ o.out).mono ?_;rintro e w1⟨rfl,T⟩;have v:=Cv o.out T;have X:=Aa ((S.out.1.below v).ready S.out.2.1 S.out.2.2.1 HS.out);have q:=Aa (Ext.below (own:=own) v))|(go_at_call 306;refine X.out.mono ?_;rintro e w2⟨rfl,V2,o2,hR,hE,hF⟩;have f:=Aa (Ab hR (Ab (q.out.trans hE) hF))));go_ret;exact⟨rfl,V2,o2,f.out.1,f.out.2.1,f.out.2.2.toFw⟩
  ·rw[Ah F]at d
   have d13:(op==13)=false:=by simpa using F
   by_cases G:op=21
   ·rw[Ai G]at d
    subst G;have HS:=Aa d;unfold EI at o;generalize tgt s x k=t at*
    go_enter func253,ntmps253;go_wp2_with(first|(go_at_call 302;refine(HT.out _ o.out).mono ?_;rintro e w1⟨rfl,T⟩;have v:=Cv o.out T;have X:=Aa ((S.out.1.below v).resume S.out.2.1 S.out.2.2.1 HS.out);have q:=Aa (Ext.below (own:=own) v))|(go_at_call 307;refine X.out.mono ?_;rintro e w2⟨rfl,V2,o2,hR,hE,hF⟩;have f:=Aa (Ab hR (Ab (q.out.trans hE) hF))));go_ret;exact⟨rfl,V2,o2,f.out.1,f.out.2.1,f.out.2.2.toFw⟩
   ·rw[Ah G]at d
    have d21:(op==21)=false:=by simpa using G
    by_cases H:op=22
    ·rw[Ai H]at d
     subst H;have aa:=Aa (λm=>(l.drewN m).resize hx M (ao y M) d);have ah:=Aa (λW=>XP (decide (r=1)) W);have HV:=Aa (T0 d);have HG:Hid (s'.gs[i]?=Z x):=by show _=_;rw[XQ d];exact A
     rw[HV.out]at ah;have ck:=l.oU z A hk;have a:=Aa (Ab E0 (Ab B0 hL));have ai:=Aa (l.jx z A);unfold EI at a aa ck ai;generalize decide (r=1)=rb at*
     obtain⟨r0,aj⟩: ∃r0,rg x k=r0:=⟨_,rfl⟩;have ak:=Aa (Ab aj hk);rw[aj]at aa ck;go_enter func253,ntmps253;go_wp2;go_region_held3(λW=>W.cell? ⟨w.heap.size,1,N⟩=Z (I U k)/\W.cell? ⟨b,4+k,N⟩=Z (I U r0)) (go_keep) (first|(go_at_call 309;refine(aa.out _).mono ?_;rintro e w1⟨rfl,V1,o1,hR,hE,hF⟩;have ab:=((Ext.refl own (w.alloc (uj #[I U 22,I U k,I U g,I U c,I U n] 84))).drewN _).trans hE;have hP:=Ey a.out.2.1 a.out.2.2 ab;have l1:=hP.cell 1;simp only[Ad,Ac,Ag]at l1;have ck:=hR.oU (ab.keep S.out.2.2.2.2.1 ai.out) HG.out ak.out.2;rw[ak.out.1]at ck;have p:=Aa (Ab hR (Ab (a.out.1.trans ab) hF)))|(go_at_call 308;refine(ah.out _).mono ?_;rintro e w2⟨rfl,rfl⟩))
     all_goals
      go_wp2;go_ret;exact⟨rfl,V1,o1,p.out.1,p.out.2.1,p.out.2.2.toFw⟩
    ·rw[Ah H]at d
     have d22:(op==22)=false:=by simpa using H
     have a:=Aa (Ab l E0);unfold EI at a;by_cases K:op=23
     ·rw[Ai K]at d
      simp only[Ak,AV]at d;obtain⟨rfl,rfl⟩:=d;have b0:=l.sw z rfl;unfold EI at b0;obtain rfl:=K;generalize(i:Int)+1=u at*
      go_enter func253,ntmps253;go_wp2;go_ret;exact⟨rfl,V,own,a.out.1,a.out.2,Fw.refl V⟩
     ·rw[Ah K]at d
      simp only[Ak,AV]at d;obtain⟨rfl,rfl⟩:=d;have d23:(op==23)=false:=by simpa using K
      go_enter func253,ntmps253;go_wp2;go_ret;exact⟨rfl,V,own,a.out.1,a.out.2,Fw.refl V⟩
end
end
section
open Vm (CP)
section
variable {s s':St}
theorem iJ{j:Nat}{y:M1}{a:Int}(b:Ic s j a=Z s')(c:s.ms[j]?=Z y):1<=y.g:=by unfold Ic at b;rw[c]at b;dsimp only at b;exact(CT b).1.1
theorem rB{j:Nat}{y:M1}{ins:CP}(a:Yg s j ins=Z s')(b:s.ms[j]?=Z y):1<=y.g:=by
 unfold Yg at a;rw[b]at a;dsimp only at a;split at a
 ·split at a
  ·exact I1 a b
  ·exact iJ a b
 split at a
 ·obtain⟨s1,c,_⟩:=bind_some a
  exact I1 c b
 split at a
 ·obtain⟨s1,c,_⟩:=bind_some a
  exact I1 c b
 split at a
 ·unfold JW at a
  rw[b]at a;exact(CT a).1
 split at a
 ·unfold SV at a
  rw[b]at a;dsimp only at a;split at a
  ·exact I1 a b
  ·exact(CT a).1.2
 split at a
 ·unfold GD at a
  rw[b]at a;exact(CT a).1
 ·exact(CT a).1
theorem CE.rC(h:CE mb V own w s){xb j:Nat}{op p c n:Int}(k:Nat)(hk:k<8)(hx:own xb=22+5*j)(a:Yg s j ⟨op,k,p,c,n⟩=Z s'):tT prog 178 #[ptr mb,ptr xb,uk #[I U op,I U k,I U p,I U c,I U n]] w (Ze mb V own w unit s'):=by
 cases F:s.ms[j]? with
 |none=>unfold Yg at a;rw[F]at a;cases a
 |some y=>
 have G:=rB a F;unfold Yg at a;rw[F]at a;dsimp only at a;have T:=(h.xg F).2;obtain⟨i,X⟩: ∃i:Nat,y.g=(i:Int)+1:=⟨(y.g-1).toNat,by omega⟩;rw[X]at G T a;have e2:((i:Int)+1-1).toNat=i:=by omega
 rw[e2,Ai G]at a;have ab: ∀z,s.ms[j]?=Z z->1<=z.g:=λz hz=>by rw[F]at hz;cases hz;omega
 obtain⟨e1,hb⟩:=h.gp G T;rw[e2]at e1 hb;obtain⟨b,ad⟩: ∃b,V.CR i=b:=⟨_,rfl⟩;rw[ad]at e1 hb;have M:=h.alloc (EI op k p c n);have x2:(w.alloc (EI op k p c n)).cell? ⟨xb,2,N⟩=Z (ptr b):=by rw[<-e1,<-X];exact R8 (M.C3 hx F)
 have JX:=M.JX;have E0:=(Ext.refl own w).alloc (EI op k p c n);have B0:Cy (w.alloc (EI op k p c n)) w.heap.size #[I U op,I U k,I U p,I U c,I U n] 84:=Cy.new w _ 84;have hL:=h.fresh w.heap.size (Al _);have O:=M.Z4 hx F;have P:=M.jx hb (Ae (M.lg b i hb));obtain⟨hv,aa⟩: ∃hv,Ej V.CR s.sc.CF=hv:=⟨_,rfl⟩;have heq: ∀m,(binOp .eql 119 hv (ptr b)).run prog ((w.alloc (EI op k p c n)).drewN m)= .ok (ue (decide (s.sc.CF=(i:Int)+1))) ((w.alloc (EI op k p c n)).drewN m):=λm=>by rw[<-aa];exact(M.drewN m).QL hb h.hold.1 h.hold.2
 rw[aa]at JX;obtain⟨al,ae⟩: ∃al,decide (s.sc.CF=(i:Int)+1)=al:=⟨_,rfl⟩;rw[ae]at heq a;have A:=Aa (Ab M (Ab E0 (Ab B0 hL)));have HX:=Aa (Ab hx (Ab O (Ab hb (Ab P F))));have Q:=Aa a;have af:=Aa ab;unfold EI at A HX heq x2 JX;clear ab h M E0 B0 hL hx O hb P F G T X e1 e2 ad a aa ae;have ag:=Jh (.tmp 15) (.tmp 19) hv b;go_enter func178,ntmps178;go_wp2;go_quiet(fail)
 have R:=Aa (A.out.1.drewN nq);have D:=Aa (A.out.2.1.drewN nq);have B1:Cy ((w.alloc (uj #[I U op,I U k,I U p,I U c,I U n] 84)).drewN nq) w.heap.size #[I U op,I U k,I U p,I U c,I U n] 84:=A.out.2.2.1;have l0:=B1.cell 0;have l1:=B1.cell 1;have l2:=B1.cell 2;have l3:=B1.cell 3;have l4:=B1.cell 4;simp only[Ad,Ac,Ag]at l0 l1 l2 l3 l4;have v:=Aa (Ab HX.out.1 (Ab (show xb<((w.alloc (uj #[I U op,I U k,I U p,I U c,I U n] 84)).drewN nq).heap.size from HX.out.2.1) (Ab HX.out.2.2.1 (show b<((w.alloc (uj #[I U op,I U k,I U p,I U c,I U n] 84)).drewN nq).heap.size from HX.out.2.2.2.1))));clear x2 JX heq A HX B1 ag;generalize(w.alloc (uj #[I U op,I U k,I U p,I U c,I U n] 84)).drewN nq=W at*
 generalize w.heap.size=L at*
 have a:=Q.out;clear Q;by_cases E:op=17\/op=19
 ·rw[Ai E]at a
  cases al with
  |true=>
   rw[Ai rfl]at a;have q:=Aa (R.out.GG v.out.1 a);clear a;rcases E with rfl|rfl
   all_goals
    go_wp2_with(go_at_call 187;refine q.out.mono ?_;rintro e H⟨rfl,x,u,f,g,o⟩;have d:=Aa (Ab f o);have l:=Aa (D.out.trans g);clear f g o);go_end0;exact⟨rfl,x,u,d.out.1,l.out,d.out.2.toFw⟩
  |false=>
   rw[Ah (by decide)]at a;have q:=Aa (R.out.lB op k p c n v.out.1 a);clear a;rcases E with rfl|rfl
   all_goals
    go_wp2_with(go_at_call 248;refine q.out.mono ?_;rintro e H⟨rfl,u,f,g⟩;have d:=Aa f;have l:=Aa (D.out.trans g);clear f g);go_end0;exact⟨rfl,V,u,d.out,l.out,Fw.refl V⟩
 ·rw[Ah E]at a
  have d17:(op==17)=false:=by simp;omega
  have d19:(op==19)=false:=by simp;omega
  by_cases K:op=18
  ·rw[Ai K]at a
   replace a:=bind_some a;obtain⟨s1,hc,a⟩:=a;have q:=Aa (R.out.GG v.out.1 hc);clear hc E;subst K;cases al with
   |true=>rw[Ai rfl]at a;have Q:=Aa a;clear a;go_wp2_with(first|(go_at_call 187;refine q.out.mono ?_;rintro e H⟨rfl,x,u,f,g,o⟩;have B:=Aa (f.start (g.keep v.out.1 v.out.2.1) Q.out);have d:=Aa (Ab f o);have l:=Aa (D.out.trans g);clear f g o)|(go_at_call 249;refine B.out.mono ?_;rintro e w2⟨rfl,V2,o2,f,g,o⟩;have t:=Aa (Ab f (d.out.2.trans o));have C:=Aa (l.out.trans g);clear f g o));go_end0;exact⟨rfl,V2,o2,t.out.1,C.out,t.out.2.toFw⟩
   |false=>rw[Ah (by decide)]at a;obtain rfl:=Ba a;clear a;go_wp2_with(go_at_call 187;refine q.out.mono ?_;rintro e H⟨rfl,x,u,f,g,o⟩;have d:=Aa (Ab f o);have l:=Aa (D.out.trans g);clear f g o);go_end0;exact⟨rfl,x,u,d.out.1,l.out,d.out.2.toFw⟩
  ·rw[Ah K]at a
   have d18:(op==18)=false:=by simpa using K
   by_cases S:op=11
   ·rw[Ai S]at a
    replace a:=bind_some a;obtain⟨s1,hc,a⟩:=a;have q:=Aa (R.out.GG v.out.1 hc);clear hc E K;subst S;cases al with
    |true=>rw[Ai rfl]at a;obtain rfl:=Ba a;clear a;go_wp2_with(go_at_call 187;refine q.out.mono ?_;rintro e H⟨rfl,x,u,f,g,o⟩;have d:=Aa (Ab f o);have l:=Aa (D.out.trans g);clear f g o);go_end0;exact⟨rfl,x,u,d.out.1,l.out,d.out.2.toFw⟩
    |false=>rw[Ah (by decide)]at a;have Q:=Aa a;clear a;go_wp2_with(first|(go_at_call 187;refine q.out.mono ?_;rintro e H⟨rfl,x,u,f,g,o⟩;have B:=Aa (f.back (g.keep v.out.1 v.out.2.1) Q.out);have d:=Aa (Ab f o);have l:=Aa (D.out.trans g);clear f g o)|(go_at_call 185;refine B.out.mono ?_;rintro e w2⟨rfl,V2,o2,f,g,o⟩;have t:=Aa (Ab f (d.out.2.trans o));have C:=Aa (l.out.trans g);clear f g o));go_end0;exact⟨rfl,V2,o2,t.out.1,C.out,t.out.2.toFw⟩
   ·rw[Ah S]at a
    have d11:(op==11)=false:=by simpa using S
    by_cases g12:op=12
    ·rw[Ai g12]at a
     subst g12;have q:=Aa (R.out.block v.out.1 a);clear a E K S;go_wp2_with(go_at_call 250;refine q.out.mono ?_;rintro e H⟨rfl,x,u,f,g,o⟩;have d:=Aa (Ab f o);have l:=Aa (D.out.trans g);clear f g o);go_end0;exact⟨rfl,x,u,d.out.1,l.out,d.out.2.toFw⟩
    ·rw[Ah g12]at a
     have d12:(op==12)=false:=by simpa using g12
     by_cases g16:op=16
     ·rw[Ai g16]at a
      subst g16;have q:=Aa (R.out.sys 16 p c n k hk v.out.1 a);clear a E K S;go_wp2_with(go_at_call 251;refine q.out.mono ?_;rintro e H⟨rfl,x,u,f,g,o⟩;have d:=Aa (Ab f o);have l:=Aa (D.out.trans g);clear f g o);go_end0;exact⟨rfl,x,u,d.out.1,l.out,d.out.2.toFw⟩
     ·rw[Ah g16]at a
      have d16:(op==16)=false:=by simpa using g16
      by_cases g20:op=20
      ·rw[Ai g20]at a
       subst g20;have q:=Aa (R.out.suspend 20 p c n k hk v.out.1 a);clear a E K S;go_wp2_with(go_at_call 252;refine q.out.mono ?_;rintro e H⟨rfl,x,u,f,g,o⟩;have d:=Aa (Ab f o);have l:=Aa (D.out.trans g);clear f g o);go_end0;exact⟨rfl,x,u,d.out.1,l.out,d.out.2.toFw⟩
      ·rw[Ah g20]at a
       have d20:(op==20)=false:=by simpa using g20
       replace a:=bind_some a;obtain⟨⟨r,s1⟩,ha,a⟩:=a;have q:=Aa (R.out.answer k hk v.out.1 v.out.2.2.1 af.out ha);have Q:=Aa a;clear ha a E K S g12 g16 g20;go_wp2_with(first|(go_at_call 253;refine q.out.mono ?_;rintro e H⟨rfl,x,u,f,g,o⟩;have B:=Aa (f.GG (g.keep v.out.1 v.out.2.1) Q.out);have d:=Aa (Ab f o);have l:=Aa (D.out.trans g);clear f g o)|(go_at_call 187;refine B.out.mono ?_;rintro e w2⟨rfl,V2,o2,f,g,o⟩;have t:=Aa (Ab f (d.out.2.trans o.toFw));have C:=Aa (l.out.trans g);clear f g o));go_end0;exact⟨rfl,V2,o2,t.out.1,C.out,t.out.2⟩
end
end
section
open Vm (CP)
section
variable {v0 v1:tR}{l:List Bool}{xb L4 L5 L6:Nat}{op a b c n:Int}{q0 q1 q2 q3 q4 q5:Bool}
structure rD (mb:Nat) (V:Vr) (own:Nat->Nat) (w:rO) (s:St) (W:rO) (L4 L5:Nat) (v0 v1:tR) (l:List Bool) (ins:CP):Prop where
 GK:CE mb V own W s
 ext:Ext own w own W
 RH:Cy W L4 #[v0,v1] 87
 J9:Cy W L5 #[I U ins.op,I U ins.a,I U ins.b,I U ins.c,I U ins.n] 84
 cO:own L4=0
 o5:own L5=0
 DC:FU.Bs W v1 l
theorem pB{w1:rO}{ins:CP}(h:CE mb V own w s)(c:tS w.heap.size w w1)(d:FU.Bs w v1 l):rD mb V own w s ((w1.alloc (uj #[v0,v1] 87)).alloc (uj #[I U ins.op,I U ins.a,I U ins.b,I U ins.c,I U ins.n] 84)) w1.heap.size (w1.heap.size+1) v0 v1 l ins:=by have b:tS w.heap.size w (w1.alloc (uj #[v0,v1] 87)):=c.alloc c.size _;have a:tS w.heap.size w ((w1.alloc (uj #[v0,v1] 87)).alloc (uj #[I U ins.op,I U ins.a,I U ins.b,I U ins.c,I U ins.n] 84)):=b.alloc b.size _;refine⟨h.below a,Ext.below a,(Cy.new w1 _ 87).below (Cu (tU _ _) _) (by simp),?_,h.fresh _ c.size,h.fresh _ (AA c.size (Bh _)),d.below a⟩;have k:=Cy.new (w1.alloc (uj #[v0,v1] 87)) #[I U ins.op,I U ins.a,I U ins.b,I U ins.c,I U ins.n] 84;simpa using k
structure T1 (mb:Nat) (V:Vr) (own:Nat->Nat) (w:rO) (s:St) (W:rO) (L4 L5 L6:Nat) (v0 v1:tR) (l:List Bool) (op a b c n:Int) (q0 q1 q2 q3 q4 q5:Bool):Prop where
 GK:CE mb V own W s
 ext:Ext own w own W
 RH:Cy W L4 #[v0,v1] 87
 J9:Cy W L5 #[I U op,I U a,I U b,I U c,I U n] 84
 b6:Cy W L6 #[ue q0,ue q1,ue q2,ue q3,ue q4,ue q5] 270
 cO:own L4=0
 o5:own L5=0
 o6:own L6=0
 DC:FU.Bs W v1 l
theorem iK{w':rO}{v:tR}(h:FU.Bs w v l)(f: ∀j,v.ownBlock=Z j->own j=14) (c:Cw (λj=>j=xb) w w') (g:own xb≠14):FU.Bs w' v l:=by obtain⟨b,off,cap,rfl,d,k⟩:=h;have a:=f b rfl;exact⟨b,off,cap,rfl,An d c.size,λi m=>(AK (c.block b d (λe=>g (by rw[<-show b=xb from e];exact a)))).trans (k i m)⟩
theorem T1.below{W W':rO}(h:T1 mb V own w s W L4 L5 L6 v0 v1 l op a b c n q0 q1 q2 q3 q4 q5)(d:tS W.heap.size W W'):T1 mb V own w s W' L4 L5 L6 v0 v1 l op a b c n q0 q1 q2 q3 q4 q5:=⟨h.GK.below d,h.ext.trans (Ext.below d),h.RH.below d h.RH.lt,h.J9.below d h.J9.lt,h.b6.below d h.b6.lt,h.cO,h.o5,h.o6,h.DC.below d⟩
theorem T1.drewN{W:rO}(h:T1 mb V own w s W L4 L5 L6 v0 v1 l op a b c n q0 q1 q2 q3 q4 q5)(m:Nat):T1 mb V own w s (W.drewN m) L4 L5 L6 v0 v1 l op a b c n q0 q1 q2 q3 q4 q5:=h.below (DF m)
theorem jI{d g:rO}(h:CE mb V own d s)(e:Ext own w own d)(j:Cy d L4 #[v0,v1] 87)(k:Cy d L5 #[I U op,I U a,I U b,I U c,I U n] 84)(m:own L4=0)(o5:own L5=0)(o:FU.Bs d v1 l)(i:tS d.heap.size d g):T1 mb V own w s (g.alloc (uj #[ue q0,ue q1,ue q2,ue q3,ue q4,ue q5] 270)) L4 L5 g.heap.size v0 v1 l op a b c n q0 q1 q2 q3 q4 q5:=by have f:=i.alloc i.size (uj #[ue q0,ue q1,ue q2,ue q3,ue q4,ue q5] 270);exact⟨h.below f,e.trans (Ext.below f),j.below f j.lt,k.below f k.lt,Cy.new g _ 270,m,o5,h.fresh _ i.size,o.below f⟩
theorem XR{x:G}{i:CP}(h:Zm s x=Z i):Fh s x=Z i/\Fi i.a:=by unfold Zm at h;obtain⟨j,b,a⟩:=bind_some h;obtain⟨c,a⟩:=CT a;cases a;exact⟨b,c⟩
theorem CE.run(h:CE mb V own w s){j:Nat}{s':St}(hx:own xb=22+5*j)(d:O4 s j=Z s'):tT prog 118 #[ptr mb,ptr xb] w (Ze mb V own w unit s'):=by
 unfold O4 at d;cases hj:s.ms[j]? with
 |none=>rw[hj]at d;cases d
 |some y=>
 rw[hj]at d;dsimp only at d;replace d:=CT d;obtain⟨ay,d⟩:=d;have az:=(h.xg hj).2;obtain⟨i,ak⟩: ∃i:Nat,y.g=(i:Int)+1:=⟨(y.g-1).toNat,by omega⟩;rw[ak]at ay az d;have e2:((i:Int)+1-1).toNat=i:=by omega
 rw[e2]at d;cases hi:s.gs[i]? with
 |none=>rw[hi]at d;cases d
 |some x=>
 rw[hi]at d;dsimp only at d;obtain⟨e1,hb⟩:=h.gp ay az;rw[e2]at e1 hb;obtain⟨b,bz⟩: ∃b,V.CR i=b:=⟨_,rfl⟩;rw[bz]at e1 hb;replace d:=bind_some d;obtain⟨ins,hI,d⟩:=d;obtain⟨hI,ba⟩:=XR hI;have x2:w.cell? ⟨xb,2,N⟩=Z (ptr b):=by rw[<-e1,<-ak];exact R8 (h.C3 hx hj)
 have b7:=Aa (h.at_ hb hi hI);have b9:=h.Z4 hx hj;have cb:=h.jx hb hi;have HR:=Aa h;have G:=Aa (Ab hx (Ab b9 (Ab hb (Ab cb (Ab hj (Ab hi ak))))));have D:=Aa d;clear h hx hb hi hI hj ak ay az bz e1 e2 d b9 cb;obtain⟨op,ia,ib,ic,im⟩:=ins;obtain⟨k,rfl⟩: ∃k:Nat,ia=k:=⟨ia.toNat,by have:=ba.1;dsimp only at this;omega⟩;have hk:k<8:=by have:=ba.2;dsimp only at this;omega
 clear ba;unfold kN at*
 go_enter func118,ntmps118;go_wp2_with(go_at_call 177;refine b7.out.mono ?_;rintro e w1⟨f,ca,cc,sv,hf,Q,rfl,bb,cd,hB⟩;obtain⟨sb,so,sc,rfl,cf⟩:=(show FU.Bs w sv f.safe from bb);have HF:=Aa (Ab hf Q);have dk:=Aa cd;have v:=Aa (pB (v0:=.slice ca f.code.length cc) (ins:=⟨op,k,ib,ic,im⟩) HR.out hB bb);unfold kN;clear hf Q bb cf hB cd);generalize((w1.alloc (uj #[.slice ca f.code.length cc,Y (Z ⟨sb,so,N⟩) f.safe.length sc] 87)).alloc (uj #[I U op,I U k,I U ib,I U ic,I U im] 84))=W at*
 generalize w1.heap.size+1=L5 at*
 generalize w1.heap.size=L4 at*
 have x2:=R8 (v.out.GK.C3 G.out.1 G.out.2.2.2.2.1);rw[G.out.2.2.2.2.2.2,v.out.GK.KE G.out.2.2.1 G.out.2.2.2.2.2.1]at x2;have JX:=v.out.GK.JX;obtain⟨hv,bc⟩: ∃hv,Ej V.CR s.sc.CF=hv:=⟨_,rfl⟩;have heq: ∀m,(binOp .eql 119 hv (ptr b)).run prog (W.drewN m)= .ok (ue (decide (s.sc.CF=(i:Int)+1))) (W.drewN m):=λm=>by rw[<-bc];exact(v.out.GK.drewN m).QL G.out.2.2.1 v.out.GK.hold.1 v.out.GK.hold.2
 rw[bc]at JX;have cg:=Jh (.tmp 21) (.tmp 25) hv b;have d:=D.out;clear D bc b7 HR;by_cases K:s.sc.CF=(i:Int)+1
 ·rw[Ai K]at d
  have A:decide (s.sc.CF=(i:Int)+1)=true:=by simpa using K
  rw[A]at heq;have D:=Aa d;clear d K A;go_quiet(fail)
  have HD:=Aa ((v.out.GK.drewN nq).rC k hk G.out.1 D.out);have ao:=Aa (v.out.ext.drewN nq);have B5:Cy (W.drewN nq) L5 #[I U op,I U k,I U ib,I U ic,I U im] 84:=v.out.J9;have l0:=B5.cell 0;have l1:=B5.cell 1;have l2:=B5.cell 2;have l3:=B5.cell 3;have l4:=B5.cell 4;simp only[Ad,Ac,Ag]at l0 l1 l2 l3 l4;clear B5 x2 JX heq cg;generalize W.drewN nq=W2 at*
  go_wp2_with(go_at_call 178;refine HD.out.mono ?_;rintro e w2⟨rfl,V2,o2,hR,hE,hF⟩;have R:=Aa (Ab hR hF);have dm:=Aa (ao.out.trans hE);clear hR hE hF);go_end0;exact⟨rfl,V2,o2,R.out.1,dm.out,R.out.2⟩
 ·rw[Ah K]at d
  have A:decide (s.sc.CF=(i:Int)+1)=false:=by simpa using K
  rw[A]at heq;have D:=Aa d;clear d K A;go_quiet(fail)
  have R:=Aa (v.out.GK.drewN nq);have y2:(W.drewN nq).cell? ⟨xb,2,N⟩=Z (ptr b):=x2;have x5:=pU ((v.out.GK.drewN nq).C3 G.out.1 G.out.2.2.2.2.1);have dn:=((v.out.GK.drewN nq).C3 G.out.1 G.out.2.2.2.2.1).free 5;have ch:=((v.out.GK.drewN nq).UR G.out.2.2.1 G.out.2.2.2.2.2.1).1;have ao:=Aa (v.out.ext.drewN nq);have B4:Cy (W.drewN nq) L4 #[.slice ca f.code.length cc,Y (Z ⟨sb,so,N⟩) f.safe.length sc] 87:=v.out.RH;have B5:Cy (W.drewN nq) L5 #[I U op,I U k,I U ib,I U ic,I U im] 84:=v.out.J9;have BS:FU.Bs (W.drewN nq) (Y (Z ⟨sb,so,N⟩) f.safe.length sc) f.safe:=v.out.DC;have P:=Aa (Ab B4 (Ab B5 (Ab BS (Ab v.out.cO v.out.o5))));have n:=Aa G.out;clear x2 JX heq cg B4 B5 BS;clear x2 v;generalize W.drewN nq=W2 at*
  obtain⟨c,hY⟩: ∃c,(if x.begun=tZ then({y with g:=(i:Int)+1,used:=min y.used 19}:M1)else y)=c:=⟨_,rfl⟩
  have d:=D.out;clear D;rw[hY]at d;obtain⟨S,L⟩: ∃S,(if x.begun=tZ then s.CQ j c else s)=S:=⟨_,rfl⟩
  rw[L]at d;replace d:=CT d;obtain⟨dp,d⟩:=d;cases ha:S.asked[c.p.toNat]? with
  |none=>rw[ha]at d;cases d
  |some a=>
  have cj:S.funcs=s.funcs:=by rw[<-L];split<;>rfl
  rw[ha,cj,HF.out.1]at d;dsimp only at d;obtain⟨kp,bd⟩: ∃kp:Nat,c.p=kp:=⟨c.p.toNat,by omega⟩;rw[bd,Am]at ha;obtain⟨act,T⟩: ∃act,FU.Jb f.code.length f.safe x.Dr c.CU a.pre a.Eo S.sc.Cz (decide (x.Db≠0)) (decide (20<=c.used))=act:=⟨_,rfl⟩;rw[T]at d;have ck:S.ms[j]?=Z c:=by
   rw[<-L];cases X:x.begun with
   |true=>rw[Ai rfl];exact Jl (CC n.out.2.2.2.2.1)
   |false=>rw[X,Ah (by decide)]at hY;rw[Ah (by decide),<-hY];exact n.out.2.2.2.2.1
  have cl:S.gs[i]?=Z x:=by rw[<-L];split<;>exact n.out.2.2.2.2.2.1
  have cm:(x.Db !=0)=decide (x.Db≠0):=by by_cases h:x.Db=0<;>simp[h]
  have Q:=HF.out.2;have D:=Aa d;have t:=Aa (Ab ha (Ab bd (Ab T (Ab ck (Ab cl cm)))));have HY:=Aa (Ab hY L);have dt:=Aa Q;clear d ha bd T ck cl cm hY L dp cj Q HF;have cp:c.g=(i:Int)+1:=by rw[<-HY.out.1];split<;>first|rfl|exact n.out.2.2.2.2.2.2
  have cq:=Aa t.out.2.2.2.2.2;have t:=Aa (Ab t.out.1 (Ab t.out.2.1 (Ab t.out.2.2.1 (Ab t.out.2.2.2.1 (Ab t.out.2.2.2.2.1 cp)))));clear cp;obtain⟨us,aq⟩: ∃us,y.used=us:=⟨_,rfl⟩;rw[aq]at x5;have M:=HY.out.1;have E:=HY.out.2;obtain⟨bg,X⟩: ∃bg,x.begun=bg:=⟨_,rfl⟩;rw[X]at ch M E;have ee:=Aa X;clear X;cases bg
  case' true=>
   rw[Ai rfl]at M E;obtain⟨un,aa⟩: ∃un,min us 19=un:=⟨_,rfl⟩;have du:(us<19\/us=19)/\un=us\/19<us/\un=19:=by omega
   have HW:Hid (CE mb V own (W2.setCell ⟨xb,5,N⟩ (I U un)) S/\Ext own W2 own (W2.setCell ⟨xb,5,N⟩ (I U un))):=by have q:=R.out.jB n.out.1 n.out.2.2.2.2.1 un;rw[<-E,<-M,<-n.out.2.2.2.2.2.2,aq,aa];exact q
   have cr:(W2.setCell ⟨xb,5,N⟩ (I U un)).cell? ⟨xb,2,N⟩=Z (ptr b):=(Cq W2 _ _ _ (by simp)).trans y2;have o:=Aa (HW.out.1.flags n.out.1 t.out.2.2.2.1 n.out.2.2.1 t.out.2.2.2.2.1 cr t.out.2.1 t.out.1);clear cr;rcases du with⟨hu,rfl⟩|⟨hu,rfl⟩
   all_goals
    have B:=t.out.2.2.1;unfold FU.PF at o;rw[cq.out]at o;clear M E aq;generalize bf:c.CU=z0 at o B;generalize bh:a.pre=z1 at o B;generalize bj:a.Eo=z2 at o B;generalize bk:S.sc.Cz=z3 at o B;generalize bm:decide (x.Db≠0)=z4 at o B;generalize bn:decide (20<=c.used)=z5 at o B;have HZ:=Aa B;clear bf bh bj bk bm bn B;go_wp2_with(go_at_call 179;refine o.out.mono ?_;rintro e w4⟨rfl,hB⟩;have HC:=Aa (jI (q0:=z0) (q1:=z1) (q2:=z2) (q3:=z3) (q4:=z4) (q5:=z5) HW.out.1 (ao.out.trans HW.out.2) (Ey P.out.1 P.out.2.2.2.1 HW.out.2) (Ey P.out.2.1 P.out.2.2.2.2 HW.out.2) P.out.2.2.2.1 P.out.2.2.2.2 (iK P.out.2.2.1 dk.out (oset (DA xb W2) 5 _) (by rw[n.out.1];omega)) hB);clear hB);clear hu aa
  case' false=>rw[Ah (by decide)]at M E;have ar:=R.out;rw[E]at ar;have o:=Aa (ar.flags n.out.1 t.out.2.2.2.1 n.out.2.2.1 t.out.2.2.2.2.1 y2 t.out.2.1 t.out.1);have dv:=Aa ar;clear ar;have B:=t.out.2.2.1;unfold FU.PF at o;rw[cq.out]at o;clear M E aq;generalize bf:c.CU=z0 at o B;generalize bh:a.pre=z1 at o B;generalize bj:a.Eo=z2 at o B;generalize bk:S.sc.Cz=z3 at o B;generalize bm:decide (x.Db≠0)=z4 at o B;generalize bn:decide (20<=c.used)=z5 at o B;have HZ:=Aa B;clear bf bh bj bk bm bn B;go_wp2_with(go_at_call 179;refine o.out.mono ?_;rintro e w4⟨rfl,hB⟩;have HC:=Aa (jI (q0:=z0) (q1:=z1) (q2:=z2) (q3:=z3) (q4:=z4) (q5:=z5) dv.out ao.out P.out.1 P.out.2.1 P.out.2.2.2.1 P.out.2.2.2.2 P.out.2.2.1 hB);clear hB)
  all_goals
   clear y2 x5 dn ch;generalize w4.alloc (uj #[ue z0,ue z1,ue z2,ue z3,ue z4,ue z5] 270)=W4 at*
   generalize w4.heap.size=L6 at*
   have ax:Hid (∀W,tS W4.heap.size W4 W->tT prog 180 #[uk #[.slice ca f.code.length cc,Y (Z ⟨sb,so,N⟩) f.safe.length sc],I U x.Dr,uk #[ue z0,ue z1,ue z2,ue z3,ue z4,ue z5]] W (FU.jX act W)):=λW hW=>by rw[<-HZ.out];exact FU.SF ca f.code.length cc _ f.safe x.Dr z0 z1 z2 z3 z4 z5 W dt.out (HC.out.DC.below hW)
   have z:Hid (∀W,tS W4.heap.size W4 W->(W.cell? ⟨L4,0,N⟩=Z (.slice ca f.code.length cc)/\W.cell? ⟨L4,1,N⟩=Z (Y (Z ⟨sb,so,N⟩) f.safe.length sc)/\W.cell? ⟨b,3,N⟩=Z (I U x.Dr))/\W.cell? ⟨xb,2,N⟩=Z (ptr b)/\(W.cell? ⟨L5,0,N⟩=Z (I U op)/\W.cell? ⟨L5,1,N⟩=Z (I U k)/\W.cell? ⟨L5,2,N⟩=Z (I U ib)/\W.cell? ⟨L5,3,N⟩=Z (I U ic)/\W.cell? ⟨L5,4,N⟩=Z (I U im))/\W.cell? ⟨L6,0,N⟩=Z (ue z0)/\W.cell? ⟨L6,1,N⟩=Z (ue z1)/\W.cell? ⟨L6,2,N⟩=Z (ue z2)/\W.cell? ⟨L6,3,N⟩=Z (ue z3)/\W.cell? ⟨L6,4,N⟩=Z (ue z4)/\W.cell? ⟨L6,5,N⟩=Z (ue z5)):=λW hW=>by have q:=HC.out.below hW;have k2:=R8 (q.GK.C3 n.out.1 t.out.2.2.2.1);rw[t.out.2.2.2.2.2,q.GK.KE n.out.2.2.1 t.out.2.2.2.2.1]at k2;obtain⟨_,_,ef,dw,_⟩:=q.GK.Hr n.out.2.2.1 t.out.2.2.2.2.1;exact⟨⟨q.RH.cell 0,q.RH.cell 1,dw.cell 3⟩,k2,⟨q.J9.cell 0,q.J9.cell 1,q.J9.cell 2,q.J9.cell 3,q.J9.cell 4⟩,q.b6.cell 0,q.b6.cell 1,q.b6.cell 2,q.b6.cell 3,q.b6.cell 4,q.b6.cell 5⟩
   obtain⟨⟨a0,a1,a2⟩,a3,-,a4,a5,a6,a7,a8,a9⟩:=z.out W4 (tU _ _);go_region_held3(λC=>C.cell? ⟨L4,0,N⟩=Z (.slice ca f.code.length cc)/\C.cell? ⟨L4,1,N⟩=Z (Y (Z ⟨sb,so,N⟩) f.safe.length sc)/\C.cell? ⟨xb,2,N⟩=Z (ptr b)/\C.cell? ⟨b,3,N⟩=Z (I U x.Dr)/\C.cell? ⟨L6,0,N⟩=Z (ue z0)/\C.cell? ⟨L6,1,N⟩=Z (ue z1)/\C.cell? ⟨L6,2,N⟩=Z (ue z2)/\C.cell? ⟨L6,3,N⟩=Z (ue z3)/\C.cell? ⟨L6,4,N⟩=Z (ue z4)/\C.cell? ⟨L6,5,N⟩=Z (ue z5)) (go_keep) (first|(go_at_call 180;refine(ax.out _ (by first|exact tU _ _|exact DZ|exact DF _)).mono ?_;rintro e w5⟨rfl,ct⟩;have bo:tS W4.heap.size W4 w5:=Gi (by first|exact tU _ _|exact DZ|exact DF _) ct;obtain⟨⟨c0,c1,c2⟩,c3,-,c4,c5,c6,c7,c8,c9⟩:=z.out w5 bo;have ab:=Aa bo;clear ct bo));rename_i hh;clear hh a0 a1 a2 a3 a4 a5 a6 a7 a8 a9 c0 c1 c2 c3 c4 c5 c6 c7 c8 c9 ax;by_cases bp:act=2
   ·subst bp
    have d:=D.out;clear D;rw[Ah (by decide),Ai rfl,t.out.2.2.2.2.2,show((i:Int)+1-1).toNat=i by omega]at d;have cu:=Aa (λW(hW:tS W4.heap.size W4 W)=>(HC.out.GK.below hW).pe op ib ic im k hk n.out.2.2.1 t.out.2.2.2.2.1);obtain⟨lb,cv⟩: ∃lb,K2 S i x ⟨op,k,ib,ic,im⟩=lb:=⟨_,rfl⟩;rw[cv]at d cu;obtain⟨-,a3,⟨a0,a1,a2,a4,a5⟩,-⟩:=z.out w5 ab.out;have D:=Aa d;clear d cv;go_wp2;go_region_held3(λC=>C.cell? ⟨xb,2,N⟩=Z (ptr b)/\C.cell? ⟨L5,0,N⟩=Z (I U op)/\C.cell? ⟨L5,1,N⟩=Z (I U k)/\C.cell? ⟨L5,2,N⟩=Z (I U ib)/\C.cell? ⟨L5,3,N⟩=Z (I U ic)/\C.cell? ⟨L5,4,N⟩=Z (I U im)) (go_keep) (first|(go_at_call 181;refine(cu.out _ (Cv ab.out (by first|exact tU _ _|exact DZ|exact DF _))).mono ?_;rintro e w7⟨rfl,cw⟩;have bq:tS W4.heap.size W4 w7:=Cv ab.out (Gi (by first|exact tU _ _|exact DZ|exact DF _) cw);obtain⟨-,c3,⟨c0,c1,c2,c4,c5⟩,-⟩:=z.out w7 bq;have au:=Aa bq;clear cw bq));clear a0 a1 a2 a3 a4 a5;have ad:=Aa (HC.out.below au.out);have br:=Aa (ad.out.GK.CX n.out.1 (by omega));have d:=D.out;clear D;cases lb with
    |true=>rw[Ai rfl]at d;have HD:=Aa (ad.out.GK.rC k hk n.out.1 d);clear d;go_wp2_with(go_at_call 178;refine HD.out.mono ?_;rintro e w8⟨rfl,V8,o8,r,p,ae⟩;have u:=Aa (Ab r (Ab (ad.out.ext.trans p) ae));clear r p ae);go_end0;exact⟨rfl,V8,o8,u.out.1,u.out.2.1,u.out.2.2⟩
    |false=>rw[Ah (by decide)]at d;obtain⟨s2,cx,d⟩:=bind_some d;obtain⟨q,cy,aa⟩:=bind_some d;have af:=Aa (ad.out.GK.clear z0 z1 z2 z3 z4 z5 (act:=2) (.inl rfl) n.out.1 t.out.2.2.2.1 t.out.2.1 cx);have HQ:=Aa (Ab cy aa);obtain⟨-,-,-,b0,b1,b2,b3,b4,b5⟩:=z.out w7 au.out;clear cx cy aa d c0 c1 c2 c4 c5;go_wp2_with(first|(go_at_call 182;refine af.out.mono ?_;rintro e w8⟨rfl,o8,r,p⟩;obtain⟨b8,bs,cz⟩:=r.QX (p.keep n.out.1 br.out) HQ.out.1;have dx:=Aa cz;have bt:=Aa (Ab bs (Ab (r.CX bs (by omega)) (ad.out.ext.trans p)));clear r p cz bs)|(go_at_call 183;refine dx.out.mono ?_;rintro e w9⟨rfl,o9,F,O⟩;have ag:=O.keep bt.out.1 bt.out.2.1;obtain⟨x9,bu⟩: ∃x9,q.2.gs[q.1]?=Z x9:=⟨_,Ae (F.lg _ _ ag)⟩;have dy:=Aa (F.is ag bu 5 (by decide) (by decide));have av:=Aa (Ab bu (Ab ag (Ab (F.CX ag (by omega)) (bt.out.2.2.trans O))));clear F O ag bu)|(go_at_call 116;refine dy.out.mono ?_;rintro e eh⟨rfl,ei,H,ah⟩;rw[<-GV av.out.1]at H;have ai:=ah.keep av.out.2.1 av.out.2.2.1;have HU:=Aa (H.ZX ai (Ae (H.lg _ _ ai)) HQ.out.2);have dc:=Aa (av.out.2.2.2.trans ah);clear H ah ai)|(go_at_call 184;refine HU.out.mono ?_;rintro e ej⟨rfl,dz,ea,hR,hE,hF⟩;have aj:=Aa (Ab hR (Ab (dc.out.trans hE) hF));clear hR hE hF));go_end0;exact⟨rfl,dz,ea,aj.out.1,aj.out.2.1,aj.out.2.2.toFw⟩
   ·have d2:(act==2)=false:=by simpa using bp
    have df:=Aa (HC.out.below ab.out);clear bp z HC;go_wp2;go_quiet(fail)
    have l:=Aa (df.out.drewN nq);clear df ab;generalize w5.drewN nq=W7 at*
    have br:=Aa (l.out.GK.CX n.out.1 (by omega));have d:=D.out;clear D;by_cases k1:act=1
    ·rw[Ai k1]at d
     subst k1;have x1:=LH (l.out.GK.C3 n.out.1 t.out.2.2.2.1);rw[t.out.2.1]at x1 d;have eb:=Aa (l.out.GK.serve d);clear d d2;go_wp2_with(go_at_call 171;refine eb.out.mono ?_;rintro e w8⟨rfl,o8,r,p⟩;have u:=Aa (Ab r (l.out.ext.trans p));clear r p);go_end0;exact⟨rfl,V,o8,u.out.1,u.out.2,Fw.refl V⟩
    ·rw[Ah k1]at d
     have d1:(act==1)=false:=by simpa using k1
     have aw: ¬act=2:=by simpa using d2
     rw[Ah aw]at d;by_cases k3:act=3
     ·rw[Ai k3]at d
      subst k3;replace d:=bind_some d;obtain⟨s2,hc,dh⟩:=d;have af:=Aa (l.out.GK.clear z0 z1 z2 z3 z4 z5 (act:=3) (.inr (.inl rfl)) n.out.1 t.out.2.2.2.1 t.out.2.1 hc);have ec:=Aa dh;have b0:=l.out.b6.cell 0;have b1:=l.out.b6.cell 1;have b2:=l.out.b6.cell 2;have b3:=l.out.b6.cell 3;have b4:=l.out.b6.cell 4;have b5:=l.out.b6.cell 5;simp only[Ad,Ac,Ag]at b0 b1 b2 b3 b4 b5;clear hc dh d1 d2 aw k1;go_wp2_with(first|(go_at_call 182;refine af.out.mono ?_;rintro e w8⟨rfl,o8,r,p⟩;have au:=Aa (r.back (p.keep n.out.1 br.out) ec.out);have ed:=Aa (l.out.ext.trans p);clear r p)|(go_at_call 185;refine au.out.mono ?_;rintro e w9⟨rfl,V9,o9,F,O,di⟩;have bw:=Aa (Ab F (Ab (ed.out.trans O) di));clear F O di));go_end0;exact⟨rfl,V9,o9,bw.out.1,bw.out.2.1,bw.out.2.2.toFw⟩
     ·rw[Ah k3]at d
      have d3:(act==3)=false:=by simpa using k3
      by_cases k4:act=4
      ·rw[Ai k4]at d
       subst k4;have af:=Aa (l.out.GK.clear z0 z1 z2 z3 z4 z5 (act:=4) (.inr (.inr rfl)) n.out.1 t.out.2.2.2.1 t.out.2.1 d);have b0:=l.out.b6.cell 0;have b1:=l.out.b6.cell 1;have b2:=l.out.b6.cell 2;have b3:=l.out.b6.cell 3;have b4:=l.out.b6.cell 4;have b5:=l.out.b6.cell 5;simp only[Ad,Ac,Ag]at b0 b1 b2 b3 b4 b5;clear d d1 d2 d3 aw k1 k3;go_wp2_with(go_at_call 182;refine af.out.mono ?_;rintro e w8⟨rfl,o8,r,p⟩;have u:=Aa (Ab r (l.out.ext.trans p));clear r p);go_end0;exact⟨rfl,V,o8,u.out.1,u.out.2,Fw.refl V⟩
      ·rw[Ah k4]at d
       have d4:(act==4)=false:=by simpa using k4
       have HD:=Aa (l.out.GK.rC k hk n.out.1 d);have b0:=l.out.J9.cell 0;have b1:=l.out.J9.cell 1;have b2:=l.out.J9.cell 2;have b3:=l.out.J9.cell 3;have b4:=l.out.J9.cell 4;simp only[Ad,Ac,Ag]at b0 b1 b2 b3 b4;clear d k1 k3 k4 aw;go_wp2_with(go_at_call 178;refine HD.out.mono ?_;rintro e w8⟨rfl,V8,o8,r,p,ae⟩;have u:=Aa (Ab r (Ab (l.out.ext.trans p) ae));clear r p ae);go_end0;exact⟨rfl,V8,o8,u.out.1,u.out.2.1,u.out.2.2⟩
end
end
theorem iL{c:Sc}(h:Cy w mb (DE V c) 121)(a b dl dr:Int):Cy ((((w.setCell ⟨mb,17,N⟩ (I U a)).setCell ⟨mb,14,N⟩ (I U b)).setCell ⟨mb,15,N⟩ (I U dl)).setCell ⟨mb,16,N⟩ (I U dr)) mb (DE V {c with now:=a,pick:=b,EC:=dl,draw:=dr}) 121:=(((h.set 17 (I U a)).set 14 (I U b)).set 15 (I U dl)).set 16 (I U dr)
theorem cP{c:Sc}(h:Cy w mb (DE V c) 121):Cy ((((((w.setCell ⟨mb,21,N⟩ (I U 0)).setCell ⟨mb,22,N⟩ (I U 0)).setCell ⟨mb,23,N⟩ (I U 0)).setCell ⟨mb,24,N⟩ (I U 0)).setCell ⟨mb,25,N⟩ (I U 0)).setCell ⟨mb,26,N⟩ (ue tY)) mb (DE V {c with kind:=0,eg:=0,Kl:=0,Km:=0,en:=0,seen:=tY}) 121:=(((((h.set 21 (I U 0)).set 22 (I U 0)).set 23 (I U 0)).set 24 (I U 0)).set 25 (I U 0)).set 26 (ue tY)
def Oz(s:St)(pick EC draw:Int):St:=s.CS {s.sc with now:=wrap64 (s.sc.now+1),pick:=pick,EC:=EC,draw:=draw,kind:=0,eg:=0,Kl:=0,Km:=0,en:=0,seen:=tY}
def RI(w:rO)(mb:Nat)(a b dl dr:Int):World:=(((((((((((w.setCell ⟨mb,17,N⟩ (I U a)).setCell ⟨mb,14,N⟩ (I U b)).setCell ⟨mb,15,N⟩ (I U dl)).setCell ⟨mb,16,N⟩ (I U dr)).setCell ⟨mb,21,N⟩ (I U 0)).setCell ⟨mb,22,N⟩ (I U 0)).setCell ⟨mb,23,N⟩ (I U 0)).setCell ⟨mb,24,N⟩ (I U 0)).setCell ⟨mb,25,N⟩ (I U 0)).setCell ⟨mb,26,N⟩ (ue tY)))
theorem CE.Oz(h:CE mb V own w s)(a dl dr:Int):CE mb V own (RI w mb (wrap64 (s.sc.now+1)) a dl dr) (Oz s a dl dr)/\Ext own w own (RI w mb (wrap64 (s.sc.now+1)) a dl dr):=by obtain⟨b,c⟩:=h.LI (oset (oset (oset (oset (DA mb w) 17 (I U (wrap64 (s.sc.now+1)))) 14 (I U a)) 15 (I U dl)) 16 (I U dr)) {s.sc with now:=wrap64 (s.sc.now+1),pick:=a,EC:=dl,draw:=dr} h.hold (iL h.D5 (wrap64 (s.sc.now+1)) a dl dr);obtain⟨d,e⟩:=b.LI (oset (oset (oset (oset (oset (oset (DA mb _) 21 (I U 0)) 22 (I U 0)) 23 (I U 0)) 24 (I U 0)) 25 (I U 0)) 26 (ue tY)) {s.sc with now:=wrap64 (s.sc.now+1),pick:=a,EC:=dl,draw:=dr,kind:=0,eg:=0,Kl:=0,Km:=0,en:=0,seen:=tY} b.hold (cP b.D5);exact⟨d,c.trans e⟩
structure tG (mb:Nat) (V:Vr) (own:Nat->Nat) (w:rO) (s:St) (W:rO) (L3 L4:Nat) (pk dl dr:Int):Prop where
 GK:CE mb V own W s
 ext:Ext own w own W
 rE:Cy W L3 #[I U pk,I U dl,I U dr] 36
 RH: ∃u0 u1 u2 u3 u4,Cy W L4 #[u0,u1,u2,u3,u4] 38
 tH:own L3=0
 cO:own L4=0
theorem mr(h:CE mb V own w s)(a dl dr:Int):tG mb V own w (Oz s a dl dr) (RI ((w.alloc (uj #[I U a,I U dl,I U dr] 36)).alloc (uj #[I U 0,I U 0,I U 0,I U 0,I U 0] 38)) mb (wrap64 (s.sc.now+1)) a dl dr) w.heap.size (w.heap.size+1) a dl dr:=by
 have b:tS w.heap.size w ((w.alloc (uj #[I U a,I U dl,I U dr] 36)).alloc (uj #[I U 0,I U 0,I U 0,I U 0,I U 0] 38)):=Cu (Cu (tU _ _) _) _;obtain⟨R,E⟩:=(h.below b).Oz a dl dr;have c:=h.fresh w.heap.size (Al _);have d:=h.fresh (w.heap.size+1) (Bh _);have e:Cy ((w.alloc (uj #[I U a,I U dl,I U dr] 36)).alloc (uj #[I U 0,I U 0,I U 0,I U 0,I U 0] 38)) w.heap.size #[I U a,I U dl,I U dr] 36:=(Cy.new w _ 36).below (Cu (tU _ _) _) (by simp);have f:Cy ((w.alloc (uj #[I U a,I U dl,I U dr] 36)).alloc (uj #[I U 0,I U 0,I U 0,I U 0,I U 0] 38)) (w.heap.size+1) #[I U 0,I U 0,I U 0,I U 0,I U 0] 38:=by have k:=Cy.new (w.alloc (uj #[I U a,I U dl,I U dr] 36)) #[I U 0,I U 0,I U 0,I U 0,I U 0] 38;simpa using k
 exact⟨R,(Ext.below b).trans E,Ey e c E,⟨_,_,_,_,_,Ey f d E⟩,c,d⟩
section
variable {W:rO}{u0 u1 u2 u3 u4:tR}
def jJ(s1:St)(pick:Int):Option St:=
 match s1.ms[(Dk pick s1.ms.length).toNat]? with
 |none=>N
 |some y=>
  if y.phase=0 then Z s1
  else if(Dk pick s1.ms.length).toNat<64 then
   let s2:St:={s1 with box:=Kt s1.box (Dk pick s1.ms.length).toNat s1.sc.now,ms:=s1.ms.set (Dk pick s1.ms.length).toNat {y with CU:=Iy s1.box (Dk pick s1.ms.length).toNat s1.sc.now||y.CU}}
   if y.phase=1 then Ku s2 (Dk pick s1.ms.length).toNat
   else if y.phase=2 then O4 s2 (Dk pick s1.ms.length).toNat
   else if y.phase=3 then LF s2 (Dk pick s1.ms.length).toNat
   else if y.phase=4 then QA s2 (Dk pick s1.ms.length).toNat
   else if y.phase=5 then Kw s2 (Dk pick s1.ms.length).toNat
   else Z s1
  else N
theorem cQ(s:St)(a dl dr:Int):FN s a dl dr=jJ (C2.Oz s a dl dr) a:=rfl
def pC(mb:Nat)(V:Vr)(own:Nat->Nat)(w:rO)(s':St)(e:Ending)(w':rO):Prop:=e=ui (uo #[uk #[I U s'.sc.kind,I U s'.sc.eg,I U s'.sc.Kl,I U s'.sc.Km,I U s'.sc.en],ue s'.sc.seen])/\ ∃b a,CE mb b a w' s'/\Ext own w a w'/\Fw V b
theorem mw{b:Nat}{x0 x1 x2 x3 x4:tR}{t:TypeId}(h:Cy W b #[x0,x1,x2,x3,x4] t):Cy (((((W.setCell ⟨b,0,N⟩ u0).setCell ⟨b,1,N⟩ u1).setCell ⟨b,2,N⟩ u2).setCell ⟨b,3,N⟩ u3).setCell ⟨b,4,N⟩ u4) b #[u0,u1,u2,u3,u4] t:=js (jr (jq (jo (jn h))))
theorem cR{b:Nat}:Cw (λj=>j=b) W (((((W.setCell ⟨b,0,N⟩ u0).setCell ⟨b,1,N⟩ u1).setCell ⟨b,2,N⟩ u2).setCell ⟨b,3,N⟩ u3).setCell ⟨b,4,N⟩ u4):=oset (oset (oset (oset (oset (DA b W) 0 _) 1 _) 2 _) 3 _) 4 _
theorem cS{b:Nat}{q:Bool}{tmps:Array tR}{Q:Ending->rO->Prop}(h:Cy W b #[u0,u1,u2,u3,u4] 38)(t4:tmps[4]?.getD undef=ptr b)(t5:tmps[5]?.getD undef=ue q)(c:Q (ui (uo #[uk #[u0,u1,u2,u3,u4],ue q])) W):bodyPost prog f11 Q Exit.ret {tmps:=tmps,defers:=[]} W:=by have a:=h.cell 0;have k1:=h.cell 1;have k2:=h.cell 2;have k3:=h.cell 3;have k4:=h.cell 4;simp only[Ad,Ag,Ac]at a k1 k2 k3 k4;exact AM (v:=uo #[uk #[u0,u1,u2,u3,u4],ue q]) (by simp[results,results11,go_sem,t4,t5,a,k1,k2,k3,k4]) rfl c
def rF(mb:Nat)(V:Vr)(own:Nat->Nat)(w:rO)(s':St)(W:rO)(b:Nat):Prop:= ∃(c:Vr)(a:Nat->Nat),CE mb c a W s'/\Ext own w a W/\Fw V c/\a b=0/\ ∃u0 u1 u2 u3 u4,Cy W b #[u0,u1,u2,u3,u4] 38
theorem OA{a:Nat->Nat}{d:Vr}{e:rO}{c:Nat}{s':St}(R:CE mb d a W s')(g:Ext own w own e)(E:Ext own e a W)(F:Fw V d)(b: ∃u0 u1 u2 u3 u4,Cy e c #[u0,u1,u2,u3,u4] 38) (o:own c=0):rF mb V own w s' W c:=by obtain⟨u0,u1,u2,u3,u4,f⟩:=b;exact⟨d,a,R,g.trans E,F,(E.same c f.lt).trans o,u0,u1,u2,u3,u4,Ey f o E⟩
theorem CE.step(h:CE mb V own w s){G dl dr:Int}{s':St}(q:FN s G dl dr=Z s'):tT prog 11 #[ptr mb,uk #[I U G,I U dl,I U dr]] w (pC mb V own w s'):=by
 rw[cQ]at q;have hE:=mr h G dl dr;obtain⟨W0,ad⟩: ∃W0,(w.alloc (uj #[I U G,I U dl,I U dr] 36)).alloc (uj #[I U 0,I U 0,I U 0,I U 0,I U 0] 38)=W0:=⟨_,rfl⟩;have hb:tS w.heap.size w W0:=by rw[<-ad];exact Cu (Cu (tU _ _) _) _
 have E:=h.below hb;have rY:=E.rY;have nM:=E.nM;have kD:=E.kD;have dU:=E.dU;have kE:=E.kE;have kF:=E.kF;have kG:=E.kG;have fG:=E.fG;have kH:=E.kH;have kI:=E.kI;have fr:=λk=>E.Fa k;have b3:Cy W0 w.heap.size #[I U G,I U dl,I U dr] 36:=by rw[<-ad];exact(Cy.new w _ 36).below (Cu (tU _ _) _) (by simp)
 have l0:=b3.cell 0;have l1:=b3.cell 1;have l2:=b3.cell 2;simp only[Ad,Ac,Ag]at l0 l1 l2;rw[ad]at hE;obtain⟨nw,bd⟩: ∃nw,s.sc.now=nw:=⟨_,rfl⟩;rw[bd]at hE dU;have H:=Aa hE;have HS:=Aa q;go_enter func11,ntmps11;go_wp2;change Code.wp prog _ _ _ (RI W0 mb (wrap64 (nw+1)) G dl dr);generalize RI W0 mb (wrap64 (nw+1)) G dl dr=W at*
 obtain⟨L,ah⟩: ∃L,w.heap.size+1=L:=⟨_,rfl⟩;rw[ah]at H⊢;have bf:Hid (¬L<w.heap.size):=by rw[<-ah];exact Nat.not_lt.2 (Bh _)
 obtain⟨L3,bg⟩: ∃L3,w.heap.size=L3:=⟨_,rfl⟩;rw[bg]at H⊢;generalize C2.Oz s G dl dr=u at*
 have q:=HS.out;unfold jJ at q;obtain⟨jj,ai⟩: ∃jj:Nat,Dk G u.ms.length=jj:=⟨(Dk G u.ms.length).toNat,by have:=OI G u.ms.length;omega⟩;rw[ai,Am]at q;cases hj:u.ms[jj]? with
 |none=>rw[hj]at q;cases q
 |some y=>
 rw[hj]at q;dsimp only at q;have aj:=CC hj;obtain⟨g,cap,bh,gc,b0,b1⟩:=H.out.GK.NJ aj;have c6:=H.out.GK.c6;rw[bh]at c6;have l0:=H.out.rE.cell 0;simp only[Ad,Ac]at l0;have ae:=H.out.GK.ox jj aj;obtain⟨R,bj⟩: ∃R,V.DR jj=R:=⟨_,rfl⟩;rw[bj]at gc ae;have HMod:=Aa (λ(w:rO)=>P3.Ja G u.ms.length w (by have:=H.out.GK.Hb.2.1;omega));rw[ai]at HMod;have qj:(jj:Int)<(u.ms.length:Int):=by omega
 have m64:=H.out.GK.Hb.2.1;have HJ:=Aa (Ab hj (Ab ae (H.out.GK.CX ae (by omega))));generalize hn:u.ms.length=n at*
 go_region_held3(λa=>a.cell? ⟨mb,6,N⟩=Z (Y (Z ⟨g,0,N⟩) n cap)/\a.cell? ⟨L3,0,N⟩=Z (I U G)/\a.cell? ⟨g,jj,N⟩=Z (ptr R)) (go_keep) (first|(go_at_call 53;refine(HMod.out _).mono ?_;rintro e X⟨rfl,rfl⟩));have C:=Aa H.out.GK.drew;have M:=Aa (H.out.ext.trans (Ext.below DZ));have O:Hid (∃u0 u1 u2 u3 u4,Cy W.drew L #[u0,u1,u2,u3,u4] 38):=H.out.RH;have P:=Aa H.out.cO;have l:Hid (u.ms[jj]?=Z y/\own R=22+5*jj/\R<W.drew.heap.size):=HJ.out;rename_i hh;generalize W.drew=W1 at*
 obtain⟨d,aa⟩: ∃d,y.phase=d:=⟨_,rfl⟩;rw[aa]at q;by_cases E: ¬(1<=d/\d<=5)
 case' pos=>
  have bk:u=s':=by
   by_cases e:d=0
   ·rw[Ai e]at q;exact Ba q
   ·rw[Ah e]at q
    split at q
    ·rw[Ah (by omega),Ah (by omega),Ah (by omega),Ah (by omega),Ah (by omega)]at q
     exact Ba q
    ·cases q
  have S:=Aa (C.out.does l.out.2.1 l.out.1 aa);rw[show Ov d= .nilFunc by unfold Ov;(repeat' split)<;>first|rfl|(exfalso;omega)]at S;have bm:=lD W1;have m:=Aa (OA C.out M.out (Ext.refl _ _) (Fw.refl V) O.out P.out);rw[bk]at m;go_wp2_with(go_at_call 54;refine S.out.mono ?_;rintro e w8⟨rfl,rfl⟩)
 case' neg=>
  have E:1<=d/\d<=5:=Classical.not_not.1 E;rw[Ah (show¬d=0 by omega),Ai (show jj<64 by omega)]at q;obtain⟨r,ab⟩: ∃r,u.sc.now=r:=⟨_,rfl⟩;obtain⟨db,ak⟩: ∃db,Iy u.box jj r=db:=⟨_,rfl⟩;rw[ab,ak]at q;obtain⟨S2,ao⟩: ∃S2,S2=({u with box:=Kt u.box jj r,ms:=u.ms.set jj {y with phase:=d,CU:=db||y.CU}}:St):=⟨_,rfl⟩;have bn:(if d=1 then Ku S2 jj else if d=2 then O4 S2 jj else if d=3 then LF S2 jj else if d=4 then QA S2 jj else if d=5 then Kw S2 jj else Z u)=Z s':=by rw[ao];exact q
  have af:d=1\/d=2\/d=3\/d=4\/d=5:=by omega
  have S:=Aa (C.out.does l.out.2.1 l.out.1 aa);have aq:Hid (∀W',tS W1.heap.size W1 W'->tT prog 55 #[ptr V.box,I U jj,I U r] W' (Dd mb V own W' (ue db) {u with box:=Kt u.box jj r})):=λW' hW=>by rw[<-ak];exact(C.out.below hW).due jj (by omega) r
  have nL:=C.out.nL;have dU:=C.out.dU;rw[ab]at dU;have x0:=pS (C.out.C3 l.out.2.1 l.out.1);have m1: ¬R=mb:=by have:=C.out.om;have:=l.out.2.1;rintro rfl;omega
  obtain⟨ar,au⟩: ∃ar,y.CU=ar:=⟨_,rfl⟩;have av:Hid (∀(f:Nat->Nat)(X:rO)(v:Bool),v=(db||ar)->f R=22+5*jj->CE mb V f X {u with box:=Kt u.box jj r}->CE mb V f (X.setCell ⟨R,4,N⟩ (ue v)) S2/\Ext f X f (X.setCell ⟨R,4,N⟩ (ue v))):=λf X v hv hx hR=>by have k:=hR.Ru (y:=y) hx l.out.1 v;rw[ao,au,<-hv,<-aa];exact k
  have bo:=Aa au;have HK:=Aa bn;obtain⟨kf,bp,af⟩: ∃kf,Ov d= .func (.func kf) #[] #[]/\((d=1/\kf=117)\/(d=2/\kf=118)\/(d=3/\kf=119)\/(d=4/\kf=120)\/(d=5/\kf=121)):=by rcases af with rfl|rfl|rfl|rfl|rfl<;>exact⟨_,rfl,by simp⟩
  rw[bp]at S;have bm:=gA W1 (.func kf);have bq:=Aa af;cases db;case' true=>have aw:=Aa (λo W=>av.out o W tZ rfl)
  case' false=>have aw:=Aa (λo W=>av.out o W ar rfl)
  all_goals
   go_wp2_with(go_at_call 54;refine S.out.mono ?_;rintro e X⟨rfl,rfl⟩);have c:Hid (X.drew.cell? ⟨mb,13,N⟩=Z (ptr V.box)/\X.drew.cell? ⟨mb,17,N⟩=Z (I U r)/\X.drew.cell? ⟨R,0,N⟩=Z (I U jj)):=Ab nL (Ab dU x0);refine FG 13 (λa=>a.cell? ⟨mb,13,N⟩=Z (ptr V.box)/\a.cell? ⟨mb,17,N⟩=Z (I U r)/\a.cell? ⟨R,0,N⟩=Z (I U jj)) (by kernel_rfl) ?_;refine tk 0 (v:=?_) rfl (by kernel_rfl) (λ_ _ _ h=>h) ?_ (λ_=>c.out) ?_;rotate_left
   ·intro a;go_simp;try(with_reducible rfl)
   refine tk 1 (v:=?_) rfl (by kernel_rfl) (λ_ _ _ h=>h) ?_ (λ_=>c.out) ?_;rotate_left
   ·intro a;go_simp;try(with_reducible rfl)
   refine tk 2 (v:=?_) rfl (by kernel_rfl) (λ_ _ _ h=>h) ?_ (λ_=>c.out) ?_;rotate_left
   ·intro a;go_simp;try(with_reducible rfl)
   refine tk 3 (v:=?_) rfl (by kernel_rfl) (λ_ _ _ h=>h) ?_ (λ_=>c.out) ?_;rotate_left
   ·intro a;go_simp;try(with_reducible rfl)
   refine tk 5 (v:=?_) rfl (by kernel_rfl) (λ_ _ _ h=>h) ?_ (λ_=>c.out) ?_;rotate_left
   ·intro a;go_simp;try(with_reducible rfl)
   refine tk 6 (v:=?_) rfl (by kernel_rfl) (λ_ _ _ h=>h) ?_ (λ_=>c.out) ?_;rotate_left
   ·intro a;go_simp;try(with_reducible rfl)
   refine tk 7 (v:=?_) rfl (by kernel_rfl) (λ_ _ _ h=>h) ?_ (λ_=>c.out) ?_;rotate_left
   ·intro a;go_simp;try(with_reducible rfl)
   refine tk 9 (v:=?_) rfl (by kernel_rfl) (λ_ _ _ h=>h) ?_ (λ_=>c.out) ?_;rotate_left
   ·intro a;go_simp;try(with_reducible rfl)
   refine tk 10 (v:=?_) rfl (by kernel_rfl) (λ_ _ _ h=>h) ?_ (λ_=>c.out) ?_;rotate_left
   ·intro a;go_simp;try(with_reducible rfl)
   refine tk 11 (v:=?_) rfl (by kernel_rfl) (λ_ _ _ h=>h) ?_ (λ_=>c.out) ?_;rotate_left
   ·intro a;go_simp;try(with_reducible rfl)
   refine DN (i:=4) (v:=?_) rfl rfl (by kernel_rfl) (by kernel_rfl) (by kernel_rfl) (by kernel_rfl) (by kernel_rfl) (λ_ _ _ h=>h) (Or.inl ⟨by kernel_rfl,?_⟩) c.out ?_;rotate_left
   ·intro a hw';obtain⟨s0,s1,s2⟩:=hw';go_simp;try(with_reducible rfl)
   refine DN (i:=8) (v:=?_) rfl rfl (by kernel_rfl) (by kernel_rfl) (by kernel_rfl) (by kernel_rfl) (by kernel_rfl) (λ_ _ _ h=>h) (Or.inl ⟨by kernel_rfl,?_⟩) c.out ?_;rotate_left
   ·intro a hw';obtain⟨s0,s1,s2⟩:=hw';go_simp;try(with_reducible rfl)
   refine DN (i:=12) (v:=?_) rfl rfl (by kernel_rfl) (by kernel_rfl) (by kernel_rfl) (by kernel_rfl) (by kernel_rfl) (λ_ _ _ h=>h) (Or.inl ⟨by kernel_rfl,?_⟩) c.out ?_;rotate_left
   ·intro a hw';obtain⟨s0,s1,s2⟩:=hw';go_simp;try(with_reducible rfl)
   refine Gb 13 (by kernel_rfl) rfl λK hK=>?_;go_simp;go_wp2_with(go_at_call 55;refine(aq.out _ (by first|exact tU _ _|exact DZ|exact DF _)).mono ?_;rintro e w7⟨rfl,f,ax,ay⟩;have ag:=ay.keep l.out.2.1 l.out.2.2;have az:=ax.C3 ag l.out.1;have k4:=pT az;rw[bo.out]at k4;have b2:=az.free 4;obtain⟨br,bs⟩:=aw.out f w7 ag ax;have t:=Aa (Ab br ag);have T:=Aa ((Ext.below DZ).trans (ay.trans bs)));refine⟨(λh=>absurd (h.symm.trans (show _=tZ by kernel_rfl)) BU),?_⟩;refine eG 14 (v:=?_) rfl (by kernel_rfl) (λ_ _ _ h=>h) ?_ ?_;rotate_left
   ·intro a;go_simp;try(with_reducible rfl)
  case' _=>
   refine eG 15 (v:=?_) rfl (by kernel_rfl) (λ_ _ _ h=>h) ?_ ?_;rotate_left
   ·intro a;go_simp;try(with_reducible rfl)
   refine eG 16 (v:=?_) rfl (by kernel_rfl) (λ_ _ _ h=>h) ?_ ?_;rotate_left
   ·intro a;go_simp;try(with_reducible rfl)
   refine eG 17 (v:=?_) rfl (by kernel_rfl) (λ_ _ _ h=>h) ?_ ?_;rotate_left
   ·intro a;go_simp;try(with_reducible rfl)
   refine Gb 18 (by kernel_rfl) rfl λK hK=>?_;go_simp;refine hK _ _ ⟨(λh=>absurd (h.symm.trans (show _=tZ by kernel_rfl)) BU),?_⟩
  rotate_left;case' _=>refine pN 15 rfl (by kernel_rfl) (λ_ _ _ h=>h) ?_;refine pN 16 rfl (by kernel_rfl) (λ_ _ _ h=>h) ?_;refine pN 17 rfl (by kernel_rfl) (λ_ _ _ h=>h) ?_;refine pN 18 rfl (by kernel_rfl) (λ_ _ _ h=>h) ?_
  all_goals
   refine eG 19 (v:=?_) rfl (by kernel_rfl) (λ_ _ _ h=>h) ?_ ?_;rotate_left
   ·intro a;go_simp;try(with_reducible rfl)
   refine eG 20 (v:=?_) rfl (by kernel_rfl) (λ_ _ _ h=>h) ?_ ?_;rotate_left
   ·intro a;go_simp;try(with_reducible rfl)
   refine eG 21 (v:=?_) rfl (by kernel_rfl) (λ_ _ _ h=>h) ?_ ?_;rotate_left
   ·intro a;go_simp;try(with_reducible rfl)
   refine Gb 22 (by kernel_rfl) rfl λK hK=>?_;go_simp;refine hK _ _ ⟨(λh=>absurd (h.symm.trans (show _=tZ by kernel_rfl)) BU),?_⟩;refine FE (by kernel_rfl) ?_ _;rcases bq.out with⟨rfl,rfl⟩|⟨rfl,rfl⟩|⟨rfl,rfl⟩|⟨rfl,rfl⟩|⟨rfl,rfl⟩;case' inl=>have F:=HK.out;rw[Ai rfl]at F;have HC:=Aa (t.out.1.look t.out.2 F);go_wp2_with(go_at_call 117;refine HC.out.mono ?_;rintro e w8⟨rfl,V8,o8,x,z,B⟩;have m:=Aa (OA x M.out (T.out.trans z) B.toFw O.out P.out))
   case' inr.inl=>have F:=HK.out;rw[Ah (by decide),Ai rfl]at F;have HC:=Aa (t.out.1.run t.out.2 F);go_wp2_with(go_at_call 118;refine HC.out.mono ?_;rintro e w8⟨rfl,V8,o8,x,z,B⟩;have m:=Aa (OA x M.out (T.out.trans z) B O.out P.out))
   case' inr.inr.inl=>have F:=HK.out;rw[Ah (by decide),Ah (by decide),Ai rfl]at F;have HC:=Aa (t.out.1.stop t.out.2 F);go_wp2_with(go_at_call 119;refine HC.out.mono ?_;rintro e w8⟨rfl,V8,o8,x,z,B⟩;have m:=Aa (OA x M.out (T.out.trans z) B.toFw O.out P.out))
   case' inr.inr.inr.inl=>have F:=HK.out;rw[Ah (by decide),Ah (by decide),Ah (by decide),Ai rfl]at F;have HC:=Aa (t.out.1.Eo t.out.2 F);go_wp2_with(go_at_call 120;refine HC.out.mono ?_;rintro e w8⟨rfl,V8,o8,x,z,B⟩;have m:=Aa (OA x M.out (T.out.trans z) B.toFw O.out P.out))
   case' inr.inr.inr.inr=>have F:=HK.out;rw[Ah (by decide),Ah (by decide),Ah (by decide),Ah (by decide),Ai rfl]at F;have HC:=Aa (t.out.1.call t.out.2 F);go_wp2_with(go_at_call 121;refine HC.out.mono ?_;rintro e w8⟨rfl,V8,o8,x,z,B⟩;have m:=Aa (OA x M.out (T.out.trans z) B.toFw O.out P.out))
 all_goals
  obtain⟨V9,o9,D,bt,bu,bw,u0,u1,u2,u3,u4,p⟩:=m.out;have kE:=D.kE;have kF:=D.kF;have kG:=D.kG;have fG:=D.fG;have kH:=D.kH;have kI:=D.kI;have t0:=p.cell 0;have t1:=p.cell 1;have t2:=p.cell 2;have t3:=p.cell 3;have t4:=p.cell 4;have f0:=p.free 0;have f1:=p.free 1;have f2:=p.free 2;have f3:=p.free 3;have f4:=p.free 4;simp only[Ad,Ac,Ag]at t0 t1 t2 t3 t4;have m1: ¬L=mb:=by have:=D.om;rintro rfl;omega
  have Q:=Aa (Ab D (Ab bt (Ab bu (Ab bw p))));obtain⟨z0,a1⟩: ∃z0,s'.sc.kind=z0:=⟨_,rfl⟩;obtain⟨z1,a6⟩: ∃z1,s'.sc.eg=z1:=⟨_,rfl⟩;obtain⟨z2,a7⟩: ∃z2,s'.sc.Kl=z2:=⟨_,rfl⟩;obtain⟨z3,a8⟩: ∃z3,s'.sc.Km=z3:=⟨_,rfl⟩;obtain⟨z4,ba⟩: ∃z4,s'.sc.en=z4:=⟨_,rfl⟩;obtain⟨z5,bb⟩: ∃z5,s'.sc.seen=z5:=⟨_,rfl⟩;rw[a1]at kE;rw[a6]at kF;rw[a7]at kG;rw[a8]at fG;rw[ba]at kH;rw[bb]at kI;have HZ:=Aa (Ab a1 (Ab a6 (Ab a7 (Ab a8 (Ab ba bb)))));go_region_held3(λa=>a.cell? ⟨mb,21,N⟩=Z (I U z0)/\a.cell? ⟨mb,22,N⟩=Z (I U z1)/\a.cell? ⟨mb,23,N⟩=Z (I U z2)/\a.cell? ⟨mb,24,N⟩=Z (I U z3)/\a.cell? ⟨mb,25,N⟩=Z (I U z4)/\a.cell? ⟨mb,26,N⟩=Z (ue z5)) (go_keep) (fail);rename_i hh;have A:=mw (u0:=I U z0) (u1:=I U z1) (u2:=I U z2) (u3:=I U z3) (u4:=I U z4) Q.out.2.2.2.2;have hO:=cR (W:=w8) (b:=L) (u0:=I U z0) (u1:=I U z1) (u2:=I U z2) (u3:=I U z3) (u4:=I U z4);have bc:=(Q.out.1.loc hO (λj hj=>by rw[show j=L from hj];exact Q.out.2.2.2.1)).drew;have A':=Hj A;have bz:=hO.drew;generalize(((((w8.setCell ⟨L,0,N⟩ (I U z0)).setCell ⟨L,1,N⟩ (I U z1)).setCell ⟨L,2,N⟩ (I U z2)).setCell ⟨L,3,N⟩ (I U z3)).setCell ⟨L,4,N⟩ (I U z4)).drew=b4 at*
  go_wp2;exact cS A' rfl rfl (by obtain⟨rfl,rfl,rfl,rfl,rfl,rfl⟩:=HZ.out;exact⟨rfl,V9,o9,bc,⟨Q.out.2.1.only.andThen bz (λj hj q=>by rw[show j=L from q]at hj⊢;exact absurd hj bf.out),Q.out.2.1.same⟩,Q.out.2.2.1⟩)
end
section
open jl (es)
section
variable {l:List (Int×Int×Int)}
def jK(s:St):List Value:=[I U s.sc.kind,I U s.sc.eg,I U s.sc.Kl,I U s.sc.Km,I U s.sc.en]
def D0:List (Int×Int×Int)->St->Option (List St×St)
 | [],s=>Z ([],s)
 |x::l,s=>(FN s x.1 x.2.1 x.2.2).bind λs1=>(D0 l s1).map λo=>(if s1.sc.seen then s1::o.1 else o.1,o.2)
def IA(w:rO)(lb a:Nat)(l:List (Int×Int×Int)):Prop:= ∀k,k<l.length->w.cell? ⟨lb,a+k*3,N⟩=Z (I U (l[k]?.getD (0,0,0)).1)/\w.cell? ⟨lb,a+k*3+1,N⟩=Z (I U (l[k]?.getD (0,0,0)).2.1)/\w.cell? ⟨lb,a+k*3+2,N⟩=Z (I U (l[k]?.getD (0,0,0)).2.2)
theorem mx:(prog.info? 38).map (λi=>(i.zero,i.size,i.bytes))=Z (Z (uk #[I U 0,I U 0,I U 0,I U 0,I U 0]),5,40):=by kernel_rfl
theorem rG(w:rO)(a b c d e:tR)(t:TypeId): ∀(j:Nat)(u:tR),[a,b,c,d,e][j]?=Z u->(w.alloc (uj #[a,b,c,d,e] t)).cell? ((⟨w.heap.size,0,N⟩:Addr).add j)=Z u:=by have h:=Cy.new w #[a,b,c,d,e] t;intro j u hu;rw[show((⟨w.heap.size,0,N⟩:Addr).add j)=⟨w.heap.size,j,N⟩from by rw[AE,AJ]];rw[h.cell j,<-hu];simp
theorem rH(a b c d e:Int): ∀x∈([I U a,I U b,I U c,I U d,I U e]:List tR),x.oneCell'=true:=by intro x f;simp at f;rcases f with rfl|rfl|rfl|rfl|rfl<;>rfl
def rI(mb:Nat)(V:Vr)(own:Nat->Nat)(w:rO)(l:List (Int×Int×Int))(out:List St)(s':St)(t4 t14:tR)(wr:rO):Prop:=
 ∃(k:Nat)(d r:List St)(b:Vr)(a:Nat->Nat)(s1:St),k<=l.length/\t14=I U k/\out=d++r/\d.length<=k/\D0 (l.drop k) s1=Z (r,s')/\CE mb b a wr s1/\Ext own w a wr/\Fw V b/\
  wr.ownsRow w.heap.size 38 5 t4 d.length (d.flatMap jK)/\ ∀j,t4.ownBlock=Z j->a j=0
theorem mz{a:Nat->Nat}{wr:rO}{lb e:Nat}(g:IA w lb e l)(b:lb<w.heap.size)(c:own lb=0\/own lb=14)(h:Ext own w a wr):IA wr lb e l:=λk j=>by have d: ∀i,wr.cell? ⟨lb,i,N⟩=w.cell? ⟨lb,i,N⟩:=λi=>AK (h.only.block lb b (λf=>c.elim f.1 f.2));rw[d,d,d];exact g k j
theorem XS{k:Nat}{s1 s':St}{r:List St}(c:k<l.length)(h:D0 (l.drop k) s1=Z (r,s')): ∃s2 a,FN s1 (l[k]?.getD (0,0,0)).1 (l[k]?.getD (0,0,0)).2.1 (l[k]?.getD (0,0,0)).2.2=Z s2/\D0 (l.drop (k+1)) s2=Z (a,s')/\r=if s2.sc.seen then s2::a else a:=by
 rw[AQ c]at h;unfold D0 at h;obtain⟨s2,d,h⟩:=bind_some h;cases b:D0 (l.drop (k+1)) s2 with
 |none=>rw[b]at h;cases h
 |some o=>
  rw[b]at h;simp only[BJ,Ak,AV]at h;obtain⟨e,f⟩:=h;refine⟨s2,o.1,?_,?_,e.symm⟩
  ·rw[Ae c];exact d
  ·rw[b,<-f]
theorem Vc{a b:Nat->Nat}{wr w1:rO}{base n:Nat}{v:tR}{xs:List tR}(d:wr.ownsRow base 38 5 v n xs)(e: ∀j,v.ownBlock=Z j->a j=0) (f:Ext a wr b w1):w1.ownsRow base 38 5 v n xs/\ ∀j,v.ownBlock=Z j->b j=0:=⟨De d f.only (λj c g=>g.1 (e j c)),λj c=>(f.same j (AB d j c).2).trans (e j c)⟩
def p7(own:Nat->Nat)(w:rO)(a:Option Addr)(l:List (Int×Int×Int)):Prop:=l.length=0\/ ∃lb b,a=Z ⟨lb,b,N⟩/\IA w lb b l/\lb<w.heap.size/\(own lb=0\/own lb=14)
theorem CE.runs(h:CE mb V own w s){a:Option Addr}{lc:Nat}{out:List St}{s':St}(hs:D0 l s=Z (out,s'))(hE:p7 own w a l)(ao:l.length<=65536):tT prog 69 #[ptr mb,.slice a l.length lc] w λe P=> ∃v L b,e=ui v/\P.ownsRow w.heap.size 38 5 v out.length (out.flatMap jK)/\(∀j,v.ownBlock=Z j->b j=0)/\CE mb L b P s'/\Ext own w b P/\Fw V L:=by
 have Q:=Aa (Ab h (Ab hs hE));go_enter func69,ntmps69;go_wp2;generalize R:l.length=M at*
 have g:=Aa R;go_loopw [4,14] (λt4 t14 wr=>rI mb V own w l out s' t4 t14 wr) (λ_ t _=>M-(intOf t).toNat)
 case atStart=>exact⟨0,[],out,V,own,s,Ap _,rfl,rfl,Al _,Q.out.2.1,Q.out.1,Ext.refl _ _,Fw.refl V,AH w w.heap.size 38 5,by simp[Value.ownBlock]⟩
 case round=>
  obtain⟨k,d,r,L,b,s1,hk,rfl,o,hd,p,S,T,hF,hO,ho⟩:=hrel;rw[g.out]at hk;by_cases F:k<M
  ·have aq:(k:Int)<(M:Int):=by omega
   obtain⟨lb,lo,rfl,W,X,aa⟩:=Q.out.2.2.resolve_left (by rw[g.out];omega);have ab:=mz W X aa T;obtain⟨p0,p1,p2⟩:=ab k (by rw[g.out];exact F);obtain⟨s2,r2,B,G,hr⟩:=XS (by rw[g.out];exact F) p;obtain⟨x,hx⟩: ∃x,l[k]?.getD (0,0,0)=x:=⟨_,rfl⟩;rw[hx]at p0 p1 p2 B;obtain⟨x0,x1,x2⟩:=x;simp only at p0 p1 p2 B;have H:=Aa ((S.alloc (uj #[I U x0,I U x1,I U x2] 36)).step B);have f:=Aa (Ab S (Ab T (Ab hF (Ab hO (Ab ho (Ab G (Ab hr (Ab o hd))))))));cases y:s2.sc.seen with
   |false=>
    go_wp2_with(go_at_call 11;refine H.out.mono ?_;rintro e u⟨rfl,V2,c,z,C,D⟩;rw[y];have i:=Aa (Ab z (Ab C D)));go_roundw
    case rel=>have n:Ext b wr c (u.alloc (uj #[I U s2.sc.kind,I U s2.sc.eg,I U s2.sc.Kl,I U s2.sc.Km,I U s2.sc.en] 38)):=((Ext.refl b wr).alloc _).trans (i.out.2.1.trans ((Ext.refl c u).alloc _));obtain⟨ad,ae⟩:=Vc f.out.2.2.2.1 f.out.2.2.2.2.1 n;have A:=f.out.2.1.trans n;have e:=f.out.2.2.2.2.2.2.1;rw[y,Ah (by decide)]at e;exact⟨k+1,d,r2,V2,c,s2,by rw[g.out];omega,by go_num,by rw[<-e];exact f.out.2.2.2.2.2.2.2.1,by have:=f.out.2.2.2.2.2.2.2.2;omega,f.out.2.2.2.2.2.1,i.out.1.alloc _,A,f.out.2.2.1.trans i.out.2.2,ad,ae⟩
    case measure=>simp[intOf];omega
   |true=>
    go_wp2_with(first|(go_at_call 11;refine H.out.mono ?_;rintro e u⟨rfl,V2,c,z,C,D⟩;rw[y];have n:Ext b wr c ((u.alloc (uj #[I U s2.sc.kind,I U s2.sc.eg,I U s2.sc.Kl,I U s2.sc.Km,I U s2.sc.en] 38)).alloc (uj #[I U s2.sc.kind,I U s2.sc.eg,I U s2.sc.Kl,I U s2.sc.Km,I U s2.sc.en] 38)):=((Ext.refl b wr).alloc _).trans (C.trans (((Ext.refl c u).alloc _).trans ((Ext.refl c _).alloc _)));have m:=Aa (Vc f.out.2.2.2.1 f.out.2.2.2.2.1 n);have af:w.heap.size<=((u.alloc (uj #[I U s2.sc.kind,I U s2.sc.eg,I U s2.sc.Kl,I U s2.sc.Km,I U s2.sc.en] 38)).alloc (uj #[I U s2.sc.kind,I U s2.sc.eg,I U s2.sc.Kl,I U s2.sc.Km,I U s2.sc.en] 38)).heap.size:=(f.out.2.1.trans n).only.size;have ag:=Aa af;have n5:=rG (u.alloc (uj #[I U s2.sc.kind,I U s2.sc.eg,I U s2.sc.Kl,I U s2.sc.Km,I U s2.sc.en] 38)) (I U s2.sc.kind) (I U s2.sc.eg) (I U s2.sc.Kl) (I U s2.sc.Km) (I U s2.sc.en) 38;rw[show(u.alloc (uj #[I U s2.sc.kind,I U s2.sc.eg,I U s2.sc.Kl,I U s2.sc.Km,I U s2.sc.en] 38)).heap.size=u.heap.size+1 by simp]at n5;have ah:=Aa n5;have i:=Aa (Ab (z.alloc (uj #[I U s2.sc.kind,I U s2.sc.eg,I U s2.sc.Kl,I U s2.sc.Km,I U s2.sc.en] 38)) (Ab n (Ab D z))))|(at_builtin;refine Iu underlying147 mx rfl (by decide) (by decide) w.heap.size _ rfl _ _ rfl _ d.length (d.flatMap jK) ⟨u.heap.size+1,0,N⟩ 1 [I U s2.sc.kind,I U s2.sc.eg,I U s2.sc.Kl,I U s2.sc.Km,I U s2.sc.en] rfl rfl (.inl m.out.1) rfl ah.out (rH _ _ _ _ _) ag.out (by have q1:=f.out.2.2.2.2.2.2.2.2;omega) ?_;intro v' w3 hA;have O:=Aa hA));go_roundw
    case rel=>
     have K:=i.out.1.alloc (uj #[I U s2.sc.kind,I U s2.sc.eg,I U s2.sc.Kl,I U s2.sc.Km,I U s2.sc.en] 38);have A:=f.out.2.1.trans i.out.2.1;have ai:=Cw.grown (Cw.refl _ _) O.out.2.1 (λj E=>Or.inr E);have aj:=K.loc ai (λj E=>m.out.2 j E);have ak:Ext own w c _:=⟨Cw.grown A.only O.out.2.1 (λj E=>.inl (AB m.out.1 j E).1),A.same⟩;have e:=f.out.2.2.2.2.2.2.1;rw[y,Ai rfl]at e;refine⟨k+1,d++[s2],r2,V2,c,s2,by rw[g.out];omega,by go_num,by rw[f.out.2.2.2.2.2.2.2.1,e];simp,by have:=f.out.2.2.2.2.2.2.2.2;simp;omega,f.out.2.2.2.2.2.1,aj,ak,f.out.2.2.1.trans i.out.2.2.1,?_,?_⟩
     ·have q:=O.out.1
      rw[Au,Zbf];simpa[jK]using q
     ·intro j E
      rcases O.out.2.2 j E with h1|h1
      ·exact m.out.2 j h1
      ·exact K.fresh j h1
    case measure=>simp[intOf];omega
  ·obtain rfl:k=M:=by omega
   rw[Zbq (by rw[g.out];exact Al _)]at p;unfold D0 at p;simp only[Ak,AV]at p;obtain⟨rfl,rfl⟩:=p;rw[BW]at o;subst o;have f:=Aa (Ab S (Ab T (Ab hF (Ab hO ho))));go_wp2;go_ret;exact⟨_,L,b,rfl,f.out.2.2.2.1,f.out.2.2.2.2,f.out.1,f.out.2.1,f.out.2.2.1⟩
end
end
open Vm (CP)
open jl (es Dx)
theorem Js{α:Type}(f:α->List tR)(k:Nat)(d:α)(a: ∀x,(f x).length=k): ∀(l:List α)(i r:Nat),i<l.length->r<k->(l.flatMap f)[i*k+r]?=(f (l[i]?.getD d))[r]?
 | [],_,_,h,_=>absurd h (BX _)
 |x::l,0,r,_,b=>by rw[BE,Nat.zero_mul,AJ,Aw (by rw[a];exact b)];rfl
 |x::l,i+1,r,h,b=>by rw[BE,Ar (by rw[a,Zcb];omega),show(i+1)*k+r-(f x).length=i*k+r by rw[a,Zcb];omega];exact Js f k d a l i r (by simpa using h) b
def OB(n:Nat):Nat->Nat:=λj=>if j<n then 14 else 0
def FR(p:List (List CP×List Bool)):List Fn:=p.map λf=>⟨f.1,f.2⟩
theorem cT(p:List (List CP×List Bool))(k:Nat)(a:k<p.length):(FR p)[k]?.getD rX=⟨(p[k]?.getD ([],[])).1,(p[k]?.getD ([],[])).2⟩:=by simp[FR,a]
theorem mA{w1 w:rO}{g h pc:Nat}{p:List (List CP×List Bool)}(a:tS w1.heap.size w1 w)(u:D3.Laid w1)(v:0<w1.heap.size)(l:D8.Ha w1 g h p):pZ (OB w1.heap.size) w (Y (Z ⟨g,h,N⟩) p.length pc) (FR p):=by
 have d: ∀j,j<w1.heap.size->OB w1.heap.size j=14:=λj n=>Ai n;refine⟨λj=>?_,λj n=>Ah (Nat.not_lt.2 (AA a.size n)),⟨g,h,pc,by simp[FR],An l.1 a.size,d g l.1,λk x=>?_⟩,u.below a,d 0 v⟩
 ·unfold OB;split
  ·exact .inr rfl
  ·exact .inl rfl
 ·have m:k<p.length:=by simpa[FR]using x
  obtain⟨s,co,y,q,t,sc,z,a2,a3,a4⟩:=l.2 k m;obtain⟨b,o,c,e,f,A⟩:=a4;simp only[As,Ak,BN,and_true,true_and]at e;obtain⟨⟨rfl,rfl⟩,rfl⟩:=e;rw[cT p k m];refine⟨s,co,y,q,t,sc,(a.cell (p:=⟨g,h+k*2,N⟩) l.1).trans z,(a.cell (p:=⟨g,h+k*2+1,N⟩) l.1).trans a2,An a3.1 a.size,An f a.size,d s a3.1,d q f,λi r=>(a3.below a).2 i r,λi r=>?_⟩;exact(a.cell (p:=⟨q,t+i,N⟩) f).trans (A i r)
end C2
end Go.Proofs.YtgadhchejmlfjaaGreatDoor
