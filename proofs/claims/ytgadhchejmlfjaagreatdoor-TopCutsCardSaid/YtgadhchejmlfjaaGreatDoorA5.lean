/- A part of the proof. -/
import Derived.Test.YtgadhchejmlfjaaGreatDoorA0
set_option linter.unusedVariables false
set_option maxRecDepth 20000
set_option maxHeartbeats 16000000
open Go.Value renaming int→I,pointer→J,slice→Y
open Go.IntKind renaming i64→U
open Option renaming none→N,some→Z
open Go renaming Calls→re,Ending→rB,Value→qY,World→oZ
open Go.Ending renaming returned→rC
open Go.Obj renaming cells→rD
open Go.RowKit renaming Below→qZ
open Go.RowKit.Below renaming refl→rf
open Go.Value renaming ownBlock→ru
namespace Go.CL
def FV(n p m:Int):Prop:=p<1∨m<1∨n<1
instance (n p m:Int):Decidable (FV n p m):=by unfold FV;infer_instance
def FP(n p m:Int):Int:=if FV n p m then 0 else min n (min m (min (n/p) (n-1)+1))
theorem cW{n p m:Int}(h: ¬FV n p m):1≤FP n p m∧FP n p m≤n∧FP n p m≤m:=by have a:=h;unfold FV at a;unfold FP;rw[Ah h];have:=Zbw (show 0≤n by omega) (show 0≤p by omega);omega
theorem cX(n p m:Int)(a:0≤n):0≤FP n p m∧FP n p m≤n:=by
 by_cases h:FV n p m
 ·unfold FP;rw[Ai h];omega
 ·have:=cW h;omega
end Go.CL
namespace Go.Proofs.YtgadhchejmlfjaaGreatDoor.CY
section
open Go.Proofs.Tryz Go.RowKit Go.CL
theorem Yc(n p m:Int)(w:oZ)(k:n≤9223372036854775807):re prog 286 #[I U n,I U p,I U m] w fun e w'=>e=rC (I U (FP n p m))∧w=w':=by
 by_cases h:FV n p m
 ·have a:FP n p m=0:=by unfold FP;rw[Ai h]
  rw[a];clear a;unfold FV at h;by_cases l:p<1
  ·clear h
   go_enter func286,ntmps286;go_wp2;go_ret;exact⟨rfl,rfl⟩
  ·by_cases o:m<1
   ·clear h
    go_enter func286,ntmps286;go_wp2;go_ret;exact⟨rfl,rfl⟩
   ·have q:n<1:=by omega
    clear h;go_enter func286,ntmps286;go_wp2;go_ret;exact⟨rfl,rfl⟩
 ·have b:Hid (FP n p m=min n (min m (min (n/p) (n-1)+1))):=by show _=_;unfold FP;rw[Ah h]
  unfold FV at h;have c:1≤n:=by omega
  have d:1≤p:=by omega
  have f:1≤m:=by omega
  clear h;have g:(p==0)=false:=by rw[Au];omega
  have i:=Zbw (show 0≤n by omega) (show 0≤p by omega);have j:n/p≤n:=Int.ediv_le_self _ (by omega);go_enter func286,ntmps286;go_wp2
  all_goals go_ret
  all_goals exact⟨Gy (by rw[b.out];omega),rfl⟩
end
section
open Go.Proofs.Tryz Go.RowKit Go.CL
variable {w w':oZ} {b j:Nat} {v1 v2 v:qY} {f k L:List Int} {S T:Nat→Prop}
theorem Dw:(prog.info? 3).map (fun i=>(i.zero,i.size,i.bytes))=Z (Z (I U 0),1,8):=by kernel_rfl
def Q(w:oZ)(b:Nat)(v1 v2:qY)(f k:List Int):Prop:=Cx w b #[v1,v2] 203∧CF w 0 v1 f∧CF w 0 v2 k∧v1.ownBlock≠Z b∧v2.ownBlock≠Z b∧ ∀j,v1.ownBlock=Z j→v2.ownBlock≠Z j
def Qf(b:Nat)(v1 v2:qY)(j:Nat):Prop:=j=b∨v1.ownBlock=Z j∨v2.ownBlock=Z j
theorem Q.lt(h:Q w b v1 v2 f k)(a:Qf b v1 v2 j):j<w.heap.size:=by
 rcases a with rfl|a|a
 ·exact h.1.lt
 ·exact(h.2.1.lt j a).2
 ·exact(h.2.2.1.lt j a).2
theorem Q.only(h:Q w b v1 v2 f k)(o:Cv S w w')(a: ∀j,Qf b v1 v2 j→ ¬S j):Q w' b v1 v2 f k:=⟨h.1.only o (a b (.inl rfl)),h.2.1.off o (fun j c=>a j (.inr (.inl c))),h.2.2.1.off o (fun j c=>a j (.inr (.inr c))),h.2.2.2⟩
theorem Q.below(h:Q w b v1 v2 f k)(a:qZ w.heap.size w w'):Q w' b v1 v2 f k:=h.only (S:=fun _=>False) ((Cv.refl _ w).below a) (fun _ _ x=>x)
theorem Q.drewN(h:Q w b v1 v2 f k)(n:Nat):Q (w.drewN n) b v1 v2 f k:=h
theorem Q.drew(h:Q w b v1 v2 f k):Q w.drew b v1 v2 f k:=h
def Queue(w:oZ)(b:Nat)(S:Nat→Prop)(L:List Int):Prop:= ∃v1 v2 f k,Q w b v1 v2 f k∧L=f.reverse++k∧S=Qf b v1 v2
theorem Queue.lt(h:Queue w b S L)(a:S j):j<w.heap.size:=by obtain⟨v1,v2,f,k,h,_,rfl⟩:=h;exact h.lt a
theorem Queue.only(h:Queue w b S L)(o:Cv T w w')(a: ∀j,S j→ ¬T j):Queue w' b S L:=by obtain⟨v1,v2,f,k,h,c,rfl⟩:=h;exact⟨v1,v2,f,k,h.only o a,c,rfl⟩
theorem Queue.below(h:Queue w b S L)(a:qZ w.heap.size w w'):Queue w' b S L:=by obtain⟨v1,v2,f,k,h,c,rfl⟩:=h;exact⟨v1,v2,f,k,h.below a,c,rfl⟩
theorem Queue.drewN(h:Queue w b S L)(n:Nat):Queue (w.drewN n) b S L:=h
def Gr(S S':Nat→Prop)(w:oZ):Prop:= ∀j,S' j→S j∨w.heap.size≤j
theorem Gr.refl(S:Nat→Prop)(w:oZ):Gr S S w:=fun _ h=>.inl h
theorem Gr.trans{a:Nat→Prop}(h:Gr S T w)(k:Gr T a w')(b:w.heap.size≤w'.heap.size):Gr S a w:=fun j c=>(k j c).elim (fun x=>h j x) (fun x=>.inr (AE b x))
theorem H4.gr{S':Nat→Prop}(h:H4 S v)(g:Gr S S' w)(b: ∀j,v.ownBlock=Z j→j<w.heap.size):H4 S' v:=fun j a c=>(g j c).elim (h j a) (fun x=>by have:=b j a;omega)
theorem GA(w:oZ):re prog 44 #[] w fun e w'=>e=rC (J (Z ⟨w.heap.size,0,N⟩))∧w.alloc (rD #[Y N 0 0,Y N 0 0] 203)=w':=by go_enter func44,ntmps44;go_wp2;go_ret;exact⟨rfl,rfl⟩
theorem Queue.new(w:oZ):Queue (w.alloc (rD #[Y N 0 0,Y N 0 0] 203)) w.heap.size (fun j=>j=w.heap.size) []:=by refine⟨_,_,[],[],⟨Cx.new w _ 203,CF.nil _ _,CF.nil _ _,by simp[ru],by simp[ru],by simp[ru]⟩,rfl,?_⟩;funext j;simp[Qf,ru]
def RW(x:Int)(w:oZ)(e:rB)(w':oZ):Prop:=e=rC (I U x)∧ ∃n,w'=w.drewN n
theorem Dh{base:Nat}{l:List Int}(h:CF w base v l): ∃a cap,v= .slice a l.length cap:=by obtain⟨a,cap,b,_⟩:=Sl.Eh h;exact⟨a,cap,b⟩
theorem TX(b:Nat)(v1 v2:qY)(f k:List Int)(w:oZ)(h:Q w b v1 v2 f k)(a:f.length+k.length<100000000):re prog 284 #[J (Z ⟨b,0,N⟩)] w (RW ((f.length:Int)+k.length) w):=by
 have c0:=h.1.cell 0;have c1:=h.1.cell 1;simp only[Ad,Ac,Ag]at c0 c1;obtain⟨c,d,rfl⟩:=Dh h.2.1;obtain⟨a2,e,rfl⟩:=Dh h.2.2.1;clear h;have g:IntKind.i64.wrap ((f.length:Int)+k.length)=(f.length:Int)+k.length:=Zaa _ (by omega);go_enter func284,ntmps284;go_wp2;go_quiet(fail)
 go_wp2;go_ret;exact⟨rfl,_,rfl⟩
theorem DT(b:Nat)(S:Nat→Prop)(L:List Int)(w:oZ)(h:Queue w b S L)(a:L.length<100000000):re prog 284 #[J (Z ⟨b,0,N⟩)] w (RW L.length w):=by obtain⟨v1,v2,f,k,h,rfl,rfl⟩:=h;simp at a;have:=TX b v1 v2 f k w h (by omega);simpa using this
theorem Q.TY{W w1:oZ}{a:qY}{m:List Int}{tmp:Obj}(h:Q W b v1 v2 f k)(t:Ju (W.alloc tmp) 0 v2 k m a w1):Cx w1 b #[v1,v2] 203∧Q (w1.setCell ⟨b,1,N⟩ a) b v1 a f (k++m)∧Cv (Qf b v1 v2) W (w1.setCell ⟨b,1,N⟩ a)∧Gr (Qf b v1 v2) (Qf b v1 a) W:=by
 obtain⟨p,q,y,r,s,n3⟩:=h;obtain⟨u,l,n⟩:=t;have v:=p.lt;have g:Cx w1 b #[v1,v2] 203:=(p.alloc tmp).kept l (BT s);have o:CF w1 0 v1 f:=(q.alloc tmp).kept l (by cases w:v1.ownBlock with|none=>exact .inl rfl|some j=>exact .inr (fun e=>n3 j w e.symm));have i: ∀j,a.ownBlock=Z j→j≠b:=fun j d e=>by
  rcases n j d with c|c
  ·exact s (by rw[c,e])
  ·simp at c;omega
 have x: ∀j,v1.ownBlock=Z j→a.ownBlock≠Z j:=fun j d e=>by
  rcases n j e with c|c
  ·exact n3 j d c
  ·have:=(q.lt j d).2
   simp at c;omega
 refine⟨g,⟨g.Mh,o.kept (DK w1 b 1 a) (.inr r),u.kept (DK w1 b 1 a) (.inr (fun e=>i b e rfl)),r,fun e=>i b e rfl,x⟩,?_,?_⟩
 ·exact((((Cv.refl _ W).alloc tmp).grown l (fun j e=>.inr (.inr (.inr e)))).set (.inr (.inl rfl)) 1 a)
 ·rintro j(rfl|d|d)
  ·exact .inl (.inl rfl)
  ·exact .inl (.inr (.inl d))
  ·rcases n j d with c|c
   ·exact .inl (.inr (.inr c))
   ·exact .inr (by simp at c;omega)
theorem Ka(L:List Int)(k:Nat)(h:k<L.length):(L.take (k+1)).filter (fun p=>decide (1≤p))=(L.take k).filter (fun p=>decide (1≤p))++(if 1≤L[k]?.getD 0 then [L[k]?.getD 0]else []):=by
 rw[A8 h,Zax];simp only[h,Ae,AQ];by_cases a:1≤L[k]
 ·simp[a]
 ·simp[a]
def right(l:List Int):List Int:=l.filter (fun p=>decide (1≤p))
def TZ(b:Nat)(v1 v2:qY)(f c:List Int)(w:oZ)(e:rB)(w':oZ):Prop:=e=rC (I U ((f.length:Int)+c.length))∧ ∃a,Q w' b v1 a f c∧Cv (Qf b v1 v2) w w'∧Gr (Qf b v1 v2) (Qf b v1 a) w
theorem kX(b:Nat)(v1 v2:qY)(f k:List Int)(u:qY)(l:List Int)(w:oZ)(h:Q w b v1 v2 f k)(hu:DB w u l)(P:H4 (Qf b v1 v2) u)(hl:f.length+k.length+l.length<100000000):re prog 243 #[J (Z ⟨b,0,N⟩),u] w (TZ b v1 v2 f (k++right l) w):=by
 obtain⟨a,cap,rfl⟩:=hu.len;have V:=Aa hu;have W:=Aa P;clear P;have X:=h.1.lt;go_enter func243,ntmps243;go_wp2;go_loopw [11] (fun i wr=> ∃(q:Nat)(o:qY),q≤l.length∧i=I U q∧Q wr b v1 o f (k++(l.take q).filter (fun p=>decide (1≤p)))∧Cv (Qf b v1 v2) w wr∧Gr (Qf b v1 v2) (Qf b v1 o) w) (fun i _=>l.length-(intOf i).toNat)
 case atStart=>exact⟨0,v2,Ap _,rfl,by simpa using h,Cv.refl _ _,Gr.refl _ _⟩
 case round=>
  obtain⟨q,o,hq,rfl,d,g,r⟩:=hrel;have G:((l.take q).filter (fun p=>decide (1≤p))).length≤q:=AE (Ce _ _) (by rw[AN];omega);obtain⟨z,v⟩: ∃z,Hid (k++(l.take q).filter (fun p=>decide (1≤p))=z):=⟨_,rfl⟩;rw[v.out]at d;have aa:z.length≤k.length+q:=by rw[←v.out];simp;omega
  clear G;by_cases s:q<l.length
  ·have B:=V.out.only g W.out
   rcases B.open with⟨_,H⟩|⟨_,_,_,H⟩|⟨bu,off,R,he,_,_,ab,c⟩
   ·simp[H]at s
   ·simp[H]at s
   simp only[Ar]at he;obtain⟨rfl,_,rfl⟩:=he;have cu:=c q s;have F:=Aa (Ka l q s);clear c B;generalize l[q]?.getD 0=x at*
   have c1:=d.1.cell 1;have f1:=d.1.free 1;have ad:=d.1.lt;simp only[Ad,Ac,Ag]at c1;by_cases S:1≤x
   ·rw[Ai S]at F
    have A:=Aa d;have t:=d.2.2.1;have C:=Aa t;clear d t;have m:z.length+ [x].length<100000000:=by simp;omega
    have D:=Aa m;clear m;go_wp2_with(at_builtin;refine Jf underlying22 Dw 0 _ rfl _ _ rfl _ _ _ [x] rfl rfl (C.out.alloc _) (DB.Fc wr x) (Ap _) D.out ?_;intro v' w1 T;obtain⟨g',K,rfl⟩:=T.some;obtain⟨y,E,L,M⟩:=A.out.TY T;have d1:=y.cell 1;simp only[Ad,Ac,Ag]at d1;have e1:=y.free 1;have O:=Aa E;clear E y);go_roundw
    case rel=>exact⟨q+1,_,by omega,by go_num,by rw[F.out,←AR,v.out];exact O.out,g.andThen L (fun j hj hs=>(r j hs).elim id (fun x=>by omega)),r.trans M g.size⟩
    case measure=>simp[intOf];omega
   ·rw[Ah S,Cf]at F
    have A:=Aa d;clear d;go_wp2;go_roundw
    case rel=>exact⟨q+1,_,by omega,by go_num,by rw[F.out,v.out];exact A.out,g,r⟩
    case measure=>simp[intOf];omega
  ·obtain rfl:q=l.length:=by omega
   rw[BJ]at v;have A:=Aa d;clear d;go_wp2_with fail;refine(TX _ _ _ _ _ _ A.out (by omega)).mono ?_;rintro e w2⟨rfl,n,rfl⟩;go_wp2_with fail;go_ret;exact⟨by rw[show k++right l=z from v.out];rfl,o,by rw[show k++right l=z from v.out];exact A.out.drewN n,g.drewN n,r⟩
end
section
open Go.Proofs.Tryz Go.RowKit Go.CL
variable {W:oZ} {b g m cap n:Nat} {v1 v2:qY} {f k:List Int}
theorem Cv.F5{S:Nat→Prop}{w w':oZ}(h:Cv S w.drew w'):Cv S w w':=⟨h.os,h.tape,h.output,h.size,h.block⟩
theorem Q.PI{w1:oZ}{a:qY}{m:List Int}{tmp:Obj}(h:Q W b v1 v2 f k)(t:Ju (W.alloc tmp) 0 v1 f m a w1):Cx w1 b #[v1,v2] 203∧Q (w1.setCell ⟨b,0,N⟩ a) b a v2 (f++m) k∧Cv (Qf b v1 v2) W (w1.setCell ⟨b,0,N⟩ a)∧Gr (Qf b v1 v2) (Qf b a v2) W:=by
 obtain⟨p,y,q,r,s,n3⟩:=h;obtain⟨u,l,n⟩:=t;have v:=p.lt;have g:Cx w1 b #[v1,v2] 203:=(p.alloc tmp).kept l (BT r);have o:CF w1 0 v2 k:=(q.alloc tmp).kept l (by cases w:v2.ownBlock with|none=>exact .inl rfl|some j=>exact .inr (fun e=>n3 j e.symm w));have i: ∀j,a.ownBlock=Z j→j≠b:=fun j d e=>by
  rcases n j d with c|c
  ·exact r (by rw[c,e])
  ·simp at c;omega
 have x: ∀j,a.ownBlock=Z j→v2.ownBlock≠Z j:=fun j d e=>by
  rcases n j d with c|c
  ·exact n3 j c e
  ·have:=(q.lt j e).2
   simp at c;omega
 refine⟨g,⟨g.RH,u.kept (DK w1 b 0 a) (.inr (fun e=>i b e rfl)),o.kept (DK w1 b 0 a) (.inr s),fun e=>i b e rfl,s,x⟩,?_,?_⟩
 ·exact((((Cv.refl _ W).alloc tmp).grown l (fun j e=>.inr (.inr (.inl e)))).set (.inr (.inl rfl)) 0 a)
 ·rintro j(rfl|d|d)
  ·exact .inl (.inl rfl)
  ·rcases n j d with c|c
   ·exact .inl (.inr (.inl c))
   ·exact .inr (by simp at c;omega)
  ·exact .inl (.inr (.inr d))
theorem Q.cY(h:Q W b v1 (Y (Z ⟨g,0,N⟩) m cap) f k)(e:n≤k.length):Q (W.setCell ⟨b,1,N⟩ (Y (Z ⟨g,0,N⟩) n cap)) b v1 (Y (Z ⟨g,0,N⟩) n cap) f (k.take n):=by obtain⟨i,j,l,c,d,n3⟩:=h;have a:=l.shrink n e;exact⟨i.Mh,j.kept (DK W b 1 _) (.inr c),a.kept (DK W b 1 _) (.inr d),c,d,n3⟩
theorem Q.Yd(h:Q W b (Y (Z ⟨g,0,N⟩) m cap) v2 f k)(e:n≤f.length):Q (W.setCell ⟨b,0,N⟩ (Y (Z ⟨g,0,N⟩) n cap)) b (Y (Z ⟨g,0,N⟩) n cap) v2 (f.take n) k:=by obtain⟨i,j,l,c,d,n3⟩:=h;have a:=j.shrink n e;exact⟨i.RH,a.kept (DK W b 0 _) (.inr c),l.kept (DK W b 0 _) (.inr d),c,d,n3⟩
theorem Ye(k:List Int)(j:Nat)(h:j<k.length):(k.drop j).reverse=(k.drop (j+1)).reverse++[k[j]?.getD 0]:=by rw[A0 h,List.reverse_cons];simp[h]
def Yf(b:Nat)(v1 v2:qY)(k:List Int)(w:oZ)(e:rB)(w':oZ):Prop:=(∃v,e=rC v)∧ ∃a c,Q w' b a c k.reverse []∧Cv (Qf b v1 v2) w w'∧Gr (Qf b v1 v2) (Qf b a c) w
theorem iR(b:Nat)(v1 v2:qY)(k:List Int)(w:oZ)(h:Q w b v1 v2 [] k)(hl:k.length<10000000):re prog 285 #[J (Z ⟨b,0,N⟩)] w (Yf b v1 v2 k w):=by
 have X:=h.1.lt;have c0:=h.1.cell 0;simp only[Ad,Ac]at c0;obtain⟨R,S,rfl⟩:=Dh h.2.1;rw[show([]:List Int).length=0 from rfl]at*
 have HH:=Aa h;clear h;go_enter func285,ntmps285;go_wp2;go_step3;go_wp2;go_step3;go_wp2;go_loopg [2] k.length (fun gk _ wr=> ∃(l m:qY),gk≤k.length∧Q wr b l m (k.drop gk).reverse (k.take gk)∧Cv (Qf b (.slice R 0 S) v2) w wr∧Gr (Qf b (.slice R 0 S) v2) (Qf b l m) w)
 case atStart=>exact⟨_,_,Al _,by simpa using HH.out,Cv.refl _ _,Gr.refl _ _⟩
 case round=>
  obtain⟨l,m,aa,c,o,i⟩:=hrel;have d0:=c.1.cell 0;have d1:=c.1.cell 1;have f0:=c.1.free 0;have f1:=c.1.free 1;have ab:=c.1.lt;simp only[Ad,Ac,Ag]at d0 d1;cases gk with
  |zero=>
   obtain⟨a2,p2,rfl⟩:=Dh c.2.2.1;rw[show(k.take 0).length=0 from by simp]at*
   have D:=Aa c;clear c c0;go_wp2;rw[Exit.noGoto_normal];go_end0;exact⟨⟨_,rfl⟩,_,_,by simpa using D.out,o,i⟩
  |succ j=>
   have E:j<k.length:=by omega
   have T:=Aa (Ye k j E);have d:(k.take (j+1)).length=j+1:=by simp;omega
   have HL:=Aa d;obtain⟨B,q⟩: ∃B,Hid ((k.drop (j+1)).reverse=B):=⟨_,rfl⟩;have V:B.length≤k.length:=by rw[←q.out,Zbx,BW];omega
   obtain⟨C,p⟩: ∃C,Hid (k.take (j+1)=C):=⟨_,rfl⟩;have F:Hid (C.take j=k.take j):=by show _=_;rw[←p.out,Zb5];congr 1;omega
   have e:C[j]?.getD 0=k[j]?.getD 0:=by rw[←p.out,AK (by omega)]
   rw[p.out]at c d;rw[q.out]at c T;rcases c.2.2.1.open with⟨_,h0⟩|⟨g,cap,rfl,_,hg,r,a⟩
   ·rw[h0]at d;simp at d
   rw[d]at r a d1 c i;have cx:=a j (by omega);rw[e]at cx;clear e;generalize k[j]?.getD 0=x at*
   have D:=Aa c;have s:=Aa c.2.1;have t:B.length+ [x].length<100000000:=by simp;omega
   have G:=Aa t;have H:=Aa d;clear c a t HL d c0;have ad:(j:Int)<(j:Int)+1:=by omega
   have ae:decide ((j:Int)<0)=false:=by simp
   go_wp2;go_region_law(refine XJ underlying22 Dw 0 _ rfl (.tmp 21) (.tmp 29) rfl _ _ _ [x] (by simp[Act.eval]) (by simp[Act.eval]) (s.out.alloc _) (DB.Fc _ x) (Ap _) G.out ?_;intro v' w1 K;obtain⟨g',W,rfl⟩:=K.some;obtain⟨f,u,v,y⟩:=D.out.drew.PI (tmp:=rD #[I U x] 3) K;have q0:=f.cell 0;have q1:=f.cell 1;have af:=f.free 0;have ag:=f.free 1;simp only[Ad,Ac,Ag]at q0 q1;have L:=Aa u;have M:=Aa v;have O:=Aa y;clear u f v y K)
   all_goals
    go_wp2;go_roundg j
    case rel=>
     refine⟨_,_,by omega,by rw[T.out,←F.out];exact(L.out.cY (n:=j) (by rw[H.out];omega)),?_,?_⟩
     ·exact(o.andThen (Cv.F5 (M.out.set (.inr (.inl rfl)) 1 _)) (fun P z hs=>(i P hs).elim id (fun x=>by omega)))
     ·intro P z
      refine(i.trans (w':=wr) O.out o.size) P ?_;rcases z with A|A|A
      ·exact .inl A
      ·exact .inr (.inl A)
      ·exact .inr (.inr A)
    case measure=>omega
end
section
open Go.Proofs.Tryz Go.RowKit Go.CL
variable {S S2:Nat→Prop} {wr w2 w3:oZ} {base b:Nat} {v v':qY} {l m M:List Int}
def cZ(b:Nat)(v1 v2:qY)(L:List Int)(w:oZ)(e:rB)(w':oZ):Prop:=(∃v,e=rC v)∧ ∃a c f' d,Q w' b a c f' d∧f'.reverse++d=L∧f'≠[]∧Cv (Qf b v1 v2) w w'∧Gr (Qf b v1 v2) (Qf b a c) w
theorem Vk(b:Nat)(v1 v2:qY)(f k:List Int)(w:oZ)(h:Q w b v1 v2 f k)(a:f≠[]):re prog 285 #[J (Z ⟨b,0,N⟩)] w fun e w'=>(∃v,e=rC v)∧w=w':=by
 have c0:=h.1.cell 0;simp only[Ad,Ac]at c0;obtain⟨d,g,rfl⟩:=Dh h.2.1;have c:0<f.length:=Ci.2 a;have i:decide ((0:Int)<(f.length:Int))=true:=by rw[Bc];omega
 clear h a;go_enter func285,ntmps285;go_wp2;go_step3;go_wp2;try rw[Bp]
 refine AG (results_none rfl _ _ _) rfl ?_;exact⟨⟨_,rfl⟩,rfl⟩
theorem Yg(b:Nat)(v1 v2:qY)(f k:List Int)(w:oZ)(h:Q w b v1 v2 f k)(i:k.length<10000000)(a:f.reverse++k≠[]):re prog 285 #[J (Z ⟨b,0,N⟩)] w (cZ b v1 v2 (f.reverse++k) w):=by
 by_cases c:f=[]
 ·subst c
  refine(iR b v1 v2 k w h i).mono ?_;rintro e w'⟨he,d,g,j,l,m⟩;exact⟨he,d,g,_,_,j,by simp,by simpa using a,l,m⟩
 ·refine(Vk b v1 v2 f k w h c).mono ?_
  rintro e w'⟨he,rfl⟩;exact⟨he,v1,v2,f,k,h,rfl,c,Cv.refl _ _,Gr.refl _ _⟩
def GD(b:Nat)(S:Nat→Prop)(L:List Int)(w:oZ)(e:rB)(w':oZ):Prop:=e=rC (.tuple #[I U (L.headD 0),.bool (!L.isEmpty)])∧ ∃a,Queue w' b a L.tail∧Cv S w w'∧Gr S a w
theorem da{f:List Int}(h:f≠[]): ∃p x,f=p++[x]∧f.length=p.length+1:=by
 rcases List.eq_nil_or_concat f with a|⟨p,x,rfl⟩
 ·exact absurd a h
 ·exact⟨p,x,by simp,by simp⟩
theorem FU(b:Nat)(S:Nat→Prop)(L:List Int)(w:oZ)(h:Queue w b S L)(O:L.length<10000000):re prog 240 #[J (Z ⟨b,0,N⟩)] w (GD b S L w):=by
 by_cases C:L=[]
 ·subst C
  have i:=Aa (DT b S [] w h (by simp));have P:=Aa h;clear h;go_enter func240,ntmps240;go_wp2_with fail;refine i.out.mono ?_;rintro e Q⟨rfl,n,rfl⟩;go_wp2_with fail;go_ret2;exact⟨rfl,S,P.out.drewN n,(Cv.refl _ _).drewN n,Gr.refl _ _⟩
 ·have i:=Aa (DT b S L w h (by omega))
  have R:0<L.length:=Ci.2 C;have T:((L.length:Int)==0)=false:=by rw[Au];omega
  obtain⟨v1,v2,f,k,H,rfl,rfl⟩:=h;have D:k.length<10000000:=by simp at O;omega
  have V:=Aa (fun n=>Yg b v1 v2 f k _ (H.drewN n) D C);generalize s:f.reverse++k=L at*
  have W:=Aa s;clear s H;go_enter func240,ntmps240;go_wp2_with fail;refine i.out.mono ?_;rintro e Q⟨rfl,n,rfl⟩;go_wp2_with fail;refine(V.out n).mono ?_;rintro e w2⟨⟨v,rfl⟩,X,E,f',K,c,t,q,d,u⟩;obtain⟨p,x,l,y⟩:=da q;have d0:=c.1.cell 0;have f0:=c.1.free 0;have aa:=c.1.lt;simp only[Ad,Ac]at d0;rcases c.2.1.open with⟨_,h0⟩|⟨g,cap,rfl,_,hg,z,a⟩
  ·exact absurd h0 q
  rw[y]at d0 z a c;have F:=a p.length (by omega);rw[l]at F;rw[AJ (Al _)]at F;simp only[Cg,Ac,AQ]at F;have m:p.length≤f'.length:=by omega
  have A:=Aa (c.Yd (n:=p.length) m);have B:f'.take p.length=p:=by rw[l];simp
  rw[B]at A;have G:Hid (L=x::(p.reverse++K)):=by show _=_;rw[←t,l];simp
  have o:Cv (Qf b v1 v2) w w2:=⟨d.os,d.tape,d.output,d.size,d.block⟩;have HO:=Aa (o.set (.inr (.inl rfl)) 0 (Y (Z ⟨g,0,N⟩) p.length cap));have HG:=Aa u;have M:(p.length:Int)<(p.length:Int)+1:=by omega
  have ab:p.length<10000000:=by have r:=Aq List.length G.out;simp at r;omega
  clear a c t q d u y m B l o;go_wp2_with fail;go_ret2;refine⟨by rw[G.out];rfl,Qf b (Y (Z ⟨g,0,N⟩) p.length cap) E,⟨_,_,p,K,A.out,by rw[G.out];rfl,rfl⟩,HO.out,?_⟩;intro j hj;refine(HG.out j ?_).elim .inl (fun h=>.inr h);rcases hj with r|r|r
  ·exact .inl r
  ·exact .inr (.inl r)
  ·exact .inr (.inr r)
def Vl(b:Nat)(S:Nat→Prop)(L:List Int)(n:Nat)(w:oZ)(e:rB)(w':oZ):Prop:= ∃v a,e=rC v∧CF w' w.heap.size v (L.take n)∧Queue w' b a (L.drop n)∧Cv S w w'∧Gr S a w∧H4 a v
theorem Vn(L:List Int)(i:Nat)(h:i<L.length):L.take (i+1)=L.take i++[(L.drop i).headD 0]:=by rw[A0 h,A8 h];rfl
theorem H4.app{o:Obj}(a:H4 S v)(c:CF wr base v l)(f:Gr S S2 wr)(g:Ju (w2.alloc o) base v l m v' w3)(i:Queue w2 b S2 M):H4 S2 v':=by
 intro j d e;rcases g.2.2 j d with h|h
 ·exact H4.gr a f (fun j d=>(c.lt j d).2) j h e
 ·have:=i.lt e
  simp at h;omega
theorem Queue.app{o:Obj}(a:H4 S v)(c:CF wr base v l)(e:Gr S S2 wr)(f:Ju (w2.alloc o) base v l m v' w3)(g:Queue w2 b S2 M):Queue w3 b S2 M:=by refine g.only (T:=fun j=>v.ownBlock=Z j) (((Cv.refl _ w2).alloc o).grown f.2.1 (fun k h=>.inr h)) ?_;intro j i d;exact H4.gr a e (fun j d=>(c.lt j d).2) j d i
theorem Vo(b:Nat)(S:Nat→Prop)(L:List Int)(p m:Int)(w:oZ)(h:Queue w b S L)(hl:L.length<10000000):re prog 242 #[J (Z ⟨b,0,N⟩),I U p,I U m] w (Vl b S L (FP L.length p m).toNat w):=by
 have y:=Aa (DT b S L w h (by omega));have hm:=cX L.length p m (by omega);obtain⟨n,K⟩:=AA hm.1;have c:=Aa (fun w=>Yc L.length p m w (by omega));rw[K]at c hm⊢;clear K;simp only[An];have hn:n≤L.length:=by omega
 have P:=Aa h;clear h;go_enter func242,ntmps242;go_wp2_with fail;refine y.out.mono ?_;rintro e Q⟨rfl,d,rfl⟩;go_wp2_with fail;refine(c.out _).mono ?_;rintro e Q⟨rfl,rfl⟩;go_wp2_with fail;go_loopw [6,17] (fun v i wr=> ∃(q:Nat)(u:Nat→Prop),q≤n∧i=I U q∧CF wr w.heap.size v (L.take q)∧Queue wr b u (L.drop q)∧Cv S w wr∧Gr S u w∧H4 u v) (fun _ i _=>n-(intOf i).toNat)
 case atStart=>exact⟨0,S,Ap _,rfl,by simpa using CF.nil _ _,by simpa using P.out.drewN d,(Cv.refl _ _).drewN d,Gr.refl _ _,H4.nil _⟩
 case round=>
  obtain⟨q,u,hq,rfl,f,E,C,F,g⟩:=hrel;by_cases R:q<n
  ·have z:q<L.length:=by omega
   have T:=Aa (Vn L q z);have V:Hid ((L.drop q).tail=L.drop (q+1)):=by show _=_;rw[List.tail_drop]
   have A:(L.drop q).length<10000000:=by rw[BW];omega
   have k:=Aa (FU b u (L.drop q) wr E A);have G:(L.take q).length≤q:=List.length_take_le _ _;have a:=Aa f;have l:=Aa g;have o:(L.take q).length+ [(L.drop q).headD 0].length<100000000:=by simp;omega
   have H:=Aa o;have M:(L.drop q).isEmpty=false:=by rw[A0 z];rfl
   unfold GD at k;rw[M]at k;generalize(L.drop q).headD 0=x at*
   have W:=C.size;clear E o f g G A M;go_wp2_with fail;refine k.out.mono ?_;rintro e w2⟨rfl,S2,r,s,t⟩;rw[V.out]at r;have B:=Aa r;clear r;go_wp2_with(at_builtin;refine Jf underlying22 Dw w.heap.size _ rfl _ _ rfl _ _ _ [x] rfl rfl ((a.out.off s l.out).alloc _) (DB.Fc w2 x) (by have:=s.size;simp;omega) H.out ?_;intro v' w3 D);go_roundw
   case rel=>exact⟨q+1,S2,by omega,by go_num,by rw[T.out];exact D.1,Queue.app l.out a.out t D B.out,((C.andThen s (fun j O X=>(F j X).elim id (fun x=>by omega))).alloc _).grown D.2.1 (fun j O=>.inl (a.out.lt j O).1),F.trans t C.size,H4.app l.out a.out t D B.out⟩
   case measure=>simp[intOf];omega
  ·obtain rfl:q=n:=by omega
   go_wp2;go_ret;exact⟨_,u,rfl,f,E,C,F,g⟩
end
section
open Go.Proofs.Tryz Go.RowKit Go.CL
def Nf(b:Nat)(S:Nat→Prop)(L:List Int)(w:oZ)(e:rB)(w':oZ):Prop:=e=rC (I U L.length)∧ ∃a,Queue w' b a L∧Cv S w w'∧Gr S a w
theorem EG(b:Nat)(S:Nat→Prop)(L:List Int)(u:qY)(l:List Int)(w:oZ)(h:Queue w b S L)(hu:DB w u l)(c:H4 S u)(d:L.length+l.length<100000000):re prog 243 #[J (Z ⟨b,0,N⟩),u] w (Nf b S (L++right l) w):=by obtain⟨v1,v2,f,k,h,rfl,rfl⟩:=h;refine(kX b v1 v2 f k u l w h hu c (by simp at d;omega)).mono ?_;rintro e w'⟨rfl,a,g,i,j⟩;exact⟨by simp,_,⟨v1,a,f,_,g,by simp,rfl⟩,i,j⟩
end
section
open Go.Proofs.Tryz Go.RowKit Go.Shelf Go.CL
attribute [local go_sem] Oper.semAt_some
variable {u:qY}
theorem Lr(F:Fence)(n:Nat)(b:F.fn 126)(d:F.round=N)(a:Option Addr)(k c:Nat)(w:oZ):CallsIn F n prog 126 #[.slice a k c] w fun e w'=>e=rC (.func (.func 198) #[] #[J (Z ⟨w.heap.size,0,N⟩)])∧w'=w.alloc (rD #[.slice a k c] 22):=by
 refine Zaf func126 rfl b ?_ d;simp only[ntmps126,Bd,AB,AF,Nat.reduceAdd,Nat.reduceSub,Br,Bt,BK,Bw,Bq,Bo];gi_wp2
 go_ret;exact⟨rfl,rfl⟩
theorem Vp{W W':oZ}{l:List Int}(h:DB W u l)(g:W.heap.size≤W'.heap.size)(j: ∀d v,W.cell? d=Z v→W'.cell? d=Z v):DB W' u l:=by
 obtain⟨a,cap,e,f,hm,h|⟨b,off,k,m,c⟩⟩:=h
 ·exact⟨a,cap,e,f,hm,.inl h⟩
 ·exact⟨a,cap,e,f,hm,.inr ⟨b,off,k,Am m g,fun i n=>j _ _ (c i n)⟩⟩
def JC(B:Nat)(u:qY)(W W':oZ):Prop:=(∀v,W.cell? ⟨B,0,N⟩=Z v→W'.cell? ⟨B,0,N⟩=Z v)∧ ∀l,DB W u l→DB W' u l
theorem PJ{B:Nat}{A C D:oZ}(h:JC B u A C)(k:JC B u C D):JC B u A D:=⟨fun v a=>k.1 v (h.1 v a),fun l b=>k.2 l (h.2 l b)⟩
theorem PK{B:Nat}{w:oZ}(W:oZ)(l:Nat)(o a:Obj)(_:w.heap.size≤l)(h:W.heap[l]?=Z o)(c:o.isCells=false)(_:o.isWalk=false):JC B u W (W.putObj l a):=⟨fun _ b=>cell_kept b (grownBy_putObj' W l a) (fun r e=>by cases e;exact⟨o,h,c⟩),fun _ d=>Vp d (grownBy_putObj' W l a).size (fun _ _ b=>cell_kept b (grownBy_putObj' W l a) (fun r e=>by cases e;exact⟨o,h,c⟩))⟩
def Fz(l:List Int)(k:Nat):List (Int×Int):=(List.range k).map fun(i:Nat)=>((l.length:Int)-1-(i:Int),l[l.length-1-i]?.getD 0)
theorem RX(l:List Int)(k:Nat):Fz l (k+1)=Fz l k++[((l.length:Int)-1-k,l[l.length-1-k]?.getD 0)]:=by unfold Fz;rw[B7,Cj];rfl
theorem Nx(l:List Int)(k:Nat):(Fz l k).length=k:=by simp[Fz]
theorem Vq(l:List Int){k m:Nat}(h:k≤m):Fz l k<+:Fz l m:=by unfold Fz;refine List.IsPrefix.map _ ⟨(List.range (m-k)).map (k+ ·),?_⟩;rw[←List.range_add];congr 1;omega
theorem I3(l:List Int):(Fz l l.length).map Prod.snd=l.reverse:=by
 apply Zbl
 ·simp[Fz]
 ·intro i a b
  simp[Fz]at a;simp only[Fz,List.map_map,Zbm,Zb8,Function.comp,List.getElem_reverse];rw[Ae (by omega)];rfl
theorem Mr(F:Fence)(n:Nat)(m:F.fn 198)(o:F.round=N)(X:2≤n)(B:Nat)(u:qY)(l:List Int)(w:oZ)(L:B<w.heap.size)(D:w.cell? ⟨B,0,N⟩=Z u)(hu:DB w u l)(hl:l.length<100000000):SeqStopsK F n prog 198 #[J (Z ⟨B,0,N⟩)] (fun x:Int×Int=>#[I U x.1,I U x.2]) (JC B u) (fun ys=>ys=Fz l l.length) (fun pre=>pre<+:Fz l l.length) l.length w:=by
 intro q b Jx W r _ _ E f;have d1:=(r.cell (p:=⟨B,0,N⟩) L).trans D;have M:=Aa (hu.below r);obtain⟨a,cap,rfl⟩:=hu.len;clear hu r D;refine Zaf func198 rfl m ?_ o;simp only[ntmps198,Bd,AB,AF,Nat.reduceAdd,Nat.reduceSub,Br,Bt,BK,Bw,Bq,Bo];have O:1≤n:=by omega
 have P:1≤n-1:=by omega
 have Q:=Aa E;clear E;gi_wp2
 gi_loopw [3] (fun i wr=> ∃k:Nat,k≤l.length∧i=I U ((l.length:Int)-1-k)∧wr.cell? ⟨B,0,N⟩=Z (.slice a l.length cap)∧DB wr (.slice a l.length cap) l∧b (Fz l k) wr)
  (fun i _=>(intOf i+1).toNat)
 case atStart=>exact⟨0,Ap _,by go_num,d1,M.out,f⟩
 case round=>
  obtain⟨k,hk,rfl,s,t,G⟩:=hrel;by_cases d:k<l.length
  ·rcases t.open with⟨_,f⟩|⟨_,_,_,f⟩|⟨bu,off,H,he,_,_,R,c⟩
   ·simp[f]at d
   ·simp[f]at d
   simp only[Ar]at he;obtain⟨rfl,_,rfl⟩:=he;have S:=c (l.length-1-k) (by omega);have v:=Aa (RX l k);generalize l[l.length-1-k]?.getD 0=x at*
   obtain⟨fn,tmps,assign,body,hy,K⟩:=Q.out _ ((l.length:Int)-1-k,x) wr G (by rw[Nx];exact d);have y:=Aa t;obtain⟨p,T⟩: ∃p:Nat,l.length-1-k=p:=⟨_,rfl⟩;have z:(l.length:Int)-1-k=p:=by omega
   rw[T]at S;rw[z]at K hy v⊢;have V:(p:Int)<(l.length:Int):=by omega
   clear c t;gi_wp2
   refine K.mono ?_;rintro e W3(⟨rfl,A,g⟩|⟨rfl,h⟩)
   ·have j:=g.1 _ s
    have C:=Aa (g.2 _ y.out);gi_wp2
    go_roundw
    case rel=>exact⟨k+1,by omega,by go_num,j,C.out,by rw[v.out];exact A⟩
    case measure=>simp[intOf]
   ·gi_wp2
    refine AG (results_none rfl _ _ _) rfl ?_;exact⟨⟨_,rfl⟩,.inr ⟨_,by rw[←v.out];exact Vq l (by omega),h⟩⟩
  ·obtain rfl:k=l.length:=by omega
   gi_wp2
   go_end0;exact⟨⟨_,rfl⟩,.inl ⟨_,rfl,G⟩⟩
end
section
open Go.Proofs.Tryz Go.RowKit Go.Shelf Go.CL
attribute [local go_sem] Oper.semAt_some
variable {w W:oZ} {size R B:Nat} {v v':qY} {xs:List qY}
theorem KN{P:Program}{c:Code}{K:Act→oZ→Prop}{Q:Exit→Act→oZ→Prop}{a:Act}(h:c.wp P (Exit.then K (fun _ _ _=>False)) a w):c.wp P (Exit.then K Q) a w:=Code.wp_mono (fun e a w h=>by cases e<;>first|exact h|exact h.elim) h
def D9(L:List Int)(w:oZ)(e:rB)(w':oZ):Prop:= ∃v,e=rC v∧CF w' w.heap.size v L∧qZ w.heap.size w w'
theorem Fj{base a:Nat}{e:TypeId}{n:Nat}(h:w.ownsRow base e size v n xs)(c:a≤base):w.ownsRow a e size v n xs:=by
 obtain⟨b,d|⟨g,cap,cur,f,i,j,r⟩⟩:=h
 ·exact⟨b,.inl d⟩
 ·exact⟨b,.inr ⟨g,cap,cur,f,AE c i,j,r⟩⟩
theorem KO{w1:oZ}{Ms:Nat}{t e:TypeId}{k m:Nat}{ys:List qY}{tmp:Obj}(n:Boxed W B t v)(g:t≠e)(d:W.ownsRow R e size v k xs)(f:Ms≤W.heap.size)(o:Ms≤B)(j:Ms≤R)(a:w1.ownsRow R e size v' m ys)(c:(W.alloc tmp).grownBy w1 v.ownBlock):Boxed w1 B t v∧Boxed (w1.setCell ⟨B,0,N⟩ v') B t v'∧(w1.setCell ⟨B,0,N⟩ v').ownsRow R e size v' m ys∧KeepsOthers W (w1.setCell ⟨B,0,N⟩ v')∧qZ Ms W (w1.setCell ⟨B,0,N⟩ v')∧ ∀b,b<R→b≠B→b<W.heap.size→(w1.setCell ⟨B,0,N⟩ v').heap[b]?=W.heap[b]?:=by obtain⟨l,p,_,q,r⟩:=n.appended g (Fj d j) f o (Fj a j) c;refine⟨l,p,a.kept (grownBy_setCell' w1 B v') (.inr (l.not_row g a).symm),q,r,fun b s h i=>?_⟩;rw[Zah _ _ _ b h,c.block b (by simp;omega) ?_,Cn _ _ _ i];intro e;have:=(d.lt b e.symm).1;omega
theorem Vs{c:Nat}{W':oZ}{u:qY}(h: ∀k,k<R→k≠B→k<W.heap.size→W'.heap[k]?=W.heap[k]?) (n:W.heap.size≤W'.heap.size) (o:c≠B) (d:c<R) (hu: ∀j,u.ownBlock=Z j→j<R∧j≠B):JC c u W W':=by
 refine⟨fun _ f=>(AH (h c d o (EJ f))).trans f,fun l p=>?_⟩;obtain⟨a,cap,rfl,g,hm,q|⟨b,off,rfl,m,e⟩⟩:=p
 ·exact⟨a,cap,rfl,g,hm,.inl q⟩
 ·have:=hu b rfl
  exact⟨_,cap,rfl,g,hm,.inr ⟨b,off,rfl,Am m n,fun i r=>(AH (h b this.1 this.2 m)).trans (e i r)⟩⟩
theorem Yh{w3:oZ}{l k:List Int}{E:Nat}(r:qZ w.heap.size w W)(B:w.heap.size+2≤W.heap.size)(s:Ju W.drew w.heap.size v l k v' w3)(t:Cx W w.heap.size #[v] 22)(C:w.heap.size+2≤E)(q:W.heap[E]?=Z (.deferred (Z [])))(b:CF W w.heap.size v l)(c:Z w.heap.size≠v.ownBlock)(d:Z E≠v.ownBlock):(w3.setCell ⟨w.heap.size,0,N⟩ v').heap[E]?=Z (.deferred (Z []))∧((w3.setCell ⟨w.heap.size,0,N⟩ v').putObj E (.deferred N)).cell? ⟨w.heap.size,0,N⟩=Z v'∧CF ((w3.setCell ⟨w.heap.size,0,N⟩ v').putObj E (.deferred N)) w.heap.size v' (l++k)∧qZ w.heap.size w ((w3.setCell ⟨w.heap.size,0,N⟩ v').putObj E (.deferred N)):=by
 obtain⟨u,f,x⟩:=s;have g:E<W.heap.size:=(Bi.1 q).1;have i:w3.heap[E]?=Z (.deferred (Z [])):=(f.block E g d).trans q;have a:(w3.setCell ⟨w.heap.size,0,N⟩ v').heap[E]?=Z (.deferred (Z [])):=(Zah w3 ⟨w.heap.size,0,N⟩ v' E (fun(e:E=w.heap.size)=>by omega)).trans i;have m:Cx w3 w.heap.size #[v] 22:=t.drew.kept f c;have n:Cx (w3.setCell ⟨w.heap.size,0,N⟩ v') w.heap.size #[v'] 22:=m.set 0 v';have o:v'.ownBlock≠Z w.heap.size:=fun e=>by
  rcases x _ e with h|h
  ·exact c h.symm
  ·have D:W.heap.size≤w.heap.size:=h
   omega
 refine⟨a,?_,?_,?_⟩
 ·have p:=n.kept (grownBy_putObj' _ E (.deferred N)) (by simp;omega)
  exact p.cell 0
 ·have y:CF (w3.setCell ⟨w.heap.size,0,N⟩ v') w.heap.size v' (l++k):=u.kept (DK w3 w.heap.size 0 v') (.inr o)
  exact ownsRow_putObj y _ a rfl
 ·have z:qZ w.heap.size w w3:=CI r ((RG W _).trans f) (fun j A=>(b.lt j A).1)
  exact(C2 z (Al _) 0 v').trans (belowK_b (w:=w) (Al _) _ E _ _ (by omega) a rfl rfl)
theorem iS(b:Nat)(v1 v2:qY)(f k:List Int)(w:oZ)(h:Q w b v1 v2 f k)(hl:f.length+k.length<10000000):re prog 61 #[J (Z ⟨b,0,N⟩)] w (D9 (f.reverse++k) w):=by
 have V:=Aa h;have c0:=h.1.cell 0;simp only[Ad,Ac]at c0;obtain⟨q,s,rfl⟩:=Dh h.2.1;have ai:=h.1.lt;clear h;refine(callsIn_wide (n:=4)).1 ?_;refine callsIn_of_wp_marks func61 rfl trivial ?_ rfl;simp only[ntmps61,Bd,AB,AF,Nat.reduceAdd,Nat.reduceSub,Br,Bt,BK,Bw,Bq,Bo];gi_wp2_with fail
 refine⟨trivial,(Lr Fence.wide 3 trivial rfl _ _ _ _).mono ?_⟩;rintro e w'⟨rfl,rfl⟩;gi_wp2_with fail
 obtain⟨i0,hi,z,A,B⟩:=info_parts Dw;have bO:=Boxed.new w 22 (Y N 0 0);have X:=Boxed.new (w.alloc (rD #[Y N 0 0] 22)) 22 (.slice q f.length s);simp only[World.size_alloc]at X;have C:qZ w.heap.size w ((w.alloc (rD #[Y N 0 0] 22)).alloc (rD #[.slice q f.length s] 22)):=Ct (Ct (rf _ _) _) _;have hu: ∀j,(Value.slice q f.length s).ownBlock=Z j→j<w.heap.size:=fun j hj=>(V.out.2.1.lt j hj).2;have D:DB ((w.alloc (rD #[Y N 0 0] 22)).alloc (rD #[.slice q f.length s] 22)) (.slice q f.length s) f:=((DB.Eh V.out.2.1).alloc _).alloc _
 refine wpIn_rangeFunc_ownG rfl (by decide) (gf:=198) (lb:=#[J (Z ⟨w.heap.size+1,0,N⟩)]) rfl trivial (enters_of func198 (by kernel_rfl) rfl)
  (Mr Fence.wide (4-1) trivial rfl (by decide) (w.heap.size+1) (.slice q f.length s) f _ (by simp<;>omega) X.cell D (by omega)) PJ PK (rf _ _) (fun _=>rfl)
  (fun(pre:List (Int×Int)) W=>(∃v,Boxed W w.heap.size 22 v∧W.ownsRow (w.heap.size+2) 3 1 v pre.length ((pre.map Prod.snd).map (I U))∧True)∧qZ w.heap.size w W∧w.heap.size+2≤W.heap.size)
  (fun _ _ _=>False)
  (OwnFrom.and (Own.from (holdsRow_own (w.heap.size+2) w.heap.size 22 3 1 (fun pre:List (Int×Int)=>pre.length) (fun pre=>(pre.map Prod.snd).map (I U)) (fun _ _=>True)) _) (OwnFrom.and (ownFrom_below (Al _) (by simp<;>omega)) (fun _ _ _ _ hs hg _=>AE hs hg.size)))
  (fun _ _ _ _ _ hs _ _=>hs)
  ⟨⟨_,bO.alloc _,AL _ _ _ _,trivial⟩,C,by simp<;>omega⟩
  (fun x=>{tmps:=#[J (Z ⟨b,0,N⟩),undef,J (Z ⟨w.heap.size,0,N⟩),undef,I U x.2,J (Z ⟨b,0,N⟩),.bool false,J (Z ⟨b,0,N⟩),J (Z ⟨b,0,N⟩),J (Z ⟨b,0,N⟩),.slice q f.length s,.func (.func 198) #[] #[J (Z ⟨w.heap.size+1,0,N⟩)],I U x.1,I U x.2,undef,undef,undef,undef,undef,undef,undef,undef,undef,undef],defers:=[]}) ?assign ?body ?done ?stop
 case assign=>
  intro l x W K S;gi_wp2
  exact S
 case body=>
  rintro l pre x W⟨⟨v,i,a,_⟩,t,hS⟩aj;have hc:=i.cell;gi_wp2_with (gi_at_builtin;refine wpListIn_append_own _ rfl _ _ 22 rfl (w.heap.size+2) 3 i0 (I U 0) 1 8 underlying22 hi z A B rfl (by decide) _ _ _ rfl (a.alloc _) ⟨W.heap.size,0,N⟩ 1 1 [I U x.2] rfl rfl (cell_one_new _ _ _) (by simp[Value.oneCell']) (by unfold maxLen;omega) (by omega) (by simp;omega) ?_;intro v' w3 d u _;obtain⟨g',F,rfl⟩:=ownsRow_succ d;obtain⟨G,aa,ab,ad,y,ae⟩:=KO (Ms:=w.heap.size) i (by decide) a t.size (Al _) (by omega) d u;have ak:=G.cell;have ao:=G.frozen)
  exact⟨ad.from _,Vs ae y.size (by omega) (by omega) (fun j hj=>by have:=hu j hj;omega),⟨_,aa,by simpa using ab,trivial⟩,t.trans y,AE hS y.size⟩
 case done=>
  rintro E ys W hE rfl⟨⟨v,i,a,_⟩,t,hS⟩S;have hc:=i.cell;have aq:=i.frozen;have m:=V.out.below t;have c1:=m.1.cell 1;simp only[Ad,Ac,Ag]at c1;have o:CF W w.heap.size v f.reverse:=by have h':=Fj a (show w.heap.size≤w.heap.size+2 by omega);rw[I3,Nx]at h';unfold CF;rwa [Zbx]
  have H:=DB.Eh m.2.2.1;have hlen:f.reverse.length+k.length<100000000:=by rw[Zbx];omega
  have af:=Aa H;have p:=Aa o;have L:=Aa hlen;have ar:=t.size;have HB:=Aa t;have HV:=Aa i;have M:Hid (Z w.heap.size≠v.ownBlock):=fun e=>by have:=(a.lt _ e.symm).1;omega
  have ag:Hid ((f.reverse++k).length=f.length+k.length):=by show _=_;simp
  have O:Hid (Z E≠v.ownBlock):=fun e=>by
   obtain⟨h1,⟨h2,_⟩|⟨g,cap,cur,i,hg,hh,r⟩⟩:=a
   ·rw[h2]at e;cases e
   ·rw[i]at e;simp only[ru,Ak]at e;rw[←e,S]at hh;cases hh
  have P:Hid (Cx W w.heap.size #[v] 22):=i;have au:=Aa m;clear m o H hlen i a c0 bO X C hu D hi z A B;gi_wp2_with fail
  refine wpIn_wide.2 ?_;refine KN ?_;go_region_law(refine XJ underlying22 Dw w.heap.size _ rfl (.tmp 18) (.tmp 22) rfl _ _ _ k (by simp[Act.eval]) (by simp[Act.eval]) p.out af.out (by simp;omega) L.out ?_;intro v' w3 T;obtain⟨a',F,rfl⟩:=Dh T.1;have R:=P.out.drew.kept T.2.1 M.out;have q0:=R.cell 0;have qf:=R.free 0;simp only[Ad,Ac]at q0;have HA:=Aa T;clear T)
  all_goals
   gi_wp2
   obtain⟨z1,z2,z3,z4⟩:=Yh t hS HA.out P.out (show w.heap.size+2≤E by simpa using hE) S p.out M.out O.out;rw[ag.out]at z1 z2 z3 z4;refine⟨by simp,.inl ⟨_,_,rfl,run_takeDeferred z1,?_⟩⟩;exact⟨_,by simp[results,results61,go_sem,z2],_,rfl,z3,z4⟩
 case stop=>rintro E c pre W _ _ h _;exact h.elim
end
section
open Go.Proofs.Tryz Go.RowKit Go.CL
def iT(b:Nat)(S:Nat→Prop)(L:List Int)(w:oZ)(e:rB)(w':oZ):Prop:=(∃n,e=rC (I U n))∧ ∃a,Queue w' b a L∧Cv S w w'∧Gr S a w
theorem dd(w1:oZ)(b:Nat)(S:Nat→Prop)(L:List Int)(x:Int)(h:Queue w1 b S L)(i:L.length<10000000):re prog 243 #[J (Z ⟨b,0,N⟩),Y (Z ⟨w1.heap.size,0,N⟩) 1 1] (w1.alloc (rD #[I U x] 3)) (iT b S (L++right [x]) w1):=by
 refine(EG b S L (Y (Z ⟨w1.heap.size,0,N⟩) 1 1) [x] _ (h.below (Ct (rf _ _) _)) (DB.Fc w1 x) ?_ (by simp;omega)).mono ?_
 ·intro j a c
  have:=h.lt c;simp[ru]at a;omega
 ·rintro e w2⟨rfl,S2,d,f,g⟩
  refine⟨⟨_,rfl⟩,S2,d,((Cv.refl _ w1).alloc _).trans f,fun j a=>(g j a).elim .inl (fun x=>.inr ?_)⟩;simp at x;omega
theorem Kb(b:Nat)(S:Nat→Prop)(L:List Int)(w:oZ)(h:Queue w b S L)(a:L.length<10000000):re prog 61 #[J (Z ⟨b,0,N⟩)] w (D9 L w):=by obtain⟨v1,v2,f,k,h,rfl,rfl⟩:=h;exact iS b v1 v2 f k w h (by simp at a;omega)
end
open Go.Proofs.Tryz Go.RowKit Go.CL
theorem iU(b:Nat)(v1 v2:qY)(f k:List Int)(u:qY)(l:List Int)(w:oZ)(h:Q w b v1 v2 f k)(hu:DB w u l)(P:l≠[]→H4 (Qf b v1 v2) u)(hl:f.length+k.length+l.length<100000000):re prog 243 #[J (Z ⟨b,0,N⟩),u] w (TZ b v1 v2 f (k++right l) w):=by
 obtain⟨a,cap,rfl⟩:=hu.len;have V:=Aa hu;have W:=Aa P;clear P;have X:=h.1.lt;go_enter func243,ntmps243;go_wp2;go_loopw [11] (fun i wr=> ∃(q:Nat)(r:qY),q≤l.length∧i=I U q∧Q wr b v1 r f (k++(l.take q).filter (fun p=>decide (1≤p)))∧Cv (Qf b v1 v2) w wr∧Gr (Qf b v1 v2) (Qf b v1 r) w) (fun i _=>l.length-(intOf i).toNat)
 case atStart=>exact⟨0,v2,Ap _,rfl,by simpa using h,Cv.refl _ _,Gr.refl _ _⟩
 case round=>
  obtain⟨q,r,hq,rfl,d,g,s⟩:=hrel;have G:((l.take q).filter (fun p=>decide (1≤p))).length≤q:=AE (Ce _ _) (by rw[AN];omega);obtain⟨z,v⟩: ∃z,Hid (k++(l.take q).filter (fun p=>decide (1≤p))=z):=⟨_,rfl⟩;rw[v.out]at d;have aa:z.length≤k.length+q:=by rw[←v.out];simp;omega
  clear G;by_cases m:q<l.length
  ·have B:=V.out.only g (W.out (by rintro rfl;simp at m))
   rcases B.open with⟨_,H⟩|⟨_,_,_,H⟩|⟨bu,off,R,he,_,_,ab,c⟩
   ·simp[H]at m
   ·simp[H]at m
   simp only[Ar]at he;obtain⟨rfl,_,rfl⟩:=he;have cu:=c q m;have F:=Aa (Ka l q m);clear c B;generalize l[q]?.getD 0=x at*
   have c1:=d.1.cell 1;have f1:=d.1.free 1;have ad:=d.1.lt;simp only[Ad,Ac,Ag]at c1;by_cases S:1≤x
   ·rw[Ai S]at F
    have A:=Aa d;have t:=d.2.2.1;have C:=Aa t;clear d t;have o:z.length+ [x].length<100000000:=by simp;omega
    have D:=Aa o;clear o;go_wp2_with(at_builtin;refine Jf underlying22 Dw 0 _ rfl _ _ rfl _ _ _ [x] rfl rfl (C.out.alloc _) (DB.Fc wr x) (Ap _) D.out ?_;intro v' w1 T;obtain⟨g',K,rfl⟩:=T.some;obtain⟨y,E,L,M⟩:=A.out.TY T;have d1:=y.cell 1;simp only[Ad,Ac,Ag]at d1;have e1:=y.free 1;have O:=Aa E;clear E y);go_roundw
    case rel=>exact⟨q+1,_,by omega,by go_num,by rw[F.out,←AR,v.out];exact O.out,g.andThen L (fun j hj hs=>(s j hs).elim id (fun x=>by omega)),s.trans M g.size⟩
    case measure=>simp[intOf];omega
   ·rw[Ah S,Cf]at F
    have A:=Aa d;clear d;go_wp2;go_roundw
    case rel=>exact⟨q+1,_,by omega,by go_num,by rw[F.out,v.out];exact A.out,g,s⟩
    case measure=>simp[intOf];omega
  ·obtain rfl:q=l.length:=by omega
   rw[BJ]at v;have A:=Aa d;clear d;go_wp2_with fail;refine(TX _ _ _ _ _ _ A.out (by omega)).mono ?_;rintro e w2⟨rfl,n,rfl⟩;go_wp2_with fail;go_ret;exact⟨by rw[show k++right l=z from v.out];rfl,r,by rw[show k++right l=z from v.out];exact A.out.drewN n,g.drewN n,s⟩
theorem Yi(b:Nat)(S:Nat→Prop)(L:List Int)(u:qY)(l:List Int)(w:oZ)(h:Queue w b S L)(hu:DB w u l)(c:l≠[]→H4 S u)(d:L.length+l.length<10000000):re prog 243 #[J (Z ⟨b,0,N⟩),u] w (Nf b S (L++right l) w):=by obtain⟨v1,v2,f,k,h,rfl,rfl⟩:=h;refine(iU b v1 v2 f k u l w h hu c (by simp at d;omega)).mono ?_;rintro e w'⟨rfl,a,g,i,j⟩;exact⟨by simp,_,⟨v1,a,f,k++right l,g,by simp,rfl⟩,i,j⟩
end Go.Proofs.YtgadhchejmlfjaaGreatDoor.CY
