/- A part of the proof. -/
import Derived.Test.YtgadhchejmlfjaaGreatDoorA0
set_option linter.unusedVariables false
set_option maxRecDepth 20000
set_option maxHeartbeats 16000000
open Go.Value renaming int->I,pointer->J,slice->Y
open Go.IntKind renaming i64->U
open Option renaming none->N,some->Z
open Bool renaming false->tY,true->tZ
open Go renaming Calls->tT,Ending->uh,Value->tR,World->rO
open Go.Ending renaming returned->ui
open Go.Obj renaming cells->uj
open Go.RowKit renaming Below->tS
open Go.RowKit.Below renaming refl->tU
open Go.Value renaming bool->ue,ownBlock->ud,tuple->uo
open Go.Proofs.Tryz Go.RowKit Go.CN
namespace Go.CN
def Gc(n p m:Int):Prop:=p<1\/m<1\/n<1
instance (n p m:Int):Decidable (Gc n p m):=by unfold Gc;infer_instance
def F3(n p m:Int):Int:=if Gc n p m then 0 else min n (min m (min (n/p) (n-1)+1))
theorem eT{n p m:Int}(h: ¬Gc n p m):1<=F3 n p m/\F3 n p m<=n/\F3 n p m<=m:=by have a:=h;unfold Gc at a;unfold F3;rw[Ah h];have:=Zb1 (show 0<=n by omega) (show 0<=p by omega);omega
theorem eU(n p m:Int)(a:0<=n):0<=F3 n p m/\F3 n p m<=n:=by
 by_cases h:Gc n p m
 ·unfold F3;rw[Ai h];omega
 ·have:=eT h;omega
end Go.CN
namespace Go.Proofs.YtgadhchejmlfjaaGreatDoor
namespace C4
theorem YW(n p m:Int)(w:rO)(j:n<=9223372036854775807):tT prog 286 #[I U n,I U p,I U m] w λe w'=>e=ui (I U (F3 n p m))/\w=w':=by
 by_cases h:Gc n p m
 ·have a:F3 n p m=0:=by unfold F3;rw[Ai h]
  rw[a];unfold Gc at h;by_cases k:p<1
  ·go_enter func286,ntmps286
   go_wp2;go_ret;exact⟨rfl,rfl⟩
  ·by_cases l:m<1
   ·go_enter func286,ntmps286
    go_wp2;go_ret;exact⟨rfl,rfl⟩
   ·have o:n<1:=by omega
    go_enter func286,ntmps286;go_wp2;go_ret;exact⟨rfl,rfl⟩
 ·have b:Hid (F3 n p m=min n (min m (min (n/p) (n-1)+1))):=by show _=_;unfold F3;rw[Ah h]
  unfold Gc at h;have c:1<=n:=by omega
  have d:1<=p:=by omega
  have f:1<=m:=by omega
  have g:=Zb1 (show 0<=n by omega) (show 0<=p by omega);have i:n/p<=n:=Int.ediv_le_self _ (by omega);go_enter func286,ntmps286;go_wp2
  all_goals go_ret
  all_goals exact⟨Fv (by rw[b.out];omega),rfl⟩
section
variable {w w':rO}{b j:Nat}{v1 v2 v:tR}{f k L:List Int}{S T:Nat->Prop}
theorem Dv:(prog.info? 3).map (λi=>(i.zero,i.size,i.bytes))=Z (Z (I U 0),1,8):=by kernel_rfl
def Q(w:rO)(b:Nat)(v1 v2:tR)(f k:List Int):Prop:=Cy w b #[v1,v2] 203/\CH w 0 v1 f/\CH w 0 v2 k/\v1.ownBlock≠Z b/\v2.ownBlock≠Z b/\ ∀j,v1.ownBlock=Z j->v2.ownBlock≠Z j
def Qf(b:Nat)(v1 v2:tR)(j:Nat):Prop:=j=b\/v1.ownBlock=Z j\/v2.ownBlock=Z j
theorem Q.lt(h:Q w b v1 v2 f k)(a:Qf b v1 v2 j):j<w.heap.size:=by
 rcases a with rfl|a|a
 ·exact h.1.lt
 ·exact(h.2.1.lt j a).2
 ·exact(h.2.2.1.lt j a).2
theorem Q.only(h:Q w b v1 v2 f k)(o:Cw S w w')(a: ∀j,Qf b v1 v2 j-> ¬S j):Q w' b v1 v2 f k:=⟨h.1.only o (a b (.inl rfl)),h.2.1.off o (λj c=>a j (.inr (.inl c))),h.2.2.1.off o (λj c=>a j (.inr (.inr c))),h.2.2.2⟩
theorem Q.below(h:Q w b v1 v2 f k)(a:tS w.heap.size w w'):Q w' b v1 v2 f k:=h.only (S:=λ_=>False) ((Cw.refl _ w).below a) (λ_ _ x=>x)
theorem Q.drewN(h:Q w b v1 v2 f k)(n:Nat):Q (w.drewN n) b v1 v2 f k:=h
theorem Q.drew(h:Q w b v1 v2 f k):Q w.drew b v1 v2 f k:=h
def Queue(w:rO)(b:Nat)(S:Nat->Prop)(L:List Int):Prop:= ∃v1 v2 f k,Q w b v1 v2 f k/\L=f.reverse++k/\S=Qf b v1 v2
theorem Queue.lt(h:Queue w b S L)(a:S j):j<w.heap.size:=by obtain⟨v1,v2,f,k,h,_,rfl⟩:=h;exact h.lt a
theorem Queue.only(h:Queue w b S L)(o:Cw T w w')(a: ∀j,S j-> ¬T j):Queue w' b S L:=by obtain⟨v1,v2,f,k,h,c,rfl⟩:=h;exact⟨v1,v2,f,k,h.only o a,c,rfl⟩
theorem Queue.below(h:Queue w b S L)(a:tS w.heap.size w w'):Queue w' b S L:=by obtain⟨v1,v2,f,k,h,c,rfl⟩:=h;exact⟨v1,v2,f,k,h.below a,c,rfl⟩
theorem Queue.drewN(h:Queue w b S L)(n:Nat):Queue (w.drewN n) b S L:=h
def Gr(S S':Nat->Prop)(w:rO):Prop:= ∀j,S' j->S j\/w.heap.size<=j
theorem Gr.refl(S:Nat->Prop)(w:rO):Gr S S w:=λ_ h=>.inl h
theorem Gr.trans{a:Nat->Prop}(h:Gr S T w)(k:Gr T a w')(b:w.heap.size<=w'.heap.size):Gr S a w:=λj c=>(k j c).elim (λx=>h j x) (λx=>.inr (AA b x))
theorem Hs.gr{S':Nat->Prop}(h:Hs S v)(g:Gr S S' w)(b: ∀j,v.ownBlock=Z j->j<w.heap.size):Hs S' v:=λj a c=>(g j c).elim (h j a) (λx=>by have:=b j a;omega)
theorem F8(w:rO):tT prog 44 #[] w λe w'=>e=ui (J (Z ⟨w.heap.size,0,N⟩))/\w.alloc (uj #[Y N 0 0,Y N 0 0] 203)=w':=by go_enter func44,ntmps44;go_wp2;go_ret;exact⟨rfl,rfl⟩
theorem Queue.new(w:rO):Queue (w.alloc (uj #[Y N 0 0,Y N 0 0] 203)) w.heap.size (λj=>j=w.heap.size) []:=by refine⟨_,_,[],[],⟨Cy.new w _ 203,CH.nil _ _,CH.nil _ _,by simp[ud],by simp[ud],by simp[ud]⟩,rfl,?_⟩;funext j;simp[Qf,ud]
def SJ(x:Int)(w:rO)(e:uh)(w':rO):Prop:=e=ui (I U x)/\ ∃n,w'=w.drewN n
theorem Dm{base:Nat}{l:List Int}(h:CH w base v l): ∃a cap,v= .slice a l.length cap:=by obtain⟨a,cap,b,_⟩:=Sl.Er h;exact⟨a,cap,b⟩
theorem Ut(b:Nat)(v1 v2:tR)(f k:List Int)(w:rO)(h:Q w b v1 v2 f k)(a:f.length+k.length<100000000):tT prog 284 #[J (Z ⟨b,0,N⟩)] w (SJ ((f.length:Int)+k.length) w):=by
 have c0:=h.1.cell 0;have c1:=h.1.cell 1;simp only[Ad,Ac,Ag]at c0 c1;obtain⟨c,d,rfl⟩:=Dm h.2.1;obtain⟨a2,e,rfl⟩:=Dm h.2.2.1;have g:IntKind.i64.wrap ((f.length:Int)+k.length)=(f.length:Int)+k.length:=Cn _ (by omega);go_enter func284,ntmps284;go_wp2;go_quiet(fail)
 go_wp2;go_ret;exact⟨rfl,_,rfl⟩
theorem DW(b:Nat)(S:Nat->Prop)(L:List Int)(w:rO)(h:Queue w b S L)(a:L.length<100000000):tT prog 284 #[J (Z ⟨b,0,N⟩)] w (SJ L.length w):=by obtain⟨v1,v2,f,k,h,rfl,rfl⟩:=h;simp at a;have:=Ut b v1 v2 f k w h (by omega);simpa using this
theorem Q.Uu{W w1:rO}{a:tR}{m:List Int}{tmp:Obj}(h:Q W b v1 v2 f k)(t:JM (W.alloc tmp) 0 v2 k m a w1):Cy w1 b #[v1,v2] 203/\Q (w1.setCell ⟨b,1,N⟩ a) b v1 a f (k++m)/\Cw (Qf b v1 v2) W (w1.setCell ⟨b,1,N⟩ a)/\Gr (Qf b v1 v2) (Qf b v1 a) W:=by
 obtain⟨p,q,y,r,s,n3⟩:=h;obtain⟨u,l,n⟩:=t;have v:=p.lt;have g:Cy w1 b #[v1,v2] 203:=(p.alloc tmp).kept l (Cb s);have o:CH w1 0 v1 f:=(q.alloc tmp).kept l (by cases w:v1.ownBlock with|none=>exact .inl rfl|some j=>exact .inr (λe=>n3 j w e.symm));have i: ∀j,a.ownBlock=Z j->j≠b:=λj d e=>by
  rcases n j d with c|c
  ·exact s (by rw[c,e])
  ·simp at c;omega
 have x: ∀j,v1.ownBlock=Z j->a.ownBlock≠Z j:=λj d e=>by
  rcases n j e with c|c
  ·exact n3 j d c
  ·have:=(q.lt j d).2
   simp at c;omega
 refine⟨g,⟨g.Mt,o.kept (DO w1 b 1 a) (.inr r),u.kept (DO w1 b 1 a) (.inr (λe=>i b e rfl)),r,λe=>i b e rfl,x⟩,?_,?_⟩
 ·exact((((Cw.refl _ W).alloc tmp).grown l (λj e=>.inr (.inr (.inr e)))).set (.inr (.inl rfl)) 1 a)
 ·rintro j(rfl|d|d)
  ·exact .inl (.inl rfl)
  ·exact .inl (.inr (.inl d))
  ·rcases n j d with c|c
   ·exact .inl (.inr (.inr c))
   ·exact .inr (by simp at c;omega)
theorem Ki(L:List Int)(k:Nat)(h:k<L.length):(L.take (k+1)).filter (λp=>decide (1<=p))=(L.take k).filter (λp=>decide (1<=p))++(if 1<=L[k]?.getD 0 then [L[k]?.getD 0]else []):=by
 rw[Bg h,Zaz];simp only[h,Ae,AW];by_cases a:1<=L[k]
 ·simp[a]
 ·simp[a]
def right(l:List Int):List Int:=l.filter (λp=>decide (1<=p))
def Uv(b:Nat)(v1 v2:tR)(f c:List Int)(w:rO)(e:uh)(w':rO):Prop:=e=ui (I U ((f.length:Int)+c.length))/\ ∃a,Q w' b v1 a f c/\Cw (Qf b v1 v2) w w'/\Gr (Qf b v1 v2) (Qf b v1 a) w
theorem ny(b:Nat)(v1 v2:tR)(f k:List Int)(u:tR)(l:List Int)(w:rO)(h:Q w b v1 v2 f k)(hu:DG w u l)(P:Hs (Qf b v1 v2) u)(hl:f.length+k.length+l.length<100000000):tT prog 243 #[J (Z ⟨b,0,N⟩),u] w (Uv b v1 v2 f (k++right l) w):=by
 obtain⟨a,cap,rfl⟩:=hu.len;have V:=Aa hu;have W:=Aa P;clear P;go_enter func243,ntmps243;go_wp2;go_loopw [11] (λi wr=> ∃(q:Nat)(m:tR),q<=l.length/\i=I U q/\Q wr b v1 m f (k++(l.take q).filter (λp=>decide (1<=p)))/\Cw (Qf b v1 v2) w wr/\Gr (Qf b v1 v2) (Qf b v1 m) w) (λi _=>l.length-(intOf i).toNat)
 case atStart=>exact⟨0,v2,Ap _,rfl,by simpa using h,Cw.refl _ _,Gr.refl _ _⟩
 case round=>
  obtain⟨q,m,hq,rfl,o,d,r⟩:=hrel;have G:((l.take q).filter (λp=>decide (1<=p))).length<=q:=AA (Ch _ _) (by rw[AY];omega);obtain⟨z,v⟩: ∃z,Hid (k++(l.take q).filter (λp=>decide (1<=p))=z):=⟨_,rfl⟩;rw[v.out]at o;have X:z.length<=k.length+q:=by rw[<-v.out];simp;omega
  clear G;by_cases s:q<l.length
  ·have B:=V.out.only d W.out
   rcases B.open with⟨_,H⟩|⟨_,_,_,H⟩|⟨bu,off,R,he,_,_,aa,c⟩
   ·simp[H]at s
   ·simp[H]at s
   simp only[As]at he;obtain⟨rfl,_,rfl⟩:=he;have cu:=c q s;have F:=Aa (Ki l q s);clear c B;generalize l[q]?.getD 0=x at*
   have c1:=o.1.cell 1;simp only[Ad,Ac,Ag]at c1;by_cases S:1<=x
   ·rw[Ai S]at F
    have A:=Aa o;have t:=o.2.2.1;have C:=Aa t;clear o t;have g:z.length+ [x].length<100000000:=by simp;omega
    have D:=Aa g;clear g;go_wp2_with(at_builtin;refine Ju underlying22 Dv 0 _ rfl _ _ rfl _ _ _ [x] rfl rfl (C.out.alloc _) (DG.EW wr x) (Ap _) D.out ?_;intro v' w1 T;obtain⟨g',K,rfl⟩:=T.some;obtain⟨y,E,L,M⟩:=A.out.Uu T;have d1:=y.cell 1;simp only[Ad,Ac,Ag]at d1;have e1:=y.free 1;have O:=Aa E;clear E y);go_roundw
    case rel=>exact⟨q+1,_,by omega,by go_num,by rw[F.out,<-AU,v.out];exact O.out,d.andThen L (λj hj hs=>(r j hs).elim id (λx=>by omega)),r.trans M d.size⟩
    case measure=>simp[intOf];omega
   ·rw[Ah S,BW]at F
    have A:=Aa o;clear o;go_wp2;go_roundw
    case rel=>exact⟨q+1,_,by omega,by go_num,by rw[F.out,v.out];exact A.out,d,r⟩
    case measure=>simp[intOf];omega
  ·obtain rfl:q=l.length:=by omega
   rw[Cd]at v;have A:=Aa o;clear o;go_wp2_with fail;refine(Ut _ _ _ _ _ _ A.out (by omega)).mono ?_;rintro e w2⟨rfl,n,rfl⟩;go_wp2_with fail;go_ret;exact⟨by rw[show k++right l=z from v.out];rfl,m,by rw[show k++right l=z from v.out];exact A.out.drewN n,d.drewN n,r⟩
end
section
variable {W:rO}{b g m cap n:Nat}{v1 v2:tR}{f k:List Int}
theorem Cw.Gj{S:Nat->Prop}{w w':rO}(h:Cw S w.drew w'):Cw S w w':=⟨h.os,h.tape,h.output,h.size,h.block⟩
theorem Q.Qk{w1:rO}{a:tR}{m:List Int}{tmp:Obj}(h:Q W b v1 v2 f k)(t:JM (W.alloc tmp) 0 v1 f m a w1):Cy w1 b #[v1,v2] 203/\Q (w1.setCell ⟨b,0,N⟩ a) b a v2 (f++m) k/\Cw (Qf b v1 v2) W (w1.setCell ⟨b,0,N⟩ a)/\Gr (Qf b v1 v2) (Qf b a v2) W:=by
 obtain⟨p,y,q,r,s,n3⟩:=h;obtain⟨u,l,n⟩:=t;have v:=p.lt;have g:Cy w1 b #[v1,v2] 203:=(p.alloc tmp).kept l (Cb r);have o:CH w1 0 v2 k:=(q.alloc tmp).kept l (by cases w:v2.ownBlock with|none=>exact .inl rfl|some j=>exact .inr (λe=>n3 j e.symm w));have i: ∀j,a.ownBlock=Z j->j≠b:=λj d e=>by
  rcases n j d with c|c
  ·exact r (by rw[c,e])
  ·simp at c;omega
 have x: ∀j,a.ownBlock=Z j->v2.ownBlock≠Z j:=λj d e=>by
  rcases n j d with c|c
  ·exact n3 j c e
  ·have:=(q.lt j e).2
   simp at c;omega
 refine⟨g,⟨g.Sd,u.kept (DO w1 b 0 a) (.inr (λe=>i b e rfl)),o.kept (DO w1 b 0 a) (.inr s),λe=>i b e rfl,s,x⟩,?_,?_⟩
 ·exact((((Cw.refl _ W).alloc tmp).grown l (λj e=>.inr (.inr (.inl e)))).set (.inr (.inl rfl)) 0 a)
 ·rintro j(rfl|d|d)
  ·exact .inl (.inl rfl)
  ·rcases n j d with c|c
   ·exact .inl (.inr (.inl c))
   ·exact .inr (by simp at c;omega)
  ·exact .inl (.inr (.inr d))
theorem Q.eV(h:Q W b v1 (Y (Z ⟨g,0,N⟩) m cap) f k)(e:n<=k.length):Q (W.setCell ⟨b,1,N⟩ (Y (Z ⟨g,0,N⟩) n cap)) b v1 (Y (Z ⟨g,0,N⟩) n cap) f (k.take n):=by obtain⟨i,j,l,c,d,n3⟩:=h;have a:=l.shrink n e;exact⟨i.Mt,j.kept (DO W b 1 _) (.inr c),a.kept (DO W b 1 _) (.inr d),c,d,n3⟩
theorem Q.YX(h:Q W b (Y (Z ⟨g,0,N⟩) m cap) v2 f k)(e:n<=f.length):Q (W.setCell ⟨b,0,N⟩ (Y (Z ⟨g,0,N⟩) n cap)) b (Y (Z ⟨g,0,N⟩) n cap) v2 (f.take n) k:=by obtain⟨i,j,l,c,d,n3⟩:=h;have a:=j.shrink n e;exact⟨i.Sd,a.kept (DO W b 0 _) (.inr c),l.kept (DO W b 0 _) (.inr d),c,d,n3⟩
theorem YY(k:List Int)(j:Nat)(h:j<k.length):(k.drop j).reverse=(k.drop (j+1)).reverse++[k[j]?.getD 0]:=by rw[AQ h,List.reverse_cons];simp[h]
def YZ(b:Nat)(v1 v2:tR)(k:List Int)(w:rO)(e:uh)(w':rO):Prop:=(∃v,e=ui v)/\ ∃a c,Q w' b a c k.reverse []/\Cw (Qf b v1 v2) w w'/\Gr (Qf b v1 v2) (Qf b a c) w
theorem kd(b:Nat)(v1 v2:tR)(k:List Int)(w:rO)(h:Q w b v1 v2 [] k)(hl:k.length<10000000):tT prog 285 #[J (Z ⟨b,0,N⟩)] w (YZ b v1 v2 k w):=by
 have c0:=h.1.cell 0;simp only[Ad,Ac]at c0;obtain⟨R,S,rfl⟩:=Dm h.2.1;rw[show([]:List Int).length=0 from rfl]at*
 have X:=Aa h;clear h;go_enter func285,ntmps285;go_wp2;go_step3;go_wp2;go_step3;go_wp2;go_loopg [2] k.length (λgk _ wr=> ∃(l m:tR),gk<=k.length/\Q wr b l m (k.drop gk).reverse (k.take gk)/\Cw (Qf b (.slice R 0 S) v2) w wr/\Gr (Qf b (.slice R 0 S) v2) (Qf b l m) w)
 case atStart=>exact⟨_,_,Al _,by simpa using X.out,Cw.refl _ _,Gr.refl _ _⟩
 case round=>
  obtain⟨l,m,aa,c,o,i⟩:=hrel;have d0:=c.1.cell 0;have d1:=c.1.cell 1;have ab:=c.1.lt;simp only[Ad,Ac,Ag]at d0 d1;cases gk with
  |zero=>
   obtain⟨a2,p2,rfl⟩:=Dm c.2.2.1;rw[show(k.take 0).length=0 from by simp]at*
   have D:=Aa c;clear c c0;go_wp2;rw[Exit.noGoto_normal];go_end0;exact⟨⟨_,rfl⟩,_,_,by simpa using D.out,o,i⟩
  |succ j=>
   have E:j<k.length:=by omega
   have T:=Aa (YY k j E);have d:(k.take (j+1)).length=j+1:=by simp;omega
   obtain⟨B,q⟩: ∃B,Hid ((k.drop (j+1)).reverse=B):=⟨_,rfl⟩;have V:B.length<=k.length:=by rw[<-q.out,Zb3,Zba];omega
   obtain⟨C,p⟩: ∃C,Hid (k.take (j+1)=C):=⟨_,rfl⟩;have F:Hid (C.take j=k.take j):=by show _=_;rw[<-p.out,Za7];congr 1;omega
   have e:C[j]?.getD 0=k[j]?.getD 0:=by rw[<-p.out,AN (by omega)]
   rw[p.out]at c d;rw[q.out]at c T;rcases c.2.2.1.open with⟨_,h0⟩|⟨g,cap,rfl,_,hg,r,a⟩
   ·rw[h0]at d;simp at d
   rw[d]at r a d1 c i;have cx:=a j (by omega);rw[e]at cx;clear e;generalize k[j]?.getD 0=x at*
   have D:=Aa c;have s:=Aa c.2.1;have t:B.length+ [x].length<100000000:=by simp;omega
   have G:=Aa t;have H:=Aa d;clear c a t d c0;have ad:(j:Int)<(j:Int)+1:=by omega
   have ae:decide ((j:Int)<0)=false:=by simp
   go_wp2;go_region_law(refine Yk underlying22 Dv 0 _ rfl (.tmp 21) (.tmp 29) rfl _ _ _ [x] (by simp[Act.eval]) (by simp[Act.eval]) (s.out.alloc _) (DG.EW _ x) (Ap _) G.out ?_;intro v' w1 K;obtain⟨g',W,rfl⟩:=K.some;obtain⟨f,u,v,y⟩:=D.out.drew.Qk (tmp:=uj #[I U x] 3) K;have q0:=f.cell 0;have q1:=f.cell 1;have af:=f.free 0;have ag:=f.free 1;simp only[Ad,Ac,Ag]at q0 q1;have L:=Aa u;have M:=Aa v;have O:=Aa y;clear u f v y K)
   all_goals
    go_wp2;go_roundg j
    case rel=>
     refine⟨_,_,by omega,by rw[T.out,<-F.out];exact(L.out.eV (n:=j) (by rw[H.out];omega)),?_,?_⟩
     ·exact(o.andThen (Cw.Gj (M.out.set (.inr (.inl rfl)) 1 _)) (λP z hs=>(i P hs).elim id (λx=>by omega)))
     ·intro P z
      refine(i.trans (w':=wr) O.out o.size) P ?_;rcases z with A|A|A
      ·exact .inl A
      ·exact .inr (.inl A)
      ·exact .inr (.inr A)
    case measure=>omega
end
section
variable {S S2:Nat->Prop}{wr w2 w3:rO}{base b:Nat}{v v':tR}{l m M:List Int}
def eW(b:Nat)(v1 v2:tR)(L:List Int)(w:rO)(e:uh)(w':rO):Prop:=(∃v,e=ui v)/\ ∃a c f' d,Q w' b a c f' d/\f'.reverse++d=L/\f'≠[]/\Cw (Qf b v1 v2) w w'/\Gr (Qf b v1 v2) (Qf b a c) w
theorem VR(b:Nat)(v1 v2:tR)(f k:List Int)(w:rO)(h:Q w b v1 v2 f k)(a:f≠[]):tT prog 285 #[J (Z ⟨b,0,N⟩)] w λe w'=>(∃v,e=ui v)/\w=w':=by
 have c0:=h.1.cell 0;simp only[Ad,Ac]at c0;obtain⟨d,g,rfl⟩:=Dm h.2.1;have c:0<f.length:=Cf.2 a;go_enter func285,ntmps285;go_wp2;go_step3;go_wp2;try rw[Bw]
 refine AM (results_none rfl _ _ _) rfl ?_;exact⟨⟨_,rfl⟩,rfl⟩
theorem Y0(b:Nat)(v1 v2:tR)(f k:List Int)(w:rO)(h:Q w b v1 v2 f k)(i:k.length<10000000)(a:f.reverse++k≠[]):tT prog 285 #[J (Z ⟨b,0,N⟩)] w (eW b v1 v2 (f.reverse++k) w):=by
 by_cases c:f=[]
 ·subst c
  refine(kd b v1 v2 k w h i).mono ?_;rintro e w'⟨he,d,g,j,l,m⟩;exact⟨he,d,g,_,_,j,by simp,by simpa using a,l,m⟩
 ·refine(VR b v1 v2 f k w h c).mono ?_
  rintro e w'⟨he,rfl⟩;exact⟨he,v1,v2,f,k,h,rfl,c,Cw.refl _ _,Gr.refl _ _⟩
def GP(b:Nat)(S:Nat->Prop)(L:List Int)(w:rO)(e:uh)(w':rO):Prop:=e=ui (uo #[I U (L.headD 0),ue (!L.isEmpty)])/\ ∃a,Queue w' b a L.tail/\Cw S w w'/\Gr S a w
theorem eX{f:List Int}(h:f≠[]): ∃p x,f=p++[x]/\f.length=p.length+1:=by
 rcases List.eq_nil_or_concat f with a|⟨p,x,rfl⟩
 ·exact absurd a h
 ·exact⟨p,x,by simp,by simp⟩
theorem F9(b:Nat)(S:Nat->Prop)(L:List Int)(w:rO)(h:Queue w b S L)(K:L.length<10000000):tT prog 240 #[J (Z ⟨b,0,N⟩)] w (GP b S L w):=by
 by_cases u:L=[]
 ·subst u
  have c:=Aa (DW b S [] w h (by simp));have M:=Aa h;go_enter func240,ntmps240;go_wp2_with fail;refine c.out.mono ?_;rintro e O⟨rfl,n,rfl⟩;go_wp2_with fail;go_ret2;exact⟨rfl,S,M.out.drewN n,(Cw.refl _ _).drewN n,Gr.refl _ _⟩
 ·have c:=Aa (DW b S L w h (by omega))
  have P:0<L.length:=Cf.2 u;have Q:((L.length:Int)==0)=false:=by rw[Az];omega
  obtain⟨v1,v2,f,k,R,rfl,rfl⟩:=h;have y:k.length<10000000:=by simp at K;omega
  have T:=Aa (λn=>Y0 b v1 v2 f k _ (R.drewN n) y u);generalize V:f.reverse++k=L at*
  go_enter func240,ntmps240;go_wp2_with fail;refine c.out.mono ?_;rintro e O⟨rfl,n,rfl⟩;go_wp2_with fail;refine(T.out n).mono ?_;rintro e w2⟨⟨v,rfl⟩,W,z,f',G,d,A,o,i,B⟩;obtain⟨p,x,l,C⟩:=eX o;have d0:=d.1.cell 0;have f0:=d.1.free 0;simp only[Ad,Ac]at d0;rcases d.2.1.open with⟨_,X⟩|⟨g,cap,rfl,_,hg,q,a⟩
  ·exact absurd X o
  rw[C]at d0 q a d;have D:=a p.length (by omega);rw[l]at D;rw[Ar (Al _)]at D;simp only[Bj,Ac,AW]at D;have r:p.length<=f'.length:=by omega
  have s:=Aa (d.YX (n:=p.length) r);have E:f'.take p.length=p:=by rw[l];simp
  rw[E]at s;have F:Hid (L=x::(p.reverse++G)):=by show _=_;rw[<-A,l];simp
  have t:Cw (Qf b v1 v2) w w2:=⟨i.os,i.tape,i.output,i.size,i.block⟩;have HO:=Aa (t.set (.inr (.inl rfl)) 0 (Y (Z ⟨g,0,N⟩) p.length cap));have HG:=Aa B;have H:(p.length:Int)<(p.length:Int)+1:=by omega
  have aa:p.length<10000000:=by have m:=Aq List.length F.out;simp at m;omega
  go_wp2_with fail;go_ret2;refine⟨by rw[F.out];rfl,Qf b (Y (Z ⟨g,0,N⟩) p.length cap) z,⟨_,_,p,G,s.out,by rw[F.out];rfl,rfl⟩,HO.out,?_⟩;intro j hj;refine(HG.out j ?_).elim .inl (λh=>.inr h);rcases hj with m|m|m
  ·exact .inl m
  ·exact .inr (.inl m)
  ·exact .inr (.inr m)
def VS(b:Nat)(S:Nat->Prop)(L:List Int)(n:Nat)(w:rO)(e:uh)(w':rO):Prop:= ∃v a,e=ui v/\CH w' w.heap.size v (L.take n)/\Queue w' b a (L.drop n)/\Cw S w w'/\Gr S a w/\Hs a v
theorem VT(L:List Int)(i:Nat)(h:i<L.length):L.take (i+1)=L.take i++[(L.drop i).headD 0]:=by rw[AQ h,Bg h];rfl
theorem Hs.app{o:Obj}(a:Hs S v)(c:CH wr base v l)(f:Gr S S2 wr)(g:JM (w2.alloc o) base v l m v' w3)(i:Queue w2 b S2 M):Hs S2 v':=by
 intro j d e;rcases g.2.2 j d with h|h
 ·exact Hs.gr a f (λj d=>(c.lt j d).2) j h e
 ·have:=i.lt e
  simp at h;omega
theorem Queue.app{o:Obj}(a:Hs S v)(c:CH wr base v l)(e:Gr S S2 wr)(f:JM (w2.alloc o) base v l m v' w3)(g:Queue w2 b S2 M):Queue w3 b S2 M:=by refine g.only (T:=λj=>v.ownBlock=Z j) (((Cw.refl _ w2).alloc o).grown f.2.1 (λk h=>.inr h)) ?_;intro j i d;exact Hs.gr a e (λj d=>(c.lt j d).2) j d i
theorem VU(b:Nat)(S:Nat->Prop)(L:List Int)(p m:Int)(w:rO)(h:Queue w b S L)(X:L.length<10000000):tT prog 242 #[J (Z ⟨b,0,N⟩),I U p,I U m] w (VS b S L (F3 L.length p m).toNat w):=by
 have u:=Aa (DW b S L w h (by omega));have hm:=eU L.length p m (by omega);obtain⟨n,K⟩:=AF hm.1;have c:=Aa (λw=>YW L.length p m w (by omega));rw[K]at c hm⊢;simp only[Am];have hn:n<=L.length:=by omega
 have M:=Aa h;go_enter func242,ntmps242;go_wp2_with fail;refine u.out.mono ?_;rintro e O⟨rfl,d,rfl⟩;go_wp2_with fail;refine(c.out _).mono ?_;rintro e O⟨rfl,rfl⟩;go_wp2_with fail;go_loopw [6,17] (λv i wr=> ∃(q:Nat)(t:Nat->Prop),q<=n/\i=I U q/\CH wr w.heap.size v (L.take q)/\Queue wr b t (L.drop q)/\Cw S w wr/\Gr S t w/\Hs t v) (λ_ i _=>n-(intOf i).toNat)
 case atStart=>exact⟨0,S,Ap _,rfl,by simpa using CH.nil _ _,by simpa using M.out.drewN d,(Cw.refl _ _).drewN d,Gr.refl _ _,Hs.nil _⟩
 case round=>
  obtain⟨q,t,hq,rfl,k,G,B,D,l⟩:=hrel;by_cases P:q<n
  ·have y:q<L.length:=by omega
   have Q:=Aa (VT L q y);have R:Hid ((L.drop q).tail=L.drop (q+1)):=by show _=_;rw[List.tail_drop]
   have E:(L.drop q).length<10000000:=by rw[Zba];omega
   have f:=Aa (F9 b t (L.drop q) wr G E);have a:=Aa k;have g:=Aa l;have o:(L.take q).length+ [(L.drop q).headD 0].length<100000000:=by simp;omega
   have F:=Aa o;have T:(L.drop q).isEmpty=false:=by rw[AQ y];rfl
   unfold GP at f;rw[T]at f;generalize(L.drop q).headD 0=x at*
   have V:=B.size;go_wp2_with fail;refine f.out.mono ?_;rintro e w2⟨rfl,S2,z,r,s⟩;rw[R.out]at z;have A:=Aa z;go_wp2_with(at_builtin;refine Ju underlying22 Dv w.heap.size _ rfl _ _ rfl _ _ _ [x] rfl rfl ((a.out.off r g.out).alloc _) (DG.EW w2 x) (by have:=r.size;simp;omega) F.out ?_;intro v' w3 C);go_roundw
   case rel=>exact⟨q+1,S2,by omega,by go_num,by rw[Q.out];exact C.1,Queue.app g.out a.out s C A.out,((B.andThen r (λj H W=>(D j W).elim id (λx=>by omega))).alloc _).grown C.2.1 (λj H=>.inl (a.out.lt j H).1),D.trans s B.size,Hs.app g.out a.out s C A.out⟩
   case measure=>simp[intOf];omega
  ·obtain rfl:q=n:=by omega
   go_wp2;go_ret;exact⟨_,t,rfl,k,G,B,D,l⟩
end
def NF(b:Nat)(S:Nat->Prop)(L:List Int)(w:rO)(e:uh)(w':rO):Prop:=e=ui (I U L.length)/\ ∃a,Queue w' b a L/\Cw S w w'/\Gr S a w
theorem EK(b:Nat)(S:Nat->Prop)(L:List Int)(u:tR)(l:List Int)(w:rO)(h:Queue w b S L)(hu:DG w u l)(c:Hs S u)(d:L.length+l.length<100000000):tT prog 243 #[J (Z ⟨b,0,N⟩),u] w (NF b S (L++right l) w):=by obtain⟨v1,v2,f,k,h,rfl,rfl⟩:=h;refine(ny b v1 v2 f k u l w h hu c (by simp at d;omega)).mono ?_;rintro e w'⟨rfl,a,g,i,j⟩;exact⟨by simp,_,⟨v1,a,f,_,g,by simp,rfl⟩,i,j⟩
section
open Go.Proofs.Tryz Go.RowKit Go.Shelf Go.CN
attribute [local go_sem] Oper.semAt_some
variable {u:tR}
theorem Lz(F:Fence)(n:Nat)(b:F.fn 126)(d:F.round=N)(a:Option Addr)(k c:Nat)(w:rO):CallsIn F n prog 126 #[.slice a k c] w λe w'=>e=ui (.func (.func 198) #[] #[J (Z ⟨w.heap.size,0,N⟩)])/\w'=w.alloc (uj #[.slice a k c] 22):=by
 refine Zag func126 rfl b ?_ d;simp only[ntmps126,Bk,Av,AG,Nat.reduceAdd,Nat.reduceSub,BB,BC,BR,BF,A7,Bp];gi_wp2
 go_ret;exact⟨rfl,rfl⟩
theorem VV{W W':rO}{l:List Int}(h:DG W u l)(g:W.heap.size<=W'.heap.size)(j: ∀d v,W.cell? d=Z v->W'.cell? d=Z v):DG W' u l:=by
 obtain⟨a,cap,e,f,hm,h|⟨b,off,k,m,c⟩⟩:=h
 ·exact⟨a,cap,e,f,hm,.inl h⟩
 ·exact⟨a,cap,e,f,hm,.inr ⟨b,off,k,An m g,λi n=>j _ _ (c i n)⟩⟩
def JT(B:Nat)(u:tR)(W W':rO):Prop:=(∀v,W.cell? ⟨B,0,N⟩=Z v->W'.cell? ⟨B,0,N⟩=Z v)/\ ∀l,DG W u l->DG W' u l
theorem Ql{B:Nat}{A C D:rO}(h:JT B u A C)(k:JT B u C D):JT B u A D:=⟨λv a=>k.1 v (h.1 v a),λl b=>k.2 l (h.2 l b)⟩
theorem Qm{B:Nat}{w:rO}(W:rO)(l:Nat)(o a:Obj)(_:w.heap.size<=l)(h:W.heap[l]?=Z o)(c:o.isCells=tY)(_:o.isWalk=tY):JT B u W (W.putObj l a):=⟨λ_ b=>cell_kept b (grownBy_putObj' W l a) (λr e=>by cases e;exact⟨o,h,c⟩),λ_ d=>VV d (grownBy_putObj' W l a).size (λ_ _ b=>cell_kept b (grownBy_putObj' W l a) (λr e=>by cases e;exact⟨o,h,c⟩))⟩
def FI(l:List Int)(k:Nat):List (Int×Int):=(List.range k).map λ(i:Nat)=>((l.length:Int)-1-(i:Int),l[l.length-1-i]?.getD 0)
theorem SK(l:List Int)(k:Nat):FI l (k+1)=FI l k++[((l.length:Int)-1-k,l[l.length-1-k]?.getD 0)]:=by unfold FI;rw[Cc,BP];rfl
theorem NW(l:List Int)(k:Nat):(FI l k).length=k:=by simp[FI]
theorem VW(l:List Int){k m:Nat}(h:k<=m):FI l k<+:FI l m:=by unfold FI;refine List.IsPrefix.map _ ⟨(List.range (m-k)).map (k+ ·),?_⟩;rw[<-List.range_add];congr 1;omega
theorem Jd(l:List Int):(FI l l.length).map Prod.snd=l.reverse:=by
 apply Zbu
 ·simp[FI]
 ·intro i a b
  simp[FI]at a;simp only[FI,List.map_map,Zbt,Zca,Function.comp,List.getElem_reverse];rw[Ae (by omega)];rfl
theorem MM(F:Fence)(n:Nat)(m:F.fn 198)(o:F.round=N)(V:2<=n)(B:Nat)(u:tR)(l:List Int)(w:rO)(H:B<w.heap.size)(K:w.cell? ⟨B,0,N⟩=Z u)(hu:DG w u l)(X:l.length<100000000):SeqStopsK F n prog 198 #[J (Z ⟨B,0,N⟩)] (λx:Int×Int=>#[I U x.1,I U x.2]) (JT B u) (λys=>ys=FI l l.length) (λpre=>pre<+:FI l l.length) l.length w:=by
 intro q b Jx W A _ _ L f;have d1:=(A.cell (p:=⟨B,0,N⟩) H).trans K;have M:=Aa (hu.below A);obtain⟨a,cap,rfl⟩:=hu.len;refine Zag func198 rfl m ?_ o;simp only[ntmps198,Bk,Av,AG,Nat.reduceAdd,Nat.reduceSub,BB,BC,BR,BF,A7,Bp];have O:1<=n:=by omega
 have P:=Aa L;gi_wp2
 gi_loopw [3] (λi wr=> ∃k:Nat,k<=l.length/\i=I U ((l.length:Int)-1-k)/\wr.cell? ⟨B,0,N⟩=Z (.slice a l.length cap)/\DG wr (.slice a l.length cap) l/\b (FI l k) wr)
  (λi _=>(intOf i+1).toNat)
 case atStart=>exact⟨0,Ap _,by go_num,d1,M.out,f⟩
 case round=>
  obtain⟨k,hk,rfl,r,C,D⟩:=hrel;by_cases d:k<l.length
  ·rcases C.open with⟨_,f⟩|⟨_,_,_,f⟩|⟨bu,off,E,he,_,_,Q,c⟩
   ·simp[f]at d
   ·simp[f]at d
   simp only[As]at he;obtain⟨rfl,_,rfl⟩:=he;have R:=c (l.length-1-k) (by omega);have s:=Aa (SK l k);generalize l[l.length-1-k]?.getD 0=x at*
   obtain⟨fn,tmps,assign,body,hy,G⟩:=P.out _ ((l.length:Int)-1-k,x) wr D (by rw[NW];exact d);have t:=Aa C;obtain⟨p,S⟩: ∃p:Nat,l.length-1-k=p:=⟨_,rfl⟩;have v:(l.length:Int)-1-k=p:=by omega
   rw[S]at R;rw[v]at G hy s⊢;have T:(p:Int)<(l.length:Int):=by omega
   gi_wp2
   refine G.mono ?_;rintro e W3(⟨rfl,y,g⟩|⟨rfl,h⟩)
   ·have j:=g.1 _ r
    have z:=Aa (g.2 _ t.out);gi_wp2
    go_roundw
    case rel=>exact⟨k+1,by omega,by go_num,j,z.out,by rw[s.out];exact y⟩
    case measure=>simp[intOf]
   ·gi_wp2
    refine AM (results_none rfl _ _ _) rfl ?_;exact⟨⟨_,rfl⟩,.inr ⟨_,by rw[<-s.out];exact VW l (by omega),h⟩⟩
  ·obtain rfl:k=l.length:=by omega
   gi_wp2
   go_end0;exact⟨⟨_,rfl⟩,.inl ⟨_,rfl,D⟩⟩
end
section
open Go.Proofs.Tryz Go.RowKit Go.Shelf Go.CN
attribute [local go_sem] Oper.semAt_some
variable {w W:rO}{size R B:Nat}{v v':tR}{xs:List tR}
theorem KW{P:Program}{c:Code}{K:Act->rO->Prop}{Q:Exit->Act->rO->Prop}{a:Act}(h:c.wp P (Exit.then K (λ_ _ _=>False)) a w):c.wp P (Exit.then K Q) a w:=Code.wp_mono (λe a w h=>by cases e<;>first|exact h|exact h.elim) h
def Eg(L:List Int)(w:rO)(e:uh)(w':rO):Prop:= ∃v,e=ui v/\CH w' w.heap.size v L/\tS w.heap.size w w'
theorem Fp{base a:Nat}{e:TypeId}{n:Nat}(h:w.ownsRow base e size v n xs)(c:a<=base):w.ownsRow a e size v n xs:=by
 obtain⟨b,d|⟨g,cap,cur,f,i,j,r⟩⟩:=h
 ·exact⟨b,.inl d⟩
 ·exact⟨b,.inr ⟨g,cap,cur,f,AA c i,j,r⟩⟩
theorem KV{w1:rO}{MG:Nat}{t e:TypeId}{k m:Nat}{ys:List tR}{tmp:Obj}(n:Boxed W B t v)(g:t≠e)(d:W.ownsRow R e size v k xs)(f:MG<=W.heap.size)(o:MG<=B)(j:MG<=R)(a:w1.ownsRow R e size v' m ys)(c:(W.alloc tmp).grownBy w1 v.ownBlock):Boxed w1 B t v/\Boxed (w1.setCell ⟨B,0,N⟩ v') B t v'/\(w1.setCell ⟨B,0,N⟩ v').ownsRow R e size v' m ys/\KeepsOthers W (w1.setCell ⟨B,0,N⟩ v')/\tS MG W (w1.setCell ⟨B,0,N⟩ v')/\ ∀b,b<R->b≠B->b<W.heap.size->(w1.setCell ⟨B,0,N⟩ v').heap[b]?=W.heap[b]?:=by obtain⟨l,p,_,q,r⟩:=n.appended g (Fp d j) f o (Fp a j) c;refine⟨l,p,a.kept (grownBy_setCell' w1 B v') (.inr (l.not_row g a).symm),q,r,λb s h i=>?_⟩;rw[Zaj _ _ _ b h,c.block b (by simp;omega) ?_,Zab _ _ _ i];intro e;have:=(d.lt b e.symm).1;omega
theorem VX{c:Nat}{W':rO}{u:tR}(h: ∀k,k<R->k≠B->k<W.heap.size->W'.heap[k]?=W.heap[k]?) (n:W.heap.size<=W'.heap.size) (o:c≠B) (d:c<R) (hu: ∀j,u.ownBlock=Z j->j<R/\j≠B):JT c u W W':=by
 refine⟨λ_ f=>(AK (h c d o (Ep f))).trans f,λl p=>?_⟩;obtain⟨a,cap,rfl,g,hm,q|⟨b,off,rfl,m,e⟩⟩:=p
 ·exact⟨a,cap,rfl,g,hm,.inl q⟩
 ·have:=hu b rfl
  exact⟨_,cap,rfl,g,hm,.inr ⟨b,off,rfl,An m n,λi r=>(AK (h b this.1 this.2 m)).trans (e i r)⟩⟩
theorem Y1{w3:rO}{l k:List Int}{E:Nat}(r:tS w.heap.size w W)(B:w.heap.size+2<=W.heap.size)(s:JM W.drew w.heap.size v l k v' w3)(t:Cy W w.heap.size #[v] 22)(C:w.heap.size+2<=E)(q:W.heap[E]?=Z (.deferred (Z [])))(b:CH W w.heap.size v l)(c:Z w.heap.size≠v.ownBlock)(d:Z E≠v.ownBlock):(w3.setCell ⟨w.heap.size,0,N⟩ v').heap[E]?=Z (.deferred (Z []))/\((w3.setCell ⟨w.heap.size,0,N⟩ v').putObj E (.deferred N)).cell? ⟨w.heap.size,0,N⟩=Z v'/\CH ((w3.setCell ⟨w.heap.size,0,N⟩ v').putObj E (.deferred N)) w.heap.size v' (l++k)/\tS w.heap.size w ((w3.setCell ⟨w.heap.size,0,N⟩ v').putObj E (.deferred N)):=by
 obtain⟨u,f,x⟩:=s;have g:E<W.heap.size:=(BA.1 q).1;have i:w3.heap[E]?=Z (.deferred (Z [])):=(f.block E g d).trans q;have a:(w3.setCell ⟨w.heap.size,0,N⟩ v').heap[E]?=Z (.deferred (Z [])):=(Zaj w3 ⟨w.heap.size,0,N⟩ v' E (λ(e:E=w.heap.size)=>by omega)).trans i;have m:Cy w3 w.heap.size #[v] 22:=t.drew.kept f c;have n:Cy (w3.setCell ⟨w.heap.size,0,N⟩ v') w.heap.size #[v'] 22:=m.set 0 v';have o:v'.ownBlock≠Z w.heap.size:=λe=>by
  rcases x _ e with h|h
  ·exact c h.symm
  ·have D:W.heap.size<=w.heap.size:=h
   omega
 refine⟨a,?_,?_,?_⟩
 ·have p:=n.kept (grownBy_putObj' _ E (.deferred N)) (by simp;omega)
  exact p.cell 0
 ·have y:CH (w3.setCell ⟨w.heap.size,0,N⟩ v') w.heap.size v' (l++k):=u.kept (DO w3 w.heap.size 0 v') (.inr o)
  exact ownsRow_putObj y _ a rfl
 ·have z:tS w.heap.size w w3:=CK r ((Sb W _).trans f) (λj A=>(b.lt j A).1)
  exact(C5 z (Al _) 0 v').trans (belowK_b (w:=w) (Al _) _ E _ _ (by omega) a rfl rfl)
theorem ke(b:Nat)(v1 v2:tR)(f k:List Int)(w:rO)(h:Q w b v1 v2 f k)(hl:f.length+k.length<10000000):tT prog 61 #[J (Z ⟨b,0,N⟩)] w (Eg (f.reverse++k) w):=by
 have L:=Aa h;have c0:=h.1.cell 0;simp only[Ad,Ac]at c0;obtain⟨m,o,rfl⟩:=Dm h.2.1;have aj:=h.1.lt;refine(callsIn_wide (n:=4)).1 ?_;refine callsIn_of_wp_marks func61 rfl trivial ?_ rfl;simp only[ntmps61,Bk,Av,AG,Nat.reduceAdd,Nat.reduceSub,BB,BC,BR,BF,A7,Bp];gi_wp2_with fail
 refine⟨trivial,(Lz Fence.wide 3 trivial rfl _ _ _ _).mono ?_⟩;rintro e w'⟨rfl,rfl⟩;gi_wp2_with fail
 obtain⟨i0,hi,M,O,P⟩:=info_parts Dv;have bO:=Boxed.new w 22 (Y N 0 0);have b1:=Boxed.new (w.alloc (uj #[Y N 0 0] 22)) 22 (.slice m f.length o);simp only[World.size_alloc]at b1;have R:tS w.heap.size w ((w.alloc (uj #[Y N 0 0] 22)).alloc (uj #[.slice m f.length o] 22)):=Cu (Cu (tU _ _) _) _;have hu: ∀j,(Value.slice m f.length o).ownBlock=Z j->j<w.heap.size:=λj S=>(L.out.2.1.lt j S).2;have T:DG ((w.alloc (uj #[Y N 0 0] 22)).alloc (uj #[.slice m f.length o] 22)) (.slice m f.length o) f:=((DG.Er L.out.2.1).alloc _).alloc _
 refine wpIn_rangeFunc_ownG rfl (by decide) (gf:=198) (lb:=#[J (Z ⟨w.heap.size+1,0,N⟩)]) rfl trivial (enters_of func198 (by kernel_rfl) rfl)
  (MM Fence.wide (4-1) trivial rfl (by decide) (w.heap.size+1) (.slice m f.length o) f _ (by simp<;>omega) b1.cell T (by omega)) Ql Qm (tU _ _) (λ_=>rfl)
  (λ(pre:List (Int×Int)) W=>(∃v,Boxed W w.heap.size 22 v/\W.ownsRow (w.heap.size+2) 3 1 v pre.length ((pre.map Prod.snd).map (I U))/\True)/\tS w.heap.size w W/\w.heap.size+2<=W.heap.size)
  (λ_ _ _=>False)
  (OwnFrom.and (Own.from (holdsRow_own (w.heap.size+2) w.heap.size 22 3 1 (λpre:List (Int×Int)=>pre.length) (λpre=>(pre.map Prod.snd).map (I U)) (λ_ _=>True)) _) (OwnFrom.and (ownFrom_below (Al _) (by simp<;>omega)) (λ_ _ _ _ V hg _=>AA V hg.size)))
  (λ_ _ _ _ _ V _ _=>V)
  ⟨⟨_,bO.alloc _,AH _ _ _ _,trivial⟩,R,by simp<;>omega⟩
  (λx=>{tmps:=#[J (Z ⟨b,0,N⟩),undef,J (Z ⟨w.heap.size,0,N⟩),undef,I U x.2,J (Z ⟨b,0,N⟩),ue tY,J (Z ⟨b,0,N⟩),J (Z ⟨b,0,N⟩),J (Z ⟨b,0,N⟩),.slice m f.length o,.func (.func 198) #[] #[J (Z ⟨w.heap.size+1,0,N⟩)],I U x.1,I U x.2,undef,undef,undef,undef,undef,undef,undef,undef,undef,undef],defers:=[]}) ?assign ?body ?done ?stop
 case assign=>
  intro l x W K H;gi_wp2
  exact H
 case body=>
  rintro l pre x W⟨⟨v,p,a,_⟩,t,X⟩ak;have hc:=p.cell;gi_wp2_with (gi_at_builtin;refine wpListIn_append_own _ rfl _ _ 22 rfl (w.heap.size+2) 3 i0 (I U 0) 1 8 underlying22 hi M O P rfl (by decide) _ _ _ rfl (a.alloc _) ⟨W.heap.size,0,N⟩ 1 1 [I U x.2] rfl rfl (cell_one_new _ _ _) (by simp[Value.oneCell']) (by unfold maxLen;omega) (by omega) (by simp;omega) ?_;intro v' w3 d q _;obtain⟨g',u,rfl⟩:=ownsRow_succ d;obtain⟨y,aa,ab,ad,s,ae⟩:=KV (MG:=w.heap.size) p (by decide) a t.size (Al _) (by omega) d q;have ao:=y.cell;have aq:=y.frozen)
  exact⟨ad.from _,VX ae s.size (by omega) (by omega) (λj S=>by have:=hu j S;omega),⟨_,aa,by simpa using ab,trivial⟩,t.trans s,AA X s.size⟩
 case done=>
  rintro E ys W hE rfl⟨⟨v,p,a,_⟩,t,X⟩H;have hc:=p.cell;have z:=L.out.below t;have c1:=z.1.cell 1;simp only[Ad,Ac,Ag]at c1;have A:CH W w.heap.size v f.reverse:=by have h':=Fp a (show w.heap.size<=w.heap.size+2 by omega);rw[Jd,NW]at h';unfold CH;rwa [Zb3]
  have af:=DG.Er z.2.2.1;have hlen:f.reverse.length+k.length<100000000:=by rw[Zb3];omega
  have ag:=Aa af;have i:=Aa A;have B:=Aa hlen;have ar:=t.size;have C:Hid (Z w.heap.size≠v.ownBlock):=λe=>by have:=(a.lt _ e.symm).1;omega
  have ah:Hid ((f.reverse++k).length=f.length+k.length):=by show _=_;simp
  have D:Hid (Z E≠v.ownBlock):=λe=>by
   obtain⟨h1,⟨h2,_⟩|⟨g,cap,cur,p,hg,hh,r⟩⟩:=a
   ·rw[h2]at e;cases e
   ·rw[p]at e;simp only[ud,Ak]at e;rw[<-e,H]at hh;cases hh
  have F:Hid (Cy W w.heap.size #[v] 22):=p;gi_wp2_with fail
  refine wpIn_wide.2 ?_;refine KW ?_;go_region_law(refine Yk underlying22 Dv w.heap.size _ rfl (.tmp 18) (.tmp 22) rfl _ _ _ k (by simp[Act.eval]) (by simp[Act.eval]) i.out ag.out (by simp;omega) B.out ?_;intro v' w3 hA;obtain⟨a',u,rfl⟩:=Dm hA.1;have G:=F.out.drew.kept hA.2.1 C.out;have q0:=G.cell 0;have qf:=G.free 0;simp only[Ad,Ac]at q0;have HA:=Aa hA)
  all_goals
   gi_wp2
   obtain⟨z1,z2,z3,z4⟩:=Y1 t X HA.out F.out (show w.heap.size+2<=E by simpa using hE) H i.out C.out D.out;rw[ah.out]at z1 z2 z3 z4;refine⟨by simp,.inl ⟨_,_,rfl,run_takeDeferred z1,?_⟩⟩;exact⟨_,by simp[results,results61,go_sem,z2],_,rfl,z3,z4⟩
 case stop=>rintro E c pre W _ _ h _;exact h.elim
end
def kh(b:Nat)(S:Nat->Prop)(L:List Int)(w:rO)(e:uh)(w':rO):Prop:=(∃n,e=ui (I U n))/\ ∃a,Queue w' b a L/\Cw S w w'/\Gr S a w
theorem eY(w1:rO)(b:Nat)(S:Nat->Prop)(L:List Int)(x:Int)(h:Queue w1 b S L)(i:L.length<10000000):tT prog 243 #[J (Z ⟨b,0,N⟩),Y (Z ⟨w1.heap.size,0,N⟩) 1 1] (w1.alloc (uj #[I U x] 3)) (kh b S (L++right [x]) w1):=by
 refine(EK b S L (Y (Z ⟨w1.heap.size,0,N⟩) 1 1) [x] _ (h.below (Cu (tU _ _) _)) (DG.EW w1 x) ?_ (by simp;omega)).mono ?_
 ·intro j a c
  have:=h.lt c;simp[ud]at a;omega
 ·rintro e w2⟨rfl,S2,d,f,g⟩
  refine⟨⟨_,rfl⟩,S2,d,((Cw.refl _ w1).alloc _).trans f,λj a=>(g j a).elim .inl (λx=>.inr ?_)⟩;simp at x;omega
theorem Kj(b:Nat)(S:Nat->Prop)(L:List Int)(w:rO)(h:Queue w b S L)(a:L.length<10000000):tT prog 61 #[J (Z ⟨b,0,N⟩)] w (Eg L w):=by obtain⟨v1,v2,f,k,h,rfl,rfl⟩:=h;exact ke b v1 v2 f k w h (by simp at a;omega)
theorem ki(b:Nat)(v1 v2:tR)(f k:List Int)(u:tR)(l:List Int)(w:rO)(h:Q w b v1 v2 f k)(hu:DG w u l)(P:l≠[]->Hs (Qf b v1 v2) u)(hl:f.length+k.length+l.length<100000000):tT prog 243 #[J (Z ⟨b,0,N⟩),u] w (Uv b v1 v2 f (k++right l) w):=by
 obtain⟨a,cap,rfl⟩:=hu.len;have V:=Aa hu;have W:=Aa P;clear P;go_enter func243,ntmps243;go_wp2;go_loopw [11] (λi wr=> ∃(q:Nat)(o:tR),q<=l.length/\i=I U q/\Q wr b v1 o f (k++(l.take q).filter (λp=>decide (1<=p)))/\Cw (Qf b v1 v2) w wr/\Gr (Qf b v1 v2) (Qf b v1 o) w) (λi _=>l.length-(intOf i).toNat)
 case atStart=>exact⟨0,v2,Ap _,rfl,by simpa using h,Cw.refl _ _,Gr.refl _ _⟩
 case round=>
  obtain⟨q,o,hq,rfl,r,d,s⟩:=hrel;have G:((l.take q).filter (λp=>decide (1<=p))).length<=q:=AA (Ch _ _) (by rw[AY];omega);obtain⟨z,v⟩: ∃z,Hid (k++(l.take q).filter (λp=>decide (1<=p))=z):=⟨_,rfl⟩;rw[v.out]at r;have X:z.length<=k.length+q:=by rw[<-v.out];simp;omega
  clear G;by_cases g:q<l.length
  ·have B:=V.out.only d (W.out (by rintro rfl;simp at g))
   rcases B.open with⟨_,H⟩|⟨_,_,_,H⟩|⟨bu,off,R,he,_,_,aa,c⟩
   ·simp[H]at g
   ·simp[H]at g
   simp only[As]at he;obtain⟨rfl,_,rfl⟩:=he;have cu:=c q g;have F:=Aa (Ki l q g);clear c B;generalize l[q]?.getD 0=x at*
   have c1:=r.1.cell 1;simp only[Ad,Ac,Ag]at c1;by_cases S:1<=x
   ·rw[Ai S]at F
    have A:=Aa r;have t:=r.2.2.1;have C:=Aa t;clear r t;have m:z.length+ [x].length<100000000:=by simp;omega
    have D:=Aa m;clear m;go_wp2_with(at_builtin;refine Ju underlying22 Dv 0 _ rfl _ _ rfl _ _ _ [x] rfl rfl (C.out.alloc _) (DG.EW wr x) (Ap _) D.out ?_;intro v' w1 T;obtain⟨g',K,rfl⟩:=T.some;obtain⟨y,E,L,M⟩:=A.out.Uu T;have d1:=y.cell 1;simp only[Ad,Ac,Ag]at d1;have e1:=y.free 1;have O:=Aa E;clear E y);go_roundw
    case rel=>exact⟨q+1,_,by omega,by go_num,by rw[F.out,<-AU,v.out];exact O.out,d.andThen L (λj hj hs=>(s j hs).elim id (λx=>by omega)),s.trans M d.size⟩
    case measure=>simp[intOf];omega
   ·rw[Ah S,BW]at F
    have A:=Aa r;clear r;go_wp2;go_roundw
    case rel=>exact⟨q+1,_,by omega,by go_num,by rw[F.out,v.out];exact A.out,d,s⟩
    case measure=>simp[intOf];omega
  ·obtain rfl:q=l.length:=by omega
   rw[Cd]at v;have A:=Aa r;clear r;go_wp2_with fail;refine(Ut _ _ _ _ _ _ A.out (by omega)).mono ?_;rintro e w2⟨rfl,n,rfl⟩;go_wp2_with fail;go_ret;exact⟨by rw[show k++right l=z from v.out];rfl,o,by rw[show k++right l=z from v.out];exact A.out.drewN n,d.drewN n,s⟩
theorem Y2(b:Nat)(S:Nat->Prop)(L:List Int)(u:tR)(l:List Int)(w:rO)(h:Queue w b S L)(hu:DG w u l)(c:l≠[]->Hs S u)(d:L.length+l.length<10000000):tT prog 243 #[J (Z ⟨b,0,N⟩),u] w (NF b S (L++right l) w):=by obtain⟨v1,v2,f,k,h,rfl,rfl⟩:=h;refine(ki b v1 v2 f k u l w h hu c (by simp at d;omega)).mono ?_;rintro e w'⟨rfl,a,g,i,j⟩;exact⟨by simp,_,⟨v1,a,f,k++right l,g,by simp,rfl⟩,i,j⟩
end C4
namespace Ring
section
variable {w:rO}{b g size hd tl:Nat}{nx:Int}{F:Nat->Int}
structure Rg (w:rO) (b g size:Nat) (nx:Int) (hd tl:Nat) (F:Nat->Int):Prop where
 Dj:Cy w b #[I U nx,Y (Z ⟨g,0,N⟩) size size,.int .u32 hd,.int .u32 tl] 219
 cells:Dz w g size 3 (λi=>I U (F i))
 ne:b≠g
 NX:hd<size
 hle:hd<=tl
 eZ:tl<=hd+size
 Kk:2<=size
 FW:size<=256
 nz:0<=nx
theorem Rg.cell0(h:Rg w b g size nx hd tl F):w.cell? ⟨b,0,N⟩=Z (I U nx):=h.Dj.cell 0
theorem Rg.JC(h:Rg w b g size nx hd tl F):w.cell? ⟨b,1,N⟩=Z (Y (Z ⟨g,0,N⟩) size size):=h.Dj.cell 1
theorem Rg.Uw(h:Rg w b g size nx hd tl F):w.cell? ⟨b,2,N⟩=Z (.int .u32 hd):=h.Dj.cell 2
theorem Rg.Y3(h:Rg w b g size nx hd tl F):w.cell? ⟨b,3,N⟩=Z (.int .u32 tl):=h.Dj.cell 3
theorem Rg.drewN(h:Rg w b g size nx hd tl F)(n:Nat):Rg (w.drewN n) b g size nx hd tl F:=⟨h.Dj,h.cells,h.ne,h.NX,h.hle,h.eZ,h.Kk,h.FW,h.nz⟩
def SJ(x:Int)(w:rO)(e:uh)(w':rO):Prop:=e=ui (I U x)/\ ∃n,w'=w.drewN n
theorem OS(b g size:Nat)(nx:Int)(hd tl:Nat)(F:Nat->Int)(w:rO)(h:Rg w b g size nx hd tl F):tT prog 167 #[J (Z ⟨b,0,N⟩)] w (SJ ((tl-hd:Nat):Int) w):=by
 have e:=h.Uw;have c3:=h.Y3;have c:=h.hle;have d:=h.eZ;have f:=h.FW;clear h;obtain⟨n,a⟩: ∃n,n=tl-hd:=⟨_,rfl⟩;have i:IntKind.u32.wrap ((tl:Int)-hd)=n:=by rw[Zaw _ (by omega)];omega
 have j:IntKind.i64.wrap (n:Int)=n:=Cn _ (by omega);rw[<-a];clear a c d;go_enter func167,ntmps167;go_wp2;go_quiet(fail)
 go_wp2;go_ret;exact⟨rfl,_,rfl⟩
theorem SL(b g size:Nat)(nx:Int)(hd tl:Nat)(F:Nat->Int)(k:Nat)(w:rO)(h:Rg w b g size nx hd tl F)(f:k<=size):tT prog 197 #[J (Z ⟨b,0,N⟩),I U k] w λe w'=>e=ui (J (Z ⟨g,(hd+k)%size,N⟩))/\ ∃n,w'=w.drewN n:=by
 have c1:=h.JC;have i:=h.Uw;have l:=h.NX;have m:=h.FW;have o:=h.Kk;clear h;obtain⟨j,a⟩: ∃j,j=(hd+k)%size:=⟨_,rfl⟩;have c:j<size:=by rw[a];exact Zbr _ (by omega)
 have p:IntKind.i64.wrap ((hd:Int)+k)=(hd:Int)+k:=Cn _ (by omega);have e0:IntKind.i64.wrap (hd:Int)=(hd:Int):=Cn _ (by omega);have q:((hd:Int)+k).tmod size=(j:Int):=by rw[a];norm_cast
 rw[<-a];have d:(j:Int)<(size:Int):=by omega
 clear a;go_enter func197,ntmps197;go_wp2;go_quiet(fail)
 go_wp2;go_ret;exact⟨rfl,_,rfl⟩
theorem Gp(b g size:Nat)(nx:Int)(hd tl:Nat)(F:Nat->Int)(w:rO)(h:Rg w b g size nx hd tl F):tT prog 196 #[J (Z ⟨b,0,N⟩)] w λe w'=>e=ui (I U nx)/\w=w':=by have c0:=h.cell0;clear h;go_enter func196,ntmps196;go_wp2;go_ret;exact⟨rfl,rfl⟩
def E6(size hd tl:Nat)(F:Nat->Int):List Int:=(List.range (tl-hd)).map λk=>F ((hd+k)%size)
def C7(nx:Int)(row:List Int):List Int:=(if 0<nx then [nx]else [])++row
theorem EF(size hd tl:Nat)(F:Nat->Int):(E6 size hd tl F).length=tl-hd:=by simp[E6]
theorem DW(b g size:Nat)(nx:Int)(hd tl:Nat)(F:Nat->Int)(w:rO)(h:Rg w b g size nx hd tl F):tT prog 333 #[J (Z ⟨b,0,N⟩)] w (SJ ((C7 nx (E6 size hd tl F)).length) w):=by
 have j:Hid ((C7 nx (E6 size hd tl F)).length=(if 0<nx then 1 else 0)+(tl-hd)):=by show _=_;rw[C7,Au,EF];split<;>rfl
 have f:=Aa (Gp b g size nx hd tl F w h);have a:=Aa (OS b g size nx hd tl F w h);have k:=h.eZ;have o:=h.FW;clear h;obtain⟨n,i⟩: ∃n,n=tl-hd:=⟨_,rfl⟩;rw[j.out];rw[<-i]at a⊢;have l:n<=256:=by omega
 clear i k;by_cases c:0<nx
 ·rw[Ai c]
  go_enter func333,ntmps333;go_wp2_with fail;refine f.out.mono ?_;rintro e d⟨rfl,rfl⟩;go_wp2_with fail;refine a.out.mono ?_;rintro e d⟨rfl,m,rfl⟩;go_wp2_with fail;go_ret;exact⟨Fv (by omega),m,rfl⟩
 ·rw[Ah c]
  have hd:decide (0<nx)=false:=by simpa using c
  go_enter func333,ntmps333;go_wp2_with fail;refine f.out.mono ?_;rintro e d⟨rfl,rfl⟩;go_wp2_with fail;refine a.out.mono ?_;rintro e d⟨rfl,m,rfl⟩;go_wp2_with fail;go_ret;exact⟨Fv (by omega),m,rfl⟩
end
section
variable {w w':rO}{b g size hd tl:Nat}{nx:Int}{row:List Int}
def Sg(b g:Nat)(j:Nat):Prop:=j=b\/j=g
theorem Rg.only{S:Nat->Prop}{F:Nat->Int}(h:Rg w b g size nx hd tl F)(o:Cw S w w')(a: ¬S b)(c: ¬S g):Rg w' b g size nx hd tl F:=⟨h.Dj.only o a,h.cells.only o c,h.ne,h.NX,h.hle,h.eZ,h.Kk,h.FW,h.nz⟩
theorem Rg.below{F:Nat->Int}(h:Rg w b g size nx hd tl F)(o:tS w.heap.size w w'):Rg w' b g size nx hd tl F:=h.only (S:=λ_=>False) ((Cw.refl _ w).below o) (λx=>x) (λx=>x)
def Rw(w:rO)(b g size:Nat)(nx:Int)(row:List Int):Prop:= ∃hd tl F,Rg w b g size nx hd tl F/\E6 size hd tl F=row
theorem Rw.only{S:Nat->Prop}(h:Rw w b g size nx row)(o:Cw S w w')(a: ∀j,Sg b g j-> ¬S j):Rw w' b g size nx row:=by obtain⟨hd,tl,F,h,c⟩:=h;exact⟨hd,tl,F,h.only o (a b (.inl rfl)) (a g (.inr rfl)),c⟩
theorem Rw.below(h:Rw w b g size nx row)(o:tS w.heap.size w w'):Rw w' b g size nx row:=h.only (S:=λ_=>False) ((Cw.refl _ w).below o) (λ_ _ x=>x)
theorem Rw.drewN(h:Rw w b g size nx row)(n:Nat):Rw (w.drewN n) b g size nx row:=by obtain⟨hd,tl,F,h,a⟩:=h;exact⟨hd,tl,F,h.drewN n,a⟩
theorem Rw.lt(h:Rw w b g size nx row):b<w.heap.size/\g<w.heap.size:=by obtain⟨hd,tl,F,h,a⟩:=h;exact⟨h.Dj.lt,h.cells.lt⟩
theorem Rw.SM(h:Rw w b g size nx row):row.length<=size/\2<=size/\size<=256/\0<=nx/\b≠g:=by obtain⟨hd,tl,F,h,rfl⟩:=h;rw[EF];have:=h.eZ;exact⟨by omega,h.Kk,h.FW,h.nz,h.ne⟩
theorem NY(size hd tl:Nat)(F:Nat->Int)(k:Nat)(h:k<tl-hd):(E6 size hd tl F).take (k+1)=(E6 size hd tl F).take k++[F ((hd+k)%size)]:=by rw[Bg (by rw[EF];exact h)];simp[E6]
theorem VY(size hd tl:Nat)(F:Nat->Int)(n:Nat)(h:n<=tl-hd):E6 size (hd+n) tl F=(E6 size hd tl F).drop n:=by
 apply Zbu
 ·simp[E6];omega
 ·intro i a b
  simp[E6,Nat.add_assoc]
theorem SN(size hd tl:Nat)(F:Nat->Int)(h:size<=hd)(a:hd<=tl):E6 size (hd-size) (tl-size) F=E6 size hd tl F:=by
 apply Zbu
 ·simp[E6];omega
 ·intro i b c
  simp only[E6,Zbt,Zca];congr 1;rw[show hd+i=(hd-size+i)+size by omega,Nat.add_mod_right]
theorem VZ(size hd tl:Nat)(F:Nat->Int)(x:Int)(hle:hd<=tl)(h:tl<hd+size):E6 size hd (tl+1) (λi=>if i=(hd+(tl-hd))%size then x else F i)=E6 size hd tl F++[x]:=by
 unfold E6;rw[show tl+1-hd=(tl-hd)+1 by omega,Cc,BP];congr 1
 ·apply Cp
  intro k a;have b:k<tl-hd:=BZ.1 a;show(if(hd+k)%size=(hd+(tl-hd))%size then x else F ((hd+k)%size))=F ((hd+k)%size)
  rw[Ah];intro e;have c:=Nat.sub_mod_eq_zero_of_mod_eq e.symm;rw[show hd+(tl-hd)-(hd+k)=tl-hd-k by omega,Nat.mod_eq_of_lt (by omega)]at c;omega
 ·simp
def KY(b g size:Nat)(nx:Int)(hd tl:Nat)(w:rO)(e:uh)(w':rO):Prop:=(∃v,e=ui v)/\Cy w' b #[I U nx,Y (Z ⟨g,0,N⟩) size size,.int .u32 ((if size<=hd then hd-size else hd:Nat):Int),.int .u32 ((if size<=hd then tl-size else tl:Nat):Int)] 219/\Cw (λj=>j=b) w w'
theorem V0(b g size:Nat)(nx:Int)(hd tl:Nat)(w:rO)(h:Cy w b #[I U nx,Y (Z ⟨g,0,N⟩) size size,.int .u32 hd,.int .u32 tl] 219)(hle:hd<=tl)(f:tl<=100000)(k:size<=256):tT prog 236 #[J (Z ⟨b,0,N⟩)] w (KY b g size nx hd tl w):=by
 have c1:=h.cell 1;have i:=h.cell 2;have c3:=h.cell 3;have f2:=h.free 2;have f3:=h.free 3;simp only[Ad,Ac,Ag]at c1 i c3;have c:=Aa h;clear h;have l:IntKind.u32.wrap (size:Int)=size:=Zaw _ (by omega);by_cases a:size<=hd
 ·unfold KY
  rw[Ai a,Ai a];obtain⟨p,d⟩: ∃p,p=hd-size:=⟨_,rfl⟩;obtain⟨q,e⟩: ∃q,q=tl-size:=⟨_,rfl⟩;have m:IntKind.u32.wrap ((hd:Int)-size)=p:=by rw[Zaw _ (by omega)];omega
  have n:IntKind.u32.wrap ((tl:Int)-size)=q:=by rw[Zaw _ (by omega)];omega
  rw[<-d,<-e];clear d e;go_enter func236,ntmps236;go_wp2;go_region
  all_goals
   go_end0;exact⟨⟨_,rfl⟩,(c.out.set 2 (.int .u32 p)).set 3 (.int .u32 q),(((Cw.refl (λj=>j=b) w).set (.inr rfl) _ _).set (.inr rfl) _ _).drew⟩
 ·unfold KY
  rw[Ah a,Ah a];go_enter func236,ntmps236;go_wp2;go_end0;exact⟨⟨_,rfl⟩,c.out,Cw.refl _ _⟩
def Fz(b g size:Nat)(nx:Int)(row out:List Int)(w:rO)(e:uh)(w':rO):Prop:= ∃v,e=ui v/\CH w' w.heap.size v out/\Rw w' b g size nx row/\Cw (Sg b g) w w'
theorem IG(b g size:Nat)(nx:Int)(row:List Int)(n:Nat)(w:rO)(h:Rw w b g size nx row)(G:n<=row.length):tT prog 168 #[J (Z ⟨b,0,N⟩),I U n] w (Fz b g size nx (row.drop n) (row.take n) w):=by
 obtain⟨hd,tl,F,h,rfl⟩:=h;rw[EF]at G;have S:=h.NX;have T:=h.hle;have V:=h.eZ;have H:=h.FW;have K:=h.Kk;have L:=h.Dj.lt;have M:=Aa h;clear h;go_enter func168,ntmps168;go_wp2;go_loopw [4,7] (λv i wr=> ∃k:Nat,k<=n/\i=I U k/\CH wr w.heap.size v ((E6 size hd tl F).take k)/\tS w.heap.size w wr) (λ_ i _=>n-(intOf i).toNat)
 case atStart=>exact⟨0,Ap _,rfl,by simpa using CH.nil _ _,tU _ _⟩
 case round=>
  obtain⟨k,W,rfl,a,o⟩:=hrel;have d:=M.out.below o;have O:=o.size;by_cases P:k<n
  ·have Q:=Aa (NY size hd tl F k (by omega))
   have hm:(hd+k)%size<size:=Zbr _ (by omega);have X:=d.cells.cell hm;have hlen:((E6 size hd tl F).take k).length+ [F ((hd+k)%size)].length<100000000:=by simp[EF];omega
   have q:=Aa hlen;generalize(E6 size hd tl F).take k=l at*
   have R:=Aa (SL b g size nx hd tl F k wr d (by omega));generalize(hd+k)%size=j at*
   generalize F j=x at*
   have u:=Aa a;have c:=Aa d;have A:=Aa o;clear hlen a d o;go_wp2_with fail;refine R.out.mono ?_;rintro e w1⟨rfl,m,rfl⟩;go_wp2_with(at_builtin;refine Ju underlying22 C4.Dv w.heap.size _ rfl _ _ rfl _ _ _ [x] rfl rfl ((u.out.drewN m).alloc _) (DG.EW (wr.drewN m) x) (by simp;omega) q.out ?_;intro v' C D);go_roundw
   case rel=>exact⟨k+1,by omega,by go_num,by rw[Q.out];exact D.1,CK (Cu (Ce A.out m) _) D.2.1 (λj y=>(u.out.lt j y).1)⟩
   case measure=>simp[intOf];omega
  ·obtain rfl:k=n:=by omega
   have c2:=d.Uw;have f2:=d.Dj.free 2;have e1:IntKind.u32.wrap (k:Int)=k:=Zaw _ (by omega);obtain⟨p,z⟩: ∃p,p=hd+k:=⟨_,rfl⟩;have e2:IntKind.u32.wrap ((hd:Int)+k)=(p:Int):=by rw[Zaw _ (by omega)];omega
   have c:=Aa d;have A:=Aa o;have u:=Aa a;have E:=Aa z;clear d o a z;go_wp2_with fail;have r:Cy (wr.setCell ⟨b,2,N⟩ (.int .u32 p)) b #[I U nx,Y (Z ⟨g,0,N⟩) size size,.int .u32 p,.int .u32 tl] 219:=c.out.Dj.set 2 _;refine(V0 _ _ _ _ _ _ _ r (by have:=E.out;omega) (by omega) (by omega)).mono ?_;rintro e C⟨⟨v,rfl⟩,s,t⟩;have f:Hid (Cw (λj=>j=b) wr C):=((Cw.refl (λj=>j=b) wr).set (.inr rfl) _ _).trans t;have B:=Aa s;clear r s t;go_wp2_with fail;go_ret;have z:=E.out;refine⟨_,rfl,u.out.only f.out (λj y e=>by omega),⟨_,_,F,⟨B.out,c.out.cells.only f.out (λe=>c.out.ne e.symm),c.out.ne,?_,?_,?_,K,H,c.out.nz⟩,?_⟩,((Cw.refl (Sg b g) w).below A.out).andThen f.out (λj _ y=>.inl y)⟩
   ·split<;>omega
   ·split<;>omega
   ·split<;>omega
   ·rw[<-VY size hd tl F k (by omega),<-z]
    split
    ·exact SN size p tl F (by omega) (by omega)
    ·rfl
def Y4(b g size:Nat)(nx:Int)(row:List Int)(w:rO)(e:uh)(w':rO):Prop:=(∃v,e=ui v)/\Rw w' b g size nx row/\Cw (Sg b g) w w'
theorem Qn(b g size:Nat)(nx:Int)(row:List Int)(x:Int)(w:rO)(h:Rw w b g size nx row)(c:row.length<size):tT prog 169 #[J (Z ⟨b,0,N⟩),I U x] w (Y4 b g size nx (row++[x]) w):=by
 obtain⟨hd,tl,F,h,rfl⟩:=h;rw[EF]at c;have q:=h.NX;have r:=h.hle;have y:=h.eZ;have s:=h.FW;have t:=h.Kk;have k:=Aa (OS b g size nx hd tl F w h);have d:=Aa (λm=>SL b g size nx hd tl F (tl-hd) (w.drewN m) (h.drewN m) (by omega));have f:=Aa (VZ size hd tl F x r (by omega));have hm:(hd+(tl-hd))%size<size:=Zbr _ (by omega);have l:=h.cells.cell hm;have o:=h.cells.free ((hd+(tl-hd))%size);have c3:=h.Y3;have f3:=h.Dj.free 3;have a:=h.ne;obtain⟨n,c⟩: ∃n,n=tl-hd:=⟨_,rfl⟩;rw[<-c]at k d f hm l o;obtain⟨j,p⟩: ∃j,j=(hd+n)%size:=⟨_,rfl⟩;have z:IntKind.u32.wrap ((tl:Int)+1)=(tl:Int)+1:=Zaw _ (by omega);rw[<-p]at d f hm l o;have u:Hid (∀n,Rg (((w.drewN n).setCell ⟨g,j,N⟩ (I U x)).setCell ⟨b,3,N⟩ (.int .u32 ((tl:Int)+1))) b g size nx hd (tl+1) (λi=>if i=j then x else F i)):=by
  intro n;replace h:=h.drewN n;refine⟨((h.Dj.setOther a _).set 3 _),?_,a,q,by omega,by omega,t,s,h.nz⟩;refine((h.cells.set hm (I U x)).setOther (Cb a) _).congr (λi A=>?_);show(if i=j then _ else _)=_
  split<;>rfl
 clear c p h;go_enter func169,ntmps169;go_wp2_with fail;refine k.out.mono ?_;rintro e v⟨rfl,m,rfl⟩;go_wp2_with fail;refine(d.out m).mono ?_;rintro e v⟨rfl,m',rfl⟩;go_wp2_with fail;go_end0;refine⟨⟨_,rfl⟩,⟨hd,tl+1,_,u.out _,f.out⟩,(((Cw.refl (Sg b g) w).drewN _).set (.inr (.inr rfl)) _ _).set (.inr (.inl rfl)) _ _⟩
def Je(size:Nat)(row:List Int)(x:Int):List Int:=if row.length<size then row++[x]else row.drop (row.length/2)
def Gd(size:Nat)(row:List Int)(x:Int):List Int:=if row.length<size then []else row.take (row.length/2)++[x]
theorem Ux(b g size:Nat)(nx:Int)(row:List Int)(w:rO)(h:Rw w b g size nx row):tT prog 167 #[J (Z ⟨b,0,N⟩)] w (SJ row.length w):=by obtain⟨hd,tl,F,h,rfl⟩:=h;rw[EF];exact OS b g size nx hd tl F w h
theorem Qo(b g size:Nat)(nx:Int)(row:List Int)(w:rO)(h:Rw w b g size nx row):tT prog 167 #[J (Z ⟨b,0,N⟩)] w λe w'=>e=ui (I U row.length)/\ ∃n,w'=w.drewN n:=Ux b g size nx row w h
theorem Rw.JC(h:Rw w b g size nx row):w.cell? ⟨b,1,N⟩=Z (Y (Z ⟨g,0,N⟩) size size):=by obtain⟨hd,tl,F,h,rfl⟩:=h;exact h.JC
theorem Rw.cell0(h:Rw w b g size nx row):w.cell? ⟨b,0,N⟩=Z (I U nx)/\w.frozen? ⟨b,0,N⟩=false:=by obtain⟨hd,tl,F,h,rfl⟩:=h;exact⟨h.cell0,h.Dj.free 0⟩
theorem Hy(b g size:Nat)(nx:Int)(row:List Int)(x:Int)(w:rO)(h:Rw w b g size nx row):tT prog 114 #[J (Z ⟨b,0,N⟩),I U x] w (Fz b g size nx (Je size row x) (Gd size row x) w):=by
 have c1:=h.JC;obtain⟨C,D,E,n,F⟩:=h.SM;obtain⟨G,H⟩:=h.lt;have y:=Aa (λm=>Qo b g size nx row _ (h.drewN m));unfold Je Gd;by_cases i:row.length<size
 ·rw[Ai i,Ai i]
  have hd:((row.length:Int)==(size:Int))=false:=by rw[Az];omega
  have K:=Aa (λm=>Qn b g size nx row x _ (h.drewN m) i);clear h n;go_enter func114,ntmps114;go_wp2_with fail;go_quiet((go_at_call 167;exact Za8 (y.out _)))
  go_wp2_with fail;refine(K.out _).mono ?_;rintro e f⟨⟨v,rfl⟩,q,a⟩;go_wp2_with fail;go_ret;exact⟨_,rfl,CH.nil _ _,q,⟨a.os,a.tape,a.output,a.size,a.block⟩⟩
 ·rw[Ah i,Ah i]
  obtain rfl:size=row.length:=by omega
  have hd:((row.length:Int)==(row.length:Int))=true:=by simp
  have z:=Aa (λm=>IG b g row.length nx row (row.length/2) _ (h.drewN m) (by omega));obtain⟨k,r⟩: ∃k,Hid (k=row.length/2):=⟨_,rfl⟩;have Q:((row.length:Int)).tdiv 2=(k:Int):=by rw[r.out];norm_cast
  have L:(row.length:Int)/2=(k:Int):=by rw[r.out];norm_cast
  have R:k<=256:=by rw[r.out];omega
  rw[<-r.out]at z⊢;have hlen:(row.take k).length+ [x].length<100000000:=by simp;omega
  have o:=Aa hlen;generalize row.take k=l at*
  generalize row.drop k=r' at*
  generalize row.length=size at*
  clear h n hlen i;go_enter func114,ntmps114;go_wp2_with fail;go_quiet((go_at_call 167;exact Za8 (y.out _)))
  go_wp2_with fail;refine(z.out _).mono ?_;rintro e f⟨v,rfl,d,q,a⟩;have c:Hid (CH f w.heap.size v l):=d;have M:Hid (Cw (Sg b g) w f):=⟨a.os,a.tape,a.output,a.size,a.block⟩;have t:=Aa q;have O:w.heap.size<=f.heap.size:=a.size;clear d q a;go_wp2_with(at_builtin;refine Ju underlying22 C4.Dv w.heap.size _ rfl _ _ rfl _ _ _ [x] rfl rfl (c.out.alloc _) (DG.EW f x) (by simp;omega) o.out ?_;intro S P A;have B:=Aa A;clear A);go_ret;have p:Cw (λj=>v.ownBlock=Z j) f P:=((Cw.refl _ f).alloc _).grown B.out.2.1 (λj s=>.inr s);exact⟨_,rfl,B.out.1,t.out.only p (λj s u=>by have:=(c.out.lt j u).1;rcases s with rfl|rfl<;>omega),M.out.andThen p (λj s u=>by have:=(c.out.lt j u).1;omega)⟩
end
variable {w:rO}{b g size:Nat}
theorem Rg.Uy{nx:Int}{hd tl:Nat}{F:Nat->Int}(h:Rg w b g size nx hd tl F)(x:Int)(a:0<=x):Rg (w.setCell ⟨b,0,N⟩ (I U x)) b g size x hd tl F:=⟨h.Dj.set 0 _,h.cells.setOther (Cb h.ne) _,h.ne,h.NX,h.hle,h.eZ,h.Kk,h.FW,a⟩
theorem Rw.Uy{nx:Int}{row:List Int}(h:Rw w b g size nx row)(x:Int)(a:0<=x):Rw (w.setCell ⟨b,0,N⟩ (I U x)) b g size x row:=by obtain⟨hd,tl,F,h,c⟩:=h;exact⟨hd,tl,F,h.Uy x a,c⟩
def NG(nx g:Int)(next:Bool):Int:=if g<1 then nx else if next then g else nx
def OT(size:Nat)(nx:Int)(row:List Int)(g:Int)(next:Bool):List Int:=if g<1 then row else if next then(if nx=0 then row else Je size row nx)else Je size row g
def MN(size:Nat)(nx:Int)(row:List Int)(g:Int)(next:Bool):List Int:=if g<1 then []else if next then(if nx=0 then []else Gd size row nx)else Gd size row g
theorem Fz.Gj{nx:Int}{row out:List Int}{n:Nat}{e:uh}{w':rO}(h:Fz b g size nx row out (w.drewN n) e w'):Fz b g size nx row out w e w':=by obtain⟨v,c,d,f,a⟩:=h;exact⟨v,c,d,f,⟨a.os,a.tape,a.output,a.size,a.block⟩⟩
theorem EK(b g size:Nat)(nx:Int)(row:List Int)(x:Int)(next:Bool)(w:rO)(h:Rw w b g size nx row):tT prog 51 #[J (Z ⟨b,0,N⟩),I U x,ue next] w (Fz b g size (NG nx x next) (OT size nx row x next) (MN size nx row x next) w):=by
 unfold NG OT MN;by_cases c:x<1
 ·rw[Ai c,Ai c,Ai c]
  have o:=Aa h;clear h;go_enter func51,ntmps51;go_wp2;go_ret;exact⟨_,rfl,CH.nil _ _,o.out,Cw.refl _ _⟩
 ·rw[Ah c,Ah c,Ah c]
  cases next with
  |false=>rw[Ah (by simp),Ah (by simp),Ah (by simp)];have j:=Aa (Hy b g size nx row x w h);clear h;go_enter func51,ntmps51;go_wp2_with fail;refine j.out.mono ?_;rintro e k⟨v,rfl,a,d,f⟩;go_wp2_with fail;go_ret;exact⟨_,rfl,a,d,f⟩
  |true=>
   rw[Ai rfl,Ai rfl,Ai rfl];obtain⟨c0,f0⟩:=h.cell0;have m:=Aa (h.Uy x (by omega));have n:Hid (Cw (Sg b g) w (w.setCell ⟨b,0,N⟩ (I U x))):=(Cw.refl (Sg b g) w).set (.inr (.inl rfl)) _ _;by_cases i:nx=0
   ·subst i
    rw[Ai rfl,Ai rfl];clear h;go_enter func51,ntmps51;go_wp2_with fail;go_ret;exact⟨_,rfl,CH.nil _ _,m.out,n.out⟩
   ·rw[Ah i,Ah i]
    have p:(nx==0)=false:=by rw[Az];exact i
    have j:=Aa (Hy b g size x row nx _ m.out);clear h;go_enter func51,ntmps51;go_wp2_with fail;refine j.out.mono ?_;rintro e k⟨v,rfl,a,d,f⟩;have q:Hid (CH k w.heap.size v (Gd size row nx)):=by show CH k w.heap.size v (Gd size row nx);simpa using a
    have l:=Aa (n.out.trans f);have r:=Aa d;clear a f d;go_wp2_with fail;go_ret;exact⟨_,rfl,q.out,r.out,l.out⟩
def SO(nx:Int)(row:List Int):Int:=if 0<nx then nx else row.headD 0
def KZ(nx:Int)(row:List Int):Bool:=if 0<nx then tZ else !row.isEmpty
def FJ(nx:Int)(row:List Int):List Int:=if 0<nx then row else row.tail
def GP(b g size:Nat)(nx:Int)(row:List Int)(w:rO)(e:uh)(w':rO):Prop:=e=ui (uo #[I U (SO nx row),ue (KZ nx row)])/\Rw w' b g size 0 (FJ nx row)/\Cw (Sg b g) w w'
theorem Y5(b g size:Nat)(nx:Int)(row:List Int)(w:rO)(h:Rw w b g size nx row):tT prog 196 #[J (Z ⟨b,0,N⟩)] w λe w'=>e=ui (I U nx)/\w=w':=by obtain⟨hd,tl,F,h,rfl⟩:=h;exact Gp b g size nx hd tl F w h
theorem nA(b g size:Nat)(nx:Int)(row:List Int)(w:rO)(h:Rw w b g size nx row):tT prog 333 #[J (Z ⟨b,0,N⟩)] w (SJ (C7 nx row).length w):=by obtain⟨hd,tl,F,h,rfl⟩:=h;exact DW b g size nx hd tl F w h
theorem F9(b g size:Nat)(nx:Int)(row:List Int)(w:rO)(h:Rw w b g size nx row):tT prog 241 #[J (Z ⟨b,0,N⟩)] w (GP b g size nx row w):=by
 have j:=Aa (Y5 b g size nx row w h);have o:=Aa (Ux b g size nx row w h);obtain⟨q,s,t,u,y⟩:=h.SM;unfold GP SO KZ FJ;by_cases d:0<nx
 ·rw[Ai d,Ai d,Ai d]
  obtain⟨c0,f0⟩:=h.cell0;have z:=Aa (h.Uy 0 (by omega));clear h;go_enter func241,ntmps241;go_wp2_with fail;refine j.out.mono ?_;rintro e a⟨rfl,rfl⟩;go_wp2_with fail;go_ret2;exact⟨rfl,z.out,(Cw.refl (Sg b g) w).set (.inr (.inl rfl)) _ _⟩
 ·rw[Ah d,Ah d,Ah d]
  obtain rfl:nx=0:=by omega
  cases row with
  |nil=>have A:=Aa h;clear h;go_enter func241,ntmps241;go_wp2_with fail;refine j.out.mono ?_;rintro e a⟨rfl,rfl⟩;go_wp2_with fail;refine o.out.mono ?_;rintro e a⟨rfl,n,rfl⟩;go_wp2_with fail;go_ret2;exact⟨rfl,A.out.drewN n,(Cw.refl _ _).drewN n⟩
  |cons x r=>
   have F:(((x::r).length:Int)==0)=false:=by rw[Az];simp;omega
   have B:=Aa (λm=>IG b g size 0 (x::r) 1 _ (h.drewN m) (by simp));generalize(x::r).length=len at*
   clear h;go_enter func241,ntmps241;go_wp2_with fail;refine j.out.mono ?_;rintro e a⟨rfl,rfl⟩;go_wp2_with fail;refine o.out.mono ?_;rintro e a⟨rfl,n,rfl⟩;go_wp2_with fail;refine(B.out n).mono ?_;rintro e a⟨v,rfl,c,p,f⟩;obtain⟨i,cap,rfl,C⟩: ∃i cap,v=Y (Z ⟨i,0,N⟩) 1 cap/\a.cell? ⟨i,0,N⟩=Z (I U x):=by
    rcases c.open with⟨_,k⟩|⟨i,cap,k,_,_,_,D⟩
    ·simp at k
    ·exact⟨i,cap,by simpa using k,by simpa using D 0 (by simp)⟩
   have l:Hid (Rw a b g size 0 r):=by show Rw a b g size 0 r;simpa using p
   have E:Hid (Cw (Sg b g) w a):=⟨f.os,f.tape,f.output,f.size,f.block⟩;clear c p f;go_wp2_with fail;go_ret2;exact⟨rfl,l.out,E.out⟩
def EB(nx:Int)(row:List Int):Int:=if row=[]then 0 else nx
def II(nx:Int)(row:List Int):List Int:=if row=[]then C7 nx []else row.take (row.length-row.length/2)
def ET(row:List Int):List Int:=row.drop (row.length-row.length/2)
theorem Y6(b g size:Nat)(nx:Int)(row:List Int)(w:rO)(h:Rw w b g size nx row):tT prog 246 #[J (Z ⟨b,0,N⟩)] w (Fz b g size (EB nx row) (ET row) (II nx row) w):=by
 have t:=Aa (Ux b g size nx row w h);obtain⟨x,y,z,A,B⟩:=h.SM;unfold EB II ET;by_cases o:row=[]
 ·subst o
  rw[Ai rfl,Ai rfl];have p:=Aa (λm=>F9 b g size nx [] _ (h.drewN m));clear h;unfold GP SO KZ FJ at p;by_cases d:0<nx
  ·rw[Ai d,Ai d,Ai d]at p
   have a:C7 nx []=[nx]:=by simp[C7,d]
   rw[a];clear a;go_enter func246,ntmps246;go_wp2_with fail;refine t.out.mono ?_;rintro e f⟨rfl,n,rfl⟩;go_wp2_with fail;refine(p.out n).mono ?_;rintro e f⟨rfl,i,c⟩;have j:=Aa i;have r:Hid (Cw (Sg b g) w f):=⟨c.os,c.tape,c.output,c.size,c.block⟩;clear i c;go_wp2_with fail;go_ret;exact⟨_,rfl,(CH.new (w:=f) (l:=[nx]) (by simp[maxLen])).mono r.out.size,j.out.below (Cu (tU _ _) _),r.out.alloc _⟩
  ·rw[Ah d,Ah d,Ah d]at p
   have a:C7 nx []=[]:=by simp[C7,d]
   rw[a];clear a;go_enter func246,ntmps246;go_wp2_with fail;refine t.out.mono ?_;rintro e f⟨rfl,n,rfl⟩;go_wp2_with fail;refine(p.out n).mono ?_;rintro e f⟨rfl,i,c⟩;have j:=Aa i;have r:Hid (Cw (Sg b g) w f):=⟨c.os,c.tape,c.output,c.size,c.block⟩;clear i c;go_wp2_with fail;go_ret;exact⟨_,rfl,CH.nil _ _,j.out,r.out⟩
 ·rw[Ah o,Ah o]
  have C:0<row.length:=Cf.2 o;obtain⟨k,s⟩: ∃k,Hid (k=row.length-row.length/2):=⟨_,rfl⟩;have G:(row.length:Int)-(row.length:Int)/2=(k:Int):=by rw[s.out];omega
  have D:k<=row.length:=by rw[s.out];omega
  have E:=Aa (λm=>IG b g size nx row k _ (h.drewN m) D);rw[<-s.out];generalize row.take k=l at*
  generalize row.drop k=r' at*
  generalize row.length=len at*
  clear h o s;go_enter func246,ntmps246;go_wp2_with fail;refine t.out.mono ?_;rintro e f⟨rfl,n,rfl⟩;go_wp2_with fail;refine(E.out n).mono ?_;rintro e f u;have F:=u.Gj;obtain⟨v,rfl,q,i,c⟩:=F;clear u;go_wp2_with fail;go_ret;exact⟨_,rfl,q,i,c⟩
def Eg(L:List Int)(w:rO)(e:uh)(w':rO):Prop:= ∃v,e=ui v/\CH w' w.heap.size v L/\tS w.heap.size w w'
theorem Kj(b g size:Nat)(nx:Int)(row:List Int)(w:rO)(h:Rw w b g size nx row):tT prog 125 #[J (Z ⟨b,0,N⟩)] w (Eg (C7 nx row) w):=by
 have K:=Aa (Y5 b g size nx row w h);have c:=Aa (λo M=>Ux b g size nx row o (h.below (w':=o) M));obtain⟨hd,tl,F,h,rfl⟩:=h;have S:=h.hle;have T:=h.eZ;have V:=h.FW;have W:=h.Kk;have O:=Aa h;rw[EF]at c;clear h;obtain⟨n,d⟩: ∃n,Hid (n=tl-hd):=⟨_,rfl⟩;rw[<-d.out]at c;have X:n<=256:=by rw[d.out];omega
 have P:n<=size:=by rw[d.out];omega
 by_cases z:0<nx
 case' pos=>
  have D:decide (0<nx)=true:=by simpa using z
  go_enter func125,ntmps125;go_wp2_with fail;refine K.out.mono ?_;rintro e o⟨rfl,rfl⟩;go_wp2_with(at_builtin;refine Ju underlying22 C4.Dv w.heap.size _ rfl _ _ rfl (Y N 0 0) [] _ [nx] rfl rfl (CH.nil _ _) (DG.EW w nx) (by simp) (by simp) ?_;intro L A s;have t:=Aa s;clear s);have q:tS w.heap.size w A:=CK (Cu (tU _ _) _) t.out.2.1 (λj E=>by simp[ud]at E);refine(c.out _ q).mono ?_;rintro e o⟨rfl,m,rfl⟩;obtain⟨p,u⟩: ∃p:List Int,Hid ((∀l,C7 nx l=p++l)/\p.length<=1/\CH (A.drewN m) w.heap.size L p/\tS w.heap.size w (A.drewN m)):=⟨[nx],λl=>by simp[C7,z],Al _,t.out.1.drewN m,Ce q m⟩;clear t q
 case' neg=>
  have D:decide (0<nx)=false:=by simpa using z
  go_enter func125,ntmps125;go_wp2_with fail;refine K.out.mono ?_;rintro e o⟨rfl,rfl⟩;go_wp2_with fail;refine(c.out _ (tU _ _)).mono ?_;rintro e o⟨rfl,m,rfl⟩;obtain⟨p,u⟩: ∃p:List Int,Hid ((∀l,C7 nx l=p++l)/\p.length<=1/\CH (w.drewN m) w.heap.size (Y N 0 0) p/\tS w.heap.size w (w.drewN m)):=⟨[],λl=>by simp[C7,z],Ap _,CH.nil _ _,Ce (tU _ _) m⟩
 all_goals
  go_wp2_with fail;go_loopw [2,15] (λv i wr=> ∃k:Nat,k<=n/\i=I U k/\CH wr w.heap.size v (p++(E6 size hd tl F).take k)/\tS w.heap.size w wr) (λ_ i _=>n-(intOf i).toNat)
  case atStart=>exact⟨0,Ap _,rfl,by simpa using u.out.2.2.1,u.out.2.2.2⟩
  case round=>
   obtain⟨k,hk,rfl,a,r⟩:=hrel;have B:=O.out.below r;have Q:=r.size;by_cases G:k<n
   ·have R:=Aa (NY size hd tl F k (by rw[<-d.out];exact G))
    have hm:(hd+k)%size<size:=Zbr _ (by omega);have cx:=B.cells.cell hm;have hlen:(p++(E6 size hd tl F).take k).length+ [F ((hd+k)%size)].length<100000000:=by have:=u.out.2.1;simp[EF];omega
    have f:=Aa hlen;have t:=Aa (SL b g size nx hd tl F k wr B (by omega));obtain⟨l,y⟩: ∃l,Hid (l=p++(E6 size hd tl F).take k):=⟨_,rfl⟩;rw[<-y.out]at a f;generalize(hd+k)%size=j at*
    generalize F j=x at*
    have C:=Aa a;have H:=Aa r;clear hlen a B r;go_wp2_with fail;refine t.out.mono ?_;rintro e o⟨rfl,m',rfl⟩;go_wp2_with(at_builtin;refine Ju underlying22 C4.Dv w.heap.size _ rfl _ _ rfl _ _ _ [x] rfl rfl ((C.out.drewN m').alloc _) (DG.EW (wr.drewN m') x) (by simp;omega) f.out ?_;intro L A s);go_roundw
    case rel=>exact⟨k+1,by omega,by go_num,by rw[R.out,<-AU,<-y.out];exact s.1,CK (Cu (Ce H.out m') _) s.2.1 (λj E=>(C.out.lt j E).1)⟩
    case measure=>simp[intOf];omega
   ·obtain rfl:k=n:=by omega
    have H:=Aa r;have C:Hid (CH wr w.heap.size u2 (C7 nx (E6 size hd tl F))):=by show CH wr w.heap.size u2 (C7 nx (E6 size hd tl F));rw[u.out.1];rwa [AL (by rw[EF,<-d.out];exact Al _)]at a
    clear B r a;go_wp2_with fail;go_ret;exact⟨_,rfl,C.out,H.out⟩
theorem NZ(b g size:Nat)(nx:Int)(row:List Int)(w:rO)(h:Rw w b g size nx row):tT prog 300 #[J (Z ⟨b,0,N⟩)] w (Fz b g size 0 [] (C7 nx row) w):=by have m:=Aa (Kj b g size nx row w h);have n:=Aa h;have o:=h.lt;clear h;go_enter func300,ntmps300;go_wp2_with fail;refine m.out.mono ?_;rintro e f⟨v,rfl,c,i⟩;have d:=Aa c;have p:=Aa i;have a:=n.out.below i;have k:=a.lt.1;obtain⟨hd,tl,F,a,q⟩:=a;have c0:=a.cell0;have t:=a.Uw;have c3:=a.Y3;have f0:=a.Dj.free 0;have f2:=a.Dj.free 2;have f3:=a.Dj.free 3;have r:Hid (Rg (((f.setCell ⟨b,0,N⟩ (I U 0)).setCell ⟨b,2,N⟩ (.int .u32 0)).setCell ⟨b,3,N⟩ (.int .u32 0)) b g size 0 0 0 F):=⟨((a.Dj.set 0 _).set 2 _).set 3 _,((a.cells.setOther (Cb a.ne) _).setOther (Cb a.ne) _).setOther (Cb a.ne) _,a.ne,by have:=a.Kk;omega,Al _,by omega,a.Kk,a.FW,Zah _⟩;clear c i a q;go_wp2_with fail;go_ret;have l:Cw (Sg b g) f (((f.setCell ⟨b,0,N⟩ (I U 0)).setCell ⟨b,2,N⟩ (.int .u32 0)).setCell ⟨b,3,N⟩ (.int .u32 0)):=(((Cw.refl (Sg b g) f).set (.inr (.inl rfl)) _ _).set (.inr (.inl rfl)) _ _).set (.inr (.inl rfl)) _ _;exact⟨_,rfl,d.out.only l (λj u s=>by rcases s with rfl|rfl<;>omega),⟨0,0,F,r.out,by simp[E6]⟩,((Cw.refl (Sg b g) w).below p.out).trans l⟩
theorem ME(m:Nat)(hm:m<=100000)(w:rO):(Instr.makeSlice 22 (I U (m:Int)) (I U (m:Int))).run prog w= .ok (Y (Z ⟨w.heap.size,0,N⟩) m m) (w.alloc (uj (madeCells #[I U 0] m) 3)):=run_make_row' 22 3 (I U 0) 8 underlying22 C4.Dv rfl .i64 .i64 m (by omega) (by omega) w
def Mj(n:Int):Prop:=n<2\/256<n\/n%2=1
instance (n:Int):Decidable (Mj n):=by unfold Mj;infer_instance
def Mg(m:Nat)(w:rO)(e:uh)(w':rO):Prop:=e=ui (J (Z ⟨w.heap.size+1,0,N⟩))/\Rw w' (w.heap.size+1) w.heap.size m 0 []/\tS w.heap.size w w'
theorem FD(m:Nat)(w:rO)(h: ¬Mj m):tT prog 165 #[I U m] w (Mg m w):=by
 unfold Mj at h;have a:2<=m:=by omega
 have b:m<=256:=by omega
 have c:decide ((m:Int)<2)=false:=by simp;omega
 have d:decide ((256:Int)<(m:Int))=false:=by simp;omega
 have e:((m:Int)%2==1)=false:=by rw[Az];omega
 have f:=ME m (by omega);clear h;go_enter func165,ntmps165;go_wp2;go_ret;refine⟨by simp,⟨0,0,λ_=>0,⟨Cy.ID _ _ (by simp),(Dz.made w m 3 (I U 0)).alloc _,by omega,by omega,Al _,by omega,a,b,Zah _⟩,by simp[E6]⟩,Cu (Cu (tU _ _) _) _⟩
end Ring
end Go.Proofs.YtgadhchejmlfjaaGreatDoor
namespace Go.CN
open Go.RowKit
theorem DG.nB{S:Nat->Prop}{w w':rO}{v:tR}{l:List Int}(h:DG w v l)(k:Cw S w w')(c:l≠[]->Hs S v):DG w' v l:=by
 by_cases b:l=[]
 ·obtain⟨a,cap,d,e,hm,_⟩:=h
  exact⟨a,cap,d,e,hm,.inl b⟩
 ·exact h.only k (c b)
end Go.CN
namespace Go.Proofs.YtgadhchejmlfjaaGreatDoor
namespace Ring
theorem ES(u:tR)(l:List Int)(w:rO)(h:DG w u l)(v:l.length<10000000):tT prog 288 #[u] w (Eg l w):=by
 have hlen:([]:List Int).length+l.length<100000000:=by simp;omega
 have d:=Aa hlen;have i:=Aa h;have k:=λ(w:rO)(a:Option Addr)(n c o p:Nat)=>Za3 (P:=prog) w 22 3 a n c o p underlying22;clear hlen;rcases h.open with⟨rfl,rfl⟩|⟨x,cap,rfl,rfl⟩|⟨y,off,cap,rfl,q,m,r,b⟩
 ·clear h
  go_enter func288,ntmps288;go_wp2;go_ret;exact⟨_,rfl,CH.nil _ _,tU _ _⟩
 ·clear h
  go_enter func288,ntmps288;go_wp2_with(at_builtin;refine Ju underlying22 C4.Dv w.heap.size _ rfl _ _ rfl _ [] _ [] rfl rfl (CH.new (w:=w) (l:=[]) (by simp)) (i.out.alloc _) (by simp) (by simp) ?_;intro s t e;have f:=Aa e;clear e);go_ret;exact⟨_,rfl,f.out.1,CK (Cu (tU _ _) _) f.out.2.1 (λj g=>by simp[Act.eval,ud]at g;omega)⟩
 ·clear h b
  go_enter func288,ntmps288;go_wp2_with(at_builtin;refine Ju underlying22 C4.Dv w.heap.size _ rfl _ _ rfl _ [] _ l rfl rfl (CH.new (w:=w) (l:=[]) (by simp)) (i.out.alloc _) (by simp) d.out ?_;intro s t e;have f:=Aa e;clear e);go_ret;exact⟨_,rfl,f.out.1,CK (Cu (tU _ _) _) f.out.2.1 (λj g=>by simp[Act.eval,ud]at g;omega)⟩
theorem Uz(x:Int)(w:rO):tT prog 287 #[I U x] w λe w'=>e=ui (ue (decide (x<1)))/\w=w':=by go_enter func287,ntmps287;go_wp2;go_ret;exact⟨rfl,rfl⟩
def fa(l:List Int)(w:rO)(e:uh)(w':rO):Prop:= ∃k:Int,e=ui (I U k)/\w=w'/\(decide (0<=k)=l.any (λx=>decide (x<1)))
theorem Y7(l:List Int)(k:Nat)(h:k<l.length):(l.take (k+1)).any (λx=>decide (x<1))=((l.take k).any (λx=>decide (x<1))||decide (l[k]?.getD 0<1)):=by rw[Bg h,List.any_append];simp[h]
theorem Qp(l:List Int)(k:Nat)(h:(l.take k).any (λx=>decide (x<1))=tZ):l.any (λx=>decide (x<1))=true:=by rw[List.any_eq_true]at h⊢;obtain⟨x,a,h⟩:=h;exact⟨x,Ca a,h⟩
theorem OL(u:tR)(l:List Int)(w:rO)(h:DG w u l)(r:l.length<10000000):tT prog 219 #[u,.func (.func 287) #[] #[]] w (fa l w):=by
 obtain⟨a,cap,rfl⟩:=h.len;have o:=Aa h;clear h;go_enter func219,ntmps219;go_wp2;go_loop [8] (λi=> ∃k:Nat,k<=l.length/\i=I U k/\Hid ((l.take k).any (λx=>decide (x<1))=tY)) (λi=>l.length-(intOf i).toNat)
 case atStart=>exact⟨0,Ap _,rfl,by show _=_;simp⟩
 case round=>
  obtain⟨k,s,rfl,f⟩:=hrel;by_cases c:k<l.length
  ·rcases o.out.open with⟨_,g⟩|⟨_,_,_,g⟩|⟨t,off,j,he,_,_,p,b⟩
   ·simp[g]at c
   ·simp[g]at c
   simp only[As]at he;obtain⟨rfl,_,rfl⟩:=he;have v:=b k c;have m:=Aa (Y7 l k c);have q:=Aa (Qp l (k+1));generalize l[k]?.getD 0=x at*
   clear b;by_cases n:x<1
   ·have d:decide (x<1)=true:=by simpa using n
    go_wp2_with(go_at_call 287;refine(Uz _ _).mono ?_;rintro e w'⟨rfl,rfl⟩);go_ret;exact⟨k,rfl,rfl,by rw[q.out (by rw[m.out,d];simp)];simp⟩
   ·have d:decide (x<1)=false:=by simpa using n
    go_wp2_with(go_at_call 287;refine(Uz _ _).mono ?_;rintro e w'⟨rfl,rfl⟩);go_round
    case rel=>exact⟨k+1,by omega,by go_num,by show _=_;rw[m.out,f.out,d];rfl⟩
    case measure=>simp[intOf];omega
  ·obtain rfl:k=l.length:=by omega
   rw[Cd]at f;go_wp2;go_ret;exact⟨-1,rfl,rfl,by rw[f.out];rfl⟩
theorem Hz(u:tR)(l:List Int)(w:rO)(h:DG w u l)(b:l.length<10000000):tT prog 150 #[u,.func (.func 287) #[] #[]] w λe w'=>e=ui (ue (l.any (λx=>decide (x<1))))/\w=w':=by have c:=Aa (OL u l w h b);clear h;go_enter func150,ntmps150;go_wp2_with fail;refine c.out.mono ?_;rintro e f⟨k,rfl,rfl,a⟩;have d:=Aa a;clear a;go_wp2_with fail;go_ret;exact⟨Yj d.out,rfl⟩
def JF(size:Nat)(row l:List Int):List Int:=if l.any (λx=>decide (x<1))then row else row++l.take (size-row.length)
def Ir(size:Nat)(row l:List Int):List Int:=if l.any (λx=>decide (x<1))then []else l.drop (size-row.length)
theorem V7(l:List Int)(k:Nat)(h:k<l.length):l.take (k+1)=l.take k++[l[k]?.getD 0]:=by rw[Bg h];simp[h]
theorem Y8(b g size:Nat)(nx:Int)(row:List Int)(u:tR)(l:List Int)(w:rO)(h:Rw w b g size nx row)(hu:DG w u l)(T:l≠[]->Hs (Sg b g) u)(hl:l.length<10000000):tT prog 244 #[J (Z ⟨b,0,N⟩),u] w (Fz b g size nx (JF size row l) (Ir size row l) w):=by
 have G:=Aa (Hz u l w hu hl);obtain⟨a,cap,rfl⟩:=hu.len;have HU:=Aa hu;have HO:=Aa T;obtain⟨aa,ab,ad,ae,af⟩:=h.SM;have V:=Aa h;unfold JF Ir;clear hu T h;by_cases q:l.any (λx=>decide (x<1))=tZ
 ·rw[Ai q,Ai q]
  rw[q]at G;clear q;go_enter func244,ntmps244;go_wp2;go_step3;go_wp2_with fail;refine G.out.mono ?_;rintro e w1⟨rfl,rfl⟩;go_wp2_with fail;rw[Bw];go_ret;exact⟨_,rfl,CH.nil _ _,V.out,Cw.refl _ _⟩
 ·rw[Ah q,Ah q]
  rw[Bool.not_eq_true]at q;rw[q]at G;clear q;go_enter func244,ntmps244;go_wp2;go_step3;go_wp2_with fail;refine G.out.mono ?_;rintro e w1⟨rfl,rfl⟩;go_wp2_with fail;go_step3;go_wp2_with fail;go_loopw [18] (λi wr=> ∃k:Nat,k<=l.length/\row.length+k<=size/\i=I U k/\Rw wr b g size nx (row++l.take k)/\Cw (Sg b g) w wr) (λi _=>l.length-(intOf i).toNat)
  case atStart=>exact⟨0,Ap _,by omega,rfl,by simpa using V.out,Cw.refl _ _⟩
  case round=>
   obtain⟨k,hk,K,rfl,r,z⟩:=hrel;by_cases s:k<l.length
   ·have t:=HU.out.nB z HO.out
    have L:=Aa t;rcases t.open with⟨_,M⟩|⟨_,_,_,M⟩|⟨bu,off,C,he,_,W,ag,c⟩
    ·simp[M]at s
    ·simp[M]at s
    simp only[As]at he;obtain⟨rfl,_,rfl⟩:=he;have cu:=c k s;have O:=Aa (V7 l k s);have d:(row++l.take k).length=row.length+k:=by simp;omega
    have f:=Aa (λm=>Qo b g size nx _ _ (r.drewN m));rw[d]at f;have c1:=r.JC;generalize l[k]?.getD 0=x at*
    obtain⟨p,D⟩: ∃p,Hid (p=row.length+k):=⟨_,rfl⟩;rw[<-D.out]at f;have ah:p<=size:=by rw[D.out];exact K
    by_cases o:p=size
    ·have hd:((p:Int)==(size:Int))=true:=by simp[o]
     have X:Hid (k=size-row.length):=by have:=D.out;show k=size-row.length;omega
     have P:=Aa r;have j:=Aa z;have Q:=Aa (L.out.drop (Gk:=cap-k) k (by omega) rfl (by omega));have ai:(k:Int)<=(l.length:Int):=by omega
     clear c t d r z o;go_wp2_with fail;go_quiet((go_at_call 167;exact Za8 (f.out _)))
     go_wp2_with fail;refine(ES _ (l.drop k) _ (Q.out.drewN _) (by simp;omega)).mono ?_;rintro e H⟨v,rfl,y,B⟩;have E:Hid (CH H wr.heap.size v (l.drop k)):=y;have HB:Hid (tS wr.heap.size wr H):=⟨B.os,B.tape,B.output,B.size,B.block⟩;clear y B;go_wp2_with fail;rw[Bw];go_ret;exact⟨_,rfl,by rw[<-X.out];exact E.out.mono j.out.size,by rw[<-X.out];exact P.out.below HB.out,j.out.below HB.out⟩
    ·have hd:((p:Int)==(size:Int))=false:=by rw[Az];omega
     have A:=Aa (λm=>Qn b g size nx _ x _ (r.drewN m) (by rw[d,<-D.out];omega));have j:=Aa z;clear c t d r z;go_wp2_with fail;go_quiet((go_at_call 167;exact Za8 (f.out _)))
     go_wp2_with fail;refine(A.out _).mono ?_;rintro e H⟨⟨v,rfl⟩,F,n⟩;have R:Hid (Cw (Sg b g) wr H):=⟨n.os,n.tape,n.output,n.size,n.block⟩;have S:=Aa F;clear F n;go_wp2_with fail;go_roundw
     case rel=>exact⟨k+1,by omega,by have:=D.out;omega,by go_num,by rw[O.out,<-AU];exact S.out,j.out.trans R.out⟩
     case measure=>simp[intOf];omega
   ·obtain rfl:k=l.length:=by omega
    rw[Cd]at r;have P:=Aa r;have j:=Aa z;have O:Hid (l.take (size-row.length)=l):=AL (by omega);have HD:Hid (l.drop (size-row.length)=[]):=Zbm (by omega);clear r z;go_wp2_with fail;rw[Bw];go_ret;exact⟨_,rfl,by rw[HD.out];exact CH.nil _ _,by rw[O.out];exact P.out,j.out⟩
end Ring
namespace CZ
open Ring (Rw Sg C7)
section
variable {w w':rO}{p n:Nat}{rv:tR}
structure Rn where
 b:Nat
 g:Nat
 CI:Int
 row:List Int
variable {R:Nat->Rn}
def IJ(n:Nat)(R:Nat->Rn):List Value:=(List.range n).map λi=>J (Z ⟨(R i).b,0,N⟩)
theorem Mk(n:Nat)(R:Nat->Rn)(i:Nat)(h:i<n):(IJ n R)[i]?.getD undef=J (Z ⟨(R i).b,0,N⟩):=by simp[IJ,h]
structure Hq (w:rO) (p:Nat) (rv:tR) (n:Nat) (R:Nat->Rn):Prop where
 Dj:Cy w p #[rv] 195
 own:GM w 0 126 1 rv n (IJ n R)
 ring: ∀i,i<n->Rw w (R i).b (R i).g 256 (R i).CI (R i).row
 SP:rv.ownBlock≠Z p
 rp: ∀i,i<n-> ¬Sg (R i).b (R i).g p
 MO: ∀i,i<n->Hs (Sg (R i).b (R i).g) rv
 OU: ∀i j,i<n->j<n->i≠j-> ∀k,Sg (R i).b (R i).g k-> ¬Sg (R j).b (R j).g k
def Pf(p:Nat)(rv:tR)(n:Nat)(R:Nat->Rn)(j:Nat):Prop:=j=p\/rv.ownBlock=Z j\/ ∃i,i<n/\Sg (R i).b (R i).g j
theorem Hq.lt(h:Hq w p rv n R){j:Nat}(a:Pf p rv n R j):j<w.heap.size:=by
 rcases a with rfl|a|⟨i,b,a|a⟩
 ·exact h.Dj.lt
 ·exact(h.own.lt j a).2
 ·rw[a];exact(h.ring i b).lt.1
 ·rw[a];exact(h.ring i b).lt.2
theorem Hq.only{S:Nat->Prop}(h:Hq w p rv n R)(o:Cw S w w')(a: ∀j,Pf p rv n R j-> ¬S j):Hq w' p rv n R:=⟨h.Dj.only o (a p (.inl rfl)),h.own.off o (λj b=>a j (.inr (.inl b))),λi c=>(h.ring i c).only o (λj b=>a j (.inr (.inr ⟨i,c,b⟩))),h.SP,h.rp,h.MO,h.OU⟩
theorem Hq.below(h:Hq w p rv n R)(a:tS w.heap.size w w'):Hq w' p rv n R:=h.only (S:=λ_=>False) ((Cw.refl _ w).below a) (λ_ _ x=>x)
theorem EY(x:Int)(w:rO):tT prog 107 #[I U x] w λe w'=>e=ui (ue (decide (1<=x/\x<=256)))/\w=w':=by
 by_cases a:1<=x
 ·by_cases b:x<=256
  ·rw[A8 ⟨a,b⟩]
   go_enter func107,ntmps107;go_wp2;go_ret;exact⟨rfl,rfl⟩
  ·rw[Bi (λh=>b h.2)]
   have c:decide (x<=256)=false:=by simpa using b
   clear b;go_enter func107,ntmps107;go_wp2;go_ret;exact⟨rfl,rfl⟩
 ·rw[Bi (λh=>a h.1)]
  have c:decide (1<=x)=false:=by simpa using a
  clear a;go_enter func107,ntmps107;go_wp2;go_ret;exact⟨rfl,rfl⟩
theorem Hq.slice(h:Hq w p rv n R): ∃a cap,rv= .slice a n cap:=by
 rcases h.own.open with⟨rfl,rfl⟩|⟨g,cap,rfl,_⟩
 ·exact⟨N,0,rfl⟩
 ·exact⟨_,cap,rfl⟩
theorem DW(p:Nat)(rv:tR)(n:Nat)(R:Nat->Rn)(w:rO)(h:Hq w p rv n R):tT prog 57 #[J (Z ⟨p,0,N⟩)] w λe w'=>e=ui (I U n)/\w=w':=by obtain⟨a,cap,rfl⟩:=h.slice;have c0:=h.Dj.cell 0;simp only[Ad,Ac]at c0;clear h;go_enter func57,ntmps57;go_wp2;go_ret;exact⟨rfl,rfl⟩
def UA(n:Nat)(R:Nat->Rn)(i:Int):Value:=if 0<=i/\i<n then J (Z ⟨(R i.toNat).b,0,N⟩)else J N
theorem Qq(p:Nat)(rv:tR)(n:Nat)(R:Nat->Rn)(i:Int)(w:rO)(h:Hq w p rv n R):tT prog 50 #[J (Z ⟨p,0,N⟩),I U i] w λe w'=>e=ui (UA n R i)/\w=w':=by
 have c:=Aa (DW p rv n R w h);unfold UA;by_cases b:i<0
 ·rw[Ah (by omega)]
  clear h;go_enter func50,ntmps50;go_wp2;go_ret;exact⟨rfl,rfl⟩
 ·have d:decide (i<0)=false:=by simpa using b
  by_cases f:i<n
  ·rw[Ai ⟨by omega,f⟩]
   obtain⟨k,rfl⟩:=AF (show 0<=i by omega);rw[Am];have j:k<n:=by omega
   rcases h.own.open with⟨_,b⟩|⟨g,cap,rfl,_,o,q,a⟩
   ·omega
   have l:=a k (by omega);rw[Mk n R k j]at l;have c0:=h.Dj.cell 0;simp only[Ad,Ac]at c0;clear h a b;go_enter func50,ntmps50;go_wp2_with fail;refine c.out.mono ?_;rintro e m⟨rfl,rfl⟩;go_wp2_with fail;go_ret;exact⟨rfl,rfl⟩
  ·rw[Ah (by omega)]
   clear h;go_enter func50,ntmps50;go_wp2_with fail;refine c.out.mono ?_;rintro e m⟨rfl,rfl⟩;go_wp2_with fail;go_ret;exact⟨rfl,rfl⟩
end
section
variable {p n:Nat}
def Wc(r:Rn):Nat:=(C7 r.CI r.row).length
def Qr(R:Nat->Rn):Nat->Nat
 |0=>0
 |n+1=>Qr R n+Wc (R n)
theorem Ml{w:rO}{rv:tR}{R:Nat->Rn}(h:Hq w p rv n R)(i:Nat)(a:i<n):Wc (R i)<=257:=by have:=(h.ring i a).SM.1;unfold Wc C7;rw[Au];split<;>simp<;>omega
theorem OV{w:rO}{rv:tR}{R:Nat->Rn}(h:Hq w p rv n R)(k:Nat)(b:k<=n):Qr R k<=257*k:=by
 induction k with
 |zero=>simp[Qr]
 |succ k a=>have:=Ml h k (by omega);have:=a (by omega);simp[Qr];omega
theorem We(p:Nat)(rv:tR)(n:Nat)(R:Nat->Rn)(w:rO)(h:Hq w p rv n R)(q:n<=256):tT prog 292 #[J (Z ⟨p,0,N⟩)] w λe w'=>e=ui (I U (Qr R n))/\ ∃m,w'=w.drewN m:=by
 obtain⟨a,cap,rfl⟩:=h.slice;have c0:=h.Dj.cell 0;simp only[Ad,Ac]at c0;have d:=Aa h;clear h;go_enter func292,ntmps292;go_wp2;go_loopw [2,12] (λt i wr=> ∃k m:Nat,k<=n/\i=I U k/\t=I U (Qr R k)/\wr=w.drewN m) (λ_ i _=>n-(intOf i).toNat)
 case atStart=>exact⟨0,0,Ap _,rfl,rfl,rfl⟩
 case round=>
  obtain⟨k,m,j,rfl,rfl,rfl⟩:=hrel;by_cases c:k<n
  ·rcases d.out.own.open with⟨_,r⟩|⟨g,cap,he,_,s,u,b⟩
   ·omega
   have v:(w.drewN m).cell? ⟨g,k,N⟩=Z (J (Z ⟨(R k).b,0,N⟩)):=by rw[<-Mk n R k c];exact b k (by omega)
   cases he;have t1:=OV d.out k j;have t2:=Ml d.out k c;have l:=Aa (Ring.nA _ _ _ _ _ _ ((d.out.ring k c).drewN m));have o:IntKind.i64.wrap ((Qr R k:Int)+(C7 (R k).CI (R k).row).length)=((Qr R (k+1):Nat):Int):=by have:Qr R (k+1)=Qr R k+(C7 (R k).CI (R k).row).length:=rfl;rw[this];have t3:(C7 (R k).CI (R k).row).length<=257:=t2;rw[Cn _ (by omega)];omega
   clear b t1 t2;obtain⟨t',f⟩: ∃t',Hid (Qr R (k+1)=t'):=⟨_,rfl⟩;rw[f.out]at o;generalize Qr R k=t0 at*
   generalize(C7 (R k).CI (R k).row).length=t1 at*
   go_wp2_with fail;refine l.out.mono ?_;rintro e x⟨rfl,m1,rfl⟩;go_wp2_with fail;go_roundw
   case rel=>exact⟨k+1,m+m1,by omega,by go_num,by rw[f.out],rfl⟩
   case measure=>simp[intOf];omega
  ·obtain rfl:k=n:=by omega
   go_wp2;go_ret;exact⟨rfl,_,rfl⟩
end
section
open C4 (Gr)
variable {n b g:Nat}
theorem kj:(prog.info? 126).map (λi=>(i.zero,i.size,i.bytes))=Z (Z (J N),1,8):=by kernel_rfl
def more(n:Nat)(R:Nat->Rn)(b g:Nat):Nat->Rn:=λi=>if i=n then⟨b,g,0,[]⟩else R i
theorem Wf(n:Nat)(R:Nat->Rn)(b g:Nat):IJ (n+1) (more n R b g)=IJ n R++[J (Z ⟨b,0,N⟩)]:=by
 unfold IJ;rw[Cc,BP];congr 1
 ·apply Cp
  intro i a;have:i≠n:=by have:=BZ.1 a;omega
  simp[more,this]
 ·simp[more]
theorem FA{R:Nat->Rn}{i:Nat}(h:i<n):more n R b g i=R i:=by simp[more,show i≠n by omega]
theorem Hq.grow{W o w2:rO}{p:Nat}{rv NH:tR}{R:Nat->Rn}{tmp:Obj}(h:Hq W p rv n R)(D:tS W.heap.size W o)(C:Rw o b g 256 0 [])(v:W.heap.size<=b)(w:W.heap.size<=g)(E:Du (o.alloc tmp) 0 126 1 rv n (IJ n R) [J (Z ⟨b,0,N⟩)] NH w2):Cy w2 p #[rv] 195/\Hq (w2.setCell ⟨p,0,N⟩ NH) p NH (n+1) (more n R b g)/\Cw (Pf p rv n R) W (w2.setCell ⟨p,0,N⟩ NH)/\Gr (Pf p rv n R) (Pf p NH (n+1) (more n R b g)) W/\W.heap.size<=b/\W.heap.size<=g:=by
 obtain⟨F,G,H⟩:=E;have K:=h.Dj.lt;have L:=C.lt;have y:tS W.heap.size W (o.alloc tmp):=Cu D tmp;have q:Cw (λj=>rv.ownBlock=Z j) (o.alloc tmp) w2:=(Cw.refl _ _).grown G (λj e=>.inr e);have r:Cw (λj=>rv.ownBlock=Z j) W w2:=((Cw.refl _ W).below y).andThen q (λj a c=>c);have s:Cy w2 p #[rv] 195:=h.Dj.only r (λe=>h.SP e);have t:Cw (λj=>j=p\/rv.ownBlock=Z j) W (w2.setCell ⟨p,0,N⟩ NH):=(r.mono (λk _ l=>.inr l)).set (.inr (.inl rfl)) 0 NH;have d: ∀j,NH.ownBlock=Z j->rv.ownBlock=Z j\/o.heap.size<=j:=λj a=>(H j a).imp id (λx=>by simp at x;omega);have u:NH.ownBlock≠Z p:=λe=>by
  rcases d p e with f|f
  ·exact h.SP f
  ·omega
 have z: ∀i,i<n->Hs (Sg (R i).b (R i).g) NH:=λi m j a c=>by
  rcases d j a with f|f
  ·exact h.MO i m j f c
  ·have:=h.lt (j:=j) (.inr (.inr ⟨i,m,c⟩));omega
 have A:Hs (Sg b g) NH:=λj a c=>by
  rcases d j a with f|f
  ·have:=(h.own.lt j f).2
   rcases c with c|c<;>omega
  ·rcases c with c|c<;>omega
 have hold: ∀i,i<n-> ∀j,Sg (R i).b (R i).g j-> ¬Sg b g j:=λi m j a c=>by have:=h.lt (j:=j) (.inr (.inr ⟨i,m,a⟩));rcases c with c|c<;>omega
 refine⟨s,⟨s.set 0 NH,?_,?_,u,?_,?_,?_⟩,t.mono (λk _ l=>l.elim .inl (λx=>.inr (.inl x))),?_,v,w⟩
 ·rw[Wf]
  exact .inl (Zbk F (DO w2 p 0 NH) (.inr u))
 ·intro i m
  by_cases e:i=n
  ·subst e
   simp only[more,BD];have M:Rw (o.alloc tmp) b g 256 0 []:=C.below (Cu (tU _ _) _);have O:Rw w2 b g 256 0 []:=M.only q (λj a c=>by have:=(h.own.lt j c).2;rcases a with a|a<;>omega);exact O.only (S:=λj=>j=p) ((Cw.refl (λj=>j=p) w2).set (.inr rfl) 0 NH) (λj a c=>by rcases a with a|a<;>omega)
  ·rw[FA (by omega)]
   exact(h.ring i (by omega)).only t (λj a c=>c.elim (λe=>h.rp i (by omega) (e▸a)) (λe=>h.MO i (by omega) j e a))
 ·intro i m
  by_cases e:i=n
  ·subst e;simp only[more,BD];intro c;rcases c with c|c<;>omega
  ·rw[FA (by omega)];exact h.rp i (by omega)
 ·intro i m
  by_cases e:i=n
  ·subst e;simp only[more,BD];exact A
  ·rw[FA (by omega)];exact z i (by omega)
 ·intro i j m a B k l
  by_cases e:i=n
  ·subst e
   rw[FA (show j<i by omega)];simp only[more,BD]at l;exact λc=>hold j (by omega) k c l
  ·rw[FA (show i<n by omega)]at l
   by_cases P:j=n
   ·subst P;simp only[more,BD];exact hold i (by omega) k l
   ·rw[FA (show j<n by omega)];exact h.OU i j (by omega) (by omega) B k l
 ·rintro j(rfl|a|⟨i,m,a⟩)
  ·exact .inl (.inl rfl)
  ·rcases d j a with f|f
   ·exact .inl (.inr (.inl f))
   ·exact .inr (by omega)
  ·by_cases e:i=n
   ·subst e;simp only[more,BD]at a;right;rcases a with a|a<;>omega
   ·rw[FA (by omega)]at a;exact .inl (.inr (.inr ⟨i,by omega,a⟩))
end
section
open C4 (Gr)
variable {p n k b g:Nat}{rv kk nC:tR}{R R1:Nat->Rn}{w wr w2:rO}
theorem EW(w:rO)(x:tR)(t:TypeId): ∀(j:Nat)(y:tR),[x][j]?=Z y->(w.alloc (uj #[x] t)).cell? ((⟨w.heap.size,0,N⟩:Addr).add j)=Z y:=by
 intro j y b;have a:j=0:=by have:=(Af.1 b).1;simpa using this
 subst a;rw[AE,(Cy.new w #[x] t).cell];simpa using b
structure Y9 (p:Nat) (rv:tR) (n:Nat) (R:Nat->Rn) (w:rO) (NH:tR) (k:Nat) (R':Nat->Rn) (wr:rO):Prop where
 Ff:Hq wr p NH k R'
 only:Cw (Pf p rv n R) w wr
 gr:Gr (Pf p rv n R) (Pf p NH k R') w
 mP: ∀i,i<n->R' i=R i
 new: ∀i,n<=i->i<k->(R' i).CI=0/\(R' i).row=[]
 le:n<=k
 fr: ∀i,n<=i->i<k->w.heap.size<=(R' i).b/\w.heap.size<=(R' i).g
theorem Y9.refl(h:Hq w p rv n R):Y9 p rv n R w rv n R w:=⟨h,Cw.refl _ _,Gr.refl _ _,λ_ _=>rfl,λi a b=>by omega,Al _,λi a b=>by omega⟩
theorem Y9.step(h:Y9 p rv n R w kk k R1 wr)(c:Hq w2 p nC (k+1) (more k R1 b g))(d:Cw (Pf p kk k R1) wr w2)(f:Gr (Pf p kk k R1) (Pf p nC (k+1) (more k R1 b g)) wr/\wr.heap.size<=b/\wr.heap.size<=g):Y9 p rv n R w nC (k+1) (more k R1 b g) w2:=by
 have hle:=h.le;refine⟨c,h.only.andThen d (λj q l=>(h.gr j l).elim id (λx=>by omega)),h.gr.trans f.1 h.only.size,λi m=>?_,λi a o=>?_,by omega,λi a o=>?_⟩
 ·rw[FA (by omega)];exact h.mP i m
 ·by_cases e:i=k
  ·subst e;simp[more]
  ·rw[FA (by omega)];exact h.new i a (by omega)
 ·by_cases e:i=k
  ·subst e;have:=h.only.size;simp[more];omega
  ·rw[FA (by omega)];exact h.fr i a (by omega)
def Za(p:Nat)(rv:tR)(n m:Nat)(R:Nat->Rn)(w:rO)(e:uh)(w':rO):Prop:=(∃v,e=ui v)/\ ∃a b,Y9 p rv n R w a (max n m) b w'
theorem fc{m j:Nat}(h:Y9 p rv n R w kk k R1 wr/\k+(j+1)=max n m)(d:Hq w2 p nC (k+1) (more k R1 b g))(e:Cw (Pf p kk k R1) wr w2)(f:Gr (Pf p kk k R1) (Pf p nC (k+1) (more k R1 b g)) wr/\wr.heap.size<=b/\wr.heap.size<=g): ∃a c i,Y9 p rv n R w a c i w2/\c+j=max n m:=⟨_,_,_,h.1.step d e f,by omega⟩
theorem Qs(p:Nat)(rv:tR)(n m:Nat)(R:Nat->Rn)(w:rO)(h:Hq w p rv n R)(hn:n<=256)(hm:m<=256):tT prog 108 #[J (Z ⟨p,0,N⟩),I U m] w (Za p rv n m R w):=by
 have y:=Aa h;clear h;go_enter func108,ntmps108;go_wp2;go_loopg [4] (max n m-n) (λgk _ wr=> ∃z H O,Y9 p rv n R w z H O wr/\H+gk=max n m)
 case atStart=>exact⟨rv,n,R,Y9.refl y.out,by omega⟩
 case round=>
  obtain⟨kk,k,R1,i,l⟩:=hrel;have hle:=i.le;obtain⟨a,cap,rfl⟩:=i.Ff.slice;have c0:=i.Ff.Dj.cell 0;simp only[Ad,Ac]at c0;cases gk with
  |zero=>
   have P:decide (k<m)=false:=by simp;omega
   have Q:=Aa i;have S:Hid (k=max n m):=by show _=_;omega
   clear i l hle;go_wp2;go_end0;exact⟨⟨_,rfl⟩,_,_,by rw[<-S.out];exact Q.out⟩
  |succ j=>
   have P:decide (k<m)=true:=by simp;omega
   have A:k<256:=by omega
   have r:=Aa (Ab i l);have q:=Aa i.Ff;have T:=i.Ff.Dj.lt;have L:Hid (tT prog 165 #[I U 256] wr.drew (Ring.Mg 256 wr.drew)):=Ring.FD 256 wr.drew (by decide);clear i l hle;go_wp2_with fail;refine wp_region_any (by kernel_rfl) ?_;try(change wpAny _ _ _ _ _ _ _ (World.drew _))
   refine R0 0 (v:=?_) rfl (by kernel_rfl) (λ_ _ _ h=>h) ?_ ?_;rotate_left
   ·intro w';go_simp;try(with_reducible rfl)
   refine R0 1 (v:=?_) rfl (by kernel_rfl) (λ_ _ _ h=>h) ?_ ?_;rotate_left
   ·intro w';go_simp;try(with_reducible rfl)
   refine R0 2 (v:=?_) rfl (by kernel_rfl) (λ_ _ _ h=>h) ?_ ?_;rotate_left
   ·intro w';go_simp;try(with_reducible rfl)
   refine R0 3 (v:=?_) rfl (by kernel_rfl) (λ_ _ _ h=>h) ?_ ?_;rotate_left
   ·intro w';go_simp;try(with_reducible rfl)
   refine B9 (rs:=[4,5]) (by kernel_rfl) (by simp) ?_;refine Zat rfl (λK b=>?_) (Zat rfl (λK b=>?_) (Zb6));case' _=>go_simp;refine b _ _ ?_;clear b K;refine dP 5 (by kernel_rfl) rfl λK b=>?_;go_simp;go_wp2_with(go_at_call 165;(with_reducible refine L.out.mono ?_);rintro e d⟨rfl,f,g⟩;have s:=Aa f;have c:Hid (tS wr.heap.size wr d):=Gj g;have d0:d.cell? ⟨p,0,N⟩=Z (.slice a k cap):=((Cy.below q.out.Dj c.out q.out.Dj.lt).cell 0);have B:wr.heap.size<=d.heap.size:=c.out.size;have C:p<d.heap.size:=(by omega);clear f g);refine dP 6 (by kernel_rfl) rfl λK b=>?_;go_simp;refine b _ _ ?_;clear b K
   rotate_left
   case' _=>
    go_simp;go_wp2_with(go_at_call 165;(with_reducible refine L.out.mono ?_);rintro e d⟨rfl,f,g⟩;have s:=Aa f;have c:Hid (tS wr.heap.size wr d):=Gj g;have d0:d.cell? ⟨p,0,N⟩=Z (.slice a k cap):=((Cy.below q.out.Dj c.out q.out.Dj.lt).cell 0);have B:wr.heap.size<=d.heap.size:=c.out.size;have C:p<d.heap.size:=(by omega);clear f g);refine B9 (rs:=[4,6]) (by kernel_rfl) (by simp) ?_;refine Zat rfl (λK b=>?_) (Zat rfl (λK b=>?_) (Zb6));case' _=>go_simp;refine b _ _ ?_;clear b K;refine dP 6 (by kernel_rfl) rfl λK b=>?_;go_simp;refine b _ _ ?_;clear b K
    rotate_left;case' _=>go_simp;refine b _ _ ?_;clear b K;refine dP 4 (by kernel_rfl) rfl λK b=>?_;go_simp;refine b _ _ ?_;clear b K
   all_goals
    refine dP 7 (by kernel_rfl) rfl λK b=>?_;refine JA underlying193 kj rfl (by decide) (by decide) 0 _ rfl (.tmp 15) (.tmp 17) rfl (.slice a k cap) k (IJ k R1) ⟨d.heap.size,0,N⟩ 1 [J (Z ⟨wr.heap.size+1,0,N⟩)] (by kernel_rfl) (by kernel_rfl) ((q.out.own.below c.out).below (Cu (tU _ _) _)) rfl (EW d _ _) (by simp[Value.oneCell']) (Ap _) (by omega) ?_;intro v' w3 D;obtain⟨g',M,rfl⟩:=D.some;obtain⟨o,t,u,x⟩:=q.out.grow c.out s.out (by simp) (by simp) D;have W:=o.cell 0;have X:=o.free 0;simp only[Ad,Ac]at W;have E:=Aa t;have F:=Aa u;have G:=Aa x;clear t o u x D;refine b _ _ ?_;clear b K;refine R0 8 (v:=?_) rfl (by kernel_rfl) (λ_ _ _ h=>h) ?_ ?_;rotate_left
    ·intro w';go_simp;try(with_reducible rfl)
    refine R0 9 (v:=?_) rfl (by kernel_rfl) (λ_ _ _ h=>h) ?_ ?_;rotate_left
    ·intro w';go_simp;try(with_reducible rfl)
    refine dP 10 (by kernel_rfl) rfl λK b=>?_;go_simp;refine b _ _ ?_;clear b K;refine wpAny_done (by kernel_rfl) ?_ _;go_wp2_with fail;go_roundg j
    case rel=>exact fc r.out E.out F.out G.out
    case measure=>omega
end
open C4 (Gr)
theorem Hq.nil(w:rO)(R:Nat->Rn):Hq (w.alloc (uj #[Y N 0 0] 195)) w.heap.size (Y N 0 0) 0 R:=⟨Cy.new w _ 195,.inl (AH _ _ 126 1),λi a=>by omega,by simp[ud],λi a=>by omega,λi a=>by omega,λi j a=>by omega⟩
def qA(m:Nat)(w:rO)(e:uh)(w':rO):Prop:=e=ui (J (Z ⟨w.heap.size,0,N⟩))/\ ∃rv R,Hq w' w.heap.size rv m R/\(∀i,i<m->(R i).CI=0/\(R i).row=[])/\tS w.heap.size w w'/\ ∀j,Pf w.heap.size rv m R j->w.heap.size<=j
theorem FD(m:Nat)(w:rO)(n:1<=m)(k:m<=256):tT prog 42 #[I U m] w (qA m w):=by
 have f:=Aa (EY m w);rw[A8 ⟨by omega,by omega⟩]at f;have l:=Aa (Qs w.heap.size _ 0 m (λ_=>⟨0,0,0,[]⟩) _ (Hq.nil w (λ_=>⟨0,0,0,[]⟩)) (by omega) k);go_enter func42,ntmps42;go_wp2_with fail;refine f.out.mono ?_;rintro e o⟨rfl,rfl⟩;go_wp2_with fail;refine l.out.mono ?_;rintro e w2⟨⟨v,rfl⟩,rv,R,c⟩;rw[Zbv (Ap m)]at c;have b:=Aa c;clear c;go_wp2_with fail;go_ret;have a: ∀j,Pf w.heap.size (Y N 0 0) 0 (λ_=>(⟨0,0,0,[]⟩:Rn)) j->w.heap.size<=j:=by
  rintro j(rfl|d|⟨i,g,_⟩)
  ·exact Al _
  ·simp[ud]at d
  ·omega
 refine⟨rfl,rv,R,b.out.Ff,λi g=>b.out.new i (Ap _) g,?_,λj d=>?_⟩
 ·exact(Cu (tU _ _) _).trans (b.out.only.toBelow (by simp) a)
 ·rcases b.out.gr j d with h|h
  ·exact a j h
  ·simp at h;omega
end CZ
end Go.Proofs.YtgadhchejmlfjaaGreatDoor
namespace Go.CN
open Go.RowKit
variable {w w':rO}{base n:Nat}{v u:tR}{vs:List tR}{ls:List (List Int)}
def Wg(w:rO)(base:Nat)(v:tR)(vs:List tR)(ls:List (List Int)):Prop:=w.ownsRow base 22 1 v ls.length vs/\ ∀i,i<ls.length->CH w base (vs[i]?.getD undef) (ls[i]?.getD [])
def LL(w:rO)(base:Nat)(v:tR)(ls:List (List Int)):Prop:= ∃vs,Wg w base v vs ls
theorem Wg.nil(w:rO)(base:Nat):Wg w base (Y N 0 0) [] []:=⟨AH w base 22 1,λi a=>by simp at a⟩
theorem Wg.below(h:Wg w base v vs ls)(a:tS w.heap.size w w'):Wg w' base v vs ls:=⟨CM h.1 a,λi b=>(h.2 i b).below a⟩
theorem LL.below(h:LL w base v ls)(a:tS w.heap.size w w'):LL w' base v ls:=by obtain⟨vs,h⟩:=h;exact⟨vs,h.below a⟩
theorem UB{a:Nat}{xs:List tR}{l:List Int}(h:w.ownsRow base 22 1 v n xs)(k:CH w a u l):u.ownBlock=N\/u.ownBlock≠v.ownBlock:=by
 obtain⟨_,⟨hu,_⟩|⟨j,d,f,hu,_,b,_⟩⟩:=k
 ·left;rw[hu];rfl
 ·right
  obtain⟨_,⟨c,_⟩|⟨g,cap,cur,c,_,i,_⟩⟩:=h
  ·rw[hu,c];simp[ud]
  ·rw[hu,c]
   simp only[ud,ne_eq,Ak];intro e;subst e;rw[i]at b;cases b
theorem Wg.push{v':tR}{l:List Int}(h:Wg w base v vs ls)(hu:CH w base u l)(c:Du w base 22 1 v ls.length vs [u] v' w'):Wg w' base v' (vs++[u]) (ls++[l]):=by
 obtain⟨d,a,g⟩:=c;have f:vs.length=ls.length:=by have:=h.1.1;simpa using this
 refine⟨by rw[Au];exact d,λi b=>?_⟩;rw[Au]at b;simp only[Av,AG]at b;by_cases e:i<ls.length
 ·rw[Aw (by omega),Aw e]
  exact(h.2 i e).kept a (UB h.1 (h.2 i e))
 ·obtain rfl:i=ls.length:=by omega
  rw[Ar (by omega),Ar (by omega)];simp only[f,Bj,Ac,AW];exact hu.kept a (UB h.1 hu)
theorem Wg.len(h:Wg w base v vs ls): ∃a cap,v= .slice a ls.length cap:=by
 rcases C6 h.1 with⟨rfl,b⟩|⟨g,cap,rfl,_⟩
 ·exact⟨N,0,by rw[b]⟩
 ·exact⟨_,cap,rfl⟩
theorem LL.len(h:LL w base v ls): ∃a cap,v= .slice a ls.length cap:=by obtain⟨vs,h⟩:=h;exact h.len
theorem LL.at{a:Option Addr}{cap:Nat}(h:LL w base (.slice a n cap) ls)(i:Nat)(d:i<ls.length):n=ls.length/\ ∃g u,a=Z ⟨g,0,N⟩/\w.cell? ⟨g,i,N⟩=Z u/\CH w base u (ls[i]?.getD []):=by
 obtain⟨vs,e,f⟩:=h;rcases C6 e with⟨_,j⟩|⟨g,c,he,_,k,l,b⟩
 ·omega
 ·simp only[As]at he
  obtain⟨rfl,rfl,rfl⟩:=he;exact⟨rfl,g,_,rfl,b i (by omega),f i d⟩
end Go.CN
namespace Go.Proofs.YtgadhchejmlfjaaGreatDoor
namespace CZ
open Ring (Rw Sg C7)
theorem km:(prog.info? 22).map (λi=>(i.zero,i.size,i.bytes))=Z (Z (Y N 0 0),1,24):=by kernel_rfl
theorem nD(w:rO)(x:tR): ∀(j:Nat)(y:tR),[x][j]?=Z y->(w.alloc (uj #[x] 22)).cell? ((⟨w.heap.size,0,N⟩:Addr).add j)=Z y:=EW w x 22
def qs(R:Nat->Rn)(n:Nat):List (List Int):=(List.range n).map λi=>C7 (R i).CI (R i).row
theorem fe(R:Nat->Rn)(k:Nat):qs R (k+1)=qs R k++[C7 (R k).CI (R k).row]:=by simp[qs,Cc]
theorem Zb(R:Nat->Rn)(k:Nat):(qs R k).length=k:=by simp[qs]
def Zc(ls:List (List Int))(w:rO)(e:uh)(w':rO):Prop:= ∃v,e=ui v/\LL w' w.heap.size v ls/\tS w.heap.size w w'
theorem ff{w:rO}{base:Nat}{v:tR}{l:List Int}(h:CH w base v l): ∀x∈[v],x.oneCell'=true:=by intro x b;obtain⟨a,c,rfl⟩:=C4.Dm h;simp at b;subst b;rfl
theorem SQ(p:Nat)(rv:tR)(n:Nat)(R:Nat->Rn)(w:rO)(h:Hq w p rv n R)(Q:n<=256):tT prog 60 #[J (Z ⟨p,0,N⟩)] w (Zc (qs R n) w):=by
 obtain⟨a,cap,rfl⟩:=h.slice;have c0:=h.Dj.cell 0;simp only[Ad,Ac]at c0;have H:=Aa h;clear h;go_enter func60,ntmps60;go_wp2;go_loopw [2,13] (λt i wr=> ∃(k:Nat)(vs:List tR),k<=n/\i=I U k/\Wg wr w.heap.size t vs (qs R k)/\tS w.heap.size w wr) (λ_ i _=>n-(intOf i).toNat)
 case atStart=>exact⟨0,[],Ap _,rfl,Wg.nil _ _,tU _ _⟩
 case round=>
  obtain⟨k,vs,S,rfl,d,o⟩:=hrel;have z:=H.out.below o;by_cases q:k<n
  ·rcases z.own.open with⟨_,T⟩|⟨g,C,he,_,V,W,b⟩
   ·omega
   cases he;have K:=b k (by omega);rw[Mk n R k q]at K;have L:=Aa (Ring.Kj _ _ _ _ _ _ (z.ring k q));have l:=Aa d;have r:=Aa o;obtain⟨at_,X,rfl⟩:=d.len;rw[Zb]at*
   clear b d z o;go_wp2_with fail;refine L.out.mono ?_;rintro e D⟨u,rfl,hu,f⟩;obtain⟨s,v,x,rfl⟩: ∃a n c,u= .slice a n c:=by obtain⟨a,c,M⟩:=C4.Dm hu;exact⟨a,_,c,M⟩
   have A:=Aa f;have O:=r.out.size;have E:=f.size;have m:=Aa ((l.out.below f).below (Cu (tU _ _) (uj #[.slice s v x] 22)));have B:=Aa ((hu.below (Cu (tU _ _) (uj #[.slice s v x] 22))).mono r.out.size);have y:=Aa (ff hu);clear hu f;go_wp2_with(at_builtin;refine Iu underlying42 km rfl (by decide) (by decide) w.heap.size _ rfl _ _ rfl _ (qs R k).length vs ⟨D.heap.size,0,N⟩ 1 [.slice s v x] rfl rfl (.inl m.out.1) rfl (nD D (.slice s v x)) y.out (by simp;omega) (by rw[Zb];omega) ?_;intro v' w2 F;have G:=Aa F;clear F);go_roundw
   case rel=>
    refine⟨k+1,vs++[.slice s v x],by omega,by go_num,?_,?_⟩
    ·rw[fe];exact m.out.push B.out G.out
    ·exact CK (Cu (Cv r.out A.out) _) G.out.2.1 (λj P=>(AB m.out.1 j P).1)
   case measure=>simp[intOf];omega
  ·obtain rfl:k=n:=by omega
   have l:=Aa d;have r:=Aa o;clear d o z;go_wp2;go_ret;exact⟨_,rfl,⟨vs,l.out⟩,r.out⟩
end CZ
namespace D9
def Dt(x:Int):Prop:=x=0\/x=1\/x=2\/x=3\/x=4\/x=5\/x=6\/x=9\/x=11\/x=12\/x=13
def E7(x:Int):Int:=if 8<=x then x-8 else x
def pw(s:Int):Int:=((2^s.toNat:Nat):Int)
def rW(f:Int):Int:=if f=0 then 2 else if f=1 then 36 else if f=2 then 122 else if f=3 then 6 else if f=4 then 2 else if f=5 then 2 else 0
def Wh(f t:Int):Bool:=bits .and .i64 (rW f) (pw t) !=0
def LA(x t:Int):Int:=if Wh (E7 x) t then(if 8<=x/\t≠1 then 7 else 0)else 9
def N0(x t:Int):Int:=if Wh (E7 x) t then(if 8<=x/\t≠1 then x else if 8<=x then t+8 else t)else x
def UC(x t:Int):Int:=if LA x t=0 then N0 x t else 0
theorem Dt.facts{x:Int}(h:Dt x):bits .andNot .i64 x 8=E7 x/\bits .and .i64 x 8=(if 8<=x then 8 else 0)/\0<=E7 x/\E7 x<=6/\(8<=x->bits .and .i64 58 (pw (E7 x))≠0):=by rcases h with rfl|rfl|rfl|rfl|rfl|rfl|rfl|rfl|rfl|rfl|rfl<;>decide+kernel
theorem fg(s:Int)(a:0<=s)(b:s<=6)(w:rO):Sem.run prog (Op.shift BinOp.shl IntKind.i64 1 IntKind.i64 s) w= .ok (I U (pw s)) w:=by
 have:s=0\/s=1\/s=2\/s=3\/s=4\/s=5\/s=6:=by omega
 rcases this with rfl|rfl|rfl|rfl|rfl|rfl|rfl
 all_goals(refine Eq.trans ?_ rfl;kernel_rfl)
theorem SR(s:Int)(w:rO):tT prog 220 #[I U s] w λe a=>e=ui (ue (decide (0<=s/\s<=6)))/\w=a:=by
 by_cases h:0<=s
 ·go_enter func220,ntmps220
  go_wp2;go_ret;exact⟨by simp[h],rfl⟩
 ·rw[show decide (0<=s/\s<=6)=tY by simp[h]]
  go_enter func220,ntmps220;go_wp2;go_ret;exact⟨rfl,rfl⟩
theorem Jf(s:Int)(w:rO)(a:0<=s)(b:s<=6):tT prog 220 #[I U s] w λe c=>e=ui (ue tZ)/\w=c:=by have:=SR s w;rwa [show decide (0<=s/\s<=6)=tZ by simp[a,b]]at this
theorem OW(s:Int)(w:rO)(a:0<=s)(b:s<=6):tT prog 221 #[I U s] w λe c=>e=ui (I U (pw s))/\w=c:=by have h:=fg s a b;clear a b;go_enter func221,ntmps221;go_wp2;go_ret;exact⟨rfl,rfl⟩
theorem EY(x:Int)(w:rO)(h:Dt x):tT prog 152 #[I U x] w λe c=>e=ui (ue tZ)/\w=c:=by
 obtain⟨f1,f2,f3,f4,f5⟩:=h.facts;by_cases a:8<=x
 ·have d:(x==E7 x)=false:=by rw[Az];unfold E7;rw[Ai a];omega
  have f:(bits .and .i64 58 (pw (E7 x)) !=0)=true:=by simpa using f5 a
  generalize E7 x=s at*
  go_enter func152,ntmps152;go_wp2_with(first|(go_at_call 220;refine(Jf _ _ (by assumption) (by assumption)).mono ?_;rintro e b⟨rfl,rfl⟩)|(go_at_call 221;refine(OW _ _ (by assumption) (by assumption)).mono ?_;rintro e b⟨rfl,rfl⟩));go_ret;exact⟨rfl,rfl⟩
 ·have d:(x==E7 x)=true:=by rw[Zbs];unfold E7;rw[Ah a]
  generalize E7 x=s at*
  go_enter func152,ntmps152;go_wp2_with(go_at_call 220;refine(Jf _ _ (by assumption) (by assumption)).mono ?_;rintro e b⟨rfl,rfl⟩);go_ret;exact⟨rfl,rfl⟩
theorem FK(x:Int)(w:rO)(h:Dt x):tT prog 96 #[I U x] w λe a=>e=ui (ue (decide (8<=x)))/\w=a:=by
 obtain⟨f1,f2,f3,f4,f5⟩:=h.facts;have b:=Aa (EY x);have c:(bits .and .i64 x 8 !=0)=decide (8<=x):=by rw[f2];split<;>simp[*]
 clear f1 f2 f3 f4 f5;go_enter func96,ntmps96;go_wp2_with(go_at_call 152;refine(b.out _ h).mono ?_;rintro e d⟨rfl,rfl⟩);go_ret;exact⟨rfl,rfl⟩
theorem Qt(x:Int)(w:rO)(h:Dt x):tT prog 226 #[I U x] w λe a=>e=ui (I U (E7 x))/\w=a:=by obtain⟨f1,f2,f3,f4,f5⟩:=h.facts;have b:=Aa (EY x);go_enter func226,ntmps226;go_wp2_with(go_at_call 152;refine(b.out _ h).mono ?_;rintro e c⟨rfl,rfl⟩);go_ret;exact⟨rfl,rfl⟩
theorem Qu(w:rO):tT prog 283 #[] w λe a=>e=ui (.agg #[I U 2,I U 36,I U 122,I U 6,I U 2,I U 2,I U 0])/\tS w.heap.size w a:=by
 have b:bits .or .i64 4 32=36:=by decide+kernel
 have c:bits .or .i64 2 8=10:=by decide+kernel
 have d:bits .or .i64 10 16=26:=by decide+kernel
 have f:bits .or .i64 26 32=58:=by decide+kernel
 have o5:bits .or .i64 58 64=122:=by decide+kernel
 have o6:bits .or .i64 4 2=6:=by decide+kernel
 go_enter func283,ntmps283;go_wp2;exact AM (v:=.agg #[I U 2,I U 36,I U 122,I U 6,I U 2,I U 2,I U 0]) (by simp[results,results283,go_sem]) rfl ⟨rfl,(tU _ _).alloc (Al _) _⟩
def Ke(b:Bool)(w:rO)(e:uh)(w':rO):Prop:=e=ui (ue b)/\tS w.heap.size w w'
theorem fh(f:Int)(a:0<=f)(b:f<=6)(w:rO):(Instr.index 361 (.agg #[I U 2,I U 36,I U 122,I U 6,I U 2,I U 2,I U 0]) (I U f)).run prog w= .ok (I U (rW f)) w:=by
 have:f=0\/f=1\/f=2\/f=3\/f=4\/f=5\/f=6:=by omega
 rcases this with rfl|rfl|rfl|rfl|rfl|rfl|rfl
 all_goals(refine Eq.trans ?_ rfl;kernel_rfl)
theorem fi(f t:Int)(w:rO)(b:0<=f)(c:f<=6)(t0:0<=t)(t6:t<=6):tT prog 237 #[I U f,I U t] w (Ke (Wh f t) w):=by
 have d:=fh f b c;unfold Wh;go_enter func237,ntmps237;go_wp2;go_region_with (first|(go_at_call 220;refine(Jf _ _ (by assumption) (by assumption)).mono ?_;rintro e a⟨rfl,rfl⟩)|(go_at_call 221;refine(OW _ _ (by assumption) (by assumption)).mono ?_;rintro e a⟨rfl,rfl⟩)|(go_at_call 283;refine(Qu _).mono ?_;rintro e a⟨rfl,g⟩))
 all_goals
  go_wp2;go_ret;exact⟨rfl,Gj (by assumption)⟩
theorem Zd(x t:Int)(w:rO)(h:Dt x)(t1:1<=t)(t6:t<=6):tT prog 170 #[I U x,I U t] w λe n=>e=ui (uo #[I U (UC x t),I U (LA x t)])/\tS w.heap.size w n:=by
 obtain⟨f1,f2,f3,f4,f5⟩:=h.facts;have d:=Aa (λw=>fi (E7 x) t w f3 f4 (by omega) t6);have f:=Aa (λw=>Jf t w (by omega) t6);have o:bits .or .i64 t 0=t/\bits .or .i64 1 8=9:=by
  have:t=1\/t=2\/t=3\/t=4\/t=5\/t=6:=by omega
  rcases this with rfl|rfl|rfl|rfl|rfl|rfl<;>decide+kernel
 obtain⟨r,u⟩:=o;have g:=Aa (λw=>EY x w h);have i:=Aa (λw=>FK x w h);have j:=Aa (λw=>Qt x w h);unfold UC LA N0;generalize E7 x=s at*
 by_cases hm:Wh s t=tZ
 ·simp only[hm,BD]
  by_cases k:8<=x
  ·have p:decide (8<=x)=true:=by simpa using k
   simp only[k,BD,true_and]at f2⊢;by_cases l:t=1
   ·subst l
    simp only[BD,ne_eq,not_true_eq_false,Bn,Int.reduceAdd];have b:Hid (∀w,tT prog 237 #[I U s,I U 1] w (Ke tZ w)):=by have:=d.out;rwa [hm]at this
    go_enter func170,ntmps170;go_wp2_with(first|(go_at_call 152;refine(g.out _).mono ?_;rintro e a⟨rfl,rfl⟩)|(go_at_call 220;refine(f.out _).mono ?_;rintro e a⟨rfl,rfl⟩)|(go_at_call 226;refine(j.out _).mono ?_;rintro e a⟨rfl,rfl⟩)|(go_at_call 237;refine(b.out _).mono ?_;rintro e a⟨rfl,m⟩)|(go_at_call 96;refine(i.out _).mono ?_;rintro e a⟨rfl,rfl⟩));go_ret2;exact⟨rfl,‹_›⟩
   ·have q:(t !=1)=true:=by simpa using l
    simp only[l,ne_eq,not_false_eq_true,BD,show¬((7:Int)=0) by decide,Bn];have b:Hid (∀w,tT prog 237 #[I U s,I U t] w (Ke tZ w)):=by have:=d.out;rwa [hm]at this
    go_enter func170,ntmps170;go_wp2_with(first|(go_at_call 152;refine(g.out _).mono ?_;rintro e a⟨rfl,rfl⟩)|(go_at_call 220;refine(f.out _).mono ?_;rintro e a⟨rfl,rfl⟩)|(go_at_call 226;refine(j.out _).mono ?_;rintro e a⟨rfl,rfl⟩)|(go_at_call 237;refine(b.out _).mono ?_;rintro e a⟨rfl,m⟩)|(go_at_call 96;refine(i.out _).mono ?_;rintro e a⟨rfl,rfl⟩));go_ret2;exact⟨rfl,‹_›⟩
  ·have p:decide (8<=x)=false:=by simpa using k
   simp only[k,Bn,false_and,BD]at f2⊢;have b:Hid (∀w,tT prog 237 #[I U s,I U t] w (Ke tZ w)):=by have:=d.out;rwa [hm]at this
   go_enter func170,ntmps170;go_wp2_with(first|(go_at_call 152;refine(g.out _).mono ?_;rintro e a⟨rfl,rfl⟩)|(go_at_call 220;refine(f.out _).mono ?_;rintro e a⟨rfl,rfl⟩)|(go_at_call 226;refine(j.out _).mono ?_;rintro e a⟨rfl,rfl⟩)|(go_at_call 237;refine(b.out _).mono ?_;rintro e a⟨rfl,m⟩)|(go_at_call 96;refine(i.out _).mono ?_;rintro e a⟨rfl,rfl⟩));go_ret2;exact⟨rfl,‹_›⟩
 ·have c:Wh s t=false:=by simpa using hm
  simp only[c,A6,Bn,show¬((9:Int)=0) by decide];have b:Hid (∀w,tT prog 237 #[I U s,I U t] w (Ke tY w)):=by have:=d.out;rwa [c]at this
  go_enter func170,ntmps170;go_wp2_with(first|(go_at_call 152;refine(g.out _).mono ?_;rintro e a⟨rfl,rfl⟩)|(go_at_call 220;refine(f.out _).mono ?_;rintro e a⟨rfl,rfl⟩)|(go_at_call 226;refine(j.out _).mono ?_;rintro e a⟨rfl,rfl⟩)|(go_at_call 237;refine(b.out _).mono ?_;rintro e a⟨rfl,m⟩)|(go_at_call 96;refine(i.out _).mono ?_;rintro e a⟨rfl,rfl⟩));go_ret2;exact⟨rfl,‹_›⟩
end D9
namespace Qv
structure Sp where
 Ei:List Bool
 at_:Int
 dl:Int
def s0:Sp:=⟨[],0,0⟩
def L0(s:Sp)(m:Nat):Bool:=decide (m<s.Ei.length)&& !(s.Ei[m]?.getD tY)&&s.at_ !=m
def run(l:List Sp):Nat->Nat->Nat
 |0,_=>0
 |i+1,m=>if L0 (l[i]?.getD s0) m then run l i m+1 else 0
theorem OX(l:List Sp): ∀i m,run l i m<=i
 |0,_=>Al _
 |i+1,m=>by unfold run;have:=OX l i m;split<;>omega
def cnt(l:List Sp):Nat->List Nat
 |0=>[]
 |i+1=>(List.range (l[i]?.getD s0).Ei.length).map (run l (i+1))
theorem fj(l:List Sp)(i:Nat):(cnt l (i+1)).length=(l[i]?.getD s0).Ei.length:=by simp[cnt]
def one(s:Sp)(c:List Nat)(m:Nat):Nat:=if s.Ei[m]?.getD tY||s.at_==m then 0 else c[m]?.getD 0+1
theorem SS(l:List Sp)(i m:Nat):(cnt l i)[m]?.getD 0=run l i m:=by
 cases i with
 |zero=>simp[cnt,run]
 |succ i=>
  simp only[cnt];by_cases h:m<(l[i]?.getD s0).Ei.length
  ·simp[h]
  ·have:L0 (l[i]?.getD s0) m=false:=by simp[L0,h]
   simp[h,run,this]
theorem kn(l:List Sp)(i m:Nat)(h:m<(l[i]?.getD s0).Ei.length):one (l[i]?.getD s0) (cnt l i) m=run l (i+1) m:=by
 unfold one run;rw[SS];unfold L0;generalize(l[i]?.getD s0)=s at*
 simp only[h,decide_true,Zbh];cases s.Ei[m]?.getD tY<;>by_cases e:s.at_=m<;>simp[e]
def up(o:Int)(ns:List Nat):Int:=ns.foldl (λ(o:Int)(n:Nat)=>max o ((n:Int)+1)) o
theorem fk(o:Int)(ns:List Nat)(n:Nat):up o (ns++[n])=max (up o ns) ((n:Int)+1):=by simp[up]
theorem ko(x:Nat): ∀(r:List Nat)(o:Int),up o (x::r)=max o (((r.foldl max x:Nat):Int)+1):=by
 intro r;induction r generalizing x with
 |nil=>intro o;rfl
 |cons y r c=>
  intro o;show up (max o ((x:Int)+1)) (y::r)=_;rw[c y,Zad];have q: ∀(r:List Nat)(a b:Nat),r.foldl max (max a b)=max a (r.foldl max b):=by
   intro r;induction r with
   |nil=>intro a b;rfl
   |cons z r c=>intro a b;rw[Zad,Zad,Nat.max_assoc,c]
  rw[q];omega
def FL(l:List Sp):Nat->Int
 |0=>1
 |i+1=>up (max (FL l i) (l[i]?.getD s0).dl) (cnt l (i+1))
end Qv
end Go.Proofs.YtgadhchejmlfjaaGreatDoor
