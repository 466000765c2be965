/- A part of the proof. -/
import Derived.Test.YtgadhchejmlfjaaGreatDoorA8
import Derived.Test.YtgadhchejmlfjaaGreatDoorB0
set_option linter.unusedVariables false
set_option maxRecDepth 20000
set_option maxHeartbeats 16000000
open Go.Value renaming int->I,pointer->J,slice->Y
open Go.IntKind renaming i64->U
open Option renaming none->N,some->Z
open Bool renaming false->tY,true->tZ
open Go renaming Value->tR,World->rO
open Go.Ending renaming returned->ui
open Go.Obj renaming cells->uj
open Go.RowKit renaming Below->tS
open Go.RowKit.Below renaming refl->tU
open Go.Value renaming bool->ue
open List renaming replicate->tW
open Go.Proofs.Tryz Go.RowKit Go.CN
namespace Go.Proofs.YtgadhchejmlfjaaGreatDoor
namespace C2
open Cx (Pr pz)
variable {mb:Nat}{V:Vr}{own:Nat->Nat}{w:rO}{s:St}
section
open Vm (CP)
def Tz(word fn arg:Int):G:=⟨word,fn,0,[arg,0,0,0,0,0,0,0],tY,tY,tY,tY,tY,0,[]⟩
theorem oG:Ia 0 1=1:=by decide+kernel
theorem gH{W W':rO}{B:Nat}(h:tS w.heap.size w W)(o:Cw (λj=>j=B) W W') (b:w.heap.size<=B):tS w.heap.size w W':=h.trans ⟨o.os,o.tape,o.output,o.size,λk a=>o.block k (An a h.size) (λe=>by omega)⟩
theorem gI(fn arg:Int):({Tz 0 fn arg with word:=Ia (Tz 0 fn arg).word 1}:G)=Tz 1 fn arg:=by simp only[Tz,oG]
def oH(mb:Nat)(V:Vr)(own:Nat->Nat)(w:rO)(s:St)(fn arg:Int)(e:Ending)(w':rO):Prop:= ∃B,e=ui (ptr B)/\own B=0/\ ∃b a,CE mb b a w' (GU s fn arg)/\Ext own w a w'/\Fw V b/\b.GJ=V.GJ/\a B=20+5*s.gs.length
theorem CE.born(h:CE mb V own w s)(fn arg:Int)(p:s.gs.length<64):Calls prog 52 #[ptr mb,I U fn,I U arg] w (oH mb V own w s fn arg):=by
 obtain⟨a,cap,q⟩:=h.pV;have c5:=h.c5;rw[q]at c5;have g:=Aa h;have C:=Aa q;have i:Hid (∀W,tS w.heap.size w W->W.cell? ⟨mb,5,N⟩=Z (.slice a s.gs.length cap)/\W.frozen? ⟨mb,5,N⟩=tY):=λW K=>by have D:=g.out.below K;have G:=D.c5;rw[q]at G;exact⟨G,D.Fa 5⟩
 go_enter func52,ntmps52;go_wp2;go_region_held3(λL=>L.cell? ⟨mb,5,N⟩=Z (.slice a s.gs.length cap)) (go_keep) (first|(go_at_call 115;refine(Vm.F8 fn arg _).mono ?_;rintro e d⟨rfl,r⟩;have j:tS w.heap.size w d:=Gi (Gh (tU _ _)) r;have k5:=(i.out _ j).1;have k:=Aa j))
 all_goals
  have M:IntKind.i64.wrap ((s.gs.length:Int)+1)=(s.gs.length:Int)+1:=Cn _ (by omega);rw[M]at*
  have t:Cy (d.alloc (uj #[I U ((s.gs.length:Int)+1),I U 0,I U fn,I U 0,I U arg,I U 0,I U 0,I U 0,I U 0,I U 0,I U 0,I U 0,Vm.JO,ue tY,ue tY,ue tY,ue tY,ue tY,I U 0] 130)) d.heap.size (Dy s.gs.length Vm.JO (Tz 0 fn arg)) 130:=Cy.new d _ 130;have u:=DK k.out (uj #[I U ((s.gs.length:Int)+1),I U 0,I U fn,I U 0,I U arg,I U 0,I U 0,I U 0,I U 0,I U 0,I U 0,I U 0,Vm.JO,ue tY,ue tY,ue tY,ue tY,ue tY,I U 0] 130);have f:=k.out.size;have b:=(Zv d.heap.size s.gs.length Vm.JO (Tz 0 fn arg) 1 _ t (by show D9.Dt 0;unfold D9.Dt;decide) (by decide) (by decide));rw[gI]at b;replace b:=Aa b;have v:=Aa u;generalize d.alloc (uj #[I U ((s.gs.length:Int)+1),I U 0,I U fn,I U 0,I U arg,I U 0,I U 0,I U 0,I U 0,I U 0,I U 0,I U 0,Vm.JO,ue tY,ue tY,ue tY,ue tY,ue tY,I U 0] 130)=W1 at*
  generalize O:d.heap.size=B at*
  go_wp2_with(first|(go_at_call 116;refine b.out.mono ?_;rintro e P⟨rfl,y,z⟩;have c:=Aa (gH v.out z f);have Q:=(i.out _ c.out).1;have l:=Aa ((g.out.below c.out).L1 (by decide)).1;rw[C.out]at l;have A:=Aa y)|(at_builtin;go_loud (refine Iu underlying116 fM rfl (by decide) (by decide) 0 _ rfl _ _ rfl (.slice a s.gs.length cap) s.gs.length (G3 s.gs.length V.CR) ⟨P.heap.size,0,N⟩ 1 [ptr B] rfl rfl (l.out.below (Cu (tU _ _) _)) rfl (M0 _ _ rfl) (by simp[Value.oneCell']) (Ap _) (by omega) ?_;intro v' S o;obtain⟨g',H,rfl⟩:=o.some;rw[<-C.out]at o;obtain⟨m,T,n3,n4⟩:=g.out.nR (DK c.out _) o;have X:=Aa (g.out.qN p (x:=Tz 1 fn arg) ⟨rfl,by show D9.Dt 1;unfold D9.Dt;decide,rfl⟩ (A.out.alloc _) f (DK c.out _) o);have z5:S.cell? ⟨mb,5,N⟩=Z V.LB:=m.cell 5;have zf:=m.free 5)));go_ret;obtain⟨n,R,E,F,hB⟩:=X.out;exact⟨B,rfl,g.out.fresh B f,_,n,R,E,F,rfl,hB⟩
end
section
open Vm (CP)
variable {R:Nat->CZ.Rn}
structure pZ (o0:Nat->Nat) (w:rO) (pv:tR) (fs:List Fn):Prop where
 two: ∀j,o0 j=0\/o0 j=14
 fresh: ∀j,w.heap.size<=j->o0 j=0
 prog:Pg o0 w pv fs
 laid:D3.Laid w/\o0 0=14
theorem Rc{w:rO}{p:Nat}{m:tR}{n:Nat}(h:CZ.Hq w p m n R): ∃f:Nat->Nat,(∀i,i<n->f (R i).b=23+5*i)/\(∀i,i<n->f (R i).g=24+5*i)/\f p=5/\(∀j,m.ownBlock=Z j->f j=5)/\(∀j,f j<20\/(∃i,i<n/\j=(R i).b/\f j=23+5*i)\/(∃i,i<n/\j=(R i).g/\f j=24+5*i)):=by
 classical
 have r: ∀i j,i<n->j<n->(R i).b≠(R j).g:=λi j g l e=>by
  by_cases b:i=j
  ·subst b
   obtain⟨x,y,F,v,_⟩:=h.ring i g;exact v.ne e
  ·exact h.OU i j g l b (R i).b (.inl rfl) (.inr e)
 have s: ∀i j,i<n->j<n->(R i).b=(R j).b->i=j:=λi j g l e=>by
  by_cases b:i=j
  ·exact b
  ·exact absurd (.inl e) (h.OU i j g l b (R i).b (.inl rfl))
 have t: ∀i j,i<n->j<n->(R i).g=(R j).g->i=j:=λi j g l e=>by
  by_cases b:i=j
  ·exact b
  ·exact absurd (.inr e) (h.OU i j g l b (R i).g (.inr rfl))
 obtain⟨f,o⟩: ∃f:Nat->Nat,f=λj=>if a: ∃i,i<n/\(R i).b=j then 23+5*Classical.choose a else if c: ∃i,i<n/\(R i).g=j then 24+5*Classical.choose c else if j=p\/m.ownBlock=Z j then 5 else 0:=⟨_,rfl⟩
 have f1: ∀i,i<n->f (R i).b=23+5*i:=λi g=>by
  have a: ∃k,k<n/\(R k).b=(R i).b:=⟨i,g,rfl⟩;have q:=Classical.choose_spec a;rw[o];show(if a: ∃k,k<n/\(R k).b=(R i).b then 23+5*Classical.choose a else _)=_
  rw[dif_pos a,s _ _ q.1 g q.2]
 have f2: ∀i,i<n->f (R i).g=24+5*i:=λi g=>by
  have a: ¬ ∃k,k<n/\(R k).b=(R i).g:=λ⟨k,d,e⟩=>r k i d g e;have c: ∃k,k<n/\(R k).g=(R i).g:=⟨i,g,rfl⟩;have q:=Classical.choose_spec c;rw[o];show(if a: ∃k,k<n/\(R k).b=(R i).g then 23+5*Classical.choose a else if c: ∃k,k<n/\(R k).g=(R i).g then 24+5*Classical.choose c else _)=_
  rw[dif_neg a,dif_pos c,t _ _ q.1 g q.2]
 refine⟨f,f1,f2,?_,λj l=>?_,λj=>?_⟩
 ·rw[o]
  show(if a: ∃k,k<n/\(R k).b=p then 23+5*Classical.choose a else if c: ∃k,k<n/\(R k).g=p then 24+5*Classical.choose c else _)=_
  rw[dif_neg (λ⟨k,d,e⟩=>h.rp k d (.inl e.symm)),dif_neg (λ⟨k,d,e⟩=>h.rp k d (.inr e.symm)),Ai (.inl rfl)]
 ·rw[o]
  show(if a: ∃k,k<n/\(R k).b=j then 23+5*Classical.choose a else if c: ∃k,k<n/\(R k).g=j then 24+5*Classical.choose c else _)=_
  rw[dif_neg (λ⟨k,d,e⟩=>h.MO k d j l (.inl e.symm)),dif_neg (λ⟨k,d,e⟩=>h.MO k d j l (.inr e.symm)),Ai (.inr l)]
 ·by_cases a: ∃k,k<n/\(R k).b=j
  ·obtain⟨k,d,rfl⟩:=a
   exact .inr (.inl ⟨k,d,rfl,f1 k d⟩)
  ·by_cases c: ∃k,k<n/\(R k).g=j
   ·obtain⟨k,d,rfl⟩:=c
    exact .inr (.inr ⟨k,d,rfl,f2 k d⟩)
   ·left
    rw[o];show(if a: ∃k,k<n/\(R k).b=j then 23+5*Classical.choose a else if c: ∃k,k<n/\(R k).g=j then 24+5*Classical.choose c else if j=p\/m.ownBlock=Z j then 5 else 0)<20
    rw[dif_neg a,dif_neg c];by_cases u:j=p\/m.ownBlock=Z j
    ·rw[Ai u];decide
    ·rw[Ah u];decide
def oI(a cg cm:Int):Sc:=⟨a,cg,cm,0,0,0,0,tY,0,0,0,0,0,0,0,tY⟩
def oJ(funcs:List Fn)(n:Nat)(a cg cm:Int):St:={funcs:=funcs,sc:=oI a cg cm,gs:=[],ms:=[],asked:=tW n p0,rings:=tW n r0,stat:=tW n (0,-1),all:=[],CL:=[],CD:=[],owner:=0,waits:=[],box:=tW 64 N}
theorem aF{α:Type}(n i:Nat)(x d:α)(h:i<n):(tW n x)[i]?.getD d=x:=by simp[h]
theorem lG{o0:Nat->Nat}{w0 W:rO}{X:List Fn}{pv:tR}{V:Vr}{n a1 a2 a3 a4 a5 a6 a7 r ab t gp:Nat}{o tv sv:tR}{S:Nat->Prop}{cp cg cm:Int}(u:pZ o0 w0 pv X)(B:tS w0.heap.size w0 W)(hn:n<=256)(C:V.Gt=pv)(v:V.LB=Y N 0 0)(w:V.MP=Y N 0 0)(D:V.EG=Y (Z ⟨ab,0,N⟩) n n)(p:V.GJ=λi=>i) (E:CZ.Hq W V.procs o n R) (F: ∀i,i<n->(R i).CI=0/\(R i).row=[]) (r1: ∀j,CZ.Pf V.procs o n R j->w0.heap.size<=j/\j<a1) (hT:Cx.Tb W V.stat tv (tW n (0,-1))) (r2: ∀j,Cx.Tf V.stat tv j->a1<=j/\j<a2) (hG:C4.Queue W V.all S []) (r3: ∀j,S j->a2<=j/\j<a3) (hI:Idle.St W V.GQ t 64 []) (r4: ∀j,Idle.GO V.GQ t j->a3<=j/\j<a4) (hJ:Idle.St W V.FM gp 256 []) (r5: ∀j,Idle.GO V.FM gp j->a4<=j/\j<a5) (hS:Dg.Sm W V.CA 0 sv []) (r6: ∀j,Dg.Sf V.CA sv j->a5<=j/\j<a6) (hX:LZ.Bx W V.box (Y N 0 0) [] (λ_=> -1)) (r7:a6<=V.box/\V.box<a7) (hM:Cy W r (DE V (oI cp cg cm)) 121) (r8:a7<=r) (hA:Hf W V.EG (tW n p0)) (r9:r<ab) (aa:ab<W.heap.size) (hle:w0.heap.size<=a1/\a1<=a2/\a2<=a3/\a3<=a4/\a4<=a5/\a5<=a6/\a6<=a7): ∃own,CE r V own W (oJ X n cp cg cm)/\ ∀j,j<w0.heap.size->own j=o0 j:=by
 classical
 obtain⟨f,f1,f2,f3,f4,f5⟩:=Rc E;have ad:=hM.lt
 obtain⟨own,l⟩: ∃own:Nat->Nat,own=λj=>if j<w0.heap.size then o0 j else if j<a1 then f j*(if CZ.Pf V.procs o n R j then 1 else 0)else if j<a2 then(if Cx.Tf V.stat tv j then 6 else 0)else if j<a3 then(if S j then 7 else 0)
  else if j<a4 then(if Idle.GO V.GQ t j then 8 else 0)else if j<a5 then(if Idle.GO V.FM gp j then 9 else 0)else if j<a6 then(if Dg.Sf V.CA sv j then 10 else 0)else if j<a7 then(if j=V.box then 11 else 0)else if j=r then 1 else if j=ab then 4 else 0:=⟨_,rfl⟩
 have d: ∀j,j<w0.heap.size->own j=o0 j:=λj a=>by rw[l];exact Ai a
 have m: ∀j,CZ.Pf V.procs o n R j->own j=f j:=λj a=>by have:=r1 j a;rw[l];dsimp only;rw[if_neg (by omega),if_pos (by omega),if_pos a,Nat.mul_one]
 have G: ∀j,Cx.Tf V.stat tv j->own j=6:=λj a=>by have:=r2 j a;rw[l];dsimp only;rw[if_neg (by omega),if_neg (by omega),if_pos (by omega),if_pos a]
 have H: ∀j,S j->own j=7:=λj a=>by have:=r3 j a;rw[l];dsimp only;rw[if_neg (by omega),if_neg (by omega),if_neg (by omega),if_pos (by omega),if_pos a]
 have K: ∀j,Idle.GO V.GQ t j->own j=8:=λj a=>by have:=r4 j a;rw[l];dsimp only;rw[if_neg (by omega),if_neg (by omega),if_neg (by omega),if_neg (by omega),if_pos (by omega),if_pos a]
 have L: ∀j,Idle.GO V.FM gp j->own j=9:=λj a=>by have:=r5 j a;rw[l];dsimp only;rw[if_neg (by omega),if_neg (by omega),if_neg (by omega),if_neg (by omega),if_neg (by omega),if_pos (by omega),if_pos a]
 have M: ∀j,Dg.Sf V.CA sv j->own j=10:=λj a=>by have:=r6 j a;rw[l];dsimp only;rw[if_neg (by omega),if_neg (by omega),if_neg (by omega),if_neg (by omega),if_neg (by omega),if_neg (by omega),if_pos (by omega),if_pos a]
 have O:own V.box=11:=by rw[l];dsimp only;rw[if_neg (by omega),if_neg (by omega),if_neg (by omega),if_neg (by omega),if_neg (by omega),if_neg (by omega),if_neg (by omega),if_pos (by omega),if_pos rfl]
 have P:own r=1:=by rw[l];dsimp only;rw[if_neg (by omega),if_neg (by omega),if_neg (by omega),if_neg (by omega),if_neg (by omega),if_neg (by omega),if_neg (by omega),if_neg (by omega),if_pos rfl]
 have Q:own ab=4:=by rw[l];dsimp only;rw[if_neg (by omega),if_neg (by omega),if_neg (by omega),if_neg (by omega),if_neg (by omega),if_neg (by omega),if_neg (by omega),if_neg (by omega),if_neg (by omega),if_pos rfl]
 have g: ∀j,own j<20\/(∃i,i<n/\j=(R i).b/\own j=23+5*i)\/(∃i,i<n/\j=(R i).g/\own j=24+5*i):=λj=>by
  by_cases hp:CZ.Pf V.procs o n R j
  ·rw[m j hp];exact f5 j
  ·left
   rw[l];dsimp only;rw[Ah hp];by_cases h0:j<w0.heap.size
   ·rw[Ai h0];rcases u.two j with e|e<;>rw[e]<;>decide
   ·rw[Ah h0]
    (repeat' split)<;>omega
 have x: ∀j,W.heap.size<=j->own j=0:=λj a=>by
  have hs:=B.size;have n1: ¬CZ.Pf V.procs o n R j:=λh=>by have:=E.lt h;omega
  have n2: ¬Cx.Tf V.stat tv j:=λh=>by have:=hT.lt h;omega
  have n3: ¬S j:=λh=>by have:=hG.lt h;omega
  rw[l];dsimp only;rw[Ah n1,Ah n2,Ah n3];have n4: ¬j<a7:=by omega
  rw[Ah (by omega),Ah (by omega),Ah (by omega),Ah (by omega),Ah (by omega),Ah (by omega),Ah (by omega),Ah (by omega),Ah (by omega),Ah (by omega)]
 have T:pP own W V.box (tW 64 N):=by
  refine⟨Y N 0 0,0,0,pz,⟨⟨[],λ_=> -1,hX,rfl,λi c=>by omega,λk q _=>?_,λh=>by omega⟩⟩,Al _,by decide,by simp,λj a=>?_⟩
  ·rw[BM,Ai q];rfl
  ·rcases a with rfl|a
   ·exact O
   ·cases a
 refine⟨own,⟨x,P,?_,⟨u.laid.1.below B,?_⟩,⟨Zah _,Zah _⟩,λ_=>⟨?_,λj a=>?_⟩,λ_=>⟨?_,λj a=>?_⟩,λ_=>⟨hA,λj a=>?_⟩,λ_=>hM,λ_=>⟨o,R,?_⟩,λ_=>⟨tv,hT,G⟩,λ_=>⟨S,hG,H⟩,λ_=>⟨t,hI,K⟩,λ_=>⟨gp,hJ,L⟩,λ_=>⟨sv,hS,M⟩,λ_=>T,λ_ i c=>absurd c (BX _),λ_ j a=>absurd a (BX _),λj a=>absurd a (BX _),λi c=>absurd c (BX _),λi c=>absurd c (BX _),λj a=>absurd a (BX _),λj a=>absurd a (BX _),λb i z=>?_,λb i z=>?_,?_⟩,d⟩
 ·rw[C]
  exact u.prog.turn (S:=λ_=>False) ((Cw.refl _ w0).below B) (λj a=>a.elim) d
 ·rw[d 0 u.laid.1.lt];exact u.laid.2
 ·rw[v];exact .inl (AH _ _ _ _)
 ·rw[v]at a;cases a
 ·rw[w];exact .inl (AH _ _ _ _)
 ·rw[w]at a;cases a
 ·rw[D]at a;cases a;exact Q
 ·have A:(tW n r0).length=n:=by simp
  show Qw own V.GJ W V.procs o R (tW n r0);refine⟨by rw[A];exact E,λi c=>?_,?_,λj a=>?_,λi c=>?_,λi c=>?_,λi c b z=>?_⟩
  ·rw[A]at c;rw[aF _ _ _ _ c];exact F i c
  ·rw[m _ (.inl rfl)];exact f3
  ·rw[m _ (.inr (.inl a))];exact f4 j a
  ·rw[A]at c;rw[m _ (.inr (.inr ⟨i,c,.inl rfl⟩)),p];exact f1 i c
  ·rw[A]at c;rw[m _ (.inr (.inr ⟨i,c,.inr rfl⟩)),p];exact f2 i c
  ·rw[p]at z;dsimp only at z;rcases g b with h1|⟨k,q,s,y⟩|⟨k,q,s,y⟩
   ·omega
   ·rw[s,show k=i by omega]
   ·omega
 ·rcases g b with h1|⟨k,q,s,y⟩|⟨k,q,s,y⟩<;>omega
 ·rcases g b with h1|⟨k,q,s,y⟩|⟨k,q,s,y⟩<;>omega
 ·show 0<=64/\0<=64/\(tW n r0).length<=256
  simp;exact hn
end
theorem gJ(l:List Pr)(n:Nat):(if Cx.KD l then Cx.fS l n else l)=Ee l n:=by
 have g:=Cx.MK 4 l;have b:Cx.KD l↔Cx.cnt 3 l=l.length-Cx.cnt 4 l:=by unfold Cx.KD Cx.Qd;omega
 unfold Ee;by_cases d:Cx.cnt 3 l=l.length-Cx.cnt 4 l
 ·rw[Ai d,Ai (b.2 d)]
  apply BI;intro i;have hw:(Cx.wide l n).length=max l.length n:=by simp[Cx.wide];omega
  unfold Cx.fS Cx.upto;rw[Zbz];by_cases e:i<n
  ·rw[Aw (by simp;omega),AZ,Zan,Ai e]
   unfold Cx.wide;have a:i<max l.length n:=by omega
   rw[<-hw]at a;unfold Cx.wide at a;rw[Ae a];simp only[BJ];rw[Ai a];unfold Cx.LN;rw[Ah (by omega)]
  ·have f:(((l++tW (n-l.length) ((4,-1):Pr)).take n).map (λ(x:Pr)=>if x.1=4 then((3,-1):Pr)else x)).length=n:=by simp;omega
   rw[Ar (by omega),f,BM];by_cases a:i<l.length
   ·rw[Ai (by omega)]
    have c:i<(Cx.wide l n).length:=by omega
    rw[Ae c];simp only[BJ];rw[Ai c];unfold Cx.LN;rw[Ai (by omega)]
   ·rw[Ah (by omega),A0 (by omega)];rfl
 ·rw[Ah d,Ah (λh=>d (b.1 h))]
theorem CE.gK(h:CE mb V own w s)(n:Nat)(g:1<=n)(i:n<=256)(j:s.stat.length<=256):Calls prog 342 #[ptr V.stat,I U n] w λe c=>(∃f,e=ui (I U f))/\ ∃a,CE mb V a c {s with stat:=Ee s.stat n}/\Ext own w a c:=by obtain⟨tv,k,l⟩:=h.stat (by decide);refine(Cx.JY _ _ _ n w k g i j).mono ?_;rintro e c⟨rfl,d,b⟩;rw[gJ]at b;obtain⟨-,a,m,o⟩:=h.MS (e:=ui (I U 0)) (f:=0) l ⟨rfl,d,b.Ii,b.only,b.gr⟩;exact⟨⟨_,rfl⟩,a,m,o⟩
def FZ(l:List Rs)(n:Nat):List Rs:=l.take n++tW (n-l.length) r0
theorem Ft(l:List Rs)(n:Nat):(FZ l n).length=n:=by simp[FZ];omega
theorem Xi(l:List Rs)(n i:Nat)(h:i<l.length)(a:i<n):(FZ l n)[i]?.getD r0=l[i]?.getD r0:=by unfold FZ;rw[Aw (by simp;omega),Zan,Ai a]
theorem Xj(l:List Rs)(n i:Nat)(h:l.length<=i)(a:i<n):(FZ l n)[i]?.getD r0=r0:=by unfold FZ;rw[Ar (by simp;omega),BM];split<;>rfl
theorem oK{R:Nat->CZ.Rn}{l:List Rs}(h: ∀i,i<l.length->(R i).CI=(l[i]?.getD r0).CI/\(R i).row=(l[i]?.getD r0).row) (L:List Int) (m:Nat): ∀k,m+k<=l.length->CZ.dr R m L k=Ed ((l.drop m).take k) L:=by
 intro k;induction k with
 |zero=>intro _;rfl
 |succ k b=>
  intro c;have a:m+k<l.length:=by omega
  rw[CZ.dr,b (by omega),Bu,Zak,Ae a];unfold Ed;rw[Za1,Za5,(h _ a).1,(h _ a).2,Ae a];rfl
theorem Xk{f:Nat->Nat}{m:Nat}(h: ∀j,m<=j->f j=0): ∃a,∀j,f j<a:=by
 have: ∀k,∃a,∀j,j<k->f j<a:=λk=>by
  induction k with
  |zero=>exact⟨0,λj c=>by omega⟩
  |succ k d=>
   obtain⟨a,b⟩:=d;refine⟨a+f k+1,λj c=>?_⟩;by_cases e:j=k
   ·subst e;omega
   ·have:=b j (by omega);omega
 obtain⟨a,b⟩:=this m;refine⟨a+1,λj=>?_⟩;by_cases e:j<m
 ·have:=b j e;omega
 ·rw[h j (by omega)];omega
theorem CE.gL(h:CE mb V own w s)(n:Nat)(h1:1<=n)(h2:n<=256)(hr:1<=s.rings.length)(hl:s.all.length<100000):Calls prog 343 #[ptr V.procs,I U n,ptr V.all] w λe K=>(∃f,e=ui (I U f))/\ ∃H v,CE mb {V with GJ:=H} v K {s with rings:=FZ s.rings n,all:=Ed (s.rings.drop n) s.all}/\Ext own w v K:=by
 classical
 obtain⟨rv,R,p⟩:=h.rings (by decide);obtain⟨S,hQ,T⟩:=h.all (by decide);have W:=h.Hb.2.2;have hk: ∀j,CZ.Pf V.procs rv s.rings.length R j->kind (own j)=5:=by
  rintro j(rfl|d|⟨i,g,d|d⟩)
  ·rw[p.op];rfl
  ·rw[p.mQ j d];rfl
  ·rw[d,p.ob i g,O1]
  ·rw[d,p.og i g,O3]
 refine(CZ.JY _ rv _ n R _ S _ w ⟨p.Ff,hQ,λj d hs=>by have:=hk j d;rw[T j hs]at this;exact absurd this (by decide)⟩ hr W h1 h2 (by omega)).mono ?_;rintro e K⟨rfl,y,F,S',C,hO,aa,ab,hold,L,M⟩;refine⟨⟨_,rfl⟩,?_⟩;have hdr:CZ.dr R n s.all (s.rings.length-n)=Ed (s.rings.drop n) s.all:=by
  by_cases hle:n<=s.rings.length
  ·rw[oK p.is s.all n _ (by omega),AL (by simp)]
  ·rw[show s.rings.length-n=0 by omega,Zbm (by omega)];rfl
 rw[hdr]at C;obtain⟨a,hN⟩:=Xk h.fresh;obtain⟨f,f1,f2,f3,f4,f5⟩:=Rc C.Ff;obtain⟨H,G⟩: ∃H:Nat->Nat,H=λi=>if i<s.rings.length then V.GJ i else a+i:=⟨_,rfl⟩
 obtain⟨u,z⟩: ∃u:Nat->Nat,u=λj=>if j<w.heap.size then own j else if CZ.Pf V.procs y n F j then(if 20<=f j then f j+5*a else f j)else if S' j then 7 else 0:=⟨_,rfl⟩
 have l: ∀j,j<w.heap.size->u j=own j:=λj d=>by rw[z];exact Ai d
 have r: ∀j,w.heap.size<=j->CZ.Pf V.procs y n F j->u j=if 20<=f j then f j+5*a else f j:=λj d B=>by rw[z];dsimp only;rw[if_neg (by omega),if_pos B]
 have ad:=hO.size;have o: ∀j,w.heap.size<=j->u j<20\/(∃i,i<n/\j=(F i).b/\u j=23+5*(a+i))\/(∃i,i<n/\j=(F i).g/\u j=24+5*(a+i)):=λj d=>by
  by_cases B:CZ.Pf V.procs y n F j
  ·rw[r j d B]
   rcases f5 j with m|⟨i,g,m,O⟩|⟨i,g,m,O⟩
   ·rw[Ah (by omega)];exact .inl m
   ·rw[Ai (by omega),O];exact .inr (.inl ⟨i,g,m,by omega⟩)
   ·rw[Ai (by omega),O];exact .inr (.inr ⟨i,g,m,by omega⟩)
  ·left;rw[z];dsimp only;rw[if_neg (by omega),if_neg B];split<;>decide
 have P: ∀j,K.heap.size<=j->u j=0:=λj d=>by rw[z];dsimp only;rw[Ah (by omega),Ah (λB=>by have:=C.Ff.lt B;omega),Ah (λB=>by have:=C.kW.lt B;omega)]
 have c:=h.UJ (X:=λt=>t=5\/t=7) (C8:=u) hO (λj d=>by
  rcases d with d|d
  ·exact .inl (hk j d)
  ·right;rw[T j d];rfl) (by decide) l (λj d=>by
  refine⟨λhx=>absurd (.inl rfl) hx,λi g e=>?_,λi g e=>?_⟩
  ·rcases o j d with m|⟨k,-,-,m⟩|⟨k,-,-,m⟩<;>omega
  ·rcases o j d with m|⟨k,-,-,m⟩|⟨k,-,-,m⟩<;>omega) P
 have D:Qw u H K V.procs y F (FZ s.rings n):=by
  refine⟨by rw[Ft];exact C.Ff,λi g=>?_,(l _ p.Ff.Dj.lt).trans p.op,λj d=>?_,λi g=>?_,λi g=>?_,λi g b A=>?_⟩
  ·rw[Ft]at g
   by_cases e:i<s.rings.length
   ·rw[hold i g e,Xi _ _ _ e g];exact p.is i e
   ·rw[Xj _ _ _ (by omega) g];exact L i (by omega) g
  ·by_cases E:j<w.heap.size
   ·rw[l j E]
    rcases aa j (.inr (.inl d))with(rfl|m|⟨i,g,m⟩)|m
    ·exact absurd d C.Ff.SP
    ·exact p.mQ j m
    ·exact absurd (by rw[hold i (by omega) (by omega)];exact m) (C.Ff.MO i (by omega) j d)
    ·omega
   ·rw[r j (by omega) (.inr (.inl d)),f4 j d];rfl
  ·rw[Ft]at g
   rw[G];dsimp only;by_cases e:i<s.rings.length
   ·rw[Ai e,hold i g e,l _ (p.Ff.lt (.inr (.inr ⟨i,e,.inl rfl⟩)))];exact p.ob i e
   ·rw[Ah e,r _ (M i (by omega) g).1 (.inr (.inr ⟨i,g,.inl rfl⟩)),f1 i g,Ai (by omega)];omega
  ·rw[Ft]at g
   rw[G];dsimp only;by_cases e:i<s.rings.length
   ·rw[Ai e,hold i g e,l _ (p.Ff.lt (.inr (.inr ⟨i,e,.inr rfl⟩)))];exact p.og i e
   ·rw[Ah e,r _ (M i (by omega) g).2 (.inr (.inr ⟨i,g,.inr rfl⟩)),f2 i g,Ai (by omega)];omega
  ·rw[Ft]at g
   rw[G]at A;dsimp only at A;by_cases e:i<s.rings.length
   ·rw[Ai e]at A
    by_cases q:b<w.heap.size
    ·rw[l b q]at A;rw[hold i g e];exact p.ub i e b A
    ·have:=hN (R i).b
     rw[p.ob i e]at this;rcases o b (by omega)with m|⟨k,-,-,m⟩|⟨k,-,-,m⟩<;>omega
   ·rw[Ah e]at A
    by_cases q:b<w.heap.size
    ·rw[l b q]at A;have:=hN b;omega
    ·rcases o b (by omega)with m|⟨k,-,O,m⟩|⟨k,-,-,m⟩
     ·omega
     ·rw[O,show k=i by omega]
     ·omega
 have Q: ∀j,S' j->u j=7:=λj d=>by
  by_cases E:j<w.heap.size
  ·rw[l j E]
   exact(ab j d).elim (T j) (λx=>by omega)
  ·rw[z];dsimp only
   rw[Ah E,Ah (λB=>C.OU j B d),Ai d]
 refine⟨H,u,⟨c.fresh,c.om,c.prog,c.laid,h.hold,λ_=>c.L1 (by decide),λ_=>c.L8 (by decide),λ_=>c.EO (by decide),λ_=>c.IK (by decide),λ_=>⟨y,F,D⟩,λ_=>c.stat (by decide),λ_=>⟨S',C.kW,Q⟩,λ_=>c.GQ (by decide),λ_=>c.FM (by decide),λ_=>c.CA (by decide),λ_=>c.box (by decide),λ_=>c.gs (by decide),λ_=>c.ms (by decide),h.mg,c.og,c.ug,c.ox,c.ux,λb i A=>?_,λb i A=>?_,⟨h.Hb.1,h.Hb.2.1,by show(FZ s.rings n).length<=256;rw[Ft];exact h2⟩⟩,⟨hO.mono (λj _ d=>?_),l⟩⟩
 ·by_cases q:b<w.heap.size
  ·exact c.lg b i q A
  ·rcases o b (by omega)with m|⟨k,-,-,m⟩|⟨k,-,-,m⟩<;>omega
 ·by_cases q:b<w.heap.size
  ·exact c.lx b i q A
  ·rcases o b (by omega)with m|⟨k,-,-,m⟩|⟨k,-,-,m⟩<;>omega
 ·rcases d with d|d
  ·have:=hk j d
   constructor<;>intro e<;>rw[e]at this<;>exact absurd this (by decide)
  ·rw[T j d];decide
theorem aG:(prog.info? 139).map (λi=>(i.zero,i.size,i.bytes))=Z (Z (.agg #[ue tY,ue tY,I U 0]),3,16):=by kernel_rfl
def I0(n:Nat):Array Value:=madeCells #[ue tY,ue tY,I U 0] (n*3)
theorem gM(n:Nat)(f:n<=100000)(w:rO):(Instr.makeSlice 118 (I U (n:Int)) (I U (n:Int))).run prog w= .ok (Y (Z ⟨w.heap.size,0,N⟩) n n) (w.alloc (uj (I0 n) 139)):=by obtain⟨i,b,a⟩:=AD.1 aG;simp only[AV]at a;obtain⟨c,d,e⟩:=a;have h:=run_make (P:=prog) w 118 139 i _ underlying118 b c .i64 .i64 (n:Int) (n:Int) (by omega) (Zah _) (by rw[e];omega) (by omega);rw[d]at h;simp only[Am]at h;exact h
theorem aH(n:Nat):(I0 n).toList=EU (tW n p0):=by
 have e:(I0 n).toList.length=n*3:=by rw[Zbe,I0,size_madeCells]
 have f:(EU (tW n p0)).length=n*3:=by rw[MQ,Ci]
 refine BI λj=>?_;rcases Bc j (n*3)with a|a
 ·have c:(I0 n).toList[j]?=Z ((#[ue tY,ue tY,I U 0]:Array tR)[j%3]!):=by rw[Bm,I0,madeCells,Array.getElem?_map,Array.getElem?_range,Ai a];rfl
  rw[c];obtain⟨b,a2,a3⟩:=OY (tW n p0) (j/3) (by rw[Ci];omega);have d:(tW n p0)[j/3]?.getD p0=p0:=by rw[BM];split<;>rfl
  rw[d]at b a2 a3;rcases(show j%3=0\/j%3=1\/j%3=2 by omega)with h|h|h
  ·rw[show j=j/3*3 by omega,b,show(j/3*3)%3=0 by omega];rfl
  ·rw[show j=j/3*3+1 by omega,a2,show(j/3*3+1)%3=1 by omega];rfl
  ·rw[show j=j/3*3+2 by omega,a3,show(j/3*3+2)%3=2 by omega];rfl
 ·rw[A0 (by omega),A0 (by omega)]
theorem lH(n:Nat)(c:n<=100000)(w:rO):Hf (w.alloc (uj (I0 n) 139)) (Y (Z ⟨w.heap.size,0,N⟩) n n) (tW n p0):=by
 have a:(tW n p0).length=n:=Ci;have b:(I0 n).size=n*3:=by rw[I0,size_madeCells]
 refine⟨w.heap.size,n,I0 n,by rw[a],Cy.new w _ 139,by rw[a];exact Al _,by rw[b];exact Al _,by unfold maxLen;omega,.inl b.symm,?_⟩;rw[a,AL (by rw[Zbe,b];exact Al _),aH]
def aI(pv:tR)(p t a im ip s x ab n:Nat):Vr:={procs:=p,stat:=t,all:=a,GQ:=im,FM:=ip,CA:=s,box:=x,LB:=Y N 0 0,MP:=Y N 0 0,EG:=Y (Z ⟨ab,0,N⟩) n n,Gt:=pv,CR:=λ_=>0,DR:=λ_=>0,GJ:=λi=>i}
theorem aJ{o0:Nat->Nat}{w w2 l g d c f m b:rO}{P:List Fn}{pv Q tv:tR}{R:Nat->CZ.Rn}{xb a cg cm:Nat}(hO:pZ o0 w pv P)(C:a<=256)(n:tS w.heap.size w w2)(T:CZ.Hq l w2.heap.size Q a R)(hz: ∀i,i<a->(R i).CI=0/\(R i).row=[]) (D: ∀j,CZ.Pf w2.heap.size Q a R j->w2.heap.size<=j) (o:tS w2.heap.size w2 l) (E:Cx.Tb g l.heap.size tv (tW a (0,-1))) (p:tS l.heap.size l g) (F:g.alloc (uj #[Y N 0 0,Y N 0 0] 203)=d) (r:Idle.St c (d.heap.size+1) d.heap.size 64 []) (s:tS d.heap.size d c) (t:Idle.St f (c.heap.size+1) c.heap.size 256 []) (u:tS c.heap.size c f) (G:f.alloc (uj #[I U 0,Y N 0 0] 207)=m) (hx:m.heap.size<=xb) (v:LZ.Bx b xb (Y N 0 0) [] (λ_=> -1)) (q:tS m.heap.size m b): ∃own,CE b.heap.size (aI pv w2.heap.size l.heap.size g.heap.size (d.heap.size+1) (c.heap.size+1) f.heap.size xb (b.heap.size+1) a) own ((b.alloc (uj #[ptr w2.heap.size,pv,I U a,I U cg,I U cm,Y N 0 0,Y N 0 0,Y (Z ⟨b.heap.size+1,0,N⟩) a a,ptr l.heap.size,ptr g.heap.size,ptr (d.heap.size+1),ptr (c.heap.size+1),ptr f.heap.size,ptr xb,I U 0,I U 0,I U 0,I U 0,ue tY,I U 0,J N,I U 0,I U 0,I U 0,I U 0,I U 0,ue tY] 121)).alloc (uj (I0 a) 139)) (oJ P a a cg cm)/\ ∀j,j<w.heap.size->own j=o0 j:=by
 have y:tS g.heap.size g d:=by rw[<-F];exact Cu (tU _ _) _
 have z:tS f.heap.size f m:=by rw[<-G];exact Cu (tU _ _) _
 have hQ:C4.Queue d g.heap.size (λj=>j=g.heap.size) []:=by rw[<-F];exact C4.Queue.new g
 have H:Dg.Sm m f.heap.size 0 (Y N 0 0) []:=by rw[<-G];exact Dg.Sm.new f
 have aa:d.heap.size=g.heap.size+1:=by rw[<-F];simp
 have ad:m.heap.size=f.heap.size+1:=by rw[<-G];simp
 obtain⟨M,A⟩: ∃M:Array tR,M=#[ptr w2.heap.size,pv,I U a,I U cg,I U cm,Y N 0 0,Y N 0 0,Y (Z ⟨b.heap.size+1,0,N⟩) a a,ptr l.heap.size,ptr g.heap.size,ptr (d.heap.size+1),ptr (c.heap.size+1),ptr f.heap.size,ptr xb,I U 0,I U 0,I U 0,I U 0,ue tY,I U 0,J N,I U 0,I U 0,I U 0,I U 0,I U 0,ue tY]:=⟨_,rfl⟩;rw[<-A];have K:M=DE (aI pv w2.heap.size l.heap.size g.heap.size (d.heap.size+1) (c.heap.size+1) f.heap.size xb (b.heap.size+1) a) (oI a cg cm):=by rw[A];rfl
 have L:tS b.heap.size b ((b.alloc (uj M 121)).alloc (uj (I0 a) 139)):=Cu (Cu (tU _ _) _) _;have W:=L;have X:=q.trans (W.mono q.size);have b7:=z.trans (X.mono z.size);have b6:=u.trans (b7.mono u.size);have b5:=s.trans (b6.mono s.size);have b4:=y.trans (b5.mono y.size);have b3:=p.trans (b4.mono p.size);have hB:tS w.heap.size w ((b.alloc (uj M 121)).alloc (uj (I0 a) 139)):=n.trans ((o.trans (b3.mono o.size)).mono n.size);have sz:((b.alloc (uj M 121)).alloc (uj (I0 a) 139)).heap.size=b.heap.size+1+1:=by simp
 have B:Hf ((b.alloc (uj M 121)).alloc (uj (I0 a) 139)) (Y (Z ⟨b.heap.size+1,0,N⟩) a a) (tW a p0):=by have:=lH a (by omega) (b.alloc (uj M 121));simpa using this
 have O:Cy ((b.alloc (uj M 121)).alloc (uj (I0 a) 139)) b.heap.size (DE (aI pv w2.heap.size l.heap.size g.heap.size (d.heap.size+1) (c.heap.size+1) f.heap.size xb (b.heap.size+1) a) (oI a cg cm)) 121:=by rw[<-K];exact(Cy.new b M 121).alloc _
 have s2:=n.size;have s3:=o.size;have s4:=p.size;have s9:=q.size;have l6:d.heap.size+1<c.heap.size/\d.heap.size<c.heap.size:=by have h:d.heap.size+1<c.heap.size:=r.1.lt;exact⟨h,by omega⟩
 have l7:c.heap.size+1<f.heap.size/\c.heap.size<f.heap.size:=by have h:c.heap.size+1<f.heap.size:=t.1.lt;exact⟨h,by omega⟩
 exact lG (V:=aI pv w2.heap.size l.heap.size g.heap.size (d.heap.size+1) (c.heap.size+1) f.heap.size xb (b.heap.size+1) a) (a1:=l.heap.size) (a2:=g.heap.size) (a3:=d.heap.size) (a4:=c.heap.size) (a5:=f.heap.size) (a6:=m.heap.size) (a7:=b.heap.size) (ab:=b.heap.size+1)
  hO hB C rfl rfl rfl rfl rfl
  (T.below b3) hz (λj k=>⟨AA s2 (D j k),T.lt k⟩)
  (E.below b4) (λj k=>⟨E.ge k,E.lt k⟩)
  (hQ.below b5) (λj k=>by have e:j=g.heap.size:=k;omega)
  (r.below b6) (λj k=>by
   rcases k with h|h
   ·have e:j=d.heap.size+1:=h;omega
   ·have e:j=d.heap.size:=h;omega)
  (t.below b7) (λj k=>by
   rcases k with h|h
   ·have e:j=c.heap.size+1:=h;omega
   ·have e:j=c.heap.size:=h;omega)
  (H.below X) (λj k=>by
   rcases k with h|h
   ·have e:j=f.heap.size:=h;omega
   ·cases h)
  (v.only (S:=λ_=>False) ((Cw.refl _ b).below W) (λ_ _ x=>x)) ⟨hx,v.cs.lt⟩
  O (Al _) B (Nat.lt_succ_self _) (by rw[sz];omega) (by omega)
section
open Vm (CP)
variable {p j pj:Nat}
theorem Dp.aK{c:Cr}(h:Dp c){a w:Int}(F:p<c.n)(g:c.stat[p]?=Z (a,w))(G:a=0\/a=1)(r:a=1-> ∃(j:Nat)(y:MC),w=j/\c.ms[j]?=Z y/\y.phase≠5):Dp {c with stat:=c.stat.set p (3,w),ip:=c.ip.erase p}:=
 {h with
  ns:=by simp;exact h.ns,
  sl:=by simp;exact h.sl,
  mp:=λk z s=>by
   have A:p<c.stat.length:=(Af.1 g).1;obtain⟨B,a2,a3,a4,a5,C,D⟩:=h.mp k z s;refine⟨B,a2,a3,a4,λu v=>?_,C,λu=>?_⟩
   ·obtain⟨q,i,m,n⟩:=a5 u v
    refine⟨q,i,m,?_⟩;by_cases d:p=q
    ·subst d
     rw[g]at n;have e:w=k:=by grind
     right;rw[Aj A,e]
    ·simpa[Ay,d]using n
   ·rcases D u with b|⟨q,i,m,n⟩
    ·exact .inl b
    ·have d:p≠q:=by
      rintro rfl;rw[g]at n;obtain⟨j,y,c1,t,c3⟩:=r (by grind);have:j=k:=by grind
      subst this;rw[s]at t;cases t;exact c3 u
     exact .inr ⟨q,i,m,by simpa[Ay,d]using n⟩,
  sp:=λq a' v d f=>by
   by_cases o:p=q
   ·subst o
    have:=h.sp p a w d g;rw[Aj (Af.1 g).1]at f;cases f;rcases this with⟨x,-⟩|⟨-,-,E⟩
    ·exact .inl ⟨x,.inr rfl⟩
    ·exact .inr ⟨by omega,by omega,E⟩
   ·exact h.sp q a' v d (by simpa[Ay,o]using f),
  sd:=λq r x=>by have:=h.sd q r;grind,
  Oi:=h.Oi.erase _,
  Kb:=λq d=>by
   obtain⟨l,rfl,i,m⟩:=h.Kb q (Cs d);have:p≠l:=by rintro rfl;exact h.Oi.not_mem_erase d
   exact⟨l,rfl,i,by simpa[Ay,this]using m⟩}
theorem Dp.lI{c:Cr}(h:Dp c){k:Nat}{y:MC}(G:p<c.n)(B:c.stat[p]?=Z (2,(k:Int)))(m:c.ms[k]?=Z y)(hy:y.p=p)(n:y.phase=5):Dp {c with ms:=c.ms.set k ⟨-1,y.g,5⟩,stat:=c.stat.set p (3,-1),ip:=c.ip.erase p}:=
 {h with
  ns:=by simp;exact h.ns,
  sl:=by simp;exact h.sl,
  m1:=by simp;exact h.m1,
  m2:=by simp;exact h.m2,
  mp:=λl z t=>by
   by_cases C:l=k
   ·have:z=⟨-1,y.g,5⟩:=by grind
    subst this;obtain⟨w,a2,a3,a4,a5,o,x⟩:=h.mp k y m;exact⟨by simp,by simp,by simp,by simp,by simp,λ_=>by have:=o (by omega);simpa[n]using this,λ_=>.inl rfl⟩
   ·obtain⟨w,a2,a3,a4,a5,o,x⟩:=h.mp l z (by grind)
    exact⟨w,a2,a3,a4,λu v=>by
     obtain⟨q,d,e,r⟩:=a5 u v;have:p≠q:=by rintro rfl;grind
     exact⟨q,d,e,by simpa[Ay,this]using r⟩,o,λu=>by
     rcases x u with b|⟨q,d,e,r⟩
     ·exact .inl b
     ·have:p≠q:=by rintro rfl;grind
      exact .inr ⟨q,d,e,by simpa[Ay,this]using r⟩⟩,
  mu:=λa b z z' H K=>by have:=h.mu a b;grind,
  sp:=λq a v j f=>by
   by_cases g:p=q
   ·subst g
    rw[Aj (Af.1 B).1]at f;cases f;exact .inl ⟨rfl,.inr rfl⟩
   ·rcases h.sp q a v j (by simpa[Ay,g]using f)with i|⟨i,A,l,z,D,s,E,F⟩
    ·exact .inl i
    ·have:k≠l:=by rintro rfl;rw[m]at s;cases s;omega
     exact .inr ⟨i,A,l,z,D,by simpa[Ay,this]using s,E,F⟩,
  sd:=λq i A=>by have:=h.sd q i;grind,
  Oi:=h.Oi.erase _,
  Kb:=λq j=>by
   obtain⟨l,rfl,d,e⟩:=h.Kb q (Cs j);have:p≠l:=by rintro rfl;exact h.Oi.not_mem_erase j
   exact⟨l,rfl,d,by simpa[Ay,this]using e⟩,
  J2:=λl t=>by
   obtain⟨q,z,rfl,d,e⟩:=h.J2 l t;have:k≠q:=by rintro rfl;rw[m]at d;cases d;omega
   exact⟨q,z,rfl,by simpa[Ay,this]using d,e⟩}
theorem Re{l:List Pr}(a:p<l.length)(v:Pr):runN ((l.set p v).take (p+1))=runN (l.take p)+(if v.1=1 then 1 else 0):=by
 have e:(l.set p v).take (p+1)=l.take p++[v]:=by apply BI;intro k;simp only[Zan,Ay,List.getElem?_append,AY,List.getElem?_singleton];grind
 rw[e];unfold runN;rw[Zal];simp[List.countP_cons]
theorem Xl{l:List Pr}{v:Pr}(a:l[p]?=Z v):runN (l.take (p+1))=runN (l.take p)+(if v.1=1 then 1 else 0):=by
 have b:=(Af.1 a).1;have e:l.set p v=l:=by apply List.ext_getElem?;grind
 have:=Re b v;rwa [e]at this
theorem gN{c:Cr}(h:Dp c):runN (c.stat.take c.n)=runN c.stat:=by
 have e:runN (c.stat.drop c.n)=0:=Zae.2 λx b=>by obtain⟨i,a⟩:=Za9 b;rw[Zak]at a;have d:=(Af.1 a).1;rw[h.sd _ (by omega) d]at a;cases a;simp
 have f:runN c.stat=runN (c.stat.take c.n)+runN (c.stat.drop c.n):=by unfold runN;rw[<-Zal,BV]
 omega
structure Ss (s:St) (j pj p:Nat) (g:Int):Prop where
 DC:Bs 1000 s
 st:s.sc.Cz=tZ
 Hc:s.sc.CF=0
 p4: ∀(k:Nat)(z:MC),(core s).ms[k]?=Z z->z.phase≠4
 bars: ∀b,b∈(core s).bars->b=tY
 my: ∃z:M1,s.ms[j]?=Z z/\mc z=⟨(pj:Int),g,3⟩
 Gg:s.owner=g
 pn:pj<s.rings.length
 Kk: ∀(q:Nat)(a w:Int),q<p->s.stat[q]?=Z (a,w)->a=1\/a=3
 FW: ∀(q:Nat)(a w:Int),p<=q->q<s.rings.length->s.stat[q]?=Z (a,w)->a≠3
 lJ: ∀(q:Nat)(w:Int),s.stat[q]?=Z (3,w)->w= -1\/w=j
 s1:pj<p->s.stat[pj]?=Z (3,(j:Int))
 s2:p<=pj->s.stat[pj]?=Z (1,(j:Int))
 ip: ∀x,x∈s.CD->(p:Int)<=x
 wt:s.sc.wait=runN (s.stat.take p)
theorem TA{g:Int}: ∀(n p:Nat)(s:St),Ss s j pj p g->p+n=s.rings.length-> ∃d,E9 j n p s=Z d/\Ss d j pj s.rings.length g/\d.rings.length=s.rings.length:=by
 intro n;induction n with
 |zero=>intro p s h hp;have:p=s.rings.length:=(by omega);subst this;exact⟨s,rfl,h,rfl⟩
 |succ n T=>
  intro p s h hp;have A:p<s.rings.length:=by omega
  have V:p<s.stat.length:=An A h.DC.base.ns;obtain⟨a,w,g1,g2,g3⟩:=Jp h.DC A;have K:=h.DC.base.sp p a w A g1;have aj:=h.FW p a w (Al _) A g1;obtain⟨z,C,o⟩:=h.my;have zp:z.p=pj:=Aq MC.p o;have ak:z.phase=3:=Aq MC.phase o;have tab: ∀(v:Int)(d:St),d.stat=s.stat.set p (3,v)->(v= -1/\p≠pj\/v=j/\p=pj)->(∀x,x∈d.CD->x∈s.CD/\x≠p)->d.rings=s.rings->d.sc=s.sc->d.owner=s.owner->d.asked=s.asked->(∃z:M1,d.ms[j]?=Z z/\mc z=⟨(pj:Int),g,3⟩)->(∀(k:Nat)(z:MC),(core d).ms[k]?=Z z->z.phase≠4)->Bs 1000 d->Ss d j pj (p+1) g:=by
   intro v d H W aa e2 e3 e4 e5 ab h4 D;refine⟨D,by rw[e3];exact h.st,by rw[e3];exact h.Hc,h4,by simp only[core,e5];exact h.bars,ab,by rw[e4];exact h.Gg,by rw[e2];exact h.pn,λq a' B E i=>?_,λq a' B E L i=>?_,λq B i=>?_,λE=>?_,λE=>?_,λx r=>?_,?_⟩
   ·rw[H]at i
    by_cases f:p=q
    ·subst f;rw[Aj V]at i;cases i;exact .inr rfl
    ·rw[Ao f]at i;exact h.Kk q a' B (by omega) i
   ·rw[H,Ao (by omega)]at i
    exact h.FW q a' B (by omega) (by rw[e2]at L;exact L) i
   ·rw[H]at i
    by_cases f:p=q
    ·subst f;rw[Aj V]at i;cases i;rcases W with m|m;exact .inl m.1;exact .inr m.1
    ·rw[Ao f]at i;exact h.lJ q B i
   ·rw[H]
    by_cases f:p=pj
    ·subst f
     rw[Aj V];rcases W with m|m
     ·exact absurd rfl m.2
     ·rw[m.1]
    ·rw[Ao f];exact h.s1 (by omega)
   ·rw[H,Ao (by omega)];exact h.s2 (by omega)
   ·obtain⟨m,h6⟩:=aa x r
    have:=h.ip x m;omega
   ·rw[e3,H,Re V,h.wt];simp
  unfold E9;rw[g2];dsimp only;by_cases a2:a=2
  ·subst a2
   rw[Ai rfl];rcases Pp h.DC A g1 with⟨-,-,m⟩|⟨k,y,rfl,m,hy,h7,h8,-⟩
   ·omega
   ·rw[m]
    dsimp only;rw[hy];dsimp only;have M:y.phase=5:=by
     have hM:=h.DC.base.mp k _ (CG hy);simp only[Oh,mc]at hM;have m2:=hM.2.1;refine Zbd λao=>?_;obtain⟨q,b1,-,O⟩:=hM.2.2.2.2.1 (by omega) (by omega);have:q=p:=by omega
     subst this;rw[show(core s).stat[q]?=s.stat[q]? from rfl,g1]at O;rcases O with O|O<;>simp at O
    have ad:k≠j:=by rintro rfl;rw[C]at hy;cases hy;omega
    have t:Fg (s.CQ k {y with p:= -1}) p={s with ms:=s.ms.set k {y with p:= -1},stat:=s.stat.set p (3,-1)}:=by unfold Fg St.CQ;dsimp only;rw[IY g1 (.inr (.inr rfl)),Ai rfl]
    rw[t];have D:Bs 1000 {s with ms:=s.ms.set k {y with p:= -1},stat:=s.stat.set p (3,-1),CD:=s.CD.erase p}:=by refine⟨?_,h.DC.DL,h.DC.th,h.DC.box⟩;have:=h.DC.base.lI (p:=p) (k:=k) (y:=mc y) A g1 (CG hy) h7 M;refine cast ?_ this;simp[core,Df,mc,M]
    obtain⟨d,c1,F,c3⟩:=T (p+1) _ (tab (-1) {s with ms:=s.ms.set k {y with p:= -1},stat:=s.stat.set p (3,-1),CD:=s.CD.erase p} rfl (.inl ⟨rfl,λe=>by
      have:=h.s2 (by omega);rw[<-e,g1]at this;simp at this⟩) (λx r=>⟨List.mem_of_mem_erase r,λe=>by subst e;exact h.DC.base.Oi.not_mem_erase r⟩) rfl rfl rfl rfl ⟨z,by dsimp only;rw[List.getElem?_set_ne ad];exact C,o⟩ (λl v W=>by
      obtain⟨u,hu,rfl⟩:=DJ W;dsimp only at hu;by_cases P:k=l
      ·subst P;rw[Aj (Af.1 hy).1]at hu;cases hu;simp only[mc];omega
      ·rw[List.getElem?_set_ne P]at hu;exact h.p4 l _ (CG hu)) D) (by dsimp only;omega)
    exact⟨d,c1,F,c3⟩
  ·rw[Ah a2]
   by_cases a0:a=0
   ·subst a0
    rw[Ai rfl];have hw:w= -1:=by rcases K with X|X<;>omega
    subst hw;have t:Fg s p={s with stat:=s.stat.set p (3,-1)}:=by unfold Fg;rw[IY g1 (.inl rfl),Ah (by omega)]
    rw[t];have D:Bs 1000 {s with stat:=s.stat.set p (3,-1),CD:=s.CD.erase p}:=⟨h.DC.base.aK (p:=p) (a:=0) (w:= -1) A g1 (.inl rfl) (λe=>by omega),h.DC.DL,h.DC.th,h.DC.box⟩;obtain⟨d,c1,F,c3⟩:=T (p+1) _ (tab (-1) {s with stat:=s.stat.set p (3,-1),CD:=s.CD.erase p} rfl (.inl ⟨rfl,λe=>by have:=h.s2 (by omega);rw[<-e,g1]at this;simp at this⟩) (λx r=>⟨List.mem_of_mem_erase r,λe=>by subst e;exact h.DC.base.Oi.not_mem_erase r⟩) rfl rfl rfl rfl ⟨z,C,o⟩ h.p4 D) (by dsimp only;omega);exact⟨d,c1,F,c3⟩
   ·rw[Ah a0]
    have a1:a=1:=by rcases K with X|X<;>omega
    subst a1;rw[Ai rfl,C];dsimp only;by_cases Q:(p:Int)=z.p
    ·have ae:p=pj:=by omega
     subst ae;rw[Ai Q];have G:=h.s2 (Al _);have t:Fg s p={s with stat:=s.stat.set p (3,(j:Int))}:=by unfold Fg;rw[IY G (.inr (.inl rfl)),Ah (by omega)]
     rw[t];have R:(p:Int)∉s.CD:=λhm=>by
      obtain⟨l,X,h2,h3⟩:=h.DC.base.Kb _ hm;have:p=l:=by omega
      subst this;rw[show(core s).stat[p]?=s.stat[p]? from rfl,G]at h3;simp at h3
     have D:Bs 1000 {s with stat:=s.stat.set p (3,(j:Int))}:=by have:=h.DC.base.aK (p:=p) (a:=1) (w:=(j:Int)) A G (.inr rfl) (λ_=>⟨j,_,rfl,CG C,by simp only[mc];omega⟩);rw[show(core s).ip.erase (p:Int)=s.CD from Zao R]at this;exact⟨this,h.DC.DL,h.DC.th,h.DC.box⟩
     obtain⟨d,c1,F,c3⟩:=T (p+1) _ (tab j {s with stat:=s.stat.set p (3,(j:Int))} rfl (.inr ⟨rfl,rfl⟩) (λx r=>⟨r,λe=>by subst e;exact R r⟩) rfl rfl rfl rfl ⟨z,C,o⟩ h.p4 D) (by dsimp only;omega);exact⟨d,c1,F,c3⟩
    ·rw[Ah Q]
     rcases Pp h.DC A g1 with⟨-,-,m⟩|⟨k,y,rfl,m,hy,h7,h8,-⟩
     ·omega
     ·rw[m]
      dsimp only;have aq:runN (s.stat.take p)<=(s.stat.take p).length:=Zap;have ar:(s.stat.take p).length<=256:=by have:=h.DC.base.sl;simp only[core]at this;simp;omega
      have af:wrap64 (s.sc.wait+1)=s.sc.wait+1:=Mr (by rw[h.wt];omega) (by rw[h.wt];omega);rw[af];have ag:Bs 1000 (s.CS {s.sc with wait:=s.sc.wait+1}):=⟨{h.DC.base with},h.DC.DL,h.DC.th,h.DC.box⟩;obtain⟨c,b,h9,ah,ai⟩:=IZ ag (j:=k) (y:=y) hy (.inr ⟨p,h7,A⟩);rw[h9];dsimp only[Option.bind_some];have hS:Ss {s.CS {s.sc with wait:=s.sc.wait+1}with asked:=c,box:=b} j pj (p+1) g:=by
       have hc:core ({s.CS {s.sc with wait:=s.sc.wait+1}with asked:=c,box:=b}:St)={core s with wt:=s.sc.wait+1}:=by simp[core,St.CS,Df,ah]
       refine⟨⟨by rw[hc];exact{h.DC.base with},h.DC.DL,h.DC.th,by rw[<-h.DC.box];exact ai⟩,h.st,h.Hc,by rw[hc];exact h.p4,by rw[hc];exact h.bars,⟨z,C,o⟩,h.Gg,h.pn,λq a' B E i=>?_,λq a' B E=>h.FW q a' B (by omega),h.lJ,λE=>h.s1 (by omega),λE=>h.s2 (by omega),λx r=>?_,?_⟩
       ·by_cases f:p=q
        ·subst f;rw[show s.stat[p]?=Z (a',B)from i]at g1;cases g1;exact .inl rfl
        ·exact h.Kk q a' B (by omega) i
       ·have au:=h.ip x r
        obtain⟨l,av,aw,S⟩:=h.DC.base.Kb x r;have:l≠p:=by rintro rfl;rw[show(core s).stat[l]?=s.stat[l]? from rfl,g1]at S;simp at S
        omega
       ·show s.sc.wait+1=(runN (s.stat.take (p+1)):Int)
        rw[Xl g1,h.wt];simp
      obtain⟨d,c1,F,c3⟩:=T (p+1) _ hS (by simp only[St.CS];omega);exact⟨d,c1,F,c3⟩
theorem Ss.done{s:St}{g:Int}(h:Ss s j pj s.rings.length g):Inv 1000 s:=by
 obtain⟨z,d,b⟩:=h.my;have f:=gN h.DC.base;refine⟨h.DC,λe=>tf h.st e,λ_=>h.bars,λk z i m=>absurd m (h.p4 k z i),λ_=>⟨?_,λq a w n o=>h.Kk q a w n o,⟨h.wt.trans ?_,λp=>absurd h.Hc p⟩,h.p4,j,_,pj,CG d,?_,.inl ⟨Aq MC.phase b,h.Hc⟩,Aq MC.p b,h.s1 h.pn,h.lJ⟩⟩
 ·cases c:s.CD with
  |nil=>simp[core,c]
  |cons x r=>have u:=h.ip x (by rw[c];simp);obtain⟨l,v,t,-⟩:=h.DC.base.Kb x (by simp[core,c]);have:l<s.rings.length:=t;omega
 ·rw[<-f];rfl
 ·exact h.Gg.trans (Aq MC.g b).symm
end
section
open Vm (CP)
theorem Xm{j:Nat}: ∀(n p:Nat)(s:St),Inv 1000 s->p+n=s.rings.length->(∃z:M1,s.ms[j]?=Z z/\z.phase=4)->(∀(q:Nat)(b:Bool),p<=q->(core s).bars[q]?=Z b->b=tY)-> ∃E,IM j n p s=Z E/\Inv 1000 E:=by
 intro n;induction n with
 |zero=>intro p s h _ _ _;exact⟨s,rfl,h⟩
 |succ n F=>
  intro p s h T f m;obtain⟨z,f,e⟩:=f;have o:p<s.rings.length:=by omega
  have r:p<s.asked.length:=by have:=h.base.nb;simp[core]at this;omega
  have i:s.asked[p]?=Z s.asked[p]:=Ae r;generalize s.asked[p]=a at i;have u:a.Eo=false:=m p a.Eo (Al _) (by simp[core,i]);obtain⟨t,w,g1,g2,g3⟩:=Jp h.toBs o;unfold IM;rw[f,i,g2];dsimp only;split
  ·have hm:(s.asked.set p ⟨a.pre,a.Eo,wrap64 (a.count+1)⟩).map (·.Eo)=s.asked.map (·.Eo):=by apply BI;intro k;simp only[Bz];grind
   obtain⟨K,V⟩:=EA (b:=s.box) h hm rfl;exact F (p+1) _ K (by dsimp only;omega) ⟨z,f,e⟩ (λq b L d=>m q b (by omega) (by simp only[core]at*;rw[hm]at d;exact d))
  ·rename_i x
   have t1:t=1:=by omega
   subst t1;rcases Pp h.toBs o g1 with⟨-,-,G⟩|⟨k,y,rfl,G,hy,M,W,-⟩
   ·omega
   ·rw[G]
    dsimp only;have hw:(core s).wt=GW (core s).bars:=h.link.bars j _ (CG f) e;have A:s.sc.Cz=false:=by
     cases O:s.sc.Cz with
     |false=>rfl
     |true=>exact absurd e ((h.link.stop O).2.2.2.1 j _ (CG f))
    have P:=UU (core s).bars;have Q:=h.base.nb;have R:=h.base.W9;have B:wrap64 (s.sc.wait+1)=s.sc.wait+1:=by have:s.sc.wait=GW (core s).bars:=hw;exact Mr (by omega) (by omega)
    rw[B];have x:core {s with asked:=s.asked.set p ⟨a.pre,tZ,a.count⟩,sc:={s.sc with wait:=s.sc.wait+1}}={core s with bars:=(core s).bars.set p tZ,wt:=(core s).wt+1}:=by simp[core,Df]
    have H:Inv 1000 {s with asked:=s.asked.set p ⟨a.pre,tZ,a.count⟩,sc:={s.sc with wait:=s.sc.wait+1}}:=by refine⟨⟨by rw[x];exact{h.base with nb:=by simp;exact h.base.nb},h.DL,h.th,h.box⟩,?_⟩;rw[x];refine⟨h.link.go,λC=>absurd e (C j _ (CG f)),λl v P X=>?_,λC=>tf (C:s.sc.Cz=tZ) A⟩;have:=Xc (l:=(core s).bars) (p:=p) (by simp[core,i,u]);dsimp only;omega
    obtain⟨c,b,S,g,D⟩:=IZ H.toBs (j:=k) (y:=y) hy (.inr ⟨p,M,o⟩);rw[S];dsimp only[Option.bind_some];refine F (p+1) _ (EA H g D).1 (by dsimp only;omega) ⟨z,f,e⟩ (λq b L d=>m q b (by omega) ?_);simp only[core]at*
    rw[g]at d;simp only[Bz]at d;rwa [Ao (by omega)]at d
theorem Dp.owx{c:Cr}(h:Dp c)(o:Int)(d:0<=o)(e:o<=c.gs.length)(a: ∀(k:Nat)(z:MC),c.ms[k]?=Z z->z.phase≠3/\z.phase≠4):Dp {c with Gg:=o}:=
 {h with
  J1:=d,
  GL:=e,
  mp:=λk z b=>by have:=a k z b;obtain⟨f,a2,a3,a4,a5,g,j⟩:=h.mp k z b;exact⟨f,a2,a3,a4,a5,λl=>by obtain⟨i,x,m,n,p,q,s⟩:=g l;exact⟨i,x,m,n,p,q,λr=>(r.elim this.1 this.2).elim⟩,j⟩}
section
variable {s:St}
theorem Xn(h:Inv 1000 s){j i:Nat}{y:M1}(hy:s.ms[j]?=Z y)(S:y.phase=2)(T:y.g=(i:Int)+1)(ab:s.sc.CF≠y.g)(op:Int): ∃s',Ic s j op=Z s'/\Inv 1000 s':=by
 obtain⟨x,P,hw,hd,f1,f2,f3,f4⟩:=h.run hy (.inl S) T;have hi:i<s.gs.length:=(Af.1 P).1;have K:j<s.ms.length:=(Af.1 hy).1;have a7:s.waits.length<=64:=by have:=Jn (core s).gs.length s.waits h.base.wn (λx P=>by obtain⟨k,z,rfl,L,-⟩:=h.base.ww x P;have:=(Af.1 L).1;omega);exact AA this h.base.g2
 obtain⟨pj,ad,ae,af⟩:=h.one hy (.inr (.inr ⟨S,ab⟩));unfold Ic;rw[hy];dsimp only;rw[Ai (by omega),show(y.g-1).toNat=i by omega,P];dsimp only;have B: ¬y.g<1:=by omega
 by_cases ho:s.owner=0\/s.owner=y.g
 ·have e1:Dg.NC s.owner y.g=true:=by unfold Dg.NC;rw[Ah B];split;rfl;simp;omega
  have e2:Dg.OM s.owner y.g=y.g:=by unfold Dg.OM;rw[Ah B];split;rfl;omega
  have e3:Dg.ON s.owner s.waits y.g=s.waits:=by unfold Dg.ON;rw[Ah B];split;rfl;rw[Ai (by omega)]
  rw[e1,e2,e3,Ai rfl];have a1:(core s).Gg=s.owner:=rfl;have u:s.sc.Cz=false:=by
   cases Q:s.sc.Cz with
   |false=>rfl
   |true=>obtain⟨l1,l2,l3,l4,k,z,q,b1,b2,b3,b4,b5,b6⟩:=h.link.stop Q;obtain⟨y0,ao,rfl⟩:=DJ b1;have hM:=h.base.mp k _ b1;obtain⟨i2,x2,c1,-⟩:=hM.2.2.2.2.2.1 (by omega);have aq:y0.g=(i2:Int)+1:=c1;obtain⟨-,rfl⟩:=h.Xh hy ao T (by omega);have hd:(core s).Hc=s.sc.CF:=rfl;simp only[mc]at b3;omega
  have M: ∀(k:Nat)(z:MC),(core s).ms[k]?=Z z->z.phase≠3/\z.phase≠4:=λk z f=>by refine⟨(h.link.go u).2.2 k z f,λh4=>?_⟩;obtain⟨v,r,rfl⟩:=DJ f;have hM:=h.base.mp k _ f;obtain⟨i2,x2,c1,-,-,-,c2⟩:=hM.2.2.2.2.2.1 (by omega);have c3:=(c2 (.inr h4)).2;have aq:v.g=(i2:Int)+1:=c1;obtain⟨-,e⟩:=h.Xh hy r T (by omega);have h5:v.phase=4:=h4;rw[e]at h5;omega
  have A:=h.link.Eo (λk z f=>(M k z f).2);have ag: ∃c,Kv {s with owner:=y.g,waits:=s.waits} 1 i 0=Z (({s with owner:=y.g,waits:=s.waits}:St).CS c)/\c.Cz=s.sc.Cz/\c.CF=s.sc.CF/\c.G2=s.sc.G2/\c.Gq=s.sc.Gq:=by unfold Kv;rw[show({s with owner:=y.g,waits:=s.waits}:St).gs[i]?=s.gs[i]? from rfl,P];exact⟨_,rfl,rfl,rfl,rfl,rfl⟩
  obtain⟨c,ar,c1,c2,c4,c5⟩:=ag;rw[ar];dsimp only[Option.bind_some];generalize g:((({s with owner:=y.g,waits:=s.waits}:St).CS c).CJ i {x with begun:=tZ}).CS {(({s with owner:=y.g,waits:=s.waits}:St).CS c).sc with wait:=0}=d;have n:core d={core s with Gg:=y.g,wt:=0,gs:=(core s).gs.set i {gc x with begun:=tZ}}:=by rw[<-g];simp[core,St.CS,St.CJ,Df,gc,c1,c2,c4,c5]
  have m:d.ms=s.ms:=by rw[<-g];rfl
  have O:d.ms[j]?=Z y:=by rw[m];exact hy
  have ah:d.gs=s.gs.set i {x with begun:=tZ}:=by rw[<-g];rfl
  have D:d.sc.Cz=tY/\d.sc.CF=s.sc.CF:=by rw[<-g];exact⟨c1.trans u,c2⟩
  have E:d.stat=s.stat:=by rw[<-g];rfl
  have R:d.rings=s.rings:=by rw[<-g];rfl
  have o:Bs 1000 d:=by
   refine⟨?_,by rw[<-g];exact h.DL,λk z f=>?_,by rw[<-g];exact h.box⟩
   ·rw[n]
    have C:=(h.base.owx y.g (by omega) (by simp[core];omega) M).CJ (i:=i) (x':={gc x with begun:=tZ}) (CV P) ⟨by simp[gc,hw,D9.Dt],by simp[gc,f1],by simp[gc,f2]⟩ (λhm=>absurd hm f4) (λhm=>absurd hm f3) (λk z f V=>by obtain⟨v,r,rfl⟩:=DJ f;obtain⟨-,rfl⟩:=h.Xh hy r T V;simp only[mc,gc];omega);exact{C with}
   ·rw[ah]at f
    have ht:=h.th i x P;by_cases e:i=k
    ·subst e
     rw[Aj hi]at f;cases f;exact⟨by rw[<-g];exact ht.1.congr ht.1.wd rfl rfl rfl rfl,ht.2⟩
    ·rw[Ao e]at f
     rw[<-g];exact h.th k z f
  have W:d.owner=y.g:=by rw[<-g];rfl
  have hM: ∀ph:Int,ph=3\/ph=4->Dp (core (d.CQ j {y with phase:=ph})):=λph a6=>by
   rw[DT];refine o.base.NM (CG O) ?_ (.inl rfl) rfl (by simp only[mc];omega) (λhm=>?_)
   ·refine⟨by simp only[mc];omega,by simp only[mc];omega,λh0=>?_,λh0=>?_,λ_ _=>⟨pj,ad,by rw[n];exact ae,.inl (by rw[n];exact af)⟩,λ_=>⟨i,{gc x with begun:=tZ},T,by rw[n];simp[core,hi],λ_=>hw,λh0=>?_,λ_=>⟨rfl,by rw[n];rfl⟩⟩,λh0=>?_⟩
    all_goals(simp only[mc]at h0;omega)
   ·obtain⟨k,z,e,L,h2⟩:=o.base.J2 _ hm
    have:j=k:=by omega
    subst this;rw[CG O]at L;cases L;simp only[mc]at h2;omega
  split
  ·unfold N5
   rw[O];dsimp only;have hz:(d.CQ j {y with phase:=4}).ms[j]?=Z {y with phase:=4}:=by simp only[St.CQ];exact Aj (by rw[m];exact K)
   have ai:(core (d.CQ j {y with phase:=4})).bars=(core s).bars:=by rw[DT,n]
   refine Xm _ 0 _ ⟨⟨hM 4 (.inr rfl),o.DL,o.th,o.box⟩,?_⟩ (by simp[St.CQ]) ⟨_,hz,rfl⟩ (λq b _ C=>?_)
   ·refine⟨λ_=>⟨?_,λp a w hp Q=>?_,λk z f=>?_⟩,λh4=>absurd rfl (h4 j _ (CG hz)),λk z f h4=>?_,λe=>tf (e:d.sc.Cz=tZ) D.1⟩
    ·exact D.2.trans (h.link.go u).1
    ·rw[DT,n]at hp Q
     exact(h.link.go u).2.1 p a w hp Q
    ·obtain⟨v,r,rfl⟩:=DJ f
     simp only[St.CQ]at r;by_cases F:j=k
     ·subst F;rw[Aj (by rw[m];exact K)]at r;cases r;simp[mc]
     ·rw[Ao F,m]at r
      exact(M k _ (CG r)).1
    ·rw[ai,DT,n]
     dsimp only;have:GW (core s).bars=0:=Zae.2 λb C=>by simp[A b C]
     omega
   ·rw[ai]at C
    exact A b (AP C)
  ·unfold K1
   rw[O];dsimp only;have hz:((d.CS {d.sc with Cz:=tZ}).CQ j {y with phase:=3}).ms[j]?=Z {y with phase:=3}:=by simp only[St.CQ,St.CS];exact Aj (by rw[m];exact K)
   have G:core ((d.CS {d.sc with Cz:=tZ}).CQ j {y with phase:=3})={core (d.CQ j {y with phase:=3})with st:=tZ}:=by simp[core,St.CQ,St.CS,Df]
   have hS:Ss ((d.CS {d.sc with Cz:=tZ}).CQ j {y with phase:=3}) j pj 0 y.g:=by
    refine⟨⟨?_,o.DL,o.th,o.box⟩,rfl,?_,λk z f=>?_,λb C=>?_,⟨_,hz,by simp[mc,ad]⟩,W,?_,λq a w H=>absurd H (by omega),λq a w _ H Q=>?_,λq w Q=>?_,λH=>absurd H (by omega),λ_=>?_,λq H=>?_,?_⟩
    ·rw[G];exact{hM 3 (.inl rfl)with}
    ·exact D.2.trans (h.link.go u).1
    ·obtain⟨v,r,rfl⟩:=DJ f
     simp only[St.CQ,St.CS]at r;by_cases F:j=k
     ·subst F;rw[Aj (by rw[m];exact K)]at r;cases r;simp[mc]
     ·rw[Ao F,m]at r
      exact(M k _ (CG r)).2
    ·rw[G,DT,n]at C
     exact A b C
    ·show pj<d.rings.length
     rw[R];exact ae
    ·have au:q<s.rings.length:=by rw[<-R];exact H
     exact(h.link.go u).2.1 q a w au (by show s.stat[q]?=_;rw[<-E];exact Q)
    ·have X:s.stat[q]?=Z (3,w):=by rw[<-E];exact Q
     have av:=(Af.1 X).1;rcases Bc q s.rings.length with H|H
     ·exact absurd rfl ((h.link.go u).2.1 q 3 w H X)
     ·have:=h.base.sd q H av
      rw[show(core s).stat[q]?=s.stat[q]? from rfl,X]at this;cases this
    ·show d.stat[pj]?=_
     rw[E];exact af
    ·have L:(core d).ip=d.CD:=rfl
     obtain⟨l,h2,-⟩:=o.base.Kb q H;omega
    ·have:d.sc.wait=0:=by rw[<-g];rfl
     show d.sc.wait=_;rw[this];simp[runN]
   obtain⟨s',r1,r2,r3⟩:=TA d.rings.length 0 _ hS (by simp[St.CQ,St.CS]);refine⟨s',r1,?_⟩;have aw:Ss s' j pj s'.rings.length y.g:=by rw[r3];exact r2
   exact aw.done
 ·have e1:Dg.NC s.owner y.g=false:=by unfold Dg.NC;rw[Ah B,Ah (by omega)];simp;omega
  have e2:Dg.OM s.owner y.g=s.owner:=by unfold Dg.OM;rw[Ah B,Ah (by omega)]
  have e3:Dg.ON s.owner s.waits y.g=s.waits++[y.g]:=by unfold Dg.ON;rw[Ah B,Ah (by omega),Ah (by omega),Ah (by rw[T];exact f3)]
  rw[e1,e2,e3,Ah (by simp)];obtain⟨t,x1,s1,m1,m2,m3,m4,m5,m6,m7,m8⟩:=KH h hy (.inl ⟨S,λ_=>ab⟩);have:t=i:=by omega
  subst this;rw[P]at m5;cases m5;have aj:Gw (({s with owner:=s.owner,waits:=s.waits++[y.g]}:St).CJ t {x with CA:=tZ}) j=Z (t,({s1 with waits:=s.waits++[y.g]}:St).CJ t {x with CA:=tZ}):=by unfold Gw;rw[show(({s with owner:=s.owner,waits:=s.waits++[y.g]}:St).CJ t {x with CA:=tZ}).ms[j]?=Z y from hy];dsimp only;rw[Ai (by omega),show(y.g-1).toNat=t by omega,m6];rfl
  rw[aj];refine⟨_,rfl,?_⟩;have aa:t<s1.gs.length:=(Af.1 m3.at_).1;have e4:Ia x.word 4=4:=by rw[hw];decide+kernel
  have ak:(({s1 with waits:=s.waits++[y.g]}:St).CJ t {x with CA:=tZ}).mv t 4=({s1 with waits:=s.waits++[y.g]}:St).CJ t {x with CA:=tZ,word:=4}:=by unfold St.mv St.CJ;dsimp only;rw[Aj aa];dsimp only;rw[List.set_set,e4]
  dsimp only;rw[ak];have ax:s1.waits=s.waits:=by rw[m6];rfl
  have G:core (({s1 with waits:=s.waits++[y.g]}:St).CJ t {x with CA:=tZ,word:=4})={core s1 with ws:=(core s1).ws++[y.g],gs:=(core s1).gs.set t ⟨4,tZ,x.blocked,x.begun⟩}:=by simp[core,St.CJ,Df,gc,ax]
  refine⟨⟨?_,m2.DL,λk z f=>?_,m2.box⟩,?_⟩
  ·rw[G]
   have C:=m2.base.CJ (i:=t) (x':=⟨4,tZ,x.blocked,x.begun⟩) (CV m3.at_) ⟨by simp[D9.Dt],by simp[f1],by simp⟩ (λhm=>absurd hm m3.qs) (λhm=>rfl) (λk z f V=>by obtain⟨v,r,rfl⟩:=DJ f;exact absurd V (m3.ms k v r));exact{C with
    wn:=Cg.2 ⟨C.wn,by simp,λa ha b ay=>by
     have:b=y.g:=by simpa using ay
     rintro rfl;exact m3.ws (by rw[<-T,<-this];exact ha)⟩,
    ww:=λid hid=>by
     rcases Br.1 hid with L|L
     ·exact C.ww id L
     ·have:id=y.g:=by simpa using L
      exact⟨t,⟨4,tZ,x.blocked,x.begun⟩,by omega,by simp[core,aa],rfl⟩}
  ·have ht:=m2.th t x m3.at_
   simp only[St.CJ]at f;by_cases e:t=k
   ·subst e
    rw[Aj aa]at f;cases f;exact⟨ht.1.congr (by simp[D9.Dt]) rfl rfl rfl rfl,λaz=>tf az hd⟩
   ·rw[Ao e]at f
    exact m2.th k z f
  ·rw[G];exact⟨m2.link.go,m2.link.Eo,m2.link.bars,m2.link.stop⟩
end
end
section
open Vm (CP)
section
variable {e:Nat}{s:St}
variable {i e:Nat}
theorem Pq{x:G}(b:s.gs[i]?=Z x)(x':G)(h:x'.fn=x.fn/\x'.Dr=x.Dr/\x'.CO=x.CO/\x'.stack=x.stack/\x'.done=x.done/\x'.begun=x.begun/\(8<=x.word->8<=x'.word)):Kp s (s.CJ i x'):=by
 refine⟨rfl,rfl,rfl,by simp[St.CJ],λk z a=>?_,λ_ y hy _=>⟨y,hy,rfl⟩⟩;have c:i<s.gs.length:=(Af.1 b).1;by_cases e:i=k
 ·subst e
  rw[b]at a;cases a;exact⟨x',by simp[St.CJ,c],h⟩
 ·exact⟨z,by simp only[St.CJ];rw[Ao e];exact a,rfl,rfl,rfl,rfl,rfl,rfl,id⟩
theorem Inv.gO(h:Inv e s){j:Nat}{y:M1}(hy:s.ms[j]?=Z y)(l:y.g=(i:Int)+1): ∃x:G,s.gs[i]?=Z x/\2<=y.phase/\(y.phase<=4->x.word=2)/\(y.phase=5->x.word=3\/x.word=11):=by
 have b:=h.base.mp j _ (CG hy);simp only[Oh,mc]at b;have a:2<=y.phase:=by obtain⟨m,-,a2,a3,-⟩:=b;omega
 obtain⟨k,z,n,c,d,f,-⟩:=b.2.2.2.2.2.1 a;have:k=i:=by omega
 subst this;obtain⟨x,g,rfl⟩:=Ik c;exact⟨x,g,a,d,f⟩
theorem Xo(h:Inv e s)(p:Int)(w:p= -1\/(0<=p/\p<s.rings.length))(t:Option Nat)(A: ∀k,t=Z k->k<s.gs.length): ∃n f,K4 s p t=Z (n,f)/\Inv e f/\Kp s f:=by
 cases t with
 |none=>exact⟨_,_,rfl,h,Kp.refl s⟩
 |some k=>
  have r:=A k rfl;have a:s.gs[k]?=Z s.gs[k]:=Ae r;generalize s.gs[k]=x at a;unfold K4;dsimp only;rw[a];dsimp only;split
  ·exact⟨_,_,rfl,h,Kp.refl s⟩
  ·split
   ·obtain⟨c,d⟩:=h.UT a {x with token:=tZ} rfl ⟨rfl,rfl,rfl,rfl,rfl⟩
    exact⟨_,_,rfl,c,d⟩
   ·rename_i B
    have u:=h.base.gw k _ (CV a);simp only[gc]at u;obtain⟨hw,g⟩:=u.2.1 (by simpa using B);have b:=h.th k x a;have m:(k:Int)+1∉s.waits:=λhm=>by
     obtain⟨l,z,D,c,d⟩:=h.base.ww _ hm;have:l=k:=by omega
     subst this;rw[CV a]at c;cases c;exact tf d g
    have o:Inv e (s.CJ k {x with blocked:=tY}):=by refine Fe h a _ b.1.wd ⟨by simp,λc=>tf c g⟩ (λhm=>absurd hm (h.base.J3 (CV a) (by simp only[gc];omega))) (λhm=>absurd hm m) (λj y hy q=>absurd q (h.base.Nd (CV a) (by simp only[gc];omega) (CG hy))) ⟨b.1.congr b.1.wd rfl rfl rfl rfl,b.2⟩
    have v:=Pq a {x with blocked:=tY} ⟨rfl,rfl,rfl,rfl,rfl,rfl,id⟩;split
    ·exact⟨_,_,rfl,o,v⟩
    ·obtain⟨f,c,d,C⟩:=Fs o (o.loose (i:=k) (x:={x with blocked:=tY}) (by simp[St.CJ,r]) (by dsimp only;omega) ⟨rfl,g⟩) p w tZ
     rw[c];exact⟨_,_,rfl,d,v.trans C⟩
theorem TB(h:Inv e s)(p:Int)(F:p= -1\/(0<=p/\p<s.rings.length))(t:Option Nat)(G: ∀k,t=Z k->k<s.gs.length): ∃n o,Jg s p t=Z (n,o)/\Inv e o/\(∀(j:Nat)(y:M1),s.ms[j]?=Z y->y.phase≠0-> ∃C:M1,o.ms[j]?=Z C/\mc C=mc y):=by
 cases t with
 |none=>exact⟨_,_,rfl,h,λj y hy _=>⟨y,hy,rfl⟩⟩
 |some k=>
  have D:=G k rfl;have d:s.gs[k]?=Z s.gs[k]:=Ae D;generalize s.gs[k]=x at d;unfold Jg;dsimp only;rw[d];dsimp only;split
  ·exact⟨_,_,rfl,h,λj y hy _=>⟨y,hy,rfl⟩⟩
  ·rename_i u
   have f:=h.th k x d;have q:=h.base.gw k _ (CV d);simp only[gc]at q;have r:x.word=9\/x.word=11\/x.word=12\/x.word=13:=by
    have:=q.1;unfold MW at u;unfold D9.Dt at this;by_cases r:x.word<8
    ·rw[Ai r]at u;exact absurd rfl u
    ·omega
   have v:Inv e (s.CJ k {x with word:=x.word-8}):=by
    refine Fe h d _ ?_ ⟨λa=>?_,λa=>?_⟩ (λhm=>?_) (λhm=>?_) (λj y hy w=>?_) ⟨f.1.congr ?_ rfl rfl rfl rfl,λH=>?_⟩
    ·dsimp only;unfold D9.Dt;omega
    ·have:=q.2.1 a;dsimp only;exact⟨by omega,this.2⟩
    ·have:=q.2.2 a;dsimp only;omega
    ·obtain⟨i,z,K,a,g⟩:=h.base.qw _ hm
     have:i=k:=by omega
     subst this;rw[CV d]at a;cases a;simp only[gc]at g;dsimp only;omega
    ·obtain⟨l,z,K,a,g⟩:=h.base.ww _ hm
     have:l=k:=by omega
     subst this;rw[CV d]at a;cases a;exact g
    ·obtain⟨S,m,c1,E,c3⟩:=h.gO hy w
     rw[d]at m;cases m;dsimp only;refine⟨λL=>by have:=E L;omega,λM=>by have:=c3 M;omega,λT=>by have:=E (by omega);omega⟩
    ·dsimp only;unfold D9.Dt;omega
    ·rcases f.2 H with a|a
     ·omega
     ·exact .inr a
   split
   ·rename_i c
    have A:x.blocked=tY/\x.CA=false:=by
     rcases r with b|b|b|b
     ·simp[MW,b]at c
     ·simp[MW,b]at c
     ·simp[MW,b]at c
      cases O:x.blocked<;>cases P:x.CA<;>simp[O,P]at c⊢
     ·obtain⟨f1,f2,-⟩:=h.flags d (by omega)
      exact⟨f1,f2⟩
    have Q:x.word=12\/x.word=13:=by
     rcases r with b|b|b|b
     ·simp[MW,b]at c
     ·simp[MW,b]at c
     ·exact .inl b
     ·exact .inr b
    obtain⟨o,a,g,R⟩:=Fs v (v.loose (i:=k) (x:={x with word:=x.word-8}) (by simp[St.CJ,D]) (by dsimp only;omega) A) p F tY;rw[a];exact⟨_,_,rfl,g,λj y hy B=>R.ms j y hy B⟩
   ·exact⟨_,_,rfl,v,λj y hy _=>⟨y,hy,rfl⟩⟩
theorem aL(h:Inv 1000 s)(B:s.gs.length<64)(fn arg:Int)(n:mW s.funcs fn 0):Inv 1000 (GU s fn arg)/\Q7 (GU s fn arg) s.gs.length ⟨1,fn,0,[arg,0,0,0,0,0,0,0],tY,tY,tY,tY,tY,0,[]⟩:=by
 have d: ∀id,id∈Df s->id<=s.gs.length:=λid hid=>by obtain⟨i,z,rfl,b,-⟩:=h.base.qw id hid;have:=(Af.1 b).1;simp only[core,A9]at this;omega
 have e: ∀id,id∈s.waits->id<=s.gs.length:=λid hid=>by obtain⟨i,z,rfl,b,-⟩:=h.base.ww id hid;have:=(Af.1 b).1;simp only[core,A9]at this;omega
 have f: ∀(j:Nat)(y:M1),s.ms[j]?=Z y->y.g≠(s.gs.length:Int)+1:=λj y hy o=>by obtain⟨x,a,-⟩:=h.gO hy o;have:=(Af.1 a).1;omega
 have m:core (GU s fn arg)={core s with gs:=(core s).gs++[⟨1,tY,tY,tY⟩]}:=by simp[core,GU,Df,gc]
 have mP: ∀(i:Nat)(x:GC),(core s).gs[i]?=Z x->((core s).gs++[(⟨1,tY,tY,tY⟩:GC)])[i]?=Z x:=λi x a=>by rw[Aw (Af.1 a).1];exact a
 refine⟨⟨⟨?_,h.DL,λi x a=>?_,h.box⟩,by rw[m];exact⟨h.link.go,h.link.Eo,h.link.bars,h.link.stop⟩⟩,⟨by simp[GU],λhm=>?_,f,λhm=>?_,.inl rfl,rfl,rfl⟩⟩
 ·rw[m]
  exact{h.base with
   g1:=by simp,
   g2:=by simp[core];omega,
   GL:=by have:=h.base.GL;simp;omega,
   qw:=λid hid=>by obtain⟨i,x,b,c,g⟩:=h.base.qw id hid;exact⟨i,x,b,mP i x c,g⟩,
   mp:=λk z p=>by obtain⟨q,a2,a3,a4,a5,r,t⟩:=h.base.mp k z p;exact⟨q,a2,a3,a4,a5,λc=>by obtain⟨i,x,u,v,w⟩:=r c;exact⟨i,x,u,mP i x v,w⟩,t⟩,
   ww:=λid hid=>by obtain⟨i,x,b,c,g⟩:=h.base.ww id hid;exact⟨i,x,b,mP i x c,g⟩,
   gw:=λi x a=>by
    by_cases l:i<(core s).gs.length
    ·exact h.base.gw i x (by rw[Aw l]at a;exact a)
    ·have:x=⟨1,tY,tY,tY⟩:=by rw[Ar (by omega)]at a;have:=AP a;simpa using this
     subst this;simp[D9.Dt]}
 ·simp only[GU]at a
  by_cases l:i<s.gs.length
  ·exact h.th i x (by rw[Aw l]at a;exact a)
  ·rw[Ar (by omega)]at a
   have:=AP a;simp only[Cj]at this;subst this;exact⟨⟨rfl,.inr (.inl rfl),n,by simp,by simp⟩,λA=>by cases A⟩
 ·have:=d _ hm;omega
 ·have:=e _ hm;omega
theorem Ps(g:Int)(C:1<=g): ∀(n k:Nat)(s:St),Inv e s->k+n=s.ms.length-> ∃a b,Eu g n k s=Z {s with asked:=a,box:=b}/\a.map (·.Eo)=s.asked.map (·.Eo)/\b.length=s.box.length:=by
 intro n;induction n with
 |zero=>intro k s h _;exact⟨s.asked,s.box,rfl,rfl,rfl⟩
 |succ n o=>
  intro k s h D;have hy:s.ms[k]?=Z s.ms[k]:=Ae (by omega);generalize s.ms[k]=y at hy;unfold Eu;rw[hy];dsimp only;split
  ·rename_i u
   have q:=h.base.mp k _ (CG hy);simp only[Oh,mc]at q;have v:y.p= -1\/ ∃p:Nat,y.p=p/\p<s.rings.length:=by
    obtain⟨E,a2,a3,a4,a5,w,r⟩:=q;by_cases x:y.phase=5
    ·rcases r x with d|⟨p,d,i,-⟩
     ·exact .inl d
     ·exact .inr ⟨p,d,i⟩
    ·have:1<=y.phase/\y.phase<=4:=by clear a5 w r;omega
     obtain⟨p,d,i,-⟩:=a5 this.1 this.2;exact .inr ⟨p,d,i⟩
   obtain⟨c,b,z,t,f⟩:=IZ h.toBs hy v;rw[z];obtain⟨A,B,j,l,m⟩:=o (k+1) _ (EA h t f).1 (by dsimp only;omega);exact⟨A,B,j,l.trans t,m.trans f⟩
  ·exact o (k+1) s h (by omega)
theorem Rf(h:Inv e s)(k:Nat): ∃c,Hh s k=Z c/\Inv e c:=by obtain⟨a,b,d,f,g⟩:=Ps ((k:Int)+1) (by omega) s.ms.length 0 s h (by omega);exact⟨_,d,(EA h f g).1⟩
theorem aM(h:Inv e s){k:Nat}{x:G}(f:s.gs[k]?=Z x)(hw:x.word=1\/x.word=3\/x.word=4\/x.word=5): ∃n,JI s k=Z n/\Inv e n/\Kp s n:=by
 have W:k<s.gs.length:=(Af.1 f).1;have t:=h.th k x f;have F:=h.base.gw k _ (CV f);simp only[gc]at F;have X:Inv e (s.CJ k {x with word:=x.word+8,Db:=0}):=by
  refine Fe h f _ ?_ ⟨λb=>?_,λb=>?_⟩ (λhm=>?_) (λhm=>?_) (λj y hy H=>?_) ⟨t.1.congr ?_ rfl rfl rfl rfl,λhd=>?_⟩
  ·dsimp only;unfold D9.Dt;omega
  ·have:=F.2.1 b;dsimp only;exact⟨by omega,this.2⟩
  ·have:=F.2.2 b;dsimp only;omega
  ·obtain⟨i,z,C,b,K⟩:=h.base.qw _ hm
   have:i=k:=by omega
   subst this;rw[CV f]at b;cases b;simp only[gc]at K;dsimp only;omega
  ·obtain⟨l,z,C,b,K⟩:=h.base.ww _ hm
   have:l=k:=by omega
   subst this;rw[CV f]at b;cases b;exact K
  ·obtain⟨m,a,c1,D,c3⟩:=h.gO hy H
   rw[f]at a;cases a;dsimp only;refine⟨λh4=>by have:=D h4;omega,λh5=>by have:=c3 h5;omega,λh6=>by have:=D (by omega);omega⟩
  ·dsimp only;unfold D9.Dt;omega
  ·rcases t.2 hd with b|b
   ·omega
   ·exact .inr b
 have hK:=Pq f {x with word:=x.word+8,Db:=0} ⟨rfl,rfl,rfl,rfl,rfl,rfl,λh8=>by dsimp only;omega⟩;obtain⟨s2,u1,u2,u3⟩:=Le X k;obtain⟨m,a,-,-,-,-,-,-,g⟩:=u3.gs k {x with word:=x.word+8,Db:=0} (by simp[St.CJ,W]);have g:=g (by dsimp only;omega);have u:k<s2.gs.length:=(Af.1 a).1;have fin: ∀d:St,Inv e d->Kp s2 d->(∃L:G,d.gs[k]?=Z L/\8<=L.word)-> ∃n,MV k d=Z n/\Inv e n/\Kp s n:=by
  intro d v M⟨L,o,aa⟩;unfold MV;rw[o];dsimp only;have w:=(hK.trans u3).trans M;split
  ·rename_i O
   have P: ∀(j:Nat)(y:M1),d.ms[j]?=Z y->y.phase≠3/\y.phase≠4:=λj y hy=>by
    have key: ¬(y.phase=3\/y.phase=4):=λQ=>by
     have A:=v.base.mp j _ (CG hy);simp only[Oh,mc]at A;obtain⟨i,z,V,E,R,-,b5⟩:=A.2.2.2.2.2.1 (by clear A;omega);have b6:=(b5 Q).2;have b7:=R (by clear A;omega);have b8:(core d).Gg=d.owner:=rfl;clear A;have:i=k:=by omega
     subst this;rw[CV o]at E;cases E;simp only[gc]at b7;omega
    omega
   obtain⟨s4,v1,v2,v3⟩:=J5 (i:=k) v (λ_=>⟨by
    cases S:d.sc.Cz with
    |false=>rfl
    |true=>obtain⟨l1,l2,l3,l4,j,z,q,V,E,R,-⟩:=v.link.stop S;obtain⟨y,hy,rfl⟩:=DJ V;have b8:(core d).Gg=d.owner:=rfl;obtain⟨x4,B,c1,D,-⟩:=v.gO (i:=k) hy (by simp only[mc]at E;omega);rw[o]at B;cases B;have:=D (by simp only[mc]at R;omega);omega,P⟩)
   exact⟨s4,v1,v2,w.trans v3⟩
  ·exact⟨d,rfl,v,w⟩
 unfold JI;rw[f];dsimp only;rw[u1];dsimp only[Option.bind_some];unfold UH;rw[a];dsimp only;have ab:s2.waits.length<=64:=by have:=Jn (core s2).gs.length s2.waits u2.base.wn (λx f=>by obtain⟨k,z,rfl,b,-⟩:=u2.base.ww x f;have:=(Af.1 b).1;omega);exact AA this u2.base.g2
 rw[Ai (by omega)];cases hs:m.CA with
 |false=>rw[Ah (by simp)];exact fin s2 u2 (Kp.refl s2) ⟨m,a,g⟩
 |true=>
  rw[Ai rfl];have c:=u2.th k m a;have p:=u2.base.gw k _ (CV a);simp only[gc]at p;have ad:=p.2.2 hs;have O:core {s2.CJ k {m with CA:=tY}with waits:=s2.waits.erase ((k:Int)+1)}={core s2 with gs:=(core s2).gs.set k (gc {m with CA:=tY}),ws:=(core s2).ws.erase ((k:Int)+1)}:=by simp[core,St.CJ,Df]
  refine fin _ ⟨⟨?_,u2.DL,λi z r=>?_,u2.box⟩,?_⟩ ?_ ⟨{m with CA:=tY},by simp only[St.CJ];exact Aj u,g⟩
  ·rw[O]
   have hb:Dp {core s2 with ws:=(core s2).ws.erase ((k:Int)+1)}:={u2.base with wn:=u2.base.wn.erase _,ww:=λid hid=>u2.base.ww id (Cs hid)};exact hb.CJ (i:=k) (CV a) ⟨c.1.wd,by simp only[gc];exact λb=>⟨(p.2.1 b).1,trivial⟩,by simp[gc]⟩ (λhm=>absurd hm (u2.base.J3 (CV a) (by simp only[gc];omega))) (λhm=>absurd hm u2.base.wn.not_mem_erase) (λj z r T=>absurd T (u2.base.Nd (CV a) (by simp only[gc];omega) r))
  ·simp only[St.CJ]at r
   by_cases C:k=i
   ·subst C
    rw[Aj u]at r;cases r;exact⟨c.1.congr c.1.wd rfl rfl rfl rfl,c.2⟩
   ·rw[Ao C]at r
    exact u2.th i z r
  ·rw[O];exact⟨u2.link.go,u2.link.Eo,u2.link.bars,u2.link.stop⟩
  ·have:=Pq a {m with CA:=tY} ⟨rfl,rfl,rfl,rfl,rfl,rfl,id⟩
   exact⟨this.sc,this.DL,this.nr,this.gl,this.gs,this.ms⟩
end
end
section
open Vm (CP)
theorem TC(f:Rs->List Int)(d:f=λr=>Ring.C7 r.CI r.row): ∀(l:List Rs)(q:List Int),(∀x,x∈l.flatMap f->1<=x)->(Ed l q).Perm (l.flatMap f++q):=by
 intro l;unfold Ed;induction l with
 |nil=>intro q _;simp
 |cons r l e=>intro q b;rw[BE]at b;rw[Zad,BE];refine(e _ (λx c=>b x (Bb _ c))).trans ?_;rw[d]at b⊢;rw[right_id (l:=Ring.C7 r.CI r.row) λx c=>b x (Bt _ c)];rw[BG];intro a;simp only[BT];omega
theorem gP(n:Nat):(tW n r0).flatMap (λr=>Ring.C7 r.CI r.row)=[]:=by rw[List.flatMap_eq_nil_iff];intro x a;have:=Zau a;subst this;simp[Ring.C7,r0]
section
variable {s:St}
theorem Inv.held(h:Inv 1000 s){j:Nat}{y:M1}(hy:s.ms[j]?=Z y)(A:y.phase=2)(Q:1<=y.g)(R:s.sc.CF=y.g):s.sc.Cz=tZ/\s.CD=[]/\s.sc.wait=0/\runN s.stat=0/\(∀(k:Nat)(z:MC),(core s).ms[k]?=Z z->z.phase≠4)/\s.owner=y.g/\ ∃q:Nat,y.p=q/\q<s.rings.length/\s.stat[q]?=Z (3,(j:Int))/\ ∀(p:Nat)(a w:Int),p<s.rings.length->s.stat[p]?=Z (a,w)->a=3/\(w= -1\/w=j/\p=q):=by
 have b:s.sc.Cz=true:=by
  cases B:s.sc.Cz with
  |true=>rfl
  |false=>have:s.sc.CF=0:=(h.link.go B).1;omega
 obtain⟨C,D,⟨E,e⟩,F,k,z,q,n,G,H,f,K,b6⟩:=h.link.stop b;obtain⟨S,c,rfl⟩:=DJ n;have o:(core s).Hc=s.sc.CF:=rfl;have g:k=j:=by
  rcases H with⟨-,r⟩|⟨T,r⟩
  ·rw[o]at r;omega
  ·exact h.base.mu k j _ _ n (CG hy) (by simp only[mc]at*;omega) (by simp only[mc]at*;omega)
 subst g;rw[hy]at c;cases c;have i:(core s).wt=0:=e (by rw[o];omega);have l:runN s.stat=0:=by have:(core s).wt=runN s.stat:=E;omega
 have m:q<s.rings.length:=by
  have t:=h.base.mp k _ (CG hy);simp only[Oh,mc]at t;obtain⟨L,c1,M,-⟩:=t.2.2.2.2.1 (by omega) (by omega);have:L=q:=by simp only[mc]at f;omega
  subst this;exact M
 refine⟨b,C,i,l,F,G,q,f,m,K,λp a w u d=>?_⟩;rcases D p a w u d with rfl|rfl
 ·have:=Po d;omega
 ·refine⟨rfl,?_⟩
  rcases b6 p w d with rfl|rfl
  ·exact .inl rfl
  ·refine .inr ⟨rfl,?_⟩
   rcases h.base.sp p 3 _ u d with⟨O,-⟩|⟨-,-,k2,v,O,x,P,-⟩
   ·omega
   ·have:k2=k:=by omega
    subst this;rw[CG hy]at x;cases x;simp only[mc]at P f;omega
theorem Rh{l:List Pr}{n tn:Nat}(k:n<=l.length)(f: ∀(p:Nat)(a w:Int),p<n->l[p]?=Z (a,w)->a=3) (g: ∀p,n<=p->p<l.length->l[p]?=Z (4,-1)) (m:1<=tn):(Ee l tn).length=max l.length tn/\(∀p,p<tn->(Ee l tn)[p]?=Z (if p<n then(l[p]?.getD pz)else(3,-1)))/\(∀p,tn<=p->p<(Ee l tn).length->(Ee l tn)[p]?=Z (4,-1)):=by
 have j:Cx.cnt 3 l=l.length-Cx.cnt 4 l:=by
  have t3: ∀x,x∈l.take n->x.1=3:=λx c=>by
   obtain⟨i,d⟩:=Za9 c;rw[Zan]at d;split at d
   ·exact f i x.1 x.2 (by assumption) d
   ·cases d
  have d4: ∀x,x∈l.drop n->x.1=4:=λx c=>by obtain⟨i,d⟩:=Za9 c;rw[Zak]at d;have:=g (n+i) (by omega) (Af.1 d).1;rw[this]at d;cases d;rfl
  have c1:Cx.cnt 3 (l.take n)=n:=by unfold Cx.cnt;rw[List.countP_eq_length.2 λx c=>by simp[t3 x c]];simp;omega
  have o:Cx.cnt 3 (l.drop n)=0:=Zae.2 λx c=>by simp[d4 x c]
  have c3:Cx.cnt 4 (l.take n)=0:=Zae.2 λx c=>by simp[t3 x c]
  have c4:Cx.cnt 4 (l.drop n)=l.length-n:=by unfold Cx.cnt;rw[List.countP_eq_length.2 λx c=>by simp[d4 x c]];simp
  have q:Cx.cnt 3 l=Cx.cnt 3 (l.take n)+Cx.cnt 3 (l.drop n):=by unfold Cx.cnt;rw[<-Zal,BV]
  have r:Cx.cnt 4 l=Cx.cnt 4 (l.take n)+Cx.cnt 4 (l.drop n):=by unfold Cx.cnt;rw[<-Zal,BV]
  omega
 unfold Ee;rw[Ai j];have hlen:(((l++tW (tn-l.length) ((4,-1):Pr)).take tn).map (λ(x:Pr)=>if x.1=4 then((3,-1):Pr)else x)).length=tn:=by simp;omega
 refine⟨by rw[Au,hlen];simp;omega,λp h=>?_,λp h b=>?_⟩
 ·rw[Aw (by omega),AZ,Zan,Ai h]
  by_cases b:p<l.length
  ·rw[Aw b]
   by_cases e:p<n
   ·rw[Ai e]
    have:=f p l[p].1 l[p].2 e (Ae b);simp[b,this]
   ·rw[Ah e,g p (by omega) b];rfl
  ·rw[Ar (by omega),Ah (by omega)]
   rw[BM,Ai (by omega)];rfl
 ·rw[Au,hlen]at b
  rw[Ar (by omega),hlen,BM,Ai (by simp at b;omega)]
theorem TD(h:Inv 1000 s){j i:Nat}{y:M1}(hy:s.ms[j]?=Z y)(C:y.phase=2)(hg:y.g=(i:Int)+1)(n:Int): ∃r s',FB s j n=Z (r,s')/\Inv 1000 s'/\ ∃y':M1,s'.ms[j]?=Z y'/\y'.phase=2/\y'.g=y.g:=by
 unfold FB;rw[hy];dsimp only;by_cases hc:s.sc.CF≠y.g\/n<1\/256<n
 ·rw[Ai hc];exact⟨_,_,rfl,h,y,hy,C,rfl⟩
 ·rw[Ah hc]
  obtain⟨c,rfl⟩: ∃k:Nat,n=k:=⟨n.toNat,by omega⟩;obtain⟨ar,aa,ab,bc,h4,how,q,au,av,aw,D⟩:=h.held hy C (by omega) (by omega);rw[Ai ⟨by have:=h.base.sl;simpa[core]using this,by have:=h.toBs.Il;omega,by omega⟩];rw[Am];have hj:j<s.ms.length:=(Af.1 hy).1;have ad:j<64:=by have:=h.base.m2;simp[core]at this;omega
  have ae:1<=c:=by omega
  have ax:c<=256:=by omega
  have bd:s.asked.length=s.rings.length:=by have:=h.base.nb;simpa[core]using this
  obtain⟨r1,r2,r3⟩:=Rh (l:=s.stat) (n:=s.rings.length) (tn:=c) h.base.ns (λp a w g L=>(D p a w g L).1) (λp E h2=>h.base.sd p E h2) ae;have ay:=h.base.sl;simp only[core]at ay;generalize hS:Ee s.stat c=S at*
  have hQ:(Df {s with stat:=S,rings:=s.rings.take c++tW (c-s.rings.length) r0,all:=Ed (s.rings.drop c) s.all,asked:=s.asked.take c++tW (c-s.asked.length) p0}).Perm (Df s):=by
   have hd:=TC _ rfl (s.rings.drop c) s.all λx hx=>h.Pn x (Bb _ (by obtain⟨r,hr,hx⟩:=Zai.1 hx;exact Zai.2 ⟨r,Zb0 hr,hx⟩));rw[BG];intro a;have c1:=hd.count_eq a;have c2:=Aq (λl=>List.count a (l.flatMap λr=>Ring.C7 r.CI r.row)) (BV c s.rings);rw[Zbf]at c2;simp only[Df,Zbf,gP,BT,Zam]at*
   omega
  have az: ∀a,a∈(s.rings.take c++tW (c-s.rings.length) r0).map (·.CI)->0<=a:=λa ha=>by
   obtain⟨r,hr,rfl⟩:=BL.1 ha;rcases Br.1 hr with E|E
   ·exact h.KG (Ca E)
   ·rw[Zau E];simp[r0]
  have af: ∀(k:Nat)(z:MC),(core s).ms[k]?=Z z->k≠j->z.phase=0\/(z.phase=5/\z.p= -1):=λk z f m=>by
   obtain⟨a1,a2,a3,a4,a5,M,Q⟩:=h.base.mp k z f;by_cases h0:z.phase=0
   ·exact .inl h0
   ·by_cases B:z.phase=5
    ·rcases Q B with b|⟨p,b1,R,K⟩
     ·exact .inr ⟨B,b⟩
     ·rcases K with K|K<;>exact absurd (D p _ _ R K).1 (by decide)
    ·have ag:1<=z.phase/\z.phase<=4:=by clear a5 M Q;omega
     obtain⟨p,b1,R,K⟩:=a5 ag.1 ag.2;rcases K with K|K
     ·exact absurd (D p _ _ R K).1 (by decide)
     ·rcases(D p _ _ R K).2 with b4|b4<;>exfalso<;>clear a5 M Q<;>omega
  have a8:=h.base.mp j _ (CG hy)
  have fin: ∀(o:Nat)(t:List Pr),o<c->t.length=S.length->t[o]?=Z (3,(j:Int))->(∀p,p<c->p≠o->t[p]?=Z (3,-1))->(∀p,c<=p->p<t.length->t[p]?=Z (4,-1))->
   Inv 1000 {s with stat:=t,rings:=s.rings.take c++tW (c-s.rings.length) r0,all:=Ed (s.rings.drop c) s.all,asked:=s.asked.take c++tW (c-s.asked.length) p0,ms:=s.ms.set j {y with p:=(o:Int)}}:=by
   intro o t k1 k2 k3 k4 k5
   have ah:core {s with stat:=t,rings:=s.rings.take c++tW (c-s.rings.length) r0,all:=Ed (s.rings.drop c) s.all,asked:=s.asked.take c++tW (c-s.asked.length) p0,ms:=s.ms.set j {y with p:=(o:Int)}}=
    {core s with n:=c,qs:=Df {s with stat:=S,rings:=s.rings.take c++tW (c-s.rings.length) r0,all:=Ed (s.rings.drop c) s.all,asked:=s.asked.take c++tW (c-s.asked.length) p0},CI:=(s.rings.take c++tW (c-s.rings.length) r0).map (·.CI),stat:=t,bars:=(s.asked.take c++tW (c-s.asked.length) p0).map (·.Eo),ms:=(core s).ms.set j ⟨o,y.g,y.phase⟩}:=by
    simp[core,Df,mc];omega
   have T:(core s).ms.length=s.ms.length:=by simp[core]
   have F: ∀(k:Nat)(z:MC),((core s).ms.set j ⟨(o:Int),y.g,y.phase⟩)[k]?=Z z->(k=j/\z=⟨(o:Int),y.g,y.phase⟩)\/(k≠j/\(core s).ms[k]?=Z z):=λk z f=>by
    by_cases m:j=k
    ·subst m;rw[Aj (by rw[T];exact hj)]at f;cases f;exact .inl ⟨rfl,rfl⟩
    ·rw[Ao m]at f;exact .inr ⟨λe=>m e.symm,f⟩
   have ai: ∀b,b∈(s.asked.take c++tW (c-s.asked.length) p0).map (·.Eo)->b=false:=λb hb=>by
    obtain⟨a,ha,rfl⟩:=BL.1 hb;rcases Br.1 ha with E|E
    ·exact h.link.Eo h4 _ (BL.2 ⟨a,Ca E,rfl⟩)
    ·rw[Zau E];rfl
   refine⟨⟨?_,h.DL,h.th,h.box⟩,?_⟩
   ·rw[ah]
    exact{h.base with
     oA:=ae,
     W9:=ax,
     nb:=by simp;omega,
     an:=by simp;omega,
     ns:=by dsimp only;omega,
     sl:=by dsimp only;omega,
     m1:=by simp;exact h.base.m1,
     m2:=by simp;exact h.base.m2,
     qn:=hQ.nodup_iff.2 h.base.qn,
     qw:=λid hid=>h.base.qw id (hQ.mem_iff.1 hid),
     rn:=az,
     mp:=λk z f=>by
      rcases F k z f with⟨rfl,rfl⟩|⟨m,f⟩
      ·obtain⟨a1,a2,a3,a4,a5,M,Q⟩:=a8
       exact⟨a1,a2,a3,a4,λ_ _=>⟨o,rfl,k1,.inr k3⟩,M,λB=>by dsimp only at B;clear a5 M Q;omega⟩
      ·have:=af k z f m
       obtain⟨a1,a2,a3,a4,a5,M,Q⟩:=h.base.mp k z f;exact⟨a1,a2,a3,a4,λu v=>by clear a5 M Q;omega,M,λB=>by left;clear a5 M Q;omega⟩,
     mu:=λk l z z' f hl G O=>by
      rcases F k z f with⟨e1,e2⟩|⟨-,aj⟩<;>rcases F l z' hl with⟨e3,e4⟩|⟨-,ak⟩
      ·rw[e1,e3]
      ·rw[e1];rw[e2]at G O;exact h.base.mu j l _ _ (CG hy) ak G O
      ·rw[e3];rw[e4]at G;exact h.base.mu k j _ _ aj (CG hy) G O
      ·exact h.base.mu k l _ _ aj ak G O,
     sp:=λp a w g L=>by
      by_cases d:p=o
      ·subst d
       rw[show t[p]?=Z (a,w)from L]at k3;cases k3;exact .inr ⟨by omega,by omega,j,_,rfl,List.getElem?_set_self (by rw[T];exact hj),rfl,by dsimp only;omega⟩
      ·have:=k4 p g d
       rw[show t[p]?=Z (a,w)from L]at this;cases this;exact .inl ⟨rfl,.inr rfl⟩,
     sd:=λp E h2=>k5 p E h2,
     Kb:=λp g=>by rw[show(core s).ip=s.CD from rfl,aa]at g;(cases g),
     J2:=λk f=>by
      obtain⟨l,z,rfl,b1,R⟩:=h.base.J2 k f;have:j≠l:=by rintro rfl;rw[CG hy]at b1;cases b1;simp only[mc]at R;omega
      exact⟨l,z,rfl,by dsimp only;rw[List.getElem?_set_ne this];exact b1,R⟩}
   ·rw[ah]
    refine⟨λe=>tf ar e,λ_=>ai,λk z f B=>?_,λ_=>⟨aa,λp a w g L=>?_,⟨?_,λ_=>ab⟩,λk z f=>?_,j,_,o,List.getElem?_set_self (by rw[T];exact hj),how,.inr ⟨C,by show s.sc.CF=_;dsimp only;omega⟩,rfl,k3,λp w L=>?_⟩⟩
    ·rcases F k z f with⟨rfl,rfl⟩|⟨m,f⟩
     ·dsimp only at B;omega
     ·exact absurd B (h4 k z f)
    ·by_cases d:p=o
     ·subst d
      rw[show t[p]?=Z (a,w)from L]at k3;cases k3;exact .inr rfl
     ·have:=k4 p g d
      rw[show t[p]?=Z (a,w)from L]at this;cases this;exact .inr rfl
    ·show s.sc.wait=_
     have:runN t=0:=Zae.2 λx hx=>by
      obtain⟨p,g⟩:=Za9 hx;have H:=(Af.1 g).1;by_cases V:p<c
      ·by_cases d:p=o
       ·subst d;rw[g]at k3;cases k3;simp
       ·rw[k4 p V d]at g;cases g;simp
      ·rw[k5 p (by omega) H]at g;cases g;simp
     rw[ab,this];rfl
    ·rcases F k z f with⟨rfl,rfl⟩|⟨m,f⟩
     ·dsimp only;omega
     ·exact h4 k z f
    ·have A:t[p]?=Z (3,w):=L
     have H:=(Af.1 A).1;by_cases V:p<c
     ·by_cases d:p=o
      ·subst d;rw[A]at k3;cases k3;exact .inr rfl
      ·rw[k4 p V d]at A;cases A;exact .inl rfl
     ·rw[k5 p (by omega) H]at A;cases A
  have W: ∀p,p<c->p≠q->S[p]?=Z (3,-1):=λp g d=>by
   rw[r2 p g];by_cases P:p<s.rings.length
   ·rw[Ai P]
    obtain⟨a,w,g1,-,-⟩:=Jp h.toBs P;have:=D p a w P g1;rw[g1];obtain⟨rfl,B⟩:=this;rcases B with rfl|B
    ·rfl
    ·exact absurd B.2 d
   ·rw[Ah P]
  split
  ·rename_i ba
   have bb:(0:Nat)≠q:=by omega
   have ao:S[0]?=Z (3,-1):=W 0 (by omega) bb;have X:0<S.length:=(Af.1 ao).1;have e1:dR (({s with stat:=S,rings:=s.rings.take c++tW (c-s.rings.length) r0,all:=Ed (s.rings.drop c) s.all,asked:=s.asked.take c++tW (c-s.asked.length) p0}:St).CQ j {y with p:=0}) 0={s with stat:=S.set 0 (0,-1),rings:=s.rings.take c++tW (c-s.rings.length) r0,all:=Ed (s.rings.drop c) s.all,asked:=s.asked.take c++tW (c-s.asked.length) p0,ms:=s.ms.set j {y with p:=0}}:=by have e0:=Tv (p:=0) ao;rw[Ai rfl]at e0;unfold dR St.CQ;exact Aq (λS:List Pr=>({s with stat:=S,rings:=s.rings.take c++tW (c-s.rings.length) r0,all:=Ed (s.rings.drop c) s.all,asked:=s.asked.take c++tW (c-s.asked.length) p0,ms:=s.ms.set j {y with p:=0}}:St)) e0
   have e2:Cx.Mh (S.set 0 (0,-1)) 0 j (λ_ _=>(1,(j:Int))) (λs _=>s==0)=(S.set 0 (0,-1)).set 0 (1,(j:Int)):=take_set (p:=0) (Aj X) ad;have e3:((S.set 0 (0,-1)).set 0 (1,(j:Int)))[0]?=Z (1,(j:Int)):=Aj (by simpa using X);have e4:Cx.Dn ((S.set 0 (0,-1)).set 0 (1,(j:Int))) 0 Cx.Iq (λs _=>Cx.F2 s)=((S.set 0 (0,-1)).set 0 (1,(j:Int))).set 0 (3,(j:Int)):=IY (p:=0) e3 (.inr (.inl rfl));refine⟨_,_,rfl,?_,{y with p:=0},Aj hj,C,rfl⟩;have e5:(((S.set 0 (0,-1)).set 0 (1,(j:Int))).set 0 (3,(j:Int)))=S.set 0 (3,(j:Int)):=by simp
   rw[e1,e2];unfold Fg;dsimp only;rw[e4,e5];refine fin 0 (S.set 0 (3,(j:Int))) (by omega) (by simp) (Aj X) (λp g bf=>?_) (λp g H=>?_)
   ·rw[Ao (by omega)];exact W p g (by omega)
   ·rw[Ao (by omega)];exact r3 p g (by simpa using H)
  ·rename_i ba
   have aq:q<c:=by omega
   refine⟨_,_,rfl,?_,y,hy,C,rfl⟩;have:=fin q S aq rfl (by rw[r2 q aq,Ai av,aw];rfl) W r3;have ey:({y with p:=(q:Int)}:M1)=y:=by rw[<-au]
   have em:s.ms.set j y=s.ms:=by apply List.ext_getElem?;grind
   rw[ey,em]at this;exact this
end
end
section
open Vm (CP)
section
variable {c:Cr}
theorem Dp.both(h:Dp c){i j:Nat}{x x':GC}{y y':MC}(V:c.gs[i]?=Z x)(L:c.ms[j]?=Z y)(ab:2<=y.phase)(hg:y.g=(i:Int)+1)(ad:y'.g=y.g)(hp:y'.p=y.p)(hf:x'.blocked=tY/\x'.CA=tY)(hw:x'.word=2/\y'.phase=2\/x'.word=3/\y'.phase=5)(ae:x.word=2\/x.word=3)(GX:List Pr)(D:GX=c.stat\/ ∃p:Nat,y.p=p/\c.stat[p]?=Z (1,(j:Int))/\GX=c.stat.set p (2,(j:Int))/\y'.phase=5) (W: ∃p:Nat,y.p=p/\p<c.n/\c.stat[p]?=Z (1,(j:Int))) (hs:x.CA=tY):Dp {c with gs:=c.gs.set i x',ms:=c.ms.set j y',stat:=GX}:=by
 obtain⟨p,af,O,A⟩:=W;have X:p<c.stat.length:=(Af.1 A).1;have P:=(Af.1 V).1;have Q:=(Af.1 L).1;have hlen:GX.length=c.stat.length:=by rcases D with e|⟨q,-,-,e,-⟩<;>rw[e];simp
 have o: ∀q:Nat,q≠p->GX[q]?=c.stat[q]?:=λq E=>by
  rcases D with e|⟨q',s,-,e,-⟩
  ·rw[e]
  ·have:q'=p:=by omega
   subst this;rw[e,Ao (by omega)]
 have R: ∃a:Int,GX[p]?=Z (a,(j:Int))/\(a=1\/a=2/\y'.phase=5):=by
  rcases D with e|⟨q',s,-,e,e5⟩
  ·exact⟨1,by rw[e];exact A,.inl rfl⟩
  ·have:q'=p:=by omega
   subst this;exact⟨2,by rw[e];exact Aj X,.inr ⟨rfl,e5⟩⟩
 have F: ∀(k:Nat)(z:MC),(c.ms.set j y')[k]?=Z z->(k=j/\z=y')\/(k≠j/\c.ms[k]?=Z z):=λk z f=>by
  by_cases d:j=k
  ·subst d;rw[Aj Q]at f;cases f;exact .inl ⟨rfl,rfl⟩
  ·rw[Ao d]at f;exact .inr ⟨λe=>d e.symm,f⟩
 have aa: ∀(k:Nat)(z:MC),c.ms[k]?=Z z->k≠j->z.g≠(i:Int)+1:=λk z f d e=>d (h.mu k j _ _ f L (by omega) (by omega));have B: ∀(k:Nat)(z:MC)(a:Int),c.ms[k]?=Z z->k≠j-> ∀q:Nat,c.stat[q]?=Z (a,(k:Int))->q≠p:=λk z a f d q E e=>by subst e;rw[A]at E;simp at E;omega
 refine{h with
  ns:=by dsimp only;rw[hlen];exact h.ns,
  sl:=by dsimp only;rw[hlen];exact h.sl,
  g1:=by simp;exact h.g1,
  g2:=by simp;exact h.g2,
  m1:=by simp;exact h.m1,
  m2:=by simp;exact h.m2,
  GL:=by simp;exact h.GL,
  qw:=λid hid=>?_,
  mp:=λk z f=>?_,
  mu:=λk l z z' f hl G H=>?_,
  sp:=λq a w E K=>?_,
  sd:=λq m C=>by rw[show GX[q]?=c.stat[q]? from o q (by dsimp only at m;omega)];exact h.sd q m (by dsimp only at C;omega),
  Kb:=λq E=>?_,
  J2:=λk f=>?_,
  ww:=λid hid=>?_,
  gw:=λk z f=>?_}
 ·obtain⟨k,z,rfl,m,C⟩:=h.qw id hid
  have:i≠k:=by rintro rfl;rw[V]at m;cases m;omega
  exact⟨k,z,rfl,by dsimp only;rw[List.getElem?_set_ne this];exact m,C⟩
 ·rcases F k z f with⟨rfl,rfl⟩|⟨d,g⟩
  ·obtain⟨a,s,M⟩:=R
   refine⟨by omega,by omega,by omega,by omega,λ_ _=>⟨p,by omega,O,?_⟩,λ_=>⟨i,x',by omega,Aj P,by omega,by omega,by omega⟩,λ_=>.inr ⟨p,by omega,O,?_⟩⟩
   ·rcases M with rfl|M
    ·exact .inl s
    ·omega
   ·rcases M with rfl|⟨rfl,-⟩
    ·exact .inr s
    ·exact .inl s
  ·obtain⟨a1,a2,a3,a4,a5,a6,a7⟩:=h.mp k z g
   refine⟨a1,a2,a3,a4,λu v=>?_,λu=>?_,λu=>?_⟩
   ·obtain⟨q,r,t,n⟩:=a5 u v
    refine⟨q,r,t,?_⟩;dsimp only;rcases n with n|n
    ·left;rw[o q (B k z _ g d q n)];exact n
    ·right;rw[o q (B k z _ g d q n)];exact n
   ·obtain⟨l,v,r,t,n⟩:=a6 u
    have:i≠l:=by rintro rfl;exact aa k z g d r
    exact⟨l,v,r,by dsimp only;rw[List.getElem?_set_ne this];exact t,n⟩
   ·rcases a7 u with b|⟨q,r,t,n⟩
    ·exact .inl b
    ·refine .inr ⟨q,r,t,?_⟩
     dsimp only;rcases n with n|n
     ·left;rw[o q (B k z _ g d q n)];exact n
     ·right;rw[o q (B k z _ g d q n)];exact n
 ·rcases F k z f with⟨s,M⟩|⟨-,g⟩<;>rcases F l z' hl with⟨e3,e4⟩|⟨-,S⟩
  ·rw[s,e3]
  ·rw[s];rw[M]at G H;exact h.mu j l _ _ L S (by omega) (by omega)
  ·rw[e3];rw[e4]at G;exact h.mu k j _ _ g L (by omega) H
  ·exact h.mu k l _ _ g S G H
 ·by_cases T:q=p
  ·subst T
   obtain⟨a',s,M⟩:=R;rw[show GX[q]?=Z (a,w)from K]at s;cases s;exact .inr ⟨by omega,by omega,j,y',rfl,Aj Q,by omega,by omega⟩
  ·rw[show GX[q]?=c.stat[q]? from o q T]at K
   rcases h.sp q a w E K with m|⟨m,C,k,z,h3,h4,h5,h6⟩
   ·exact .inl m
   ·have:j≠k:=by rintro rfl;rw[L]at h4;cases h4;omega
    exact .inr ⟨m,C,k,z,h3,by dsimp only;rw[List.getElem?_set_ne this];exact h4,h5,h6⟩
 ·obtain⟨l,rfl,r,t⟩:=h.Kb q E
  have:l≠p:=by rintro rfl;rw[A]at t;simp at t
  exact⟨l,rfl,r,by dsimp only;rw[o l this];exact t⟩
 ·obtain⟨l,z,rfl,r,t⟩:=h.J2 k f
  have:j≠l:=by rintro rfl;rw[L]at r;cases r;omega
  exact⟨l,z,rfl,by dsimp only;rw[List.getElem?_set_ne this];exact r,t⟩
 ·obtain⟨k,z,rfl,m,C⟩:=h.ww id hid
  have:i≠k:=by rintro rfl;rw[V]at m;cases m;exact tf C hs
  exact⟨k,z,rfl,by dsimp only;rw[List.getElem?_set_ne this];exact m,C⟩
 ·dsimp only at f
  by_cases e:i=k
  ·subst e
   rw[Aj P]at f;cases f;refine⟨by unfold D9.Dt;omega,λm=>tf m hf.1,λm=>tf m hf.2⟩
  ·rw[Ao e]at f;exact h.gw k z f
theorem Dp.again(h:Dp c){j p:Nat}{y:MC}{a w:Int}(B:c.ms[j]?=Z y)(H:y.phase=5)(T:p<c.n)(M:c.stat[p]?=Z (a,w))(hc:y.p=p/\a=2/\w=j\/y.p= -1/\a=0/\w= -1):Dp {c with ms:=c.ms.set j ⟨p,y.g,5⟩,stat:=c.stat.set p (1,(j:Int)),ip:=c.ip.erase p}:=by
 have C:p<c.stat.length:=(Af.1 M).1;have D:=(Af.1 B).1;have V:=h.mp j y B;have t: ∀(k:Nat)(z:MC),(c.ms.set j ⟨(p:Int),y.g,5⟩)[k]?=Z z->(k=j/\z=⟨(p:Int),y.g,5⟩)\/(k≠j/\c.ms[k]?=Z z):=λk z m=>by
  by_cases d:j=k
  ·subst d;rw[Aj D]at m;cases m;exact .inl ⟨rfl,rfl⟩
  ·rw[Ao d]at m;exact .inr ⟨λe=>d e.symm,m⟩
 have n: ∀(k:Nat)(b:Int),k≠j-> ∀q:Nat,c.stat[q]?=Z (b,(k:Int))->p≠q:=λk b d q x e=>by subst e;rw[M]at x;cases x;omega
 refine{h with ns:=by simp;exact h.ns,sl:=by simp;exact h.sl,m1:=by simp;exact h.m1,m2:=by simp;exact h.m2,mp:=λk z m=>?_,mu:=λk l z z' m W i o=>?_,sp:=λq a' v x g=>?_,sd:=λq E O=>by have:=h.sd q E;grind,Oi:=h.Oi.erase _,Kb:=λq x=>?_,J2:=λk m=>?_}
 ·rcases t k z m with⟨rfl,rfl⟩|⟨d,r⟩
  ·obtain⟨P,a2,a3,a4,a5,K,Q⟩:=V
   refine⟨by simp,by simp,by simp,by simp,by simp,λ_=>?_,λ_=>.inr ⟨p,rfl,T,.inr (Aj C)⟩⟩;have:=K (by omega);rw[H]at this;exact this
  ·obtain⟨P,a2,a3,a4,a5,K,Q⟩:=h.mp k z r
   refine⟨P,a2,a3,a4,λu v=>?_,K,λu=>?_⟩
   ·obtain⟨q,s,A,f⟩:=a5 u v
    refine⟨q,s,A,?_⟩;dsimp only;rcases f with f|f
    ·left;rw[Ao (n k _ d q f)];exact f
    ·right;rw[Ao (n k _ d q f)];exact f
   ·rcases Q u with b|⟨q,s,A,f⟩
    ·exact .inl b
    ·refine .inr ⟨q,s,A,?_⟩
     dsimp only;rcases f with f|f
     ·left;rw[Ao (n k _ d q f)];exact f
     ·right;rw[Ao (n k _ d q f)];exact f
 ·rcases t k z m with⟨R,X⟩|⟨-,r⟩<;>rcases t l z' W with⟨S,e4⟩|⟨-,F⟩
  ·rw[R,S]
  ·rw[R];rw[X]at i o;exact h.mu j l _ _ B F i o
  ·rw[S];rw[e4]at i;exact h.mu k j _ _ r B i o
  ·exact h.mu k l _ _ r F i o
 ·by_cases G:p=q
  ·subst G
   dsimp only at g;rw[Aj C]at g;cases g;exact .inr ⟨by omega,by omega,j,_,rfl,Aj D,rfl,by simp⟩
  ·dsimp only at g
   rw[Ao G]at g;rcases h.sp q a' v x g with E|⟨E,O,k,z,h3,L,h5,h6⟩
   ·exact .inl E
   ·have:j≠k:=by rintro rfl;rw[B]at L;cases L;omega
    exact .inr ⟨E,O,k,z,h3,by dsimp only;rw[List.getElem?_set_ne this];exact L,h5,h6⟩
 ·obtain⟨l,rfl,s,A⟩:=h.Kb q (Cs x)
  have:p≠l:=by rintro rfl;exact h.Oi.not_mem_erase x
  exact⟨l,rfl,s,by dsimp only;rw[List.getElem?_set_ne this];exact A⟩
 ·obtain⟨l,z,rfl,s,A⟩:=h.J2 k m
  have:j≠l:=by rintro rfl;rw[B]at s;cases s;omega
  exact⟨l,z,rfl,by dsimp only;rw[List.getElem?_set_ne this];exact s,A⟩
theorem Dp.oL(h:Dp c){j:Nat}{y:MC}(g:c.ms[j]?=Z y)(B:y.p= -1)(i:y.phase≠0):Dp {c with ms:=c.ms.set j ⟨-1,0,0⟩,IB:=(j:Int)::c.IB}:=by
 have m:=(Af.1 g).1;have f:(j:Int)∉c.IB:=λhm=>by
  obtain⟨k,z,e,b,n⟩:=h.J2 _ hm;have:j=k:=by omega
  subst this;rw[g]at b;cases b;exact i n
 exact{h with
  m1:=by simp;exact h.m1,
  m2:=by simp;exact h.m2,
  mp:=λk z d=>by
   by_cases p:k=j
   ·have:z=⟨-1,0,0⟩:=by grind
    subst this;unfold Oh;simp
   ·exact h.mp k z (by grind),
  mu:=λk l z z' d C=>by have:=h.mu k l z z';grind,
  sp:=λq a w r s=>by
   rcases h.sp q a w r s with b|⟨b,n,k,z,t,o,u,v⟩
   ·exact .inl b
   ·have:j≠k:=by rintro rfl;rw[g]at o;cases o;omega
    exact .inr ⟨b,n,k,z,t,by dsimp only;rw[List.getElem?_set_ne this];exact o,u,v⟩,
  lE:=BH.2 ⟨f,h.lE⟩,
  J2:=λk d=>by
   rcases Be.1 d with rfl|d
   ·exact⟨j,⟨-1,0,0⟩,rfl,Aj m,rfl⟩
   ·obtain⟨l,z,rfl,x,A⟩:=h.J2 k d
    have:j≠l:=by rintro rfl;exact f d
    exact⟨l,z,rfl,by dsimp only;rw[List.getElem?_set_ne this];exact x,A⟩}
end
end
section
open Vm (CP)
section
variable {s:St}
variable {i j:Nat}{x:G}{y:M1}
theorem after{s':St}(c:s.gs[i]?=Z x)(hy:s.ms[j]?=Z y)(h:core s'={core s with gs:=(core s).gs.set i {gc x with begun:=tY}}):
  (∃a:M1,s'.ms[j]?=Z a/\mc a=mc y)/\(∃b:G,s'.gs[i]?=Z b/\gc b={gc x with begun:=tY})/\s'.stat=s.stat/\s'.sc.Cz=s.sc.Cz/\s'.rings.length=s.rings.length:=by
 have d:=Aq Cr.ms h;have e:=Aq Cr.gs h;refine⟨DJ (by rw[d];exact CG hy),Ik (by rw[e];exact Aj (by simpa[core]using(Af.1 c).1)),Aq Cr.stat h,Aq Cr.st h,Aq Cr.n h⟩
theorem jA(a:s.gs[i]?=Z x)(hy:s.ms[j]?=Z y)(x':G)(y':M1)(st:List Pr):core ({s.CJ i x' with stat:=st}.CQ j y')={core s with gs:=(core s).gs.set i (gc x'),ms:=(core s).ms.set j (mc y'),stat:=st}:=by simp[core,St.CQ,St.CJ,Df]
theorem Inv.lK{e:Nat}(h:Inv e s){x':G}(c:s.gs[i]?=Z x)(d:Pm s.funcs x'/\(x'.done=tZ->x'.word=6\/i=e)): ∀(k:Nat)(z:G),(s.gs.set i x')[k]?=Z z->Pm s.funcs z/\(z.done=tZ->z.word=6\/k=e):=λk z a=>by
 by_cases b:i=k
 ·subst b
  rw[Aj (Af.1 c).1]at a;cases a;exact d
 ·rw[Ao b]at a;exact h.th k z a
theorem Ri(h:Inv 1000 s){p:Nat}(l:s.gs[i]?=Z x)(hy:s.ms[j]?=Z y)(t:y.phase=2/\x.word=2/\(s.sc.Cz=tZ->s.sc.CF≠y.g)\/y.phase=5/\x.word=3)(H:y.g=(i:Int)+1)(E:y.p=p)(K:p<s.rings.length)(m:s.stat[p]?=Z (1,(j:Int)))(w:Int)(y':M1)(u:y'.g=y.g)(A:y'.p=y.p)(hw:w=2/\y'.phase=2\/w=3/\y'.phase=5)(st:List Pr)(n:st=s.stat\/s.sc.Cz=tY/\st=s.stat.set p (2,(j:Int))/\y'.phase=5):Inv 1000 ({s.CJ i {x with word:=w}with stat:=st}.CQ j y'):=by
 have B:p<s.stat.length:=(Af.1 m).1;obtain⟨f1,f2,-⟩:=h.flags l (by omega);have o:=h.th i x l;refine⟨⟨?_,h.DL,h.lK l ⟨o.1.congr (by dsimp only;unfold D9.Dt;omega) rfl rfl rfl rfl,λL=>?_⟩,h.box⟩,?_⟩
 ·rw[jA l hy]
  refine h.base.both (CV l) (CG hy) (by simp only[mc];omega) H u A ⟨f1,f2⟩ hw (by simp only[gc];omega) st ?_ ⟨p,E,K,m⟩ f2;rcases n with e|⟨-,e,M⟩
  ·exact .inl e
  ·exact .inr ⟨p,E,m,e,M⟩
 ·have:=o.2 L
  have:=h.oF l;omega
 ·rw[jA l hy]
  have r:(mc y).phase≠3/\(mc y).phase≠4:=by simp only[mc];omega
  have f:(mc y').phase≠3/\(mc y').phase≠4:=by simp only[mc];omega
  rcases n with rfl|⟨F,rfl,-⟩
  ·have b:=h.link.NM (CG hy) r f (λm=>by rcases t with G|G;exact .inl (G.2.2 m);exact .inr (by simp only[mc];omega))
   exact⟨b.go,b.Eo,b.bars,b.stop⟩
  ·have C:j<(core s).ms.length:=by simpa[core]using(Af.1 hy).1
   have b:=h.link.look (c:=core s) F (oC:=(core s).ms.set j (mc y')) (GX:=s.stat.set p (2,(j:Int))) (lF:=s.CD) (pX:=s.CL) (λq a v R d=>?_) (λk z g=>?_) (λk z g S=>?_)
   ·exact⟨b.go,b.Eo,b.bars,b.stop⟩
   ·have:=(h.link.go F).2.1 q a v R
    by_cases e:p=q
    ·subst e;rw[Aj B]at d;cases d;decide
    ·rw[Ao e]at d;exact this d
   ·by_cases e:j=k
    ·subst e;rw[Aj C]at g;cases g;exact .inl f
    ·rw[Ao e]at g;exact .inr g
   ·have:j≠k:=by rintro rfl;rw[CG hy]at g;cases g;exact r.2 S
    rw[Ao this];exact g
theorem aN(h:Inv 1000 s)(f:s.gs[i]?=Z x)(hy:s.ms[j]?=Z y)(b:y.phase=2)(F:y.g=(i:Int)+1)(m:s.sc.CF≠y.g)(x':G)(c:x'.fn=x.fn/\x'.Dr=x.Dr/\x'.CO=x.CO/\x'.stack=x.stack/\x'.done=x.done)(hw:x'.word=x.word)(t: ¬(x'.blocked=tZ/\x'.CA=tZ)): ∃q,Gw (s.CJ i x') j=Z q/\Inv 1000 (q.2.mv q.1 4):=by
 obtain⟨a,z,s2,-,u,l,H,o,p,r,-⟩:=KH h hy (.inl ⟨b,λ_=>m⟩);have:a=i:=by omega
 subst this;rw[f]at o;cases o;have w:=(Af.1 f).1;have d:=h.th a x f;refine⟨(a,(s.CJ a x').CQ j {y with g:=0,phase:=1}),?_,?_⟩
 ·unfold Gw;rw[show(s.CJ a x').ms[j]?=s.ms[j]? from rfl,hy];dsimp only;rw[if_pos (by omega),show(y.g-1).toNat=a by omega]
 ·have A:Ia x'.word 4=4:=by rw[hw,r b];decide+kernel
  have e:((s.CJ a x').CQ j {y with g:=0,phase:=1}).mv a 4=s2.CJ a {x' with word:=4}:=by rw[p];simp[St.mv,St.CJ,St.CQ,w,A]
  dsimp only;rw[e];refine Fe u l.at_ _ (by dsimp only;unfold D9.Dt;omega) ⟨λB=>⟨.inl rfl,?_⟩,λ_=>.inl rfl⟩ (λhm=>absurd hm l.qs) (λhm=>absurd hm l.ws) (λk v C n=>absurd n (l.ms k v C)) ⟨?_,λD=>?_⟩
  ·cases E:x'.CA with
   |false=>rfl
   |true=>exact absurd ⟨B,E⟩ t
  ·rw[show s2.funcs=s.funcs by rw[p];rfl];exact d.1.congr (by dsimp only;unfold D9.Dt;omega) c.1 c.2.1 c.2.2.1 c.2.2.2.1
  ·have:=d.2 (c.2.2.2.2▸D)
   have:=h.oF f;have:=r b;omega
theorem Xp(h:Inv 1000 s){ins:CP}(f:s.gs[i]?=Z x)(hy:s.ms[j]?=Z y)(a:y.phase=2)(g:y.g=(i:Int)+1)(c:Fh s x=Z ins)(v:ins.op=12): ∃p,JW s j (decide (s.sc.CF=y.g))=Z p/\Inv 1000 p:=by
 obtain⟨B,r,s1,k1,k2,k3,k4,k5,k6,-⟩:=D2 h hy a g 0;rw[f]at k1;cases k1;rw[c]at k2;cases k2;obtain⟨c1,w,c3⟩:=k6 (by omega) (by omega) (by omega);obtain⟨⟨t,k,u⟩,⟨l,b,ex⟩,c4,c5,c6⟩:=after f hy c1;have m:t.g=y.g:=Aq MC.g u;have d:t.phase=2:=(Aq MC.phase u).trans a;unfold JW;rw[hy];dsimp only;rw[Ai (by omega),k4];dsimp only[Option.bind_some];rw[show(y.g-1).toNat=i by omega,b];by_cases n:s.sc.CF=y.g
 ·rw[Ai (by simpa using n)];exact⟨s1,rfl,k5⟩
 ·rw[Ah (by simpa using n)]
  dsimp only;split
  ·exact⟨_,rfl,(k5.UT b {l with token:=tY} rfl ⟨rfl,rfl,rfl,rfl,rfl⟩).1⟩
  ·obtain⟨-,-,-,-,f2,-⟩:=h.run hy (.inl a) g
   have o:l.CA=false:=by have:=Aq GC.CA ex;simp only[gc]at this;obtain⟨C,e,-,-,-,f2,-⟩:=h.run hy (.inl a) g;rw[f]at e;cases e;rw[this];exact f2
   obtain⟨q,z,A⟩:=aN k5 b k d (by omega) (by rw[w,m];exact n) {l with blocked:=tZ} ⟨rfl,rfl,rfl,rfl,rfl⟩ rfl (by simp[o]);rw[z];exact⟨_,rfl,A⟩
theorem gQ(h:Inv 1000 s){ins:CP}(E:s.gs[i]?=Z x)(hy:s.ms[j]?=Z y)(b:y.phase=2)(F:y.g=(i:Int)+1)(g:Fh s x=Z ins)(H:ins.op=16): ∃G,SV s j ins (decide (s.sc.CF=y.g))=Z G/\Inv 1000 G:=by
 unfold SV;rw[hy];dsimp only;by_cases v:s.sc.CF=y.g
 ·rw[Ai (by simpa using v)]
  obtain⟨K,k,s1,k1,k2,k3,k4,k5,-⟩:=D2 h hy b F 0;exact⟨s1,k4,k5⟩
 rw[Ah (by simpa using v)];obtain⟨p,w,L,M⟩:=h.one hy (.inr (.inr ⟨b,v⟩));have l:p<s.asked.length:=by have:=h.base.nb;simp[core]at this;omega
 rw[Ai (by omega),show s.asked[y.p.toNat]?=Z s.asked[p] by rw[w,Am];exact Ae l,show(y.g-1).toNat=i by omega,E];dsimp only;cases O:s.asked[p].Eo with
 |true=>rw[Ai rfl,w];exact Lf h (Ae l) O
 |false=>
  rw[Ah (by decide)];cases A:s.sc.Cz with
  |true=>rw[Ai rfl];exact IX h hy (.inl ⟨b,λ_=>v⟩)
  |false=>
   rw[Ah (by decide)];have B:=(Af.1 hy).1;obtain⟨P,-⟩:=h.Ng hy {y with left:=Dk (rg x ins.a.toNat) 8} rfl;generalize a:s.CQ j {y with left:=Dk (rg x ins.a.toNat) 8}=s0 at*
   have m:s0.ms[j]?=Z {y with left:=Dk (rg x ins.a.toNat) 8}:=by rw[<-a];exact Aj B
   have n:s0.gs[i]?=Z x:=by rw[<-a];exact E
   obtain⟨K,k,s1,k1,k2,k3,k4,k5,k6,-⟩:=D2 P m b F 0;rw[n]at k1;cases k1;rw[show Fh s0 x=Z ins by rw[<-a];exact g]at k2;cases k2;obtain⟨c1,X,c3⟩:=k6 (by omega) (by omega) (by omega);obtain⟨⟨d,o,C⟩,⟨z,q,ex⟩,c4,c5,c6⟩:=after n m c1;have Q:d.g=y.g:=Aq MC.g C;have r:d.p=y.p:=Aq MC.p C;have t:d.phase=2:=(Aq MC.phase C).trans b;have u:z.word=2:=(Aq GC.word ex).trans k3;rw[k4];dsimp only[Option.bind_some];rw[o];dsimp only;rw[Ai (by omega)];have R:Ia z.word 3=3:=by rw[u];decide+kernel
   have S:s1.mv i 3=s1.CJ i {z with word:=3}:=by simp[St.mv,q,R]
   simp only[show(d.g-1).toNat=i by omega];rw[S];have f:s1.stat[p]?=Z (1,(j:Int)):=by rw[c4,<-a];exact M
   have T:=(Af.1 f).1;have V:Cx.Dn (s1.CJ i {z with word:=3}).stat d.p (λ_ W=>(2,W)) (λs _=>s==1)=s1.stat.set p (2,(j:Int)):=by show Cx.Dn s1.stat d.p _ _=_;unfold Cx.Dn;rw[r,w,Ai (by omega),Am,f];simp
   rw[V];have c:s0.sc.Cz=false:=by rw[<-a];exact A
   have D:s0.rings=s.rings:=by rw[<-a];rfl
   exact⟨_,rfl,Ri k5 q o (.inl ⟨t,u,λe=>tf e (c5.trans c)⟩) (by omega) (r.trans w) (by rw[c6,D];exact L) f 3 {d with phase:=5} rfl rfl (.inr ⟨rfl,rfl⟩) _ (.inr ⟨c5.trans c,rfl,rfl⟩)⟩
end
end
open Vm (CP)
section
variable {s:St}
variable {j p:Nat}{y:M1}
theorem Lg(h:Inv 1000 s){i:Nat}{x:G}(b:s.gs[i]?=Z x)(hy:s.ms[j]?=Z y)(a:y.phase=5)(g:y.g=(i:Int)+1)(c:y.p=p)(d:p<s.rings.length)(e:s.stat[p]?=Z (1,(j:Int)))(hw:x.word=3\/x.word=11): ∃f,call2 s j y.g=Z f/\Inv 1000 f:=by
 unfold call2;rw[show(y.g-1).toNat=i by omega,b];dsimp only;split
 ·exact IX h hy (.inr ⟨a,p,c,d,e⟩)
 ·have k:Ia x.word 2=2:=by rw[show x.word=3 by omega];decide+kernel
  have l:s.mv i 2=s.CJ i {x with word:=2}:=by simp[St.mv,b,k]
  rw[l,show(s.CJ i {x with word:=2}).ms[j]?=s.ms[j]? from rfl,hy];exact⟨_,rfl,Ri h b hy (.inr ⟨a,by omega⟩) g c d e 2 {y with phase:=2} rfl rfl (.inl ⟨rfl,rfl⟩) s.stat (.inl rfl)⟩
theorem Xq{l:List Pr}(a:l[p]?=Z (2,(j:Int)))(c:j<64):Cx.Mh l p j (λ_ _=>(1,(j:Int))) (λs b=>s==2&&b==(j:Int))=l.set p (1,(j:Int)):=by have d:=(Af.1 a).1;unfold Cx.Mh Cx.Dn Cx.JR;rw[Ah (by omega),Ai (by omega)];simp[a]
theorem TE{l:List Pr}(a:l[p]?=Z (1,(j:Int)))(c:j<64):Cx.Mh l p j (λ_ _=>(1,(j:Int))) (λs b=>s==2&&b==(j:Int))=l:=by have d:=(Af.1 a).1;unfold Cx.Mh Cx.Dn Cx.JR;rw[Ah (by omega),Ai (by omega)];simp[a]
theorem Nk(h:Inv 1000 s){a w:Int}(hy:s.ms[j]?=Z y)(f:y.phase=5)(o:p<s.rings.length)(n:s.stat[p]?=Z (a,w))(r:y.p=p/\a=2/\w=j\/y.p= -1/\a=0/\w= -1)(g:s.sc.Cz=tY):Inv 1000 (({s with CD:=s.CD.erase p,stat:=s.stat.set p (1,(j:Int))}:St).CQ j {y with p:=p}):=by
 have i:core (({s with CD:=s.CD.erase p,stat:=s.stat.set p (1,(j:Int))}:St).CQ j {y with p:=p})={core s with ms:=(core s).ms.set j ⟨p,y.g,5⟩,stat:=s.stat.set p (1,(j:Int)),ip:=s.CD.erase p}:=by simp[core,St.CQ,Df,mc,f]
 have l:j<(core s).ms.length:=by simpa[core]using(Af.1 hy).1
 have m:=(Af.1 n).1;refine⟨⟨?_,h.DL,h.th,h.box⟩,?_⟩
 ·rw[i];exact h.base.again (CG hy) f o n r
 ·rw[i]
  refine h.link.look (c:=core s) g (pX:=s.CL) (λq a v u b=>?_) (λk z d=>?_) (λk z d x=>?_)
  ·have:=(h.link.go g).2.1 q a v u
   by_cases e:p=q
   ·subst e;rw[Aj m]at b;cases b;decide
   ·rw[Ao e]at b;exact this b
  ·by_cases e:j=k
   ·subst e;rw[Aj l]at d;cases d;exact .inl ⟨by simp,by simp⟩
   ·rw[Ao e]at d;exact .inr d
  ·have:j≠k:=by rintro rfl;rw[CG hy]at d;cases d;simp only[mc]at x;omega
   rw[Ao this];exact d
theorem aO(h:Inv 1000 s)(hy:s.ms[j]?=Z y)(a:y.phase=5): ∃C,Kw s j=Z C/\Inv 1000 C:=by
 have m:=(Af.1 hy).1;have b:j<64:=by have:=h.base.m2;simp[core]at this;omega
 unfold Kw;rw[hy];dsimp only;split
 ·exact⟨_,rfl,(h.Ng hy {y with left:=wrap64 (y.left-1)} rfl).1⟩
 obtain⟨i,x,D,f,hw,H⟩: ∃(i:Nat)(x:G),y.g=(i:Int)+1/\s.gs[i]?=Z x/\(x.word=3\/x.word=11)/\(y.p= -1\/ ∃p:Nat,y.p=p/\p<s.rings.length/\(s.stat[p]?=Z (2,(j:Int))\/s.stat[p]?=Z (1,(j:Int)))):=by obtain⟨-,-,-,-,-,Q,R⟩:=h.base.mp j _ (CG hy);obtain⟨i,z,S,T,-,V,-⟩:=Q (by simp only[mc];omega);obtain⟨x,f,rfl⟩:=Ik T;exact⟨i,x,S,f,V a,R a⟩
 rw[Ai (by omega)];split
 ·rename_i d
  obtain⟨p,v,n,c⟩:=H.resolve_left d;clear H;rw[v];rcases c with c|c
  ·have K:s.sc.Cz=false:=by
    cases e:s.sc.Cz with
    |false=>rfl
    |true=>have:=(h.link.stop e).2.1 p _ _ n c;omega
   have t:=Nk h hy a n c (.inl ⟨v,rfl,rfl⟩) K;have e:({s with CD:=s.CD.erase p,stat:=s.stat.set p (1,(j:Int))}:St).CQ j {y with p:=p}={s with stat:=s.stat.set p (1,(j:Int))}:=by
    have L:s.CD.erase (p:Int)=s.CD:=Zao λhm=>by
     obtain⟨q,E,M,F⟩:=h.base.Kb _ hm;have:q=p:=by omega
     subst this;rw[show(core s).stat[q]?=s.stat[q]? from rfl,c]at F;simp at F
    have E:s.ms.set j {y with p:=(p:Int)}=s.ms:=by rw[show({y with p:=(p:Int)}:M1)=y by rw[<-v]];apply List.ext_getElem?;grind
    simp[St.CQ,L,E]
   rw[e]at t;rw[Xq c b];exact Lg t f hy a D v n (Aj (Af.1 c).1) hw
  ·rw[TE c b]
   exact Lg h f hy a D v n c hw
 ·rename_i d
  have d:y.p= -1:=Classical.not_not.1 d;clear H;split
  ·rename_i P
   obtain⟨p,r,w⟩:=List.exists_cons_of_ne_nil P.1;obtain⟨q,rfl,n,c⟩:=h.base.Kb p (by simp[core,w]);rw[show s.CD.headD 0=(q:Int) by rw[w];rfl,take_set (l:=s.stat) c b];have t:=Nk h hy a n c (.inr ⟨d,rfl,rfl⟩) P.2;exact Lg t (y:={y with p:=(q:Int)}) f (by simp only[St.CQ];exact Aj m) a D rfl n (Aj (Af.1 c).1) hw
  ·have O:(j:Int)∉s.CL:=λhm=>by
    obtain⟨k,z,e,M,F⟩:=h.base.J2 _ hm;have:j=k:=by omega
    subst this;rw[CG hy]at M;cases M;simp only[mc]at F;omega
   have L:Gw s j=Z (i,s.CQ j {y with g:=0,phase:=1}):=by unfold Gw;rw[hy];dsimp only;rw[if_pos (by omega),show(y.g-1).toNat=i by omega]
   have E:Gu (s.CQ j {y with g:=0,phase:=1}) j=Z {s with ms:=s.ms.set j {y with p:= -1,g:=0,phase:=0,CU:=tY},CL:=(j:Int)::s.CL}:=by unfold Gu;simp[St.CQ,m,KI O b]
   rw[L];dsimp only[Option.bind_some];rw[E];dsimp only[Option.bind_some];have A:core {s with ms:=s.ms.set j {y with p:= -1,g:=0,phase:=0,CU:=tY},CL:=(j:Int)::s.CL}={core s with ms:=(core s).ms.set j ⟨-1,0,0⟩,IB:=(j:Int)::s.CL}:=by simp[core,Df,mc]
   have t:Inv 1000 {s with ms:=s.ms.set j {y with p:= -1,g:=0,phase:=0,CU:=tY},CL:=(j:Int)::s.CL}:=by
    refine⟨⟨?_,h.DL,h.th,h.box⟩,?_⟩
    ·rw[A];exact h.base.oL (CG hy) d (by simp only[mc];omega)
    ·rw[A]
     have u:=h.link.NM (y':=⟨-1,0,0⟩) (CG hy) (by simp only[mc];omega) (by simp) (λ_=>.inr (by simp only[mc];omega));exact⟨u.go,u.Eo,u.bars,u.stop⟩
   obtain⟨f1,f2,f3⟩:=h.flags f (by omega);have u:Q7 {s with ms:=s.ms.set j {y with p:= -1,g:=0,phase:=0,CU:=tY},CL:=(j:Int)::s.CL} i x:=by
    refine⟨f,h.base.J3 (CV f) (by simp only[gc];omega),λk z B e=>?_,f3,by omega,f1,f2⟩;dsimp only at B;by_cases o:j=k
    ·subst o;rw[List.getElem?_set_self m]at B;cases B;dsimp only at e;omega
    ·rw[Ao o]at B
     exact o (h.Xh hy B D e).1.symm
   obtain⟨C,k1,k2,-⟩:=Fs t u (-1) (.inl rfl) tY;exact⟨C,k1,k2⟩
theorem aP(h:Inv 1000 s)(hy:s.ms[j]?=Z y)(b:y.phase=3): ∃r,LF s j=Z r/\Inv 1000 r:=by
 unfold LF;rw[hy];dsimp only;split
 ·exact Oj h j
 rename_i B;have C:=h.base.mp j _ (CG hy);obtain⟨R,a2,a3,a4,a5,D,S⟩:=C;obtain⟨i,x,t,E,F,T,u⟩:=D (by simp only[mc];omega);have d:s.sc.Cz=true:=by
  cases e:s.sc.Cz with
  |true=>rfl
  |false=>exact absurd b ((h.link.go e).2.2 j _ (CG hy))
 obtain⟨G,H,⟨K,-⟩,v,k,z,q,c1,L,c3,c4,c5,c6⟩:=h.link.stop d;have n:k=j:=h.base.mu k j _ _ c1 (CG hy) (by have:=(u (.inl b)).2;simp only[mc]at*;omega) (by have:=(u (.inl b)).2;simp only[mc]at*;omega);subst n;rw[CG hy]at c1;cases c1;have o:(core s).wt=0:=by have:(core s).wt=s.sc.wait:=rfl;omega
 have f:=(Af.1 hy).1;have p:y.g=(i:Int)+1:=t;have g:core ((s.CQ k {y with phase:=2}).CS {s.sc with CF:=y.g})={core s with ms:=(core s).ms.set k ⟨y.p,y.g,2⟩,Hc:=y.g}:=by simp[core,St.CQ,St.CS,Df,mc]
 have a:k<(core s).ms.length:=by simpa[core]using f
 have m: ∀(l:Nat)(z:MC),((core s).ms.set k ⟨y.p,y.g,2⟩)[l]?=Z z->z.phase≠4:=λl z c=>by
  by_cases e:k=l
  ·subst e;rw[Aj a]at c;cases c;simp
  ·rw[Ao e]at c;exact v l z c
 have M:Inv 1000 ((s.CQ k {y with phase:=2}).CS {s.sc with CF:=y.g}):=by
  refine⟨⟨?_,h.DL,h.th,h.box⟩,?_⟩
  ·rw[g]
   have O:=h.base.NM (y':=⟨y.p,y.g,2⟩) (CG hy) ⟨by simp,by simp,by simp,by simp,λ_ _=>a5 (by simp only[mc];omega) (by simp only[mc];omega),λ_=>⟨i,x,t,E,λ_=>F (by simp only[mc];omega),by simp,by simp⟩,by simp⟩ (.inl rfl) rfl (by simp) (λhm=>by
    obtain⟨l,z,e,w,P⟩:=h.base.J2 _ hm;have:k=l:=by omega
    subst this;rw[CG hy]at w;cases w;simp only[mc]at P;omega)
   exact{O with}
  ·rw[g]
   exact⟨λe=>tf d e,λ_=>h.link.Eo v,λl z c Q=>absurd Q (m l z c),λ_=>⟨G,H,⟨K,λ_=>o⟩,m,k,_,q,Aj a,L,.inr ⟨rfl,rfl⟩,c4,c5,c6⟩⟩
 obtain⟨W,A,s1,k1,k2,k3,k4,k5,-⟩:=D2 M (j:=k) (y:={y with phase:=2}) (by simp only[St.CQ,St.CS];exact Aj f) rfl p 0;exact⟨s1,k4,k5⟩
theorem gR(h:Inv 1000 s)(hy:s.ms[j]?=Z y)(d:y.phase=4): ∃r,QA s j=Z r/\Inv 1000 r:=by
 unfold QA;rw[hy];dsimp only;split
 ·exact Oj h j
 rename_i O;obtain⟨a1,a2,a3,a4,a5,t,G⟩:=h.base.mp j _ (CG hy);obtain⟨i,x,H,P,u,K,w⟩:=t (by simp only[mc];omega);have how:=(w (.inr d)).2;have a:s.sc.Cz=false:=by
  cases e:s.sc.Cz with
  |false=>rfl
  |true=>exact absurd d ((h.link.stop e).2.2.2.1 j _ (CG hy))
 have f:=(Af.1 hy).1;have A:y.g=(i:Int)+1:=H;rw[Ai (by omega),show(y.g-1).toNat=i by omega];have B:GW (core s).bars=0:=by have C:=h.link.bars j _ (CG hy) d;have:(core s).wt=s.sc.wait:=rfl;omega
 have g: ∀b,b∈(core s).bars->b=false:=λb Q=>by
  have:=Zae.1 B b Q;cases b
  ·rfl
  ·simp at this
 have o:core (s.CQ j {y with phase:=2})={core s with ms:=(core s).ms.set j ⟨y.p,y.g,2⟩}:=by rw[DT];rfl
 have p:j<(core s).ms.length:=by simpa[core]using f
 have q: ∀(l:Nat)(z:MC),((core s).ms.set j ⟨y.p,y.g,2⟩)[l]?=Z z->z.phase=2\/l≠j/\(core s).ms[l]?=Z z:=λl z c=>by
  by_cases e:j=l
  ·subst e;rw[Aj p]at c;cases c;exact .inl rfl
  ·rw[Ao e]at c;exact .inr ⟨λR=>e R.symm,c⟩
 have S:Inv 1000 (s.CQ j {y with phase:=2}):=by
  refine⟨⟨?_,h.DL,h.th,h.box⟩,?_⟩
  ·rw[o]
   exact h.base.NM (y':=⟨y.p,y.g,2⟩) (CG hy) ⟨by simp,by simp,by simp,by simp,λ_ _=>a5 (by simp only[mc];omega) (by simp only[mc];omega),λ_=>⟨i,x,H,P,λ_=>u (by simp only[mc];omega),by simp,by simp⟩,by simp⟩ (.inl rfl) rfl (by simp) (λhm=>by
    obtain⟨l,z,e,C,T⟩:=h.base.J2 _ hm;have:j=l:=by omega
    subst this;rw[CG hy]at C;cases C;simp only[mc]at T;omega)
  ·rw[o]
   refine⟨λ_=>⟨(h.link.go a).1,(h.link.go a).2.1,λl z c=>?_⟩,λ_=>g,λl z c V=>?_,λe=>tf e a⟩
   ·rcases q l z c with e|⟨-,e⟩
    ·omega
    ·exact(h.link.go a).2.2 l z e
   ·rcases q l z c with e|⟨-,e⟩
    ·omega
    ·exact h.link.bars l z e V
 obtain⟨x',L,s1,k1,k2,k3,k4,k5,-,k7⟩:=D2 S (j:=j) (y:={y with phase:=2}) (by simp only[St.CQ];exact Aj f) rfl A 0;rw[k4];dsimp only[Option.bind_some];obtain⟨W,M⟩:=k7 a;obtain⟨r,m1,m2,-⟩:=J5 (i:=i) k5 (λ_=>⟨W,λk z X=>by
  have key: ¬(z.phase=3\/z.phase=4):=λD=>by
   obtain⟨v,m,e⟩:=M k z X D;have e1:v.phase=z.phase:=Aq MC.phase e;by_cases n:j=k
   ·subst n
    simp only[St.CQ]at m;rw[Aj f]at m;cases m;dsimp only at e1;omega
   ·simp only[St.CQ]at m
    rw[Ao n]at m;obtain⟨-,-,-,-,-,d6,-⟩:=h.base.mp k _ (CG m);have E:1<=(mc y).g:=by omega
    have F:(mc v).phase=3\/(mc v).phase=4:=by clear a5 t G u K w M d6;simp only[mc];omega
    clear a5 t G u K w;obtain⟨i2,z2,d1,d2,d3,d4,d5⟩:=d6 (by clear d6;omega);have d8:=(d5 F).2;exact n (h.base.mu j k _ _ (CG hy) (CG m) (by rw[<-how,d8]) E)
  omega⟩)
 exact⟨r,m1,m2⟩
end
end C2
end Go.Proofs.YtgadhchejmlfjaaGreatDoor
