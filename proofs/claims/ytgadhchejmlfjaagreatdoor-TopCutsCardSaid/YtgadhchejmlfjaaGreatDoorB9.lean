/- A part of the proof. -/
import Derived.Test.YtgadhchejmlfjaaGreatDoorB8
set_option linter.unusedVariables false
set_option maxRecDepth 20000
set_option maxHeartbeats 16000000
open Go.Value renaming int→I,pointer→J,slice→Y
open Go.IntKind renaming i64→U
open Option renaming none→N,some→Z
open Bool renaming false→rm
open Go renaming Calls→re,Value→qY,World→oZ
open Go.Ending renaming returned→rC
open Go.Obj renaming cells→rD
open Go.RowKit renaming Below→qZ
open Go.RowKit.Below renaming refl→rf
open Go.Value renaming agg→rE,bool→ry,tuple→rG
namespace Go.Proofs.YtgadhchejmlfjaaGreatDoor.CX
open Go.Proofs.Tryz Go.RowKit Go.CL
section
open Vm (CN)
section
variable {mb:Nat} {V:Vr} {own:Nat→Nat} {w:oZ} {s:St}
variable {s s':St}
theorem fk{j:Nat}{y:M1}{a:Int}(b:Hp s j a=Z s')(c:s.ms[j]?=Z y):1≤y.g:=by unfold Hp at b;rw[c]at b;dsimp only at b;exact(CQ b).1.1
theorem oG{j:Nat}{y:M1}{ins:CN}(a:XB s j ins=Z s')(b:s.ms[j]?=Z y):1≤y.g:=by
 unfold XB at a;rw[b]at a;dsimp only at a;split at a
 ·split at a
  ·exact IK a b
  ·exact fk a b
 split at a
 ·obtain⟨s1,c,_⟩:=bind_some a
  exact IK c b
 split at a
 ·obtain⟨s1,c,_⟩:=bind_some a
  exact IK c b
 split at a
 ·unfold JG at a
  rw[b]at a;exact(CQ a).1
 split at a
 ·unfold Sw at a
  rw[b]at a;dsimp only at a;split at a
  ·exact IK a b
  ·exact(CQ a).1.2
 split at a
 ·unfold Gl at a
  rw[b]at a;exact(CQ a).1
 ·exact(CQ a).1
theorem CC.oH(h:CC mb V own w s){xb j:Nat}{op p c n:Int}(k:Nat)(hk:k<8)(hx:own xb=22+5*j)(a:XB s j ⟨op,k,p,c,n⟩=Z s'):re prog 178 #[ptr mb,ptr xb,rE #[I U op,I U k,I U p,I U c,I U n]] w (YJ mb V own w unit s'):=by
 cases D:s.ms[j]? with
 |none=>unfold XB at a;rw[D]at a;cases a
 |some y=>
 have G:=oG a D;unfold XB at a;rw[D]at a;dsimp only at a;have T:=(h.xg D).2;obtain⟨i,X⟩: ∃i:Nat,y.g=(i:Int)+1:=⟨(y.g-1).toNat,by omega⟩;rw[X]at G T a;have e2:((i:Int)+1-1).toNat=i:=by omega
 rw[e2,Ai G]at a;have ab: ∀z,s.ms[j]?=Z z→1≤z.g:=fun z hz=>by rw[D]at hz;cases hz;omega
 obtain⟨e1,hb⟩:=h.gp G T;rw[e2]at e1 hb;obtain⟨b,ad⟩: ∃b,V.CP i=b:=⟨_,rfl⟩;rw[ad]at e1 hb;have M:=h.alloc (EE op k p c n);have x2:(w.alloc (EE op k p c n)).cell? ⟨xb,2,N⟩=Z (ptr b):=by rw[←e1,←X];exact RC (M.CW hx D)
 have Jr:=M.Jr;have E0:=(Ext.refl own w).alloc (EE op k p c n);have B0:Cx (w.alloc (EE op k p c n)) w.heap.size #[I U op,I U k,I U p,I U c,I U n] 84:=Cx.new w _ 84;have hL:=h.fresh w.heap.size (Al _);have af:=h.Nc;have ag:=h.XC hx D;have O:=M.XC hx D;have P:=M.eK hb (Ae (M.lg b i hb));have nm: ¬mb=w.heap.size:=by omega
 have nx: ¬xb=w.heap.size:=by omega
 obtain⟨hv,aa⟩: ∃hv,Eb V.CP s.sc.CD=hv:=⟨_,rfl⟩;have heq: ∀m,(binOp .eql 119 hv (ptr b)).run prog ((w.alloc (EE op k p c n)).drewN m)= .ok (ry (decide (s.sc.CD=(i:Int)+1))) ((w.alloc (EE op k p c n)).drewN m):=fun m=>by rw[←aa];exact(M.drewN m).Qw hb h.hold.1 h.hold.2
 rw[aa]at Jr;obtain⟨al,ae⟩: ∃al,decide (s.sc.CD=(i:Int)+1)=al:=⟨_,rfl⟩;rw[ae]at heq a;have A:=Aa (Ab M (Ab E0 (Ab B0 hL)));have HX:=Aa (Ab hx (Ab O (Ab hb (Ab P D))));have Q:=Aa a;have ah:=Aa ab;unfold EE at A HX heq x2 Jr;clear ab h M E0 B0 hL hx O hb P D G T X e1 e2 ad a aa ae af ag;have ai:=Hu (.tmp 15) (.tmp 19) hv b;go_enter func178,ntmps178;go_wp2;go_quiet(fail)
 have R:=Aa (A.out.1.drewN nq);have E:=Aa (A.out.2.1.drewN nq);have B1:Cx ((w.alloc (rD #[I U op,I U k,I U p,I U c,I U n] 84)).drewN nq) w.heap.size #[I U op,I U k,I U p,I U c,I U n] 84:=A.out.2.2.1;have l0:=B1.cell 0;have l1:=B1.cell 1;have l2:=B1.cell 2;have l3:=B1.cell 3;have l4:=B1.cell 4;simp only[Ad,Ac,Ag]at l0 l1 l2 l3 l4;have v:=Aa (Ab HX.out.1 (Ab (show xb<((w.alloc (rD #[I U op,I U k,I U p,I U c,I U n] 84)).drewN nq).heap.size from HX.out.2.1) (Ab HX.out.2.2.1 (show b<((w.alloc (rD #[I U op,I U k,I U p,I U c,I U n] 84)).drewN nq).heap.size from HX.out.2.2.2.1))));clear x2 Jr heq A HX B1 nm nx ai;generalize(w.alloc (rD #[I U op,I U k,I U p,I U c,I U n] 84)).drewN nq=W at*
 generalize w.heap.size=L at*
 have a:=Q.out;clear Q;by_cases F:op=17∨op=19
 ·rw[Ai F]at a
  cases al with
  |true=>
   rw[Ai rfl]at a;have q:=Aa (R.out.Gm v.out.1 a);clear a;rcases F with rfl|rfl
   all_goals
    go_wp2_with(go_at_call 187;refine q.out.mono ?_;rintro e H⟨rfl,x,u,f,g,o⟩;have d:=Aa (Ab f o);have l:=Aa (E.out.trans g);clear f g o);go_end0;exact⟨rfl,x,u,d.out.1,l.out,d.out.2.toFw⟩
  |false=>
   rw[Ah (by decide)]at a;have q:=Aa (R.out.jE op k p c n v.out.1 a);clear a;rcases F with rfl|rfl
   all_goals
    go_wp2_with(go_at_call 248;refine q.out.mono ?_;rintro e H⟨rfl,u,f,g⟩;have d:=Aa f;have l:=Aa (E.out.trans g);clear f g);go_end0;exact⟨rfl,V,u,d.out,l.out,Fw.refl V⟩
 ·rw[Ah F]at a
  have d17:(op==17)=false:=by simp;omega
  have d19:(op==19)=false:=by simp;omega
  by_cases K:op=18
  ·rw[Ai K]at a
   replace a:=bind_some a;obtain⟨s1,hc,a⟩:=a;have q:=Aa (R.out.Gm v.out.1 hc);clear hc F;subst K;cases al with
   |true=>rw[Ai rfl]at a;have Q:=Aa a;clear a;go_wp2_with(first|(go_at_call 187;refine q.out.mono ?_;rintro e H⟨rfl,x,u,f,g,o⟩;have B:=Aa (f.start (g.keep v.out.1 v.out.2.1) Q.out);have d:=Aa (Ab f o);have l:=Aa (E.out.trans g);clear f g o)|(go_at_call 249;refine B.out.mono ?_;rintro e w2⟨rfl,V2,o2,f,g,o⟩;have t:=Aa (Ab f (d.out.2.trans o));have C:=Aa (l.out.trans g);clear f g o));go_end0;exact⟨rfl,V2,o2,t.out.1,C.out,t.out.2.toFw⟩
   |false=>rw[Ah (by decide)]at a;obtain rfl:=Bk a;clear a;go_wp2_with(go_at_call 187;refine q.out.mono ?_;rintro e H⟨rfl,x,u,f,g,o⟩;have d:=Aa (Ab f o);have l:=Aa (E.out.trans g);clear f g o);go_end0;exact⟨rfl,x,u,d.out.1,l.out,d.out.2.toFw⟩
  ·rw[Ah K]at a
   have d18:(op==18)=false:=by simpa using K
   by_cases S:op=11
   ·rw[Ai S]at a
    replace a:=bind_some a;obtain⟨s1,hc,a⟩:=a;have q:=Aa (R.out.Gm v.out.1 hc);clear hc F K;subst S;cases al with
    |true=>rw[Ai rfl]at a;obtain rfl:=Bk a;clear a;go_wp2_with(go_at_call 187;refine q.out.mono ?_;rintro e H⟨rfl,x,u,f,g,o⟩;have d:=Aa (Ab f o);have l:=Aa (E.out.trans g);clear f g o);go_end0;exact⟨rfl,x,u,d.out.1,l.out,d.out.2.toFw⟩
    |false=>rw[Ah (by decide)]at a;have Q:=Aa a;clear a;go_wp2_with(first|(go_at_call 187;refine q.out.mono ?_;rintro e H⟨rfl,x,u,f,g,o⟩;have B:=Aa (f.back (g.keep v.out.1 v.out.2.1) Q.out);have d:=Aa (Ab f o);have l:=Aa (E.out.trans g);clear f g o)|(go_at_call 185;refine B.out.mono ?_;rintro e w2⟨rfl,V2,o2,f,g,o⟩;have t:=Aa (Ab f (d.out.2.trans o));have C:=Aa (l.out.trans g);clear f g o));go_end0;exact⟨rfl,V2,o2,t.out.1,C.out,t.out.2.toFw⟩
   ·rw[Ah S]at a
    have d11:(op==11)=false:=by simpa using S
    by_cases g12:op=12
    ·rw[Ai g12]at a
     subst g12;have q:=Aa (R.out.block v.out.1 a);clear a F K S;go_wp2_with(go_at_call 250;refine q.out.mono ?_;rintro e H⟨rfl,x,u,f,g,o⟩;have d:=Aa (Ab f o);have l:=Aa (E.out.trans g);clear f g o);go_end0;exact⟨rfl,x,u,d.out.1,l.out,d.out.2.toFw⟩
    ·rw[Ah g12]at a
     have d12:(op==12)=false:=by simpa using g12
     by_cases g16:op=16
     ·rw[Ai g16]at a
      subst g16;have q:=Aa (R.out.sys 16 p c n k hk v.out.1 a);clear a F K S;go_wp2_with(go_at_call 251;refine q.out.mono ?_;rintro e H⟨rfl,x,u,f,g,o⟩;have d:=Aa (Ab f o);have l:=Aa (E.out.trans g);clear f g o);go_end0;exact⟨rfl,x,u,d.out.1,l.out,d.out.2.toFw⟩
     ·rw[Ah g16]at a
      have d16:(op==16)=false:=by simpa using g16
      by_cases g20:op=20
      ·rw[Ai g20]at a
       subst g20;have q:=Aa (R.out.suspend 20 p c n k hk v.out.1 a);clear a F K S;go_wp2_with(go_at_call 252;refine q.out.mono ?_;rintro e H⟨rfl,x,u,f,g,o⟩;have d:=Aa (Ab f o);have l:=Aa (E.out.trans g);clear f g o);go_end0;exact⟨rfl,x,u,d.out.1,l.out,d.out.2.toFw⟩
      ·rw[Ah g20]at a
       have d20:(op==20)=false:=by simpa using g20
       replace a:=bind_some a;obtain⟨⟨r,s1⟩,ha,a⟩:=a;have q:=Aa (R.out.answer k hk v.out.1 v.out.2.2.1 ah.out ha);have Q:=Aa a;clear ha a F K S g12 g16 g20;go_wp2_with(first|(go_at_call 253;refine q.out.mono ?_;rintro e H⟨rfl,x,u,f,g,o⟩;have B:=Aa (f.Gm (g.keep v.out.1 v.out.2.1) Q.out);have d:=Aa (Ab f o);have l:=Aa (E.out.trans g);clear f g o)|(go_at_call 187;refine B.out.mono ?_;rintro e w2⟨rfl,V2,o2,f,g,o⟩;have t:=Aa (Ab f (d.out.2.trans o.toFw));have C:=Aa (l.out.trans g);clear f g o));go_end0;exact⟨rfl,V2,o2,t.out.1,C.out,t.out.2⟩
end
end
section
open Vm (CN)
section
variable {mb:Nat} {V:Vr} {own:Nat→Nat} {w:oZ} {s:St}
variable {w W:oZ} {b a:Nat} {x0 x1 u x2 x3 x4 u0 u1 v0 v1 v2 v3 v4:qY} {t:TypeId} {cs:Array qY}
def jK(i:CN):Value:=rE #[I U i.op,I U i.a,I U i.b,I U i.c,I U i.n]
def qm(own:Nat→Nat)(s:St)(x:G)(ins:CN)(w:oZ)(e:Ending)(w':oZ):Prop:= ∃f b c a,s.funcs[x.fn.toNat]?=Z f∧0<f.code.length∧e=rC (rG #[rE #[.slice b f.code.length c,a],jK ins])∧FO.Bs w a f.safe∧(∀j,a.ownBlock=Z j→own j=14)∧qZ w.heap.size w w'
theorem mh(h:Cx w b #[x0,x1] t):Cx (w.setCell ⟨b,0,N⟩ u) b #[u,x1] t:=h.set 0 u
theorem mi(h:Cx w b #[x0,x1] t):Cx (w.setCell ⟨b,1,N⟩ u) b #[x0,u] t:=h.set 1 u
theorem ZK(h:Cx w b #[x0,x1,x2,x3,x4] t):Cx (w.setCell ⟨b,0,N⟩ u) b #[u,x1,x2,x3,x4] t:=h.set 0 u
theorem ZL(h:Cx w b #[x0,x1,x2,x3,x4] t):Cx (w.setCell ⟨b,1,N⟩ u) b #[x0,u,x2,x3,x4] t:=h.set 1 u
theorem ZM(h:Cx w b #[x0,x1,x2,x3,x4] t):Cx (w.setCell ⟨b,2,N⟩ u) b #[x0,x1,u,x3,x4] t:=h.set 2 u
theorem ZN(h:Cx w b #[x0,x1,x2,x3,x4] t):Cx (w.setCell ⟨b,3,N⟩ u) b #[x0,x1,x2,u,x4] t:=h.set 3 u
theorem ZO(h:Cx w b #[x0,x1,x2,x3,x4] t):Cx (w.setCell ⟨b,4,N⟩ u) b #[x0,x1,x2,x3,u] t:=h.set 4 u
theorem oI(h:Cx w b cs t)(c: ¬a=b):Cx ((w.setCell ⟨a,0,N⟩ u0).setCell ⟨a,1,N⟩ u1) b cs t:=h.only (oset (oset (Ds a w) 0 u0) 1 u1) (fun e=>c e.symm)
theorem oJ{u2 u3 u4:qY}(h:Cx w b cs t)(c: ¬a=b):Cx (((((w.setCell ⟨a,0,N⟩ u0).setCell ⟨a,1,N⟩ u1).setCell ⟨a,2,N⟩ u2).setCell ⟨a,3,N⟩ u3).setCell ⟨a,4,N⟩ u4) b cs t:=h.only (oset (oset (oset (oset (oset (Ds a w) 0 u0) 1 u1) 2 u2) 3 u3) 4 u4) (fun e=>c e.symm)
theorem Hc(h:Cx w b cs t):Cx w.drew b cs t:=h
theorem mj{d f g y3 y4:qY}(h:Cx W a #[x0,x1] 87)(i:Cx W b #[d,f,g,y3,y4] 84)(c: ¬a=b):Cx ((((((((W.setCell ⟨a,0,N⟩ u0).setCell ⟨a,1,N⟩ u1).setCell ⟨b,0,N⟩ v0).setCell ⟨b,1,N⟩ v1).setCell ⟨b,2,N⟩ v2).setCell ⟨b,3,N⟩ v3).setCell ⟨b,4,N⟩ v4).drew) a #[u0,u1] 87∧Cx ((((((((W.setCell ⟨a,0,N⟩ u0).setCell ⟨a,1,N⟩ u1).setCell ⟨b,0,N⟩ v0).setCell ⟨b,1,N⟩ v1).setCell ⟨b,2,N⟩ v2).setCell ⟨b,3,N⟩ v3).setCell ⟨b,4,N⟩ v4).drew) b #[v0,v1,v2,v3,v4] 84:=⟨Hc (oJ (mi (mh h)) (fun e=>c e.symm)),Hc (ZO (ZN (ZM (ZL (ZK (oI i c))))))⟩
theorem MS{S:Nat→Prop}{a:oZ}{c:Nat}(h:Cv S a w)(b:S c)(i:Nat)(u:qY):Cv S a (w.setCell ⟨c,i,N⟩ u):=h.set (.inr b) i u
theorem fp:Cv (fun j=>j=a∨j=b) W ((((((((W.setCell ⟨a,0,N⟩ u0).setCell ⟨a,1,N⟩ u1).setCell ⟨b,0,N⟩ v0).setCell ⟨b,1,N⟩ v1).setCell ⟨b,2,N⟩ v2).setCell ⟨b,3,N⟩ v3).setCell ⟨b,4,N⟩ v4).drew):=by have d:(fun j=>j=a∨j=b) a:=.inl rfl;have c:(fun j=>j=a∨j=b) b:=.inr rfl;exact(MS (MS (MS (MS (MS (MS (MS (Cv.refl _ W) d 0 u0) d 1 u1) c 0 v0) c 1 v1) c 2 v2) c 3 v3) c 4 v4).drew
theorem jL{tmps:Array qY}{Q:Ending→oZ→Prop}(d:Cx W a #[u0,u1] 87)(c:Cx W b #[v0,v1,v2,v3,v4] 84)(t4:tmps[4]?.getD undef=ptr a)(t5:tmps[5]?.getD undef=ptr b)(k:Q (rC (rG #[rE #[u0,u1],rE #[v0,v1,v2,v3,v4]])) W):bodyPost prog f177 Q Exit.ret {tmps:=tmps,defers:=[]} W:=by have e:=d.cell 0;have k1:=d.cell 1;have f:=c.cell 0;have g:=c.cell 1;have h:=c.cell 2;have i:=c.cell 3;have j:=c.cell 4;simp only[Ad,Ag,Ac]at e k1 f g h i j;exact AG (v:=rG #[rE #[u0,u1],rE #[v0,v1,v2,v3,v4]]) (by simp[results,results177,go_sem,t4,t5,e,k1,f,g,h,i,j]) rfl k
theorem CC.at_(h:CC mb V own w s){i:Nat}{x:G}{ins:CN}(hb:own b=20+5*i)(hi:s.gs[i]?=Z x)(R:E9 s x=Z ins):re prog 177 #[ptr mb,ptr b] w (qm own s x ins w):=by
 unfold E9 at R;obtain⟨⟨h0,h1⟩,R⟩:=CQ R;obtain⟨f,S,hc⟩:=bind_some R;obtain⟨y,D⟩: ∃y:Nat,x.fn=y:=⟨x.fn.toNat,by omega⟩;obtain⟨g,E⟩: ∃g:Nat,x.Dt=g:=⟨x.Dt.toNat,by omega⟩;have HF:Hid (s.funcs[x.fn.toNat]?=Z f):=Aa S;rw[D,An]at S;rw[E,An]at hc;obtain⟨P,T,pc,X,z,ag,aa⟩:=h.prog;have ah:=Cz S;have ai:=Cz hc;obtain⟨a,co,A,n,r,sc,a1,a2,a3,a4,a5,a6,a7,a8⟩:=(aa y ah).at_;rw[S]at a1 a2 a7 a8;simp only[AQ]at a1 a2 a7 a8;have a9:=a7 g ai;rw[hc]at a9;simp only[AQ]at a9;obtain⟨b0,b1,b2,b3,b4⟩:=a9;have c1:=h.c1;rw[X]at c1;have g2:w.cell? ⟨b,2,N⟩=Z (I U y):=by obtain⟨_,_,sv,u,_⟩:=h.Hi hb hi;rw[←D];exact u.cell 2
 have g3:w.cell? ⟨b,3,N⟩=Z (I U g):=by obtain⟨_,_,sv,u,_⟩:=h.Hi hb hi;rw[←E];exact u.cell 3
 have F:=h.Nc;have B:b<w.heap.size:=by obtain⟨_,_,sv,u,_⟩:=h.Hi hb hi;exact u.lt
 have aj:Hid (FO.Bs w (Y (Z ⟨n,r,N⟩) f.safe.length sc) f.safe):=⟨n,r,sc,rfl,a4,a8⟩;have ab:Hid (∀j,(Y (Z ⟨n,r,N⟩) f.safe.length sc).ownBlock=Z j→own j=14):=fun j hj=>by
  have e:n=j:=by simpa[Value.ownBlock]using hj
  rw[←e];exact a6
 have HH:=Aa h;generalize ak:s.funcs.length=nf at*
 generalize ad:f.code.length=C at*
 generalize ae:f.safe.length=ns at*
 have HN:=Aa (Ab ad ae);obtain⟨op,ia,ib,ic,im⟩:=ins;simp only at b0 b1 b2 b3 b4;clear h hb hi h0 h1 R S hc D E X ag aa a5 a6 a7 a8 ak ad ae;obtain⟨W,o⟩: ∃W,(w.alloc (rD #[Y N 0 0,Y N 0 0] 87)).alloc (rD #[I U 0,I U 0,I U 0,I U 0,I U 0] 84)=W:=⟨_,rfl⟩;have t:qZ w.heap.size w W:=by rw[←o];exact Ct (Ct (rf _ _) _) _
 have v:Cx W w.heap.size #[Y N 0 0,Y N 0 0] 87:=by rw[←o];exact(Cx.new w _ 87).below (Ct (rf _ _) _) (by simp)
 have l:Cx W (w.heap.size+1) #[I U 0,I U 0,I U 0,I U 0,I U 0] 84:=by have k:=Cx.new (w.alloc (rD #[Y N 0 0,Y N 0 0] 87)) #[I U 0,I U 0,I U 0,I U 0,I U 0] 84;rw[o]at k;simpa using k
 have ao:W.heap.size=w.heap.size+2:=by rw[←o];simp
 rw[←t.cell (p:=⟨mb,1,N⟩) F]at c1;rw[←t.cell (p:=⟨b,2,N⟩) B]at g2;rw[←t.cell (p:=⟨b,3,N⟩) B]at g3;rw[←t.cell (p:=⟨P,T+y*2,N⟩) z]at a1;rw[←t.cell (p:=⟨P,T+y*2+1,N⟩) z]at a2;rw[←t.cell (p:=⟨a,co+g*5,N⟩) a3]at b0;rw[←t.cell (p:=⟨a,co+g*5+1,N⟩) a3]at b1;rw[←t.cell (p:=⟨a,co+g*5+2,N⟩) a3]at b2;rw[←t.cell (p:=⟨a,co+g*5+3,N⟩) a3]at b3;rw[←t.cell (p:=⟨a,co+g*5+4,N⟩) a3]at b4;have HW:=Aa t;go_enter func177,ntmps177;go_wp2;have k1: ¬mb=W.heap.size:=by omega
 have k2: ¬b=W.heap.size:=by omega
 have k3: ¬P=W.heap.size:=by omega
 have k4: ¬a=W.heap.size:=by omega
 obtain⟨c,H⟩: ∃c,w.heap.size+1=c:=⟨_,rfl⟩;rw[H]at l⊢;obtain⟨m,K⟩: ∃m,w.heap.size=m:=⟨_,rfl⟩;have k5: ¬m=W.heap.size:=by omega
 have k6: ¬c=W.heap.size:=by omega
 have k7: ¬mb=m:=by omega
 have k8: ¬mb=c:=by omega
 have k9: ¬b=m:=by omega
 have Rz: ¬b=c:=by omega
 have ps: ¬m=b:=by omega
 have gZ: ¬c=b:=by omega
 have pt: ¬m=a:=by omega
 have px: ¬c=a:=by omega
 have X5: ¬m=c:=by omega
 have eL: ¬c=m:=by omega
 have py: ¬a=m:=by omega
 have pA: ¬a=c:=by omega
 rw[K]at v⊢;have HB:=Aa (Ab v l);have HL:=Aa (Ab o (Ab K H));have HC:=Aa (Ab F (Ab B (Ab z a3)));clear t ao o K H F B z a3 v l;go_region_held3(fun q=>q.cell? ⟨mb,1,N⟩=Z (Y (Z ⟨P,T,N⟩) nf pc)∧q.cell? ⟨b,2,N⟩=Z (I U y)∧q.cell? ⟨P,T+y*2,N⟩=Z (Y (Z ⟨a,co,N⟩) C A)∧q.cell? ⟨P,T+y*2+1,N⟩=Z (Y (Z ⟨n,r,N⟩) ns sc)) (go_keep) (fail);have L:Cx (W.alloc (rD #[Y (Z ⟨a,co,N⟩) C A,Y (Z ⟨n,r,N⟩) ns sc] 87)).drew W.heap.size #[Y (Z ⟨a,co,N⟩) C A,Y (Z ⟨n,r,N⟩) ns sc] 87:=Cx.new W _ 87;have d:qZ W.heap.size W (W.alloc (rD #[Y (Z ⟨a,co,N⟩) C A,Y (Z ⟨n,r,N⟩) ns sc] 87)).drew:=(Ct (rf _ _) _).drew;clear c1 g2 a1 a2;generalize(W.alloc (rD #[Y (Z ⟨a,co,N⟩) C A,Y (Z ⟨n,r,N⟩) ns sc] 87)).drew=W2 at*
 have M:=HW.out.size;have q1:b<W.heap.size:=Am HC.out.2.1 M;have Q:a<W.heap.size:=Am HC.out.2.2.2 M;rw[←d.cell (p:=⟨b,3,N⟩) q1]at g3;rw[←d.cell (p:=⟨a,co+g*5,N⟩) Q]at b0;rw[←d.cell (p:=⟨a,co+g*5+1,N⟩) Q]at b1;rw[←d.cell (p:=⟨a,co+g*5+2,N⟩) Q]at b2;rw[←d.cell (p:=⟨a,co+g*5+3,N⟩) Q]at b3;rw[←d.cell (p:=⟨a,co+g*5+4,N⟩) Q]at b4;have v:=HB.out.1.below d HB.out.1.lt;have l:=HB.out.2.below d HB.out.2.lt;have t40:=v.cell 0;have t41:=v.cell 1;have t50:=l.cell 0;have t51:=l.cell 1;have t52:=l.cell 2;have t53:=l.cell 3;have t54:=l.cell 4;have u40:=v.free 0;have u41:=v.free 1;have u50:=l.free 0;have u51:=l.free 1;have u52:=l.free 2;have u53:=l.free 3;have u54:=l.free 4;have t60:=L.cell 0;have t61:=L.cell 1;simp only[Ad,Ac,Ag]at t40 t41 t50 t51 t52 t53 t54 t60 t61;have O:=Aa (Ab HW.out (Ab d HW.out.size));have HK:=Aa (Ab v l);clear M q1 Q v l L d;have pB: ¬W.heap.size=m:=fun e=>k5 e.symm;have ny: ¬W.heap.size=c:=fun e=>k6 e.symm;generalize W.heap.size=L6 at*
 go_wp2;go_region_held3(fun q=>q.cell? ⟨b,3,N⟩=Z (I U g)∧q.cell? ⟨L6,0,N⟩=Z (Y (Z ⟨a,co,N⟩) C A)∧q.cell? ⟨L6,1,N⟩=Z (Y (Z ⟨n,r,N⟩) ns sc)∧q.cell? ⟨a,co+g*5,N⟩=Z (I U op)∧q.cell? ⟨a,co+g*5+1,N⟩=Z (I U ia)∧q.cell? ⟨a,co+g*5+2,N⟩=Z (I U ib)∧q.cell? ⟨a,co+g*5+3,N⟩=Z (I U ic)∧q.cell? ⟨a,co+g*5+4,N⟩=Z (I U im)) (go_keep) (fail);have af:=HK.out;obtain⟨A4,A5⟩:=mj (u0:=Y (Z ⟨a,co,N⟩) C A) (u1:=Y (Z ⟨n,r,N⟩) ns sc) (v0:=I U op) (v1:=I U ia) (v2:=I U ib) (v3:=I U ic) (v4:=I U im) af.1 af.2 X5;have hO:Cv (fun j=>j=m∨j=c) W2 (((((((W2.setCell ⟨m,0,N⟩ (Y (Z ⟨a,co,N⟩) C A)).setCell ⟨m,1,N⟩ (Y (Z ⟨n,r,N⟩) ns sc)).setCell ⟨c,0,N⟩ (I U op)).setCell ⟨c,1,N⟩ (I U ia)).setCell ⟨c,2,N⟩ (I U ib)).setCell ⟨c,3,N⟩ (I U ic)).setCell ⟨c,4,N⟩ (I U im)).drew:=fp;clear t40 t41 t50 t51 t52 t53 t54 u40 u41 u50 u51 u52 u53 u54 t60 t61 b0 b1 b2 b3 b4 g3;generalize(((((((W2.setCell ⟨m,0,N⟩ (Y (Z ⟨a,co,N⟩) C A)).setCell ⟨m,1,N⟩ (Y (Z ⟨n,r,N⟩) ns sc)).setCell ⟨c,0,N⟩ (I U op)).setCell ⟨c,1,N⟩ (I U ia)).setCell ⟨c,2,N⟩ (I U ib)).setCell ⟨c,3,N⟩ (I U ic)).setCell ⟨c,4,N⟩ (I U im)).drew=W3 at*
 go_wp2;have hB:qZ w.heap.size w W3:=by
  refine Ej (O.out.1.trans (O.out.2.1.mono O.out.2.2)) hO (fun j hj=>?_);rcases hj with rfl|rfl
  ·exact Nat.le_of_eq HL.out.2.1
  ·rw[←HL.out.2.2];exact Bh _
 exact jL A4 A5 rfl rfl ⟨f,_,_,_,HF.out,by have:=HN.out.1;omega,by rw[HN.out.1];rfl,aj.out,ab.out,hB⟩
end
end
section
open Vm (CN)
section
variable {mb:Nat} {V:Vr} {own:Nat→Nat} {w:oZ} {s:St}
variable {w W:oZ} {b:Nat} {x0 x1 x2 x3 x4 x5 u u0 u1 u2 u3 u4 u5:qY} {t:TypeId}
theorem ml(h:Cx w b #[x0,x1,x2,x3,x4,x5] t):Cx (w.setCell ⟨b,0,N⟩ u) b #[u,x1,x2,x3,x4,x5] t:=h.set 0 u
theorem mm(h:Cx w b #[x0,x1,x2,x3,x4,x5] t):Cx (w.setCell ⟨b,1,N⟩ u) b #[x0,u,x2,x3,x4,x5] t:=h.set 1 u
theorem mn(h:Cx w b #[x0,x1,x2,x3,x4,x5] t):Cx (w.setCell ⟨b,2,N⟩ u) b #[x0,x1,u,x3,x4,x5] t:=h.set 2 u
theorem mo(h:Cx w b #[x0,x1,x2,x3,x4,x5] t):Cx (w.setCell ⟨b,3,N⟩ u) b #[x0,x1,x2,u,x4,x5] t:=h.set 3 u
theorem mq(h:Cx w b #[x0,x1,x2,x3,x4,x5] t):Cx (w.setCell ⟨b,4,N⟩ u) b #[x0,x1,x2,x3,u,x5] t:=h.set 4 u
theorem mr(h:Cx w b #[x0,x1,x2,x3,x4,x5] t):Cx (w.setCell ⟨b,5,N⟩ u) b #[x0,x1,x2,x3,x4,u] t:=h.set 5 u
theorem ZP(h:Cx W b #[x0,x1,x2,x3,x4,x5] 270):Cx ((((((W.setCell ⟨b,0,N⟩ u0).setCell ⟨b,1,N⟩ u1).setCell ⟨b,2,N⟩ u2).setCell ⟨b,3,N⟩ u3).setCell ⟨b,4,N⟩ u4).setCell ⟨b,5,N⟩ u5) b #[u0,u1,u2,u3,u4,u5] 270:=mr (mq (mo (mn (mm (ml h)))))
theorem ft{tmps:Array qY}{Q:Ending→oZ→Prop}(h:Cx W b #[u0,u1,u2,u3,u4,u5] 270)(t4:tmps[4]?.getD undef=ptr b)(c:Q (rC (rE #[u0,u1,u2,u3,u4,u5])) W):bodyPost prog f179 Q Exit.ret {tmps:=tmps,defers:=[]} W:=by have a:=h.cell 0;have k1:=h.cell 1;have k2:=h.cell 2;have k3:=h.cell 3;have k4:=h.cell 4;have k5:=h.cell 5;simp only[Ad,Ag,Ac]at a k1 k2 k3 k4 k5;exact AG (v:=rE #[u0,u1,u2,u3,u4,u5]) (by simp[results,results179,go_sem,t4,a,k1,k2,k3,k4,k5]) rfl c
theorem CC.flags(h:CC mb V own w s){xb j i n:Nat}{y:M1}{x:G}{a:Pc}(D:own xb=22+5*j)(o:s.ms[j]?=Z y)(P:own b=20+5*i)(Q:s.gs[i]?=Z x)(x2:w.cell? ⟨xb,2,N⟩=Z (ptr b))(hp:y.p=(n:Int))(R:s.asked[n]?=Z a):re prog 179 #[ptr mb,ptr xb] w fun e d=>e=rC (FO.Pk y.CR a.pre a.Eg s.sc.Cy (x.C9 !=0) (decide (20≤y.used)))∧qZ w.heap.size w d:=by
 obtain⟨g,cap,hv,hg,n1,n2,S,a0,a1,a2,f0,f1,f2⟩:=h.ask R;have c7:=h.c7;rw[hv]at c7;have JY:=h.JY;have q:(n:Int)<(s.asked.length:Int):=by have:=Cz R;omega
 have x1:=Lz (h.CW D o);rw[hp]at x1;have x4:=nt (h.CW D o);have x5:=nu (h.CW D o);have r:w.cell? ⟨b,18,N⟩=Z (I U x.C9):=by obtain⟨_,_,sv,t,_⟩:=h.Hi P Q;exact t.cell 18
 have E:=h.Nc;have m:=(h.CW D o).lt;have F:b<w.heap.size:=by obtain⟨_,_,sv,t,_⟩:=h.Hi P Q;exact t.lt
 obtain⟨ap,l,ac⟩:=a;obtain⟨u,H⟩: ∃u,x.C9=u:=⟨_,rfl⟩;obtain⟨st,K⟩: ∃st,s.sc.Cy=st:=⟨_,rfl⟩;obtain⟨v,L⟩: ∃v,y.CR=v:=⟨_,rfl⟩;obtain⟨us,M⟩: ∃us,y.used=us:=⟨_,rfl⟩;rw[H]at r⊢;rw[K]at JY⊢;rw[L]at x4⊢;rw[M]at x5⊢;simp only at a0 a1 a2⊢;generalize s.asked.length=na at*
 clear h D o P Q hp R hv hg H K L M f0 f1 f2;have e1:mb<w.heap.size+1:=by omega
 have e2:xb<w.heap.size+1:=by omega
 have e3:b<w.heap.size+1:=by omega
 have e4:g<w.heap.size+1:=by omega
 go_enter func179,ntmps179;go_wp2;go_region_held3(fun d=>d.cell? ⟨mb,7,N⟩=Z (Y (Z ⟨g,0,N⟩) na cap)∧d.cell? ⟨xb,1,N⟩=Z (I U n)∧d.cell? ⟨g,n*3,N⟩=Z (ry ap)∧d.cell? ⟨g,n*3+1,N⟩=Z (ry l)∧d.cell? ⟨g,n*3+2,N⟩=Z (I U ac)) (go_keep) (fail);rename_i T;clear T;have z:qZ w.heap.size w (((w.alloc (rD #[ry rm,ry rm,ry rm,ry rm,ry rm,ry rm] 270)).alloc (rD #[ry ap,ry l,I U ac] 139)).drew):=(Ct (Ct (rf _ _) _) _).drew;have f:Cx ((((w.alloc (rD #[ry rm,ry rm,ry rm,ry rm,ry rm,ry rm] 270)).alloc (rD #[ry ap,ry l,I U ac] 139)).drew)) w.heap.size #[ry rm,ry rm,ry rm,ry rm,ry rm,ry rm] 270:=Hc ((Cx.new w _ 270).below (Ct (rf _ _) _) (by simp));have X:Cx ((((w.alloc (rD #[ry rm,ry rm,ry rm,ry rm,ry rm,ry rm] 270)).alloc (rD #[ry ap,ry l,I U ac] 139)).drew)) (w.heap.size+1) #[ry ap,ry l,I U ac] 139:=by have k:=Cx.new (w.alloc (rD #[ry rm,ry rm,ry rm,ry rm,ry rm,ry rm] 270)) #[ry ap,ry l,I U ac] 139;simpa using Hc k
 rw[←z.cell (p:=⟨mb,18,N⟩) E]at JY;rw[←z.cell (p:=⟨xb,2,N⟩) m]at x2;rw[←z.cell (p:=⟨xb,4,N⟩) m]at x4;rw[←z.cell (p:=⟨xb,5,N⟩) m]at x5;rw[←z.cell (p:=⟨b,18,N⟩) F]at r;clear a0 a1 a2 c7 x1;generalize(((w.alloc (rD #[ry rm,ry rm,ry rm,ry rm,ry rm,ry rm] 270)).alloc (rD #[ry ap,ry l,I U ac] 139)).drew)=W at*
 have t0:=f.cell 0;have t1:=f.cell 1;have t2:=f.cell 2;have t3:=f.cell 3;have t4:=f.cell 4;have t5:=f.cell 5;have f0:=f.free 0;have f1:=f.free 1;have f2:=f.free 2;have f3:=f.free 3;have f4:=f.free 4;have f5:=f.free 5;have p0:=X.cell 0;have p1:=X.cell 1;simp only[Ad,Ac,Ag]at t0 t1 t2 t3 t4 t5 p0 p1;obtain⟨C,O⟩: ∃C,w.heap.size+1=C:=⟨_,rfl⟩;obtain⟨c,B⟩: ∃c,w.heap.size=c:=⟨_,rfl⟩;have k1: ¬mb=c:=by omega
 have k2: ¬xb=c:=by omega
 have k3: ¬b=c:=by omega
 have k4: ¬C=c:=by omega
 have k5: ¬c=mb:=by omega
 have k6: ¬c=xb:=by omega
 have k7: ¬c=b:=by omega
 have k8: ¬c=C:=by omega
 rw[O]at p0 p1⊢;rw[B]at t0 t1 t2 t3 t4 t5 f0 f1 f2 f3 f4 f5 f⊢;have HL:=Aa (Ab z (Ab B f));clear z B O f X E m F S e1 e2 e3 e4;go_wp2;go_region_held3(fun d=>d.cell? ⟨mb,18,N⟩=Z (ry st)∧d.cell? ⟨xb,2,N⟩=Z (ptr b)∧d.cell? ⟨xb,4,N⟩=Z (ry v)∧d.cell? ⟨xb,5,N⟩=Z (I U us)∧d.cell? ⟨b,18,N⟩=Z (I U u)∧d.cell? ⟨C,0,N⟩=Z (ry ap)∧d.cell? ⟨C,1,N⟩=Z (ry l)) (go_keep) (fail);have A:Cx (((((((W.setCell ⟨c,0,N⟩ (ry v)).setCell ⟨c,1,N⟩ (ry ap)).setCell ⟨c,2,N⟩ (ry l)).setCell ⟨c,3,N⟩ (ry st)).setCell ⟨c,4,N⟩ (ry (u !=0))).setCell ⟨c,5,N⟩ (ry (decide (20≤us)))).drew) c #[ry v,ry ap,ry l,ry st,ry (u !=0),ry (decide (20≤us))] 270:=Hc (ZP HL.out.2.2);have hO:Cv (fun j=>j=c) W (((((((W.setCell ⟨c,0,N⟩ (ry v)).setCell ⟨c,1,N⟩ (ry ap)).setCell ⟨c,2,N⟩ (ry l)).setCell ⟨c,3,N⟩ (ry st)).setCell ⟨c,4,N⟩ (ry (u !=0))).setCell ⟨c,5,N⟩ (ry (decide (20≤us)))).drew):=(oset (oset (oset (oset (oset (oset (Ds c W) 0 _) 1 _) 2 _) 3 _) 4 _) 5 _).drew;clear x2 x4 x5 r JY t0 t1 t2 t3 t4 t5 f0 f1 f2 f3 f4 f5 p0 p1;rename_i T;clear T;generalize((((((W.setCell ⟨c,0,N⟩ (ry v)).setCell ⟨c,1,N⟩ (ry ap)).setCell ⟨c,2,N⟩ (ry l)).setCell ⟨c,3,N⟩ (ry st)).setCell ⟨c,4,N⟩ (ry (u !=0))).setCell ⟨c,5,N⟩ (ry (decide (20≤us)))).drew=W3 at*
 go_wp2;refine ft A rfl ⟨rfl,Ej HL.out.1 hO (fun j o=>?_)⟩;rw[show j=c from o];exact Nat.le_of_eq HL.out.2.1
end
end
section
open Vm (CN)
section
variable {mb:Nat} {V:Vr} {own:Nat→Nat} {w:oZ} {s:St}
variable {xb j b:Nat}
theorem CC.QJ(h:CC mb V own w s){y:M1}(d:own xb=22+5*j)(b:s.ms[j]?=Z y)(u:Bool):CC mb V own (w.setCell ⟨xb,4,N⟩ (ry u)) (s.CM j {y with CR:=u})∧Ext own w own (w.setCell ⟨xb,4,N⟩ (ry u)):=by have a:=h.bZ d b;have e:=oset (Ds xb w) 4 (ry u);have c:=h.xg b;exact⟨h.Nj (Cz b) (by rw[←a];exact e) {y with CR:=u} c (by rw[←a];exact Sy (h.CW d b) u),Dx e (by omega)⟩
theorem CC.mw(h:CC mb V own w s){i:Nat}{x:G}(op g c n:Int)(k:Nat)(H:k<8)(t:own b=20+5*i)(y:s.gs[i]?=Z x):re prog 181 #[ptr mb,ptr b,rE #[I U op,I U k,I U g,I U c,I U n]] w fun e L=>e=rC (ry (KV s i x ⟨op,k,g,c,n⟩))∧qZ w.heap.size w L:=by
 have u:=Aa (fun W(v:qZ w.heap.size w W)=>(h.below v).next op g c n k t y H);obtain⟨a,z⟩: ∃a,D1 s i (tgt s x k)=a:=⟨_,rfl⟩;rw[z]at u;have M:=(h.Uk t y).1;have O:=h.CU t (by omega);have nb: ¬b=w.heap.size:=by omega
 have m:Hid (KV s i x ⟨op,k,g,c,n⟩=(decide (op=20)&&x.begun&&decide (a≠3∧a≠2))):=by show _=_;unfold KV;rw[←z]
 have K:Hid (∀W,qZ (w.alloc (rD #[I U op,I U k,I U g,I U c,I U n] 84)).heap.size (w.alloc (rD #[I U op,I U k,I U g,I U c,I U n] 84)) W→
   W.cell? ⟨w.heap.size,0,N⟩=Z (I U op)∧W.cell? ⟨w.heap.size,1,N⟩=Z (I U k)∧W.cell? ⟨w.heap.size,2,N⟩=Z (I U g)∧W.cell? ⟨w.heap.size,3,N⟩=Z (I U c)∧W.cell? ⟨w.heap.size,4,N⟩=Z (I U n)∧qZ w.heap.size w W):=fun W v=>by
  have o:=(Cx.new w #[I U op,I U k,I U g,I U c,I U n] 84).below v (by simp);exact⟨o.cell 0,o.cell 1,o.cell 2,o.cell 3,o.cell 4,Cu (Ct (rf w.heap.size w) _) v⟩
 obtain⟨P,Q,R,S,T,p⟩:=K.out _ (rf _ _);have d:=Aa p;clear h t y H z p;generalize x.begun=X at*
 by_cases j:op=20
 ·subst j
  cases X with
  |false=>go_enter func181,ntmps181;go_wp2;go_ret;exact⟨by rw[m.out];rfl,d.out⟩
  |true=>
   by_cases A:a=3
   ·subst A
    go_enter func181,ntmps181;go_wp2_with(go_at_call 255;refine(u.out _ d.out).mono ?_;rintro e w1⟨rfl,f⟩;have l:=Aa (Cu d.out f);clear f);go_ret;exact⟨by rw[m.out];rfl,l.out⟩
   ·have d3:(a !=3)=true:=by simpa using A
    obtain⟨B,C⟩: ∃B,(a !=2)=B:=⟨_,rfl⟩;have D:Hid (KV s i x ⟨20,k,g,c,n⟩=B):=by show _=_;rw[m.out,←C];by_cases e:a=2<;>simp[e,A]
    clear m;go_enter func181,ntmps181;go_wp2_with(go_at_call 255;first|(have E:=l.out;refine(u.out _ E).mono ?_;rintro e w2⟨rfl,q⟩;have F:=Aa (Cu E q);clear q E)|(refine(u.out _ d.out).mono ?_;rintro e w1⟨rfl,f⟩;obtain⟨P,Q,R,S,T,r⟩:=K.out _ f;have l:=Aa r;clear f r));go_ret;exact⟨by rw[D.out];rfl,F.out⟩
 ·have d20:(op==20)=false:=by simpa using j
  go_enter func181,ntmps181;go_wp2;go_ret;exact⟨by rw[m.out];simp[j],d.out⟩
def NU(a:Int):Value:=if a=0 then .nilFunc else if a=1 then .func (.func 117) #[] #[]else if a=2 then .func (.func 118) #[] #[]else if a=3 then .func (.func 119) #[] #[]else if a=4 then .func (.func 120) #[] #[]else if a=5 then .func (.func 121) #[] #[]else .nilFunc
theorem CC.does(h:CC mb V own w s){y:M1}{a:Int}(c:own xb=22+5*j)(d:s.ms[j]?=Z y)(b:y.phase=a):re prog 54 #[ptr xb] w fun e f=>e=rC (NU a)∧f=w:=by
 have g:=VP (h.CW c d);rw[b]at g;clear b h c d;by_cases i:1≤a∧a≤5
 ·obtain rfl|rfl|rfl|rfl|rfl:a=1∨a=2∨a=3∨a=4∨a=5:=by omega
  all_goals
   go_enter func54,ntmps54;go_wp2;go_ret;exact⟨rfl,rfl⟩
 ·have d1:(a==1)=false:=by simp;omega
  have d2:(a==2)=false:=by simp;omega
  have d3:(a==3)=false:=by simp;omega
  have d4:(a==4)=false:=by simp;omega
  have d5:(a==5)=false:=by simp;omega
  rw[show NU a= .nilFunc by unfold NU;(repeat' split)<;>first|rfl|(exfalso;omega)];go_enter func54,ntmps54;go_wp2;go_ret;exact⟨rfl,rfl⟩
theorem fw{W:oZ}{x0 x1 x2 x3 x4 x5 u0 u1 u2 u3 u4 u5:qY}(h:Cx W b #[x0,x1,x2,x3,x4,x5] 270):Cx ((((((W.setCell ⟨b,0,N⟩ u0).setCell ⟨b,1,N⟩ u1).setCell ⟨b,2,N⟩ u2).setCell ⟨b,3,N⟩ u3).setCell ⟨b,4,N⟩ u4).setCell ⟨b,5,N⟩ u5) b #[u0,u1,u2,u3,u4,u5] 270∧Cv (fun j=>j=b) W ((((((W.setCell ⟨b,0,N⟩ u0).setCell ⟨b,1,N⟩ u1).setCell ⟨b,2,N⟩ u2).setCell ⟨b,3,N⟩ u3).setCell ⟨b,4,N⟩ u4).setCell ⟨b,5,N⟩ u5):=⟨ZP h,oset (oset (oset (oset (oset (oset (Ds b W) 0 _) 1 _) 2 _) 3 _) 4 _) 5 _⟩
theorem CC.clear(h:CC mb V own w s){t:Nat}{y:M1}{act:Int}{s':St}(a p b st n sp:Bool)(F:act=2∨act=3∨act=4)(P:own xb=22+5*j)(l:s.ms[j]?=Z y)(Q:y.p=(t:Int))(c:Hr s j y.p=Z s'):re prog 182 #[ptr mb,ptr xb,rE #[ry a,ry p,ry b,ry st,ry n,ry sp],I U act] w (Da mb V own w unit s'):=by
 unfold Hr at c;rw[l,Q,An]at c;cases G:s.asked[t]? with
 |none=>rw[G]at c;cases c
 |some q=>
 rw[G]at c;dsimp only at c;replace c:=CQ c;obtain⟨_,c⟩:=c;simp only[Ak]at c;have O0:Obj:=rD #[ry a,ry p,ry b,ry st,ry n,ry sp] 270;have x:=(h.CW P l).lt;have hL:=h.fresh w.heap.size (Al _);have h0:=h.alloc (rD #[ry a,ry p,ry b,ry st,ry n,ry sp] 270);have E0:=(Ext.refl own w).alloc (rD #[ry a,ry p,ry b,ry st,ry n,ry sp] 270);have B0:Cx (w.alloc (rD #[ry a,ry p,ry b,ry st,ry n,ry sp] 270)) w.heap.size #[ry a,ry p,ry b,ry st,ry n,ry sp] 270:=Cx.new w _ 270;have R:=Aa (fun W=>FO.U7 a p b st n sp act W F);unfold FO.Pk at R;have u:=Aa (Ab h0 (Ab E0 (Ab B0 hL)));have f:=Aa (Ab P (Ab x (Ab l (Ab Q (Ab G c)))));have z:FO.U6 a act=false:=by unfold FO.U6;rw[Ai F]
 have A:FO.U6 p act=false:=by unfold FO.U6;rw[Ai F]
 clear h h0 E0 B0 hL P x l Q G c F O0;go_enter func182,ntmps182;go_wp2_with(go_at_call 256;refine(R.out _).mono ?_;rintro e w1⟨S,kP,o,r,rfl,T⟩;unfold FO.Pk;rw[z,A];have d:=u.out.2.2.1.below T u.out.2.2.1.lt;have H:=d.cell 0;have K:=d.cell 1;have q2:=d.cell 2;have q3:=d.cell 3;have q4:=d.cell 4;have q5:=d.cell 5;have f0:=d.free 0;have f1:=d.free 1;have f2:=d.free 2;have f3:=d.free 3;have f4:=d.free 4;have f5:=d.free 5;simp only[Ad,Ac,Ag]at H K q2 q3 q4 q5;have M:=Aa (Ab d T);clear d T);clear H K q2 q3 q4 q5 f0 f1 f2 f3 f4 f5;obtain⟨X,hO⟩:=fw (u0:=ry rm) (u1:=ry rm) (u2:=ry S) (u3:=ry kP) (u4:=ry o) (u5:=ry r) M.out.1;have k:=(u.out.1.below M.out.2).loc hO (fun j l=>by rw[show j=w.heap.size from l];exact u.out.2.2.2);have B:Ext own w own (((((((w1.setCell ⟨w.heap.size,0,N⟩ (ry rm)).setCell ⟨w.heap.size,1,N⟩ (ry rm)).setCell ⟨w.heap.size,2,N⟩ (ry S)).setCell ⟨w.heap.size,3,N⟩ (ry kP)).setCell ⟨w.heap.size,4,N⟩ (ry o)).setCell ⟨w.heap.size,5,N⟩ (ry r))):=⟨(u.out.2.1.trans (Ext.below M.out.2)).only.andThen hO (fun j l c=>by rw[show j=w.heap.size from c]at l;exact absurd l (Zbq _)),fun _ _=>rfl⟩;have H:=X.cell 0;have K:=X.cell 1;simp only[Ad,Ac,Ag]at H K;clear X hO R z A;generalize((((((w1.setCell ⟨w.heap.size,0,N⟩ (ry rm)).setCell ⟨w.heap.size,1,N⟩ (ry rm)).setCell ⟨w.heap.size,2,N⟩ (ry S)).setCell ⟨w.heap.size,3,N⟩ (ry kP)).setCell ⟨w.heap.size,4,N⟩ (ry o)).setCell ⟨w.heap.size,5,N⟩ (ry r))=W at*
 obtain⟨g,cap,hv,hg,n1,n2,aa,a0,a1,a2,f0,f1,f2⟩:=k.ask f.out.2.2.2.2.1;have c7:=k.c7;rw[hv]at c7;have qk:(t:Int)<(s.asked.length:Int):=by have:=Cz f.out.2.2.2.2.1;omega
 have m:=k.CW f.out.1 f.out.2.2.1;have x1:=Lz m;rw[f.out.2.2.2.1]at x1;have x4:=nt m;have ad:=m.free 4;have m1: ¬xb=mb:=by have:=k.om;have:=f.out.1;rintro rfl;omega
 have m2: ¬mb=xb:=fun e=>m1 e.symm;have m3: ¬xb=g:=by have:=f.out.1;rintro rfl;omega
 have m4: ¬g=xb:=fun e=>m3 e.symm;have m5: ¬w.heap.size=xb:=by have:=f.out.2.1;omega
 have m6: ¬xb=w.heap.size:=by have:=f.out.2.1;omega
 have m7: ¬w.heap.size=g:=by have:=u.out.2.2.2;rintro rfl;omega
 have m8: ¬g=w.heap.size:=fun e=>m7 e.symm;have C:=Aa (Ab k (Ab B hv));clear k B hv hg aa m M;generalize ae:s.asked.length=na at*
 generalize w.heap.size=L at*
 obtain⟨am,D⟩: ∃am,y.CR=am:=⟨_,rfl⟩;rw[D]at x4;clear D;have ab: ∀(W:oZ)(v:qY),(W.setCell ⟨xb,4,N⟩ v).cell? ⟨xb,1,N⟩=W.cell? ⟨xb,1,N⟩:=fun W v=>B9 W _ _ v (by simp);obtain⟨qp,qb,qc⟩:=q;simp only at a0 a1 a2;go_region_held3(fun O=>O.cell? ⟨mb,7,N⟩=Z (Y (Z ⟨g,0,N⟩) na cap)∧O.cell? ⟨xb,1,N⟩=Z (I U t)∧O.cell? ⟨L,0,N⟩=Z (ry rm)∧O.cell? ⟨L,1,N⟩=Z (ry rm)) (go_keep) (fail);go_end0;obtain⟨R1,E1⟩:=C.out.1.QJ f.out.1 f.out.2.2.1 rm;obtain⟨E,_⟩:=R1.EL (by decide);rw[C.out.2.2]at E;have A1:=E.put (i:=t) (a:=⟨qp,qb,qc⟩) f.out.2.2.2.2.1 0 (by decide) (ry rm) ⟨rm,qb,qc⟩ rfl;obtain⟨R2,E2⟩:=R1.JE C.out.2.2 (oset (Ds g _) (t*3+0) (ry rm)) _ (by rw[C.out.2.2];exact A1);rw[←f.out.2.2.2.2.2];exact⟨rfl,own,R2.drew,C.out.2.1.trans (E1.trans (E2.trans (Ext.below DU)))⟩
end
end
section
open Vm (CN)
section
variable {mb:Nat} {V:Vr} {own:Nat→Nat} {w:oZ} {s:St}
variable {v0 v1:qY} {l:List Bool} {xb L4 L5 L6:Nat} {op a b c n:Int} {q0 q1 q2 q3 q4 q5:Bool}
structure oK (mb:Nat) (V:Vr) (own:Nat→Nat) (w:oZ) (s:St) (W:oZ) (L4 L5:Nat) (v0 v1:qY) (l:List Bool) (ins:CN):Prop where
 Gx:CC mb V own W s
 ext:Ext own w own W
 QK:Cx W L4 #[v0,v1] 87
 JO:Cx W L5 #[I U ins.op,I U ins.a,I U ins.b,I U ins.c,I U ins.n] 84
 WE:own L4=0
 o5:own L5=0
 Dy:FO.Bs W v1 l
theorem mx{w1:oZ}{ins:CN}(h:CC mb V own w s)(c:qZ w.heap.size w w1)(d:FO.Bs w v1 l):oK mb V own w s ((w1.alloc (rD #[v0,v1] 87)).alloc (rD #[I U ins.op,I U ins.a,I U ins.b,I U ins.c,I U ins.n] 84)) w1.heap.size (w1.heap.size+1) v0 v1 l ins:=by have b:qZ w.heap.size w (w1.alloc (rD #[v0,v1] 87)):=c.alloc c.size _;have a:qZ w.heap.size w ((w1.alloc (rD #[v0,v1] 87)).alloc (rD #[I U ins.op,I U ins.a,I U ins.b,I U ins.c,I U ins.n] 84)):=b.alloc b.size _;refine⟨h.below a,Ext.below a,(Cx.new w1 _ 87).below (Ct (rf _ _) _) (by simp),?_,h.fresh _ c.size,h.fresh _ (AE c.size (Bh _)),d.below a⟩;have k:=Cx.new (w1.alloc (rD #[v0,v1] 87)) #[I U ins.op,I U ins.a,I U ins.b,I U ins.c,I U ins.n] 84;simpa using k
structure SX (mb:Nat) (V:Vr) (own:Nat→Nat) (w:oZ) (s:St) (W:oZ) (L4 L5 L6:Nat) (v0 v1:qY) (l:List Bool) (op a b c n:Int) (q0 q1 q2 q3 q4 q5:Bool):Prop where
 Gx:CC mb V own W s
 ext:Ext own w own W
 QK:Cx W L4 #[v0,v1] 87
 JO:Cx W L5 #[I U op,I U a,I U b,I U c,I U n] 84
 b6:Cx W L6 #[ry q0,ry q1,ry q2,ry q3,ry q4,ry q5] 270
 WE:own L4=0
 o5:own L5=0
 o6:own L6=0
 Dy:FO.Bs W v1 l
theorem fx{w':oZ}{v:qY}(h:FO.Bs w v l)(f: ∀j,v.ownBlock=Z j→own j=14) (c:Cv (fun j=>j=xb) w w') (g:own xb≠14):FO.Bs w' v l:=by obtain⟨b,off,cap,rfl,d,k⟩:=h;have a:=f b rfl;exact⟨b,off,cap,rfl,Am d c.size,fun i m=>(AH (c.block b d (fun e=>g (by rw[←show b=xb from e];exact a)))).trans (k i m)⟩
theorem SX.below{W W':oZ}(h:SX mb V own w s W L4 L5 L6 v0 v1 l op a b c n q0 q1 q2 q3 q4 q5)(d:qZ W.heap.size W W'):SX mb V own w s W' L4 L5 L6 v0 v1 l op a b c n q0 q1 q2 q3 q4 q5:=⟨h.Gx.below d,h.ext.trans (Ext.below d),h.QK.below d h.QK.lt,h.JO.below d h.JO.lt,h.b6.below d h.b6.lt,h.WE,h.o5,h.o6,h.Dy.below d⟩
theorem SX.drewN{W:oZ}(h:SX mb V own w s W L4 L5 L6 v0 v1 l op a b c n q0 q1 q2 q3 q4 q5)(m:Nat):SX mb V own w s (W.drewN m) L4 L5 L6 v0 v1 l op a b c n q0 q1 q2 q3 q4 q5:=h.below (DA m)
theorem hZ{d g:oZ}(h:CC mb V own d s)(e:Ext own w own d)(j:Cx d L4 #[v0,v1] 87)(k:Cx d L5 #[I U op,I U a,I U b,I U c,I U n] 84)(m:own L4=0)(o5:own L5=0)(o:FO.Bs d v1 l)(i:qZ d.heap.size d g):SX mb V own w s (g.alloc (rD #[ry q0,ry q1,ry q2,ry q3,ry q4,ry q5] 270)) L4 L5 g.heap.size v0 v1 l op a b c n q0 q1 q2 q3 q4 q5:=by have f:=i.alloc i.size (rD #[ry q0,ry q1,ry q2,ry q3,ry q4,ry q5] 270);exact⟨h.below f,e.trans (Ext.below f),j.below f j.lt,k.below f k.lt,Cx.new g _ 270,m,o5,h.fresh _ i.size,o.below f⟩
theorem WG{x:G}{i:CN}(h:YS s x=Z i):E9 s x=Z i∧Fa i.a:=by unfold YS at h;obtain⟨j,b,a⟩:=bind_some h;obtain⟨c,a⟩:=CQ a;cases a;exact⟨b,c⟩
theorem CC.run(h:CC mb V own w s){j:Nat}{s':St}(hx:own xb=22+5*j)(d:OM s j=Z s'):re prog 118 #[ptr mb,ptr xb] w (YJ mb V own w unit s'):=by
 unfold OM at d;cases hj:s.ms[j]? with
 |none=>rw[hj]at d;cases d
 |some y=>
 rw[hj]at d;dsimp only at d;replace d:=CQ d;obtain⟨ay,d⟩:=d;have az:=(h.xg hj).2;obtain⟨i,ak⟩: ∃i:Nat,y.g=(i:Int)+1:=⟨(y.g-1).toNat,by omega⟩;rw[ak]at ay az d;have e2:((i:Int)+1-1).toNat=i:=by omega
 rw[e2]at d;cases hi:s.gs[i]? with
 |none=>rw[hi]at d;cases d
 |some x=>
 rw[hi]at d;dsimp only at d;obtain⟨e1,hb⟩:=h.gp ay az;rw[e2]at e1 hb;obtain⟨b,bz⟩: ∃b,V.CP i=b:=⟨_,rfl⟩;rw[bz]at e1 hb;replace d:=bind_some d;obtain⟨ins,hI,d⟩:=d;obtain⟨hI,ba⟩:=WG hI;have x2:w.cell? ⟨xb,2,N⟩=Z (ptr b):=by rw[←e1,←ak];exact RC (h.CW hx hj)
 have b7:=Aa (h.at_ hb hi hI);have b9:=h.XC hx hj;have cb:=h.eK hb hi;have HR:=Aa h;have A:=Aa (Ab hx (Ab b9 (Ab hb (Ab cb (Ab hj (Ab hi ak))))));have E:=Aa d;clear h hx hb hi hI hj ak ay az bz e1 e2 d b9 cb;obtain⟨op,ia,ib,ic,im⟩:=ins;obtain⟨k,rfl⟩: ∃k:Nat,ia=k:=⟨ia.toNat,by have:=ba.1;dsimp only at this;omega⟩;have hk:k<8:=by have:=ba.2;dsimp only at this;omega
 clear ba;unfold jK at*
 go_enter func118,ntmps118;go_wp2_with(go_at_call 177;refine b7.out.mono ?_;rintro e w1⟨f,ca,cc,sv,hf,Q,rfl,bb,cd,hB⟩;obtain⟨sb,so,sc,rfl,cf⟩:=(show FO.Bs w sv f.safe from bb);have HF:=Aa (Ab hf Q);have dk:=Aa cd;have v:=Aa (mx (v0:=.slice ca f.code.length cc) (ins:=⟨op,k,ib,ic,im⟩) HR.out hB bb);unfold jK;clear hf Q bb cf hB cd);generalize((w1.alloc (rD #[.slice ca f.code.length cc,Y (Z ⟨sb,so,N⟩) f.safe.length sc] 87)).alloc (rD #[I U op,I U k,I U ib,I U ic,I U im] 84))=W at*
 generalize w1.heap.size+1=L5 at*
 generalize w1.heap.size=L4 at*
 have dm:=v.out.ext.keep A.out.1 A.out.2.1;have dn:=A.out.2.2.1;have x2:=RC (v.out.Gx.CW A.out.1 A.out.2.2.2.2.1);rw[A.out.2.2.2.2.2.2,v.out.Gx.Kr A.out.2.2.1 A.out.2.2.2.2.2.1]at x2;have Jr:=v.out.Gx.Jr;obtain⟨hv,bc⟩: ∃hv,Eb V.CP s.sc.CD=hv:=⟨_,rfl⟩;have heq: ∀m,(binOp .eql 119 hv (ptr b)).run prog (W.drewN m)= .ok (ry (decide (s.sc.CD=(i:Int)+1))) (W.drewN m):=fun m=>by rw[←bc];exact(v.out.Gx.drewN m).Qw A.out.2.2.1 v.out.Gx.hold.1 v.out.Gx.hold.2
 rw[bc]at Jr;have ch:=Hu (.tmp 21) (.tmp 25) hv b;have d:=E.out;clear E bc dm dn b7 HR;by_cases K:s.sc.CD=(i:Int)+1
 ·rw[Ai K]at d
  have B:decide (s.sc.CD=(i:Int)+1)=true:=by simpa using K
  rw[B]at heq;have E:=Aa d;clear d K B;go_quiet(fail)
  have HD:=Aa ((v.out.Gx.drewN nq).oH k hk A.out.1 E.out);have ao:=Aa (v.out.ext.drewN nq);have B5:Cx (W.drewN nq) L5 #[I U op,I U k,I U ib,I U ic,I U im] 84:=v.out.JO;have l0:=B5.cell 0;have l1:=B5.cell 1;have l2:=B5.cell 2;have l3:=B5.cell 3;have l4:=B5.cell 4;simp only[Ad,Ac,Ag]at l0 l1 l2 l3 l4;clear B5 x2 Jr heq ch;generalize W.drewN nq=W2 at*
  go_wp2_with(go_at_call 178;refine HD.out.mono ?_;rintro e w2⟨rfl,V2,o2,hR,hE,hF⟩;have R:=Aa (Ab hR hF);have dp:=Aa (ao.out.trans hE);clear hR hE hF);go_end0;exact⟨rfl,V2,o2,R.out.1,dp.out,R.out.2⟩
 ·rw[Ah K]at d
  have B:decide (s.sc.CD=(i:Int)+1)=false:=by simpa using K
  rw[B]at heq;have E:=Aa d;clear d K B;go_quiet(fail)
  have R:=Aa (v.out.Gx.drewN nq);have y2:(W.drewN nq).cell? ⟨xb,2,N⟩=Z (ptr b):=x2;have x5:=nu ((v.out.Gx.drewN nq).CW A.out.1 A.out.2.2.2.2.1);have dt:=((v.out.Gx.drewN nq).CW A.out.1 A.out.2.2.2.2.1).free 5;have cj:=((v.out.Gx.drewN nq).Uk A.out.2.2.1 A.out.2.2.2.2.2.1).1;have ao:=Aa (v.out.ext.drewN nq);have B4:Cx (W.drewN nq) L4 #[.slice ca f.code.length cc,Y (Z ⟨sb,so,N⟩) f.safe.length sc] 87:=v.out.QK;have B5:Cx (W.drewN nq) L5 #[I U op,I U k,I U ib,I U ic,I U im] 84:=v.out.JO;have BS:FO.Bs (W.drewN nq) (Y (Z ⟨sb,so,N⟩) f.safe.length sc) f.safe:=v.out.Dy;have P:=Aa (Ab B4 (Ab B5 (Ab BS (Ab v.out.WE v.out.o5))));have n:=Aa A.out;clear x2 Jr heq ch B4 B5 BS;clear x2 v;generalize W.drewN nq=W2 at*
  obtain⟨c,hY⟩: ∃c,(if x.begun=true then({y with g:=(i:Int)+1,used:=min y.used 19}:M1)else y)=c:=⟨_,rfl⟩
  have d:=E.out;clear E;rw[hY]at d;obtain⟨S,L⟩: ∃S,(if x.begun=true then s.CM j c else s)=S:=⟨_,rfl⟩
  rw[L]at d;replace d:=CQ d;obtain⟨du,d⟩:=d;cases ha:S.asked[c.p.toNat]? with
  |none=>rw[ha]at d;cases d
  |some a=>
  have ck:S.funcs=s.funcs:=by rw[←L];split<;>rfl
  rw[ha,ck,HF.out.1]at d;dsimp only at d;obtain⟨kp,bd⟩: ∃kp:Nat,c.p=kp:=⟨c.p.toNat,by omega⟩;rw[bd,An]at ha;obtain⟨act,T⟩: ∃act,FO.IZ f.code.length f.safe x.Dt c.CR a.pre a.Eg S.sc.Cy (decide (x.C9≠0)) (decide (20≤c.used))=act:=⟨_,rfl⟩;rw[T]at d;have cl:S.ms[j]?=Z c:=by
   rw[←L];cases X:x.begun with
   |true=>rw[Ai rfl];exact I6 (Cz n.out.2.2.2.2.1)
   |false=>rw[X,Ah (by decide)]at hY;rw[Ah (by decide),←hY];exact n.out.2.2.2.2.1
  have cm:S.gs[i]?=Z x:=by rw[←L];split<;>exact n.out.2.2.2.2.2.1
  have cn:(x.C9 !=0)=decide (x.C9≠0):=by by_cases h:x.C9=0<;>simp[h]
  have Q:=HF.out.2;have E:=Aa d;have t:=Aa (Ab ha (Ab bd (Ab T (Ab cl (Ab cm cn)))));have HY:=Aa (Ab hY L);have dv:=Aa Q;clear d ha bd T cl cm cn hY L du ck Q HF;have cp:c.g=(i:Int)+1:=by rw[←HY.out.1];split<;>first|rfl|exact n.out.2.2.2.2.2.2
  have cq:=Aa t.out.2.2.2.2.2;have t:=Aa (Ab t.out.1 (Ab t.out.2.1 (Ab t.out.2.2.1 (Ab t.out.2.2.2.1 (Ab t.out.2.2.2.2.1 cp)))));clear cp;obtain⟨us,aq⟩: ∃us,y.used=us:=⟨_,rfl⟩;rw[aq]at x5;have M:=HY.out.1;have F:=HY.out.2;obtain⟨bg,X⟩: ∃bg,x.begun=bg:=⟨_,rfl⟩;rw[X]at cj M F;have eh:=Aa X;clear X;cases bg
  case' true=>
   rw[Ai rfl]at M F;obtain⟨un,aa⟩: ∃un,min us 19=un:=⟨_,rfl⟩;have dw:(us<19∨us=19)∧un=us∨19<us∧un=19:=by omega
   have HW:Hid (CC mb V own (W2.setCell ⟨xb,5,N⟩ (I U un)) S∧Ext own W2 own (W2.setCell ⟨xb,5,N⟩ (I U un))):=by have q:=R.out.gY n.out.1 n.out.2.2.2.2.1 un;rw[←F,←M,←n.out.2.2.2.2.2.2,aq,aa];exact q
   have cr:(W2.setCell ⟨xb,5,N⟩ (I U un)).cell? ⟨xb,2,N⟩=Z (ptr b):=(B9 W2 _ _ _ (by simp)).trans y2;have o:=Aa (HW.out.1.flags n.out.1 t.out.2.2.2.1 n.out.2.2.1 t.out.2.2.2.2.1 cr t.out.2.1 t.out.1);clear cr;rcases dw with⟨hu,rfl⟩|⟨hu,rfl⟩
   all_goals
    have C:=t.out.2.2.1;unfold FO.Pk at o;rw[cq.out]at o;clear M F aq;generalize bf:c.CR=z0 at o C;generalize bh:a.pre=z1 at o C;generalize bj:a.Eg=z2 at o C;generalize bk:S.sc.Cy=z3 at o C;generalize bm:decide (x.C9≠0)=z4 at o C;generalize bn:decide (20≤c.used)=z5 at o C;have HZ:=Aa C;clear bf bh bj bk bm bn C;go_wp2_with(go_at_call 179;refine o.out.mono ?_;rintro e w4⟨rfl,hB⟩;have HC:=Aa (hZ (q0:=z0) (q1:=z1) (q2:=z2) (q3:=z3) (q4:=z4) (q5:=z5) HW.out.1 (ao.out.trans HW.out.2) (Er P.out.1 P.out.2.2.2.1 HW.out.2) (Er P.out.2.1 P.out.2.2.2.2 HW.out.2) P.out.2.2.2.1 P.out.2.2.2.2 (fx P.out.2.2.1 dk.out (oset (Ds xb W2) 5 _) (by rw[n.out.1];omega)) hB);clear hB);clear hu aa
  case' false=>rw[Ah (by decide)]at M F;have ar:=R.out;rw[F]at ar;have o:=Aa (ar.flags n.out.1 t.out.2.2.2.1 n.out.2.2.1 t.out.2.2.2.2.1 y2 t.out.2.1 t.out.1);have dx:=Aa ar;clear ar;have C:=t.out.2.2.1;unfold FO.Pk at o;rw[cq.out]at o;clear M F aq;generalize bf:c.CR=z0 at o C;generalize bh:a.pre=z1 at o C;generalize bj:a.Eg=z2 at o C;generalize bk:S.sc.Cy=z3 at o C;generalize bm:decide (x.C9≠0)=z4 at o C;generalize bn:decide (20≤c.used)=z5 at o C;have HZ:=Aa C;clear bf bh bj bk bm bn C;go_wp2_with(go_at_call 179;refine o.out.mono ?_;rintro e w4⟨rfl,hB⟩;have HC:=Aa (hZ (q0:=z0) (q1:=z1) (q2:=z2) (q3:=z3) (q4:=z4) (q5:=z5) dx.out ao.out P.out.1 P.out.2.1 P.out.2.2.2.1 P.out.2.2.2.2 P.out.2.2.1 hB);clear hB)
  all_goals
   clear y2 x5 dt cj;generalize w4.alloc (rD #[ry z0,ry z1,ry z2,ry z3,ry z4,ry z5] 270)=W4 at*
   generalize w4.heap.size=L6 at*
   have ax:Hid (∀W,qZ W4.heap.size W4 W→re prog 180 #[rE #[.slice ca f.code.length cc,Y (Z ⟨sb,so,N⟩) f.safe.length sc],I U x.Dt,rE #[ry z0,ry z1,ry z2,ry z3,ry z4,ry z5]] W (FO.iE act W)):=fun W hW=>by rw[←HZ.out];exact FO.RN ca f.code.length cc _ f.safe x.Dt z0 z1 z2 z3 z4 z5 W dv.out (HC.out.Dy.below hW)
   have z:Hid (∀W,qZ W4.heap.size W4 W→(W.cell? ⟨L4,0,N⟩=Z (.slice ca f.code.length cc)∧W.cell? ⟨L4,1,N⟩=Z (Y (Z ⟨sb,so,N⟩) f.safe.length sc)∧W.cell? ⟨b,3,N⟩=Z (I U x.Dt))∧W.cell? ⟨xb,2,N⟩=Z (ptr b)∧(W.cell? ⟨L5,0,N⟩=Z (I U op)∧W.cell? ⟨L5,1,N⟩=Z (I U k)∧W.cell? ⟨L5,2,N⟩=Z (I U ib)∧W.cell? ⟨L5,3,N⟩=Z (I U ic)∧W.cell? ⟨L5,4,N⟩=Z (I U im))∧W.cell? ⟨L6,0,N⟩=Z (ry z0)∧W.cell? ⟨L6,1,N⟩=Z (ry z1)∧W.cell? ⟨L6,2,N⟩=Z (ry z2)∧W.cell? ⟨L6,3,N⟩=Z (ry z3)∧W.cell? ⟨L6,4,N⟩=Z (ry z4)∧W.cell? ⟨L6,5,N⟩=Z (ry z5)):=fun W hW=>by have q:=HC.out.below hW;have k2:=RC (q.Gx.CW n.out.1 t.out.2.2.2.1);rw[t.out.2.2.2.2.2,q.Gx.Kr n.out.2.2.1 t.out.2.2.2.2.1]at k2;obtain⟨_,_,ei,dy,_⟩:=q.Gx.Hi n.out.2.2.1 t.out.2.2.2.2.1;exact⟨⟨q.QK.cell 0,q.QK.cell 1,dy.cell 3⟩,k2,⟨q.JO.cell 0,q.JO.cell 1,q.JO.cell 2,q.JO.cell 3,q.JO.cell 4⟩,q.b6.cell 0,q.b6.cell 1,q.b6.cell 2,q.b6.cell 3,q.b6.cell 4,q.b6.cell 5⟩
   obtain⟨⟨a0,a1,a2⟩,a3,-,a4,a5,a6,a7,a8,a9⟩:=z.out W4 (rf _ _);go_region_held3(fun D=>D.cell? ⟨L4,0,N⟩=Z (.slice ca f.code.length cc)∧D.cell? ⟨L4,1,N⟩=Z (Y (Z ⟨sb,so,N⟩) f.safe.length sc)∧D.cell? ⟨xb,2,N⟩=Z (ptr b)∧D.cell? ⟨b,3,N⟩=Z (I U x.Dt)∧D.cell? ⟨L6,0,N⟩=Z (ry z0)∧D.cell? ⟨L6,1,N⟩=Z (ry z1)∧D.cell? ⟨L6,2,N⟩=Z (ry z2)∧D.cell? ⟨L6,3,N⟩=Z (ry z3)∧D.cell? ⟨L6,4,N⟩=Z (ry z4)∧D.cell? ⟨L6,5,N⟩=Z (ry z5)) (go_keep) (first|(go_at_call 180;refine(ax.out _ (by first|exact rf _ _|exact DU|exact DA _)).mono ?_;rintro e w5⟨rfl,ct⟩;have bo:qZ W4.heap.size W4 w5:=Es (by first|exact rf _ _|exact DU|exact DA _) ct;obtain⟨⟨c0,c1,c2⟩,c3,-,c4,c5,c6,c7,c8,c9⟩:=z.out w5 bo;have ab:=Aa bo;clear ct bo));rename_i hh;clear hh a0 a1 a2 a3 a4 a5 a6 a7 a8 a9 c0 c1 c2 c3 c4 c5 c6 c7 c8 c9 ax;by_cases bp:act=2
   ·subst bp
    have d:=E.out;clear E;rw[Ah (by decide),Ai rfl,t.out.2.2.2.2.2,show((i:Int)+1-1).toNat=i by omega]at d;have cu:=Aa (fun W(hW:qZ W4.heap.size W4 W)=>(HC.out.Gx.below hW).mw op ib ic im k hk n.out.2.2.1 t.out.2.2.2.2.1);obtain⟨lb,cv⟩: ∃lb,KV S i x ⟨op,k,ib,ic,im⟩=lb:=⟨_,rfl⟩;rw[cv]at d cu;obtain⟨-,a3,⟨a0,a1,a2,a4,a5⟩,-⟩:=z.out w5 ab.out;have E:=Aa d;clear d cv;go_wp2;go_region_held3(fun D=>D.cell? ⟨xb,2,N⟩=Z (ptr b)∧D.cell? ⟨L5,0,N⟩=Z (I U op)∧D.cell? ⟨L5,1,N⟩=Z (I U k)∧D.cell? ⟨L5,2,N⟩=Z (I U ib)∧D.cell? ⟨L5,3,N⟩=Z (I U ic)∧D.cell? ⟨L5,4,N⟩=Z (I U im)) (go_keep) (first|(go_at_call 181;refine(cu.out _ (Cu ab.out (by first|exact rf _ _|exact DU|exact DA _))).mono ?_;rintro e w7⟨rfl,cw⟩;have bq:qZ W4.heap.size W4 w7:=Cu ab.out (Es (by first|exact rf _ _|exact DU|exact DA _) cw);obtain⟨-,c3,⟨c0,c1,c2,c4,c5⟩,-⟩:=z.out w7 bq;have au:=Aa bq;clear cw bq));clear a0 a1 a2 a3 a4 a5;have ad:=Aa (HC.out.below au.out);have br:=Aa (ad.out.Gx.CU n.out.1 (by omega));have d:=E.out;clear E;cases lb with
    |true=>rw[Ai rfl]at d;have HD:=Aa (ad.out.Gx.oH k hk n.out.1 d);clear d;go_wp2_with(go_at_call 178;refine HD.out.mono ?_;rintro e w8⟨rfl,V8,o8,r,p,ae⟩;have u:=Aa (Ab r (Ab (ad.out.ext.trans p) ae));clear r p ae);go_end0;exact⟨rfl,V8,o8,u.out.1,u.out.2.1,u.out.2.2⟩
    |false=>rw[Ah (by decide)]at d;obtain⟨s2,cx,d⟩:=bind_some d;obtain⟨q,cy,aa⟩:=bind_some d;have af:=Aa (ad.out.Gx.clear z0 z1 z2 z3 z4 z5 (act:=2) (.inl rfl) n.out.1 t.out.2.2.2.1 t.out.2.1 cx);have HQ:=Aa (Ab cy aa);obtain⟨-,-,-,b0,b1,b2,b3,b4,b5⟩:=z.out w7 au.out;clear cx cy aa d c0 c1 c2 c4 c5;go_wp2_with(first|(go_at_call 182;refine af.out.mono ?_;rintro e w8⟨rfl,o8,r,p⟩;obtain⟨b8,bs,cz⟩:=r.Ql (p.keep n.out.1 br.out) HQ.out.1;have dz:=Aa cz;have bt:=Aa (Ab bs (Ab (r.CU bs (by omega)) (ad.out.ext.trans p)));clear r p cz bs)|(go_at_call 183;refine dz.out.mono ?_;rintro e w9⟨rfl,o9,G,O⟩;have ag:=O.keep bt.out.1 bt.out.2.1;obtain⟨x9,bu⟩: ∃x9,q.2.gs[q.1]?=Z x9:=⟨_,Ae (G.lg _ _ ag)⟩;have ea:=Aa (G.is ag bu 5 (by decide) (by decide));have av:=Aa (Ab bu (Ab ag (Ab (G.CU ag (by omega)) (bt.out.2.2.trans O))));clear G O ag bu)|(go_at_call 116;refine ea.out.mono ?_;rintro e ej⟨rfl,ek,H,ah⟩;rw[←GK av.out.1]at H;have ai:=ah.keep av.out.2.1 av.out.2.2.1;have HU:=Aa (H.Y6 ai (Ae (H.lg _ _ ai)) HQ.out.2);have dc:=Aa (av.out.2.2.2.trans ah);clear H ah ai)|(go_at_call 184;refine HU.out.mono ?_;rintro e eo⟨rfl,eb,ec,hR,hE,hF⟩;have aj:=Aa (Ab hR (Ab (dc.out.trans hE) hF));clear hR hE hF));go_end0;exact⟨rfl,eb,ec,aj.out.1,aj.out.2.1,aj.out.2.2.toFw⟩
   ·have d2:(act==2)=false:=by simpa using bp
    have df:=Aa (HC.out.below ab.out);clear bp z HC;go_wp2;go_quiet(fail)
    have l:=Aa (df.out.drewN nq);clear df ab;generalize w5.drewN nq=W7 at*
    have br:=Aa (l.out.Gx.CU n.out.1 (by omega));have d:=E.out;clear E;by_cases k1:act=1
    ·rw[Ai k1]at d
     subst k1;have x1:=Lz (l.out.Gx.CW n.out.1 t.out.2.2.2.1);rw[t.out.2.1]at x1 d;have ed:=Aa (l.out.Gx.serve d);clear d d2;go_wp2_with(go_at_call 171;refine ed.out.mono ?_;rintro e w8⟨rfl,o8,r,p⟩;have u:=Aa (Ab r (l.out.ext.trans p));clear r p);go_end0;exact⟨rfl,V,o8,u.out.1,u.out.2,Fw.refl V⟩
    ·rw[Ah k1]at d
     have d1:(act==1)=false:=by simpa using k1
     have aw: ¬act=2:=by simpa using d2
     rw[Ah aw]at d;by_cases k3:act=3
     ·rw[Ai k3]at d
      subst k3;replace d:=bind_some d;obtain⟨s2,hc,dh⟩:=d;have af:=Aa (l.out.Gx.clear z0 z1 z2 z3 z4 z5 (act:=3) (.inr (.inl rfl)) n.out.1 t.out.2.2.2.1 t.out.2.1 hc);have ee:=Aa dh;have b0:=l.out.b6.cell 0;have b1:=l.out.b6.cell 1;have b2:=l.out.b6.cell 2;have b3:=l.out.b6.cell 3;have b4:=l.out.b6.cell 4;have b5:=l.out.b6.cell 5;simp only[Ad,Ac,Ag]at b0 b1 b2 b3 b4 b5;clear hc dh d1 d2 aw k1;go_wp2_with(first|(go_at_call 182;refine af.out.mono ?_;rintro e w8⟨rfl,o8,r,p⟩;have au:=Aa (r.back (p.keep n.out.1 br.out) ee.out);have ef:=Aa (l.out.ext.trans p);clear r p)|(go_at_call 185;refine au.out.mono ?_;rintro e w9⟨rfl,V9,o9,G,O,di⟩;have bw:=Aa (Ab G (Ab (ef.out.trans O) di));clear G O di));go_end0;exact⟨rfl,V9,o9,bw.out.1,bw.out.2.1,bw.out.2.2.toFw⟩
     ·rw[Ah k3]at d
      have d3:(act==3)=false:=by simpa using k3
      by_cases k4:act=4
      ·rw[Ai k4]at d
       subst k4;have af:=Aa (l.out.Gx.clear z0 z1 z2 z3 z4 z5 (act:=4) (.inr (.inr rfl)) n.out.1 t.out.2.2.2.1 t.out.2.1 d);have b0:=l.out.b6.cell 0;have b1:=l.out.b6.cell 1;have b2:=l.out.b6.cell 2;have b3:=l.out.b6.cell 3;have b4:=l.out.b6.cell 4;have b5:=l.out.b6.cell 5;simp only[Ad,Ac,Ag]at b0 b1 b2 b3 b4 b5;clear d d1 d2 d3 aw k1 k3;go_wp2_with(go_at_call 182;refine af.out.mono ?_;rintro e w8⟨rfl,o8,r,p⟩;have u:=Aa (Ab r (l.out.ext.trans p));clear r p);go_end0;exact⟨rfl,V,o8,u.out.1,u.out.2,Fw.refl V⟩
      ·rw[Ah k4]at d
       have d4:(act==4)=false:=by simpa using k4
       have HD:=Aa (l.out.Gx.oH k hk n.out.1 d);have b0:=l.out.JO.cell 0;have b1:=l.out.JO.cell 1;have b2:=l.out.JO.cell 2;have b3:=l.out.JO.cell 3;have b4:=l.out.JO.cell 4;simp only[Ad,Ac,Ag]at b0 b1 b2 b3 b4;clear d k1 k3 k4 aw;go_wp2_with(go_at_call 178;refine HD.out.mono ?_;rintro e w8⟨rfl,V8,o8,r,p,ae⟩;have u:=Aa (Ab r (Ab (l.out.ext.trans p) ae));clear r p ae);go_end0;exact⟨rfl,V8,o8,u.out.1,u.out.2.1,u.out.2.2⟩
end
end
section
variable {mb:Nat} {V:Vr} {own:Nat→Nat} {w:oZ} {s:St}
theorem fy{c:Sc}(h:Cx w mb (Dz V c) 121)(a b dl dr:Int):Cx ((((w.setCell ⟨mb,17,N⟩ (I U a)).setCell ⟨mb,14,N⟩ (I U b)).setCell ⟨mb,15,N⟩ (I U dl)).setCell ⟨mb,16,N⟩ (I U dr)) mb (Dz V {c with now:=a,pick:=b,Ey:=dl,draw:=dr}) 121:=(((h.set 17 (I U a)).set 14 (I U b)).set 15 (I U dl)).set 16 (I U dr)
theorem ZQ{c:Sc}(h:Cx w mb (Dz V c) 121):Cx ((((((w.setCell ⟨mb,21,N⟩ (I U 0)).setCell ⟨mb,22,N⟩ (I U 0)).setCell ⟨mb,23,N⟩ (I U 0)).setCell ⟨mb,24,N⟩ (I U 0)).setCell ⟨mb,25,N⟩ (I U 0)).setCell ⟨mb,26,N⟩ (ry rm)) mb (Dz V {c with kind:=0,eg:=0,JW:=0,JX:=0,en:=0,seen:=rm}) 121:=(((((h.set 21 (I U 0)).set 22 (I U 0)).set 23 (I U 0)).set 24 (I U 0)).set 25 (I U 0)).set 26 (ry rm)
def NV(s:St)(pick Ey draw:Int):St:=s.CO {s.sc with now:=wrap64 (s.sc.now+1),pick:=pick,Ey:=Ey,draw:=draw,kind:=0,eg:=0,JW:=0,JX:=0,en:=0,seen:=rm}
def QL(w:oZ)(mb:Nat)(a b dl dr:Int):World:=(((((((((((w.setCell ⟨mb,17,N⟩ (I U a)).setCell ⟨mb,14,N⟩ (I U b)).setCell ⟨mb,15,N⟩ (I U dl)).setCell ⟨mb,16,N⟩ (I U dr)).setCell ⟨mb,21,N⟩ (I U 0)).setCell ⟨mb,22,N⟩ (I U 0)).setCell ⟨mb,23,N⟩ (I U 0)).setCell ⟨mb,24,N⟩ (I U 0)).setCell ⟨mb,25,N⟩ (I U 0)).setCell ⟨mb,26,N⟩ (ry rm)))
theorem CC.NV(h:CC mb V own w s)(a dl dr:Int):CC mb V own (QL w mb (wrap64 (s.sc.now+1)) a dl dr) (NV s a dl dr)∧Ext own w own (QL w mb (wrap64 (s.sc.now+1)) a dl dr):=by obtain⟨b,c⟩:=h.LA (oset (oset (oset (oset (Ds mb w) 17 (I U (wrap64 (s.sc.now+1)))) 14 (I U a)) 15 (I U dl)) 16 (I U dr)) {s.sc with now:=wrap64 (s.sc.now+1),pick:=a,Ey:=dl,draw:=dr} h.hold (fy h.D2 (wrap64 (s.sc.now+1)) a dl dr);obtain⟨d,e⟩:=b.LA (oset (oset (oset (oset (oset (oset (Ds mb _) 21 (I U 0)) 22 (I U 0)) 23 (I U 0)) 24 (I U 0)) 25 (I U 0)) 26 (ry rm)) {s.sc with now:=wrap64 (s.sc.now+1),pick:=a,Ey:=dl,draw:=dr,kind:=0,eg:=0,JW:=0,JX:=0,en:=0,seen:=rm} b.hold (ZQ b.D2);exact⟨d,c.trans e⟩
structure qo (mb:Nat) (V:Vr) (own:Nat→Nat) (w:oZ) (s:St) (W:oZ) (L3 L4:Nat) (pk dl dr:Int):Prop where
 Gx:CC mb V own W s
 ext:Ext own w own W
 oL:Cx W L3 #[I U pk,I U dl,I U dr] 36
 QK: ∃u0 u1 u2 u3 u4,Cx W L4 #[u0,u1,u2,u3,u4] 38
 qq:own L3=0
 WE:own L4=0
theorem jM(h:CC mb V own w s)(a dl dr:Int):qo mb V own w (NV s a dl dr) (QL ((w.alloc (rD #[I U a,I U dl,I U dr] 36)).alloc (rD #[I U 0,I U 0,I U 0,I U 0,I U 0] 38)) mb (wrap64 (s.sc.now+1)) a dl dr) w.heap.size (w.heap.size+1) a dl dr:=by
 have b:qZ w.heap.size w ((w.alloc (rD #[I U a,I U dl,I U dr] 36)).alloc (rD #[I U 0,I U 0,I U 0,I U 0,I U 0] 38)):=Ct (Ct (rf _ _) _) _;obtain⟨R,E⟩:=(h.below b).NV a dl dr;have c:=h.fresh w.heap.size (Al _);have d:=h.fresh (w.heap.size+1) (Bh _);have e:Cx ((w.alloc (rD #[I U a,I U dl,I U dr] 36)).alloc (rD #[I U 0,I U 0,I U 0,I U 0,I U 0] 38)) w.heap.size #[I U a,I U dl,I U dr] 36:=(Cx.new w _ 36).below (Ct (rf _ _) _) (by simp);have f:Cx ((w.alloc (rD #[I U a,I U dl,I U dr] 36)).alloc (rD #[I U 0,I U 0,I U 0,I U 0,I U 0] 38)) (w.heap.size+1) #[I U 0,I U 0,I U 0,I U 0,I U 0] 38:=by have k:=Cx.new (w.alloc (rD #[I U a,I U dl,I U dr] 36)) #[I U 0,I U 0,I U 0,I U 0,I U 0] 38;simpa using k
 exact⟨R,(Ext.below b).trans E,Er e c E,⟨_,_,_,_,_,Er f d E⟩,c,d⟩
end
end Go.Proofs.YtgadhchejmlfjaaGreatDoor.CX
