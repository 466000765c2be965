/- A part of the proof. -/
import Derived.Test.YtgadhchejmlfjaaGreatDoorB4
set_option linter.unusedVariables false
set_option maxRecDepth 20000
set_option maxHeartbeats 16000000
open Go.Value renaming int→I,pointer→J,slice→Y
open Go.IntKind renaming i64→U
open Option renaming none→N,some→Z
open Bool renaming false→rm
open Go renaming Calls→re,Value→qY,World→oZ
open Go.Ending renaming returned→rC
open Go.Obj renaming cells→rD
open Go.RowKit renaming Below→qZ
open Go.RowKit.Below renaming refl→rf
open Go.Value renaming bool→ry
open List renaming replicate→rj
namespace Go.Proofs.YtgadhchejmlfjaaGreatDoor.CX
open Go.Proofs.Tryz Go.RowKit Go.CL
open Vm (CN)
section
section
variable {mb:Nat} {V:Vr} {own:Nat→Nat} {w:oZ} {s:St}
variable {b i xb j:Nat}
theorem CC.oC(h:CC mb V own w s){x:G}(c:own b=20+5*i)(d:s.gs[i]?=Z x):(∃e,SL b x e w)∧w.cell? ⟨b,17,N⟩=Z (ry x.begun)∧ ∀k,w.frozen? ⟨b,k,N⟩=false:=by obtain⟨_,_,e,a,_⟩:=h.Hi c d;obtain⟨g,sc,f,-⟩:=h.lL c d;exact⟨⟨_,f⟩,lD a,fun k=>a.free k⟩
theorem lO{P:Nat}{x:G}{sv:qY}{t:TypeId}(h:Cx w P (JK x sv) t):(w.cell? ⟨P,0,N⟩=Z (I U x.fn)∧w.cell? ⟨P,1,N⟩=Z (I U x.Dt)∧w.cell? ⟨P,2,N⟩=Z (I U (rg x 0))∧w.cell? ⟨P,3,N⟩=Z (I U (rg x 1))∧w.cell? ⟨P,4,N⟩=Z (I U (rg x 2))∧w.cell? ⟨P,5,N⟩=Z (I U (rg x 3))∧w.cell? ⟨P,6,N⟩=Z (I U (rg x 4))∧w.cell? ⟨P,7,N⟩=Z (I U (rg x 5))∧w.cell? ⟨P,8,N⟩=Z (I U (rg x 6))∧w.cell? ⟨P,9,N⟩=Z (I U (rg x 7))∧w.cell? ⟨P,10,N⟩=Z sv∧w.cell? ⟨P,11,N⟩=Z (ry x.done)):=⟨h.cell 0,h.cell 1,h.cell 2,h.cell 3,h.cell 4,h.cell 5,h.cell 6,h.cell 7,h.cell 8,h.cell 9,h.cell 10,h.cell 11⟩
theorem SM(h:CC mb V own w s){x x':G}{y:M1}{u:Int}{sv:qY}(c:Hk own w x'.stack sv)(d:own xb=22+5*j)(e:own b=20+5*i)(f:s.ms[j]?=Z y)(k:s.gs[i]?=Z x)(l:y.g=(i:Int)+1)(a:x'.CS.length=8∧x'.word=x.word∧x'.blocked=x.blocked∧x'.token=x.token∧x'.CA=x.CA∧x'.C9=x.C9):CC mb V own ((Nk w b x' sv).setCell ⟨xb,5,N⟩ (I U u)) ((s.CH i {x' with begun:=rm}).CM j {y with g:=(i:Int)+1,used:=u})∧Ext own w own ((Nk w b x' sv).setCell ⟨xb,5,N⟩ (I U u)):=by obtain⟨m,n⟩:=h.jw c e k a.1 a.2.1 a.2.2.1 a.2.2.2.1 a.2.2.2.2.1 a.2.2.2.2.2;obtain⟨o,p⟩:=m.gY (y:=y) d f u;rw[←l];exact⟨o,n.trans p⟩
theorem CC.Gm(h:CC mb V own w s){bq:Int}{s':St}(hx:own xb=22+5*j)(o:C5 s j bq=Z s'):re prog 187 #[ptr mb,ptr xb,I U bq] w (FY mb V own w unit s'):=by
 unfold C5 at o;cases hj:s.ms[j]? with
 |none=>rw[hj]at o;cases o
 |some y=>
 rw[hj]at o;dsimp only at o;replace o:=CQ o;obtain⟨br,o⟩:=o;have bs:=(h.xg hj).2;obtain⟨i,bg⟩: ∃i:Nat,y.g=(i:Int)+1:=⟨(y.g-1).toNat,by omega⟩;rw[bg]at br bs o;have e2:((i:Int)+1-1).toNat=i:=by omega
 rw[e2]at o;cases hi:s.gs[i]? with
 |none=>rw[hi]at o;cases o
 |some x=>
 rw[hi]at o;dsimp only at o;obtain⟨e1,hb⟩:=h.gp br bs;rw[e2]at e1 hb;obtain⟨b,b9⟩: ∃b,V.CP i=b:=⟨_,rfl⟩;rw[b9]at e1 hb;replace o:=bind_some o;obtain⟨ins,hI,o⟩:=o;replace o:=bind_some o;obtain⟨⟨R,n⟩,hd,o⟩:=o;replace o:=bind_some o;obtain⟨s1,ar,o⟩:=o;dsimp only at o;replace o:=bind_some o;obtain⟨s4,T,o⟩:=o;have x2:w.cell? ⟨xb,2,N⟩=Z (ptr b):=by rw[←e1,←bg];exact RC (h.CW hx hj)
 unfold Kk at ar;rw[hi]at ar;simp only[Ak]at ar;have bt:=(h.Hi hb hi).len;obtain⟨g1,g2,g3,g4,g5,g6⟩:=Zj hd bt;obtain⟨sa,sc,hT,d⟩:=h.lL hb hi;have ca:=Zk hd d.1;have HD:Hid (∀W,qZ w.heap.size w W→re prog 259 #[.agg #[V.Gb],Qv x (.slice sa x.stack.length sc),I U bq] W (kH R n W)):=fun W hW=>(h.below hW).qh hI hd bt (d.2.1.below hW) d.1;have c1:=h.c1;have cb:=Aa hT;obtain⟨t2,t3,t4,t5,t6,t7,t8,t9,t10,t11,t12,t13⟩:=hT;have cc:=h.XC hx hj;have bu:=h.eK hb hi;have cw:=h.Nc;have HR:=Aa h;have HT:Hid (∀W,qZ w.heap.size w W→SL b x (.slice sa x.stack.length sc) W∧W.cell? ⟨mb,1,N⟩=Z V.Gb):=fun W hW=>⟨cb.out.below hW bu,(h.below hW).c1⟩;have HX:=Aa (Ab hx (Ab cc (Ab hb (Ab bu (Ab hj (Ab hi bg))))));have HG:=Aa (Ab g1 (Ab g2 (Ab g3 (Ab g4 (Ab g5 g6)))));have bw:=Aa ar;have HQ:=Aa T;have HS:=Aa o;unfold kH Qv Vm.tv at HD;simp only[show∀(z:G) k,Vm.r_ z.CS k=rg z k from fun _ _=>rfl]at HD;have bz:=Aa ca;have cx: ¬mb=w.heap.size:=by omega
 have cd: ¬w.heap.size=mb:=by omega
 have cf: ¬w.heap.size=b:=by omega
 have cy: ¬b=w.heap.size:=by omega
 clear cb d ca h hx hb hi hI hd hj bg br bs b9 e1 e2 ar g1 g2 g3 g4 g5 g6 bt T o cc bu cw;go_enter func187,ntmps187;go_wp2;go_region_held3(fun w'=>w'.cell? ⟨mb,1,N⟩=Z V.Gb∧w'.cell? ⟨b,2,N⟩=Z (I U x.fn)∧w'.cell? ⟨b,3,N⟩=Z (I U x.Dt)∧w'.cell? ⟨b,4,N⟩=Z (I U (rg x 0))∧w'.cell? ⟨b,5,N⟩=Z (I U (rg x 1))∧w'.cell? ⟨b,6,N⟩=Z (I U (rg x 2))∧w'.cell? ⟨b,7,N⟩=Z (I U (rg x 3))∧w'.cell? ⟨b,8,N⟩=Z (I U (rg x 4))∧w'.cell? ⟨b,9,N⟩=Z (I U (rg x 5))∧w'.cell? ⟨b,10,N⟩=Z (I U (rg x 6))∧w'.cell? ⟨b,11,N⟩=Z (I U (rg x 7))∧w'.cell? ⟨b,12,N⟩=Z (.slice sa x.stack.length sc)∧w'.cell? ⟨b,13,N⟩=Z (ry x.done)) (go_keep) (first|(go_at_call 259;refine(HD.out _ (by repeat(first|exact rf _ _|apply DH|apply F1))).mono ?_;rintro e w2⟨df,rfl,bh,au⟩;obtain⟨ae,af,rfl⟩:=Vm.Ff au;have av:qZ w.heap.size w w2:=(Es (by repeat(first|exact rf _ _|apply DH|apply F1)) bh);obtain⟨⟨t2,t3,t4,t5,t6,t7,t8,t9,t10,t11,t12,t13⟩,c1⟩:=HT.out _ av;first|(have c:Cx w2 w.heap.size #[I U 0,I U 0,I U 0,I U 0,I U 0,I U 0,I U 0,I U 0,I U 0,I U 0,Y N 0 0,ry rm] 50:=(Cx.new w.drew _ 50).below bh (by simp);have q0:=c.cell 0;have q1:=c.cell 1;have q2:=c.cell 2;have q3:=c.cell 3;have q4:=c.cell 4;have q5:=c.cell 5;have q6:=c.cell 6;have q7:=c.cell 7;have q8:=c.cell 8;have q9:=c.cell 9;have b0:=c.cell 10;have bj:=c.cell 11;have f0:=c.free 0;have f1:=c.free 1;have f2:=c.free 2;have f3:=c.free 3;have f4:=c.free 4;have f5:=c.free 5;have f6:=c.free 6;have f7:=c.free 7;have f8:=c.free 8;have f9:=c.free 9;have f10:=c.free 10;have f11:=c.free 11;simp only[Ad,Ac,Ag]at q0 q1 q2 q3 q4 q5 q6 q7 q8 q9 b0 bj;obtain⟨ch,cj⟩:=V7 HR.out av c (Al _) R _ au (by simp) bz.out;have ck:=Aa cj;clear c av bh au cj)|(obtain⟨ch,cl⟩:=Zn HR.out av R _ au (by simp) bz.out;have cm:=Aa cl;clear av bh au cl)))
 all_goals
  rename_i hh;clear hh HD HT bz t2 t3 t4 t5 t6 t7 t8 t9 t10 t11 t12 t13 c1 cx cy cd cf;clear t2 t3 t4 t5 t6 t7 t8 t9 t10 t11 t12 t13 c1 x2
  first
   |(have HL:=cm;clear cm;change Exit.then _ _ _ _ (w2.alloc (rD (JK R (.slice ae R.stack.length af)) 50));generalize w2.alloc (rD (JK R (.slice ae R.stack.length af)) 50)=W at*;obtain⟨P,hP⟩: ∃P,w2.heap.size=P:=⟨_,rfl⟩)
   |(have HL:=ck;clear ck;clear q0 q1 q2 q3 q4 q5 q6 q7 q8 q9 b0 bj f0 f1 f2 f3 f4 f5 f6 f7 f8 f9 f10 f11;change Exit.then _ _ _ _ (Zm w2 w.heap.size R (.slice ae R.stack.length af));generalize Zm w2 w.heap.size R (.slice ae R.stack.length af)=W at*;obtain⟨P,hP⟩: ∃P,w.heap.size=P:=⟨_,rfl⟩)
  rw[hP]at HL⊢;have aw:=Aa (Ab (HL.out.2.1.keep HX.out.1 HX.out.2.1) (HL.out.2.1.keep HX.out.2.2.1 HX.out.2.2.2.1));have HJ:=Aa HX.out.2.2.2.2;have HA:=HL;clear HX HR HL hP;have bo:=Aa (HA.out.1.see 2 aw.out.2 HJ.out.2.1 n);rw[bw.out]at bo;have cn:s1.ms[j]?=Z y:=by rw[←bw.out];exact HJ.out.1
  have cp:s1.gs[i]?=Z x:=by rw[←bw.out];exact HJ.out.2.1
  have ax:=Aa (Ab cn (Ab cp HJ.out.2.2));obtain⟨u0,b1⟩: ∃u0,y.used=u0:=⟨_,rfl⟩;obtain⟨u,hu⟩: ∃u,wrap64 (u0+1)=u:=⟨_,rfl⟩;have hQ:=HQ.out;rw[b1,hu]at hQ;obtain⟨S3,bk⟩: ∃S3,S3=(s1.CH i {R with begun:=rm}).CM j {y with g:=(i:Int)+1,used:=u}:=⟨_,rfl⟩;rw[←bk]at hQ;have bp:S3.sc=s1.sc:=by rw[bk];rfl
  have cq:Hid (∀(m:Nat→Nat)(w1:oZ),CC mb V m w1 s1→m xb=22+5*j→m b=20+5*i→Hk m w1 R.stack (.slice ae R.stack.length af)→CC mb V m ((Nk w1 b R (.slice ae R.stack.length af)).setCell ⟨xb,5,N⟩ (I U u)) S3∧Ext m w1 m ((Nk w1 b R (.slice ae R.stack.length af)).setCell ⟨xb,5,N⟩ (I U u))):=fun m w1 hR hx hb hK=>by rw[bk];exact SM hR hK hx hb ax.out.1 ax.out.2.1 ax.out.2.2 HG.out
  have HU:=Aa b1;have b2:=Aa bp;clear HQ HJ cn cp b1 bk bp;have HQ:=Aa hQ;clear hQ;obtain⟨dn,b3⟩: ∃dn,R.done=dn:=⟨_,rfl⟩;have ay:=Aa b3;have D:=HS.out;rw[b3]at D;clear b3 HS;go_wp2_with fail;refine bo.out.mono ?_;rintro e w1⟨rfl,m,az,ag⟩;have aq:=ag.keep aw.out.1 (HA.out.1.CU aw.out.1 (by omega));have bm:=ag.keep aw.out.2 (HA.out.1.CU aw.out.2 (by omega));have b4:=Er HA.out.2.2.1 HA.out.2.2.2.1 ag;have cr:=(ag.same P HA.out.2.2.1.lt).trans HA.out.2.2.2.1;obtain⟨⟨dh,t2,t3,t4,t5,t6,t7,t8,t9,t10,t11,t12,t13⟩,t17,tf⟩:=az.oC bm ax.out.2.1;obtain⟨q0,q1,q2,q3,q4,q5,q6,q7,q8,q9,b0,bj⟩:=lO b4;rw[ay.out]at bj;have b7:=az.CW aq ax.out.1;have k5:=nu b7;rw[HU.out]at k5;have di:=b7.free 5;have n1: ¬xb=b:=(by rintro rfl;omega);have n2: ¬b=xb:=(by rintro rfl;omega);have n3: ¬P=b:=(by rintro rfl;omega);have n4: ¬b=P:=(by rintro rfl;omega);have n5: ¬P=xb:=(by rintro rfl;omega);have n6: ¬xb=P:=(by rintro rfl;omega);have hF:=cq.out m w1 az aq bm (HA.out.2.2.2.2.ext ag);unfold Nk at hF;rw[ay.out]at hF;have HF:=Aa hF;have a:=Aa (Ab az (Ab ag (Ab aq (Ab bm (Ab b4 cr)))));clear az ag aq bm b4 cr b7 hF;cases dn with
  |false=>
   have ct:s4=s':=by simpa using D
   have cu:=Aa ct;clear D ct;by_cases E:u=20
   ·have a1:(u==20)=true:=by simpa using E
    have T:=HQ.out;rw[Ai E]at T;have ak:=Aa (HF.out.1.asks a.out.2.2.1 T);clear T E;go_wp2_with(go_at_call 258;refine ak.out.mono ?_;rintro e w4⟨rfl,a6,l,X⟩;have f:=HF.out.2.trans X;have aa:=Er a.out.2.2.2.2.1 a.out.2.2.2.2.2 f;have a7:w4.cell? ⟨P,11,N⟩=Z (ry R.done):=aa.cell 11;rw[ay.out]at a7;have F:=Aa (Ab l (HA.out.2.1.trans (a.out.2.1.trans f)));clear l X f aa)
    all_goals
     go_end0;exact⟨rfl,V,a6,by rw[←cu.out];exact F.out.1,F.out.2,Fx.refl V⟩
   ·have a1:(u==20)=false:=by simpa using E
    have T:=HQ.out;rw[Ah E]at T;have cv:S3=s':=by rw[←cu.out];exact Bk T
    have cz:=Aa cv;clear T cv E;go_wp2
    all_goals
     go_end0;exact⟨rfl,V,m,by rw[←cz.out];exact HF.out.1,HA.out.2.1.trans (a.out.2.1.trans HF.out.2),Fx.refl V⟩
  |true=>
   replace D:=bind_some D;obtain⟨s5,d,D⟩:=D;cases ao:Gf s5 j with
   |none=>rw[ao]at D;cases D
   |some r=>
   rw[ao]at D;simp only[BA,Ak]at D;have ab:=Aa (Ab ao D);have ad:=Aa d;clear D ao d;by_cases E:u=20
   ·have a1:(u==20)=true:=by simpa using E
    have T:=HQ.out;rw[Ai E]at T;have ak:=Aa (HF.out.1.asks a.out.2.2.1 T);clear T E;obtain⟨hv,a8⟩: ∃hv,Eb V.CP s4.sc.CD=hv:=⟨_,rfl⟩;have bn:=Aa a8;clear a8;have c2:=Hu (.tmp 60) (.tmp 61) hv b;by_cases q:s4.sc.CD=(i:Int)+1
    ·have d:=ad.out
     rw[Ai q]at d;have ba:=Aa d;have H:decide (s4.sc.CD=(i:Int)+1)=true:=by simpa using q
     have ah:=Aa H;clear d q ad H;go_wp2_with(first|(go_at_call 258;refine ak.out.mono ?_;rintro e w4⟨rfl,a6,l,X⟩;have f:=HF.out.2.trans X;have aa:=Er a.out.2.2.2.2.1 a.out.2.2.2.2.2 f;have a7:w4.cell? ⟨P,11,N⟩=Z (ry R.done):=aa.cell 11;rw[ay.out]at a7;have S:=f.keep a.out.2.2.1 (a.out.1.CU a.out.2.2.1 (by omega));have bb:=f.keep a.out.2.2.2.1 (a.out.1.CU a.out.2.2.2.1 (by omega));have gZ:=l.Jr;have p:=l.Qw bb l.hold.1 l.hold.2;rw[bn.out]at gZ p;rw[ah.out]at p;have b8:=Aa (l.start S ba.out);have F:=Aa (Ab (Ab S (l.CU S (by omega))) (HA.out.2.1.trans (a.out.2.1.trans f)));clear l X f aa S bb)|(go_at_call 249;refine b8.out.mono ?_;rintro e w5⟨rfl,V5,o5,ai,aj,bc⟩;have bd:=aj.keep F.out.1.1 F.out.1.2;obtain⟨b5,t,hO⟩:=ai.Ql bd ab.out.1;have HO:=Aa hO;have K:=Aa (Ab t (ai.CU t (by omega)));have bf:=Aa (Ab bc (F.out.2.trans aj));clear ai aj bc bd t hO)|(go_at_call 183;refine HO.out.mono ?_;rintro e w6⟨rfl,o6,v,A⟩;have B:=A.keep K.out.1 K.out.2;obtain⟨x6,C⟩: ∃x6,r.2.gs[r.1]?=Z x6:=⟨_,Ae (v.lg _ _ B)⟩;have HI:=Aa (v.is B C 6 (by decide) (by decide));have L:=Aa (Ab C A);clear v A B C)|(go_at_call 116;refine HI.out.mono ?_;rintro e w7⟨rfl,o7,M,O⟩;have Q:=Aa (Ab M O);clear M O))
     all_goals
      go_end0;exact⟨rfl,V5,o7,by rw[←ab.out.2,GK L.out.1 6];exact Q.out.1,(bf.out.2.trans L.out.2).trans Q.out.2,bf.out.1⟩
    ·have d:=ad.out
     rw[Ah q]at d;obtain rfl:=Bk d;have H:decide (s4.sc.CD=(i:Int)+1)=false:=by simpa using q
     have ah:=Aa H;clear d q ad H;go_wp2_with(first|(go_at_call 258;refine ak.out.mono ?_;rintro e w4⟨rfl,a6,l,X⟩;have f:=HF.out.2.trans X;have aa:=Er a.out.2.2.2.2.1 a.out.2.2.2.2.2 f;have a7:w4.cell? ⟨P,11,N⟩=Z (ry R.done):=aa.cell 11;rw[ay.out]at a7;have S:=f.keep a.out.2.2.1 (a.out.1.CU a.out.2.2.1 (by omega));have bb:=f.keep a.out.2.2.2.1 (a.out.1.CU a.out.2.2.2.1 (by omega));have gZ:=l.Jr;have p:=l.Qw bb l.hold.1 l.hold.2;rw[bn.out]at gZ p;rw[ah.out]at p;obtain⟨b5,t,hO⟩:=l.Ql S ab.out.1;have HO:=Aa hO;have K:=Aa (Ab t (l.CU t (by omega)));clear t hO;have F:=Aa (Ab (Ab S (l.CU S (by omega))) (HA.out.2.1.trans (a.out.2.1.trans f)));clear l X f aa S bb)|(go_at_call 183;refine HO.out.mono ?_;rintro e w6⟨rfl,o6,v,A⟩;have B:=A.keep K.out.1 K.out.2;obtain⟨x6,C⟩: ∃x6,r.2.gs[r.1]?=Z x6:=⟨_,Ae (v.lg _ _ B)⟩;have HI:=Aa (v.is B C 6 (by decide) (by decide));have L:=Aa (Ab C A);clear v A B C)|(go_at_call 116;refine HI.out.mono ?_;rintro e w7⟨rfl,o7,M,O⟩;have Q:=Aa (Ab M O);clear M O))
     all_goals
      go_end0;exact⟨rfl,V,o7,by rw[←ab.out.2,GK L.out.1 6];exact Q.out.1,(F.out.2.trans L.out.2).trans Q.out.2,Fx.refl V⟩
   ·have a1:(u==20)=false:=by simpa using E
    have T:=HQ.out;rw[Ah E]at T;obtain rfl:=Bk T;clear T E;obtain⟨hv,a8⟩: ∃hv,Eb V.CP s1.sc.CD=hv:=⟨_,rfl⟩;have bn:=Aa a8;clear a8;have c2:=Hu (.tmp 60) (.tmp 61) hv b;have n7: ¬mb=b:=(a.out.1.eM a.out.2.2.2.1).2;have n8: ¬b=mb:=(a.out.1.eM a.out.2.2.2.1).1;have dc:=a.out.1.om;have aq:=a.out.2.2.1;have n9: ¬mb=xb:=(by rintro rfl;omega);have dk: ¬xb=mb:=(by rintro rfl;omega);clear dc aq;have gZ:=a.out.1.Jr;have p:=HF.out.1.Qw a.out.2.2.2.1 HF.out.1.hold.1 HF.out.1.hold.2;rw[b2.out]at p;rw[bn.out]at gZ p;have F:=Aa (Ab (Ab a.out.2.2.1 (HF.out.1.CU a.out.2.2.1 (by omega))) (HA.out.2.1.trans (a.out.2.1.trans HF.out.2)));by_cases q:S3.sc.CD=(i:Int)+1
    ·have d:=ad.out
     rw[Ai q]at d;have ba:=Aa d;rw[b2.out]at q;have H:decide (s1.sc.CD=(i:Int)+1)=true:=by simpa using q
     have ah:=Aa H;clear d q ad H;rw[ah.out]at p;have b8:=Aa (HF.out.1.start a.out.2.2.1 ba.out);go_wp2_with(first|(go_at_call 249;refine b8.out.mono ?_;rintro e w5⟨rfl,V5,o5,ai,aj,bc⟩;have bd:=aj.keep F.out.1.1 F.out.1.2;obtain⟨b5,t,hO⟩:=ai.Ql bd ab.out.1;have HO:=Aa hO;have K:=Aa (Ab t (ai.CU t (by omega)));have bf:=Aa (Ab bc (F.out.2.trans aj));clear ai aj bc bd t hO)|(go_at_call 183;refine HO.out.mono ?_;rintro e w6⟨rfl,o6,v,A⟩;have B:=A.keep K.out.1 K.out.2;obtain⟨x6,C⟩: ∃x6,r.2.gs[r.1]?=Z x6:=⟨_,Ae (v.lg _ _ B)⟩;have HI:=Aa (v.is B C 6 (by decide) (by decide));have L:=Aa (Ab C A);clear v A B C)|(go_at_call 116;refine HI.out.mono ?_;rintro e w7⟨rfl,o7,M,O⟩;have Q:=Aa (Ab M O);clear M O))
     all_goals
      go_end0;exact⟨rfl,V5,o7,by rw[←ab.out.2,GK L.out.1 6];exact Q.out.1,(bf.out.2.trans L.out.2).trans Q.out.2,bf.out.1⟩
    ·have d:=ad.out
     rw[Ah q]at d;obtain rfl:=Bk d;rw[b2.out]at q;have H:decide (s1.sc.CD=(i:Int)+1)=false:=by simpa using q
     have ah:=Aa H;clear d q ad H;rw[ah.out]at p;obtain⟨b5,t,hO⟩:=HF.out.1.Ql a.out.2.2.1 ab.out.1;have HO:=Aa hO;have K:=Aa (Ab t (HF.out.1.CU t (by omega)));clear t hO;go_wp2_with(first|(go_at_call 183;refine HO.out.mono ?_;rintro e w6⟨rfl,o6,v,A⟩;have B:=A.keep K.out.1 K.out.2;obtain⟨x6,C⟩: ∃x6,r.2.gs[r.1]?=Z x6:=⟨_,Ae (v.lg _ _ B)⟩;have HI:=Aa (v.is B C 6 (by decide) (by decide));have L:=Aa (Ab C A);clear v A B C)|(go_at_call 116;refine HI.out.mono ?_;rintro e w7⟨rfl,o7,M,O⟩;have Q:=Aa (Ab M O);clear M O))
     all_goals
      go_end0;exact⟨rfl,V,o7,by rw[←ab.out.2,GK L.out.1 6];exact Q.out.1,(F.out.2.trans L.out.2).trans Q.out.2,Fx.refl V⟩
end
end
section
section
variable {mb:Nat} {V:Vr} {own:Nat→Nat} {w:oZ} {s:St}
theorem CC.Wc(h:CC mb V own w s){b i:Nat}{u:Int}(c:own b=20+5*i)(hu:u=(i:Int)+1):CC mb V own (w.setCell ⟨mb,20,N⟩ (ptr b)) (s.CO {s.sc with CD:=u})∧Ext own w own (w.setCell ⟨mb,20,N⟩ (ptr b)):=by
 have a:=h.lg b i c;have e:Eb V.CP u=ptr b:=by rw[hu];exact h.Kr c (Ae a)
 have d:(0:Int)≤u:=by omega
 have f:u≤(s.gs.length:Int):=by omega
 have k:=h.LA (oset (Ds mb w) 20 (Eb V.CP u)) {s.sc with CD:=u} ⟨d,f⟩ (Qh h.D2 _);rw[e]at k;exact k
theorem IK{s':St}{j:Nat}{y:M1}{a:Int}(b:C5 s j a=Z s')(c:s.ms[j]?=Z y):1≤y.g:=by unfold C5 at b;rw[c]at b;dsimp only at b;exact(CQ b).1
theorem CC.stop(h:CC mb V own w s){xb j:Nat}{s':St}(f:own xb=22+5*j)(a:Lx s j=Z s'):re prog 119 #[ptr mb,ptr xb] w (FY mb V own w unit s'):=by
 unfold Lx at a;cases c:s.ms[j]? with
 |none=>rw[c]at a;cases a
 |some y=>
 rw[c]at a;dsimp only at a;have VO:=h.VO;by_cases hw:0<s.sc.wait
 ·rw[Ai hw]at a
  have M:=Aa (h.again f c a);clear h f a c;generalize s.sc.wait=u at*
  go_enter func119,ntmps119;go_wp2_with(go_at_call 186;refine M.out.mono ?_;rintro e O⟨rfl,D,l,m⟩;have A:=Aa l;have E:=Aa m;clear l m);go_end0;exact⟨rfl,V,D,A.out,E.out,Fx.refl V⟩
 ·rw[Ah hw]at a
  have n:((s.CM j {y with phase:=2}).CO {s.sc with CD:=y.g}).ms[j]?=Z {y with phase:=2}:=I6 (Cz c);have g:1≤y.g:=IK (y:={y with phase:=2}) a n;have k:=(h.xg c).2;obtain⟨i,d⟩: ∃i:Nat,y.g=(i:Int)+1:=⟨(y.g-1).toNat,by omega⟩;have o:=d;rw[d]at g k;have G:((i:Int)+1-1).toNat=i:=by omega
  obtain⟨B,C⟩:=h.gp g k;rw[G]at B C;obtain⟨b,p⟩: ∃b,V.CP i=b:=⟨_,rfl⟩;rw[p]at B C;have W:w.cell? ⟨xb,2,N⟩=Z (ptr b):=by rw[←B,←d];exact RC (h.CW f c)
  have P:=VP (h.CW f c);have f3:=(h.CW f c).free 3;have Jr:=h.Jr;have f20:=h.EX 20;obtain⟨q,r⟩:=h.Hb f c 2;obtain⟨t,v⟩:=q.Wc C o;have Q:=Aa (t.Gm f a);have E:=Aa (r.trans v);have R: ¬xb=mb:=by have:=h.om;rintro rfl;omega
  have X: ¬mb=xb:=fun e=>R e.symm;obtain⟨H,x⟩: ∃H,Eb V.CP s.sc.CD=H:=⟨_,rfl⟩;rw[x]at Jr;obtain⟨K,z⟩: ∃K,y.phase=K:=⟨_,rfl⟩;rw[z]at P;have S:s.sc.wait≤0:=by omega
  clear o h f a c n g k d G B C p q r t v x hw z;generalize s.sc.wait=u at*
  go_enter func119,ntmps119;go_wp2_with(go_at_call 187;refine Q.out.mono ?_;rintro e O⟨rfl,T,D,l,m,L⟩;have A:=Aa (Ab l L);have F:=Aa (E.out.trans m);clear l m L);go_end0;exact⟨rfl,T,D,A.out.1,F.out,A.out.2⟩
end
end
open Cw (Pr pz)
section
variable {mb:Nat} {V:Vr} {own:Nat→Nat} {w:oZ} {s:St}
def SN(word fn arg:Int):G:=⟨word,fn,0,[arg,0,0,0,0,0,0,0],rm,rm,rm,rm,rm,0,[]⟩
theorem lP:Hn 0 1=1:=by decide+kernel
theorem eR{W W':oZ}{B:Nat}(h:qZ w.heap.size w W)(o:Cv (fun j=>j=B) W W') (b:w.heap.size≤B):qZ w.heap.size w W':=h.trans ⟨o.os,o.tape,o.output,o.size,fun k a=>o.block k (Am a h.size) (fun e=>by have:k=B:=e;omega)⟩
theorem eS(fn arg:Int):({SN 0 fn arg with word:=Hn (SN 0 fn arg).word 1}:G)=SN 1 fn arg:=by simp only[SN,lP]
def lQ(mb:Nat)(V:Vr)(own:Nat→Nat)(w:oZ)(s:St)(fn arg:Int)(e:Ending)(w':oZ):Prop:= ∃B,e=rC (ptr B)∧own B=0∧ ∃b a,CC mb b a w' (GJ s fn arg)∧Ext own w a w'∧Fw V b∧b.Gw=V.Gw∧a B=20+5*s.gs.length
theorem CC.born(h:CC mb V own w s)(fn arg:Int)(z:s.gs.length<64):re prog 52 #[ptr mb,I U fn,I U arg] w (lQ mb V own w s fn arg):=by
 obtain⟨a,cap,y⟩:=h.nv;have c5:=h.c5;have j:=h.Nc;rw[y]at c5;have k:=Aa h;have K:=Aa y;have l:Hid (∀W,qZ w.heap.size w W→W.cell? ⟨mb,5,N⟩=Z (.slice a s.gs.length cap)∧W.frozen? ⟨mb,5,N⟩=rm):=fun W O=>by have A:=k.out.below O;have C:=A.c5;rw[y]at C;exact⟨C,A.EX 5⟩
 have P:=Aa j;clear h y j;go_enter func52,ntmps52;go_wp2;go_region_held3(fun Q=>Q.cell? ⟨mb,5,N⟩=Z (.slice a s.gs.length cap)) (go_keep) (first|(go_at_call 115;refine(Vm.GA fn arg _).mono ?_;rintro e f⟨rfl,m⟩;have b:qZ w.heap.size w f:=Es (F1 (rf _ _)) m;have k5:=(l.out _ b).1;have nm: ¬mb=f.heap.size:=(by have A:=b.size;have C:=P.out;omega);have n:=Aa b;clear b m))
 all_goals
  have L:IntKind.i64.wrap ((s.gs.length:Int)+1)=(s.gs.length:Int)+1:=Zaa _ (by omega);rw[L]at*
  have o:Cx (f.alloc (rD #[I U ((s.gs.length:Int)+1),I U 0,I U fn,I U 0,I U arg,I U 0,I U 0,I U 0,I U 0,I U 0,I U 0,I U 0,Vm.Jz,ry rm,ry rm,ry rm,ry rm,ry rm,I U 0] 130)) f.heap.size (Du s.gs.length Vm.Jz (SN 0 fn arg)) 130:=Cx.new f _ 130;have p:=DH n.out (rD #[I U ((s.gs.length:Int)+1),I U 0,I U fn,I U 0,I U arg,I U 0,I U 0,I U 0,I U 0,I U 0,I U 0,I U 0,Vm.Jz,ry rm,ry rm,ry rm,ry rm,ry rm,I U 0] 130);have g:=n.out.size;have c:=(Y2 f.heap.size s.gs.length Vm.Jz (SN 0 fn arg) 1 _ o (by show D4.Dm 0;unfold D4.Dm;decide) (by decide) (by decide));rw[eS]at c;replace c:=Aa c;have D:=Aa p;clear o p c5 L;generalize f.alloc (rD #[I U ((s.gs.length:Int)+1),I U 0,I U fn,I U 0,I U arg,I U 0,I U 0,I U 0,I U 0,I U 0,I U 0,I U 0,Vm.Jz,ry rm,ry rm,ry rm,ry rm,ry rm,I U 0] 130)=W1 at*
  generalize S:f.heap.size=B at*
  go_wp2_with(first|(go_at_call 116;refine c.out.mono ?_;rintro e T⟨rfl,q,r⟩;have d:=Aa (eR D.out r g);have X:=(l.out _ d.out).1;have t:=Aa ((k.out.below d.out).LN (by decide)).1;rw[K.out]at t;have G:=Aa q;clear q r)|(at_builtin;go_loud (refine Jg underlying116 eH rfl (by decide) (by decide) 0 _ rfl _ _ rfl (.slice a s.gs.length cap) s.gs.length (GY s.gs.length V.CP) ⟨T.heap.size,0,N⟩ 1 [ptr B] rfl rfl (t.out.below (Ct (rf _ _) _)) rfl (MK _ _ rfl) (by simp[Value.oneCell']) (Ap _) (by omega) ?_;intro v' w4 u;obtain⟨g',M,rfl⟩:=u.some;rw[←K.out]at u;obtain⟨i,H,n3,n4⟩:=k.out.lG (DH d.out _) u;have HG:=Aa (k.out.ot z (x:=SN 1 fn arg) ⟨rfl,by show D4.Dm 1;unfold D4.Dm;decide,rfl⟩ (G.out.alloc _) g (DH d.out _) u);have z5:w4.cell? ⟨mb,5,N⟩=Z V.Lu:=i.cell 5;have zf:=i.free 5;clear u i H)));go_ret;obtain⟨v,R,E,F,hB⟩:=HG.out;exact⟨B,rfl,k.out.fresh B g,_,v,R,E,F,rfl,hB⟩
end
end Go.Proofs.YtgadhchejmlfjaaGreatDoor.CX
namespace Go.Proofs.YtgadhchejmlfjaaGreatDoor.LK
open Go.Proofs.Tryz Go.RowKit Go.CL
theorem eT:zeroCells213.toList=Y N 0 0::rj 64 (I U 0):=by kernel_rfl
def kI(k i:Nat):Value:=if i=0 then Y N 0 0 else I U (if i-1<k then-1 else 0)
theorem Zo(w:oZ):Dv (w.alloc (rD zeroCells213 213)) w.heap.size 65 213 (kI 0):=by
 have a:zeroCells213.size=65:=by kernel_rfl
 refine⟨_,Cx.new w zeroCells213 213,a,fun i c=>?_⟩;rw[←AW,eT];unfold kI;cases i with
 |zero=>rfl
 |succ i=>
  have b:i<64:=by omega
  show(rj 64 (I U 0))[i]?=_;rw[BE,Ai b,Ah (Nat.succ_ne_zero i),Ah (by omega)]
theorem Zp(w:oZ):re prog 47 #[] w fun e m=> ∃b,e=rC (J (Z ⟨b,0,N⟩))∧w.heap.size≤b∧Bx m b (Y N 0 0) [] (fun _=> -1)∧qZ w.heap.size w m:=by
 have u:=Aa (Zo w);have v:=Aa (Ct (rf w.heap.size w) (rD zeroCells213 213));go_enter func47,ntmps47;go_wp2;generalize n:w.heap.size=L at*
 generalize w.alloc (rD zeroCells213 213)=y at*
 have o:=Aa n;clear n;go_loopw [5] (fun t wr=> ∃k:Nat,k≤64∧t=I U k∧Dv wr L 65 213 (kI k)∧qZ L w wr) (fun t _=>64-(intOf t).toNat)
 case atStart=>exact⟨0,Ap _,rfl,u.out,v.out⟩
 case round=>
  obtain⟨k,q,rfl,f,g⟩:=hrel;by_cases h:k<64
  ·have x:(k:Int)<64:=by omega
   have c1:=f.cell (i:=1+k) (by omega);have f1:=f.free (1+k);have j: ¬(1+k=0):=by omega
   unfold kI at c1;rw[Ah j,Ah (by omega)]at c1;have c:=Aa (f.set (i:=1+k) (by omega) (I U (-1)));have d:=Aa (g.setCell (p:=⟨L,1+k,N⟩) (Al _) (I U (-1)));clear f g;go_wp2;go_roundw
   case rel=>exact⟨k+1,by omega,by go_num,c.out.congr (fun i l=>by
     unfold kI;by_cases r:i=1+k
     ·rw[Ai r,Ah (by omega),Ai (by omega)]
     ·rw[Ah r]
      by_cases a:i=0
      ·rw[Ai a,Ai a]
      ·rw[Ah a,Ah a]
       by_cases s:i-1<k
       ·rw[Ai s,Ai (by omega)]
       ·rw[Ah s,Ah (by omega)]),d.out⟩
   case measure=>simp[intOf];omega
  ·obtain rfl:k=64:=by omega
   have c:=Aa f;have d:=Aa g;clear f g h q;go_wp2;go_ret;refine⟨L,rfl,by rw[o.out];exact Al _,?_,by rw[o.out];exact d.out⟩;refine⟨c.out.congr (fun i l=>?_),?_,by simp[Value.ownBlock],fun i l=>by simp at l,fun k q=>.inl rfl⟩
   ·unfold kI
    by_cases a:i=0
    ·rw[Ai a,Ai a]
    ·rw[Ah a,Ah a,Ai (by omega)]
   ·exact AL wr 0 222 2
end Go.Proofs.YtgadhchejmlfjaaGreatDoor.LK
namespace Go.Proofs.YtgadhchejmlfjaaGreatDoor.CX
open Go.RowKit Go.CL
open Cw (Pr pz)
open Vm (CN)
variable {R:Nat→CV.Rn}
structure nA (o0:Nat→Nat) (w:oZ) (pv:qY) (fs:List Fn):Prop where
 two: ∀j,o0 j=0∨o0 j=14
 fresh: ∀j,w.heap.size≤j→o0 j=0
 prog:Pg o0 w pv fs
 laid:DX.Laid w∧o0 0=14
theorem Qx{w:oZ}{p:Nat}{m:qY}{n:Nat}(h:CV.Hh w p m n R): ∃f:Nat→Nat,(∀i,i<n→f (R i).b=23+5*i)∧(∀i,i<n→f (R i).g=24+5*i)∧f p=5∧(∀j,m.ownBlock=Z j→f j=5)∧(∀j,f j<20∨(∃i,i<n∧j=(R i).b∧f j=23+5*i)∨(∃i,i<n∧j=(R i).g∧f j=24+5*i)):=by
 classical
 have r: ∀i j,i<n→j<n→(R i).b≠(R j).g:=fun i j g l e=>by
  by_cases b:i=j
  ·subst b
   obtain⟨x,y,F,v,_⟩:=h.ring i g;exact v.ne e
  ·exact h.Oz i j g l b (R i).b (.inl rfl) (.inr e)
 have s: ∀i j,i<n→j<n→(R i).b=(R j).b→i=j:=fun i j g l e=>by
  by_cases b:i=j
  ·exact b
  ·exact absurd (.inl e) (h.Oz i j g l b (R i).b (.inl rfl))
 have t: ∀i j,i<n→j<n→(R i).g=(R j).g→i=j:=fun i j g l e=>by
  by_cases b:i=j
  ·exact b
  ·exact absurd (.inr e) (h.Oz i j g l b (R i).g (.inr rfl))
 obtain⟨f,o⟩: ∃f:Nat→Nat,f=fun j=>if a: ∃i,i<n∧(R i).b=j then 23+5*Classical.choose a else if c: ∃i,i<n∧(R i).g=j then 24+5*Classical.choose c else if j=p∨m.ownBlock=Z j then 5 else 0:=⟨_,rfl⟩
 have f1: ∀i,i<n→f (R i).b=23+5*i:=fun i g=>by
  have a: ∃k,k<n∧(R k).b=(R i).b:=⟨i,g,rfl⟩;have q:=Classical.choose_spec a;rw[o];show(if a: ∃k,k<n∧(R k).b=(R i).b then 23+5*Classical.choose a else _)=_
  rw[dif_pos a,s _ _ q.1 g q.2]
 have f2: ∀i,i<n→f (R i).g=24+5*i:=fun i g=>by
  have a: ¬ ∃k,k<n∧(R k).b=(R i).g:=fun⟨k,d,e⟩=>r k i d g e;have c: ∃k,k<n∧(R k).g=(R i).g:=⟨i,g,rfl⟩;have q:=Classical.choose_spec c;rw[o];show(if a: ∃k,k<n∧(R k).b=(R i).g then 23+5*Classical.choose a else if c: ∃k,k<n∧(R k).g=(R i).g then 24+5*Classical.choose c else _)=_
  rw[dif_neg a,dif_pos c,t _ _ q.1 g q.2]
 refine⟨f,f1,f2,?_,fun j l=>?_,fun j=>?_⟩
 ·rw[o]
  show(if a: ∃k,k<n∧(R k).b=p then 23+5*Classical.choose a else if c: ∃k,k<n∧(R k).g=p then 24+5*Classical.choose c else _)=_
  rw[dif_neg (fun⟨k,d,e⟩=>h.rp k d (.inl e.symm)),dif_neg (fun⟨k,d,e⟩=>h.rp k d (.inr e.symm)),Ai (.inl rfl)]
 ·rw[o]
  show(if a: ∃k,k<n∧(R k).b=j then 23+5*Classical.choose a else if c: ∃k,k<n∧(R k).g=j then 24+5*Classical.choose c else _)=_
  rw[dif_neg (fun⟨k,d,e⟩=>h.Mv k d j l (.inl e.symm)),dif_neg (fun⟨k,d,e⟩=>h.Mv k d j l (.inr e.symm)),Ai (.inr l)]
 ·by_cases a: ∃k,k<n∧(R k).b=j
  ·obtain⟨k,d,rfl⟩:=a
   exact .inr (.inl ⟨k,d,rfl,f1 k d⟩)
  ·by_cases c: ∃k,k<n∧(R k).g=j
   ·obtain⟨k,d,rfl⟩:=c
    exact .inr (.inr ⟨k,d,rfl,f2 k d⟩)
   ·left
    rw[o];show(if a: ∃k,k<n∧(R k).b=j then 23+5*Classical.choose a else if c: ∃k,k<n∧(R k).g=j then 24+5*Classical.choose c else if j=p∨m.ownBlock=Z j then 5 else 0)<20
    rw[dif_neg a,dif_neg c];by_cases u:j=p∨m.ownBlock=Z j
    ·rw[Ai u];decide
    ·rw[Ah u];decide
def lR(a cg cm:Int):Sc:=⟨a,cg,cm,0,0,0,0,rm,0,0,0,0,0,0,0,rm⟩
def lS(funcs:List Fn)(n:Nat)(a cg cm:Int):St:={funcs:=funcs,sc:=lR a cg cm,gs:=[],ms:=[],asked:=rj n p0,rings:=rj n r0,stat:=rj n (0,-1),all:=[],CK:=[],CB:=[],owner:=0,waits:=[],box:=rj 64 N}
theorem Zq{α:Type}(n i:Nat)(x d:α)(h:i<n):(rj n x)[i]?.getD d=x:=by simp[h]
theorem jx{o0:Nat→Nat}{w0 W:oZ}{X:List Fn}{pv:qY}{V:Vr}{n a1 a2 a3 a4 a5 a6 a7 r ab t gp:Nat}{o tv sv:qY}{S:Nat→Prop}{cp cg cm:Int}(u:nA o0 w0 pv X)(B:qZ w0.heap.size w0 W)(hn:n≤256)(C:V.Gb=pv)(v:V.Lu=Y N 0 0)(w:V.Mz=Y N 0 0)(D:V.ED=Y (Z ⟨ab,0,N⟩) n n)(p:V.Gw=fun i=>i) (E:CV.Hh W V.procs o n R) (F: ∀i,i<n→(R i).CG=0∧(R i).row=[]) (r1: ∀j,CV.Pf V.procs o n R j→w0.heap.size≤j∧j<a1) (hT:Cw.Tb W V.stat tv (rj n (0,-1))) (r2: ∀j,Cw.Tf V.stat tv j→a1≤j∧j<a2) (hG:CY.Queue W V.all S []) (r3: ∀j,S j→a2≤j∧j<a3) (hI:Idle.St W V.GG t 64 []) (r4: ∀j,Idle.GF V.GG t j→a3≤j∧j<a4) (hJ:Idle.St W V.FC gp 256 []) (r5: ∀j,Idle.GF V.FC gp j→a4≤j∧j<a5) (hS:Dc.Sm W V.CA 0 sv []) (r6: ∀j,Dc.Sf V.CA sv j→a5≤j∧j<a6) (hX:LK.Bx W V.box (Y N 0 0) [] (fun _=> -1)) (r7:a6≤V.box∧V.box<a7) (hM:Cx W r (Dz V (lR cp cg cm)) 121) (r8:a7≤r) (hA:G8 W V.ED (rj n p0)) (r9:r<ab) (aa:ab<W.heap.size) (hle:w0.heap.size≤a1∧a1≤a2∧a2≤a3∧a3≤a4∧a4≤a5∧a5≤a6∧a6≤a7): ∃own,CC r V own W (lS X n cp cg cm)∧ ∀j,j<w0.heap.size→own j=o0 j:=by
 classical
 obtain⟨f,f1,f2,f3,f4,f5⟩:=Qx E;have ad:=hM.lt
 obtain⟨own,l⟩: ∃own:Nat→Nat,own=fun j=>if j<w0.heap.size then o0 j else if j<a1 then f j*(if CV.Pf V.procs o n R j then 1 else 0)else if j<a2 then(if Cw.Tf V.stat tv j then 6 else 0)else if j<a3 then(if S j then 7 else 0)
  else if j<a4 then(if Idle.GF V.GG t j then 8 else 0)else if j<a5 then(if Idle.GF V.FC gp j then 9 else 0)else if j<a6 then(if Dc.Sf V.CA sv j then 10 else 0)else if j<a7 then(if j=V.box then 11 else 0)else if j=r then 1 else if j=ab then 4 else 0:=⟨_,rfl⟩
 have d: ∀j,j<w0.heap.size→own j=o0 j:=fun j a=>by rw[l];exact Ai a
 have m: ∀j,CV.Pf V.procs o n R j→own j=f j:=fun j a=>by have:=r1 j a;rw[l];dsimp only;rw[if_neg (by omega),if_pos (by omega),if_pos a,Nat.mul_one]
 have G: ∀j,Cw.Tf V.stat tv j→own j=6:=fun j a=>by have:=r2 j a;rw[l];dsimp only;rw[if_neg (by omega),if_neg (by omega),if_pos (by omega),if_pos a]
 have H: ∀j,S j→own j=7:=fun j a=>by have:=r3 j a;rw[l];dsimp only;rw[if_neg (by omega),if_neg (by omega),if_neg (by omega),if_pos (by omega),if_pos a]
 have K: ∀j,Idle.GF V.GG t j→own j=8:=fun j a=>by have:=r4 j a;rw[l];dsimp only;rw[if_neg (by omega),if_neg (by omega),if_neg (by omega),if_neg (by omega),if_pos (by omega),if_pos a]
 have L: ∀j,Idle.GF V.FC gp j→own j=9:=fun j a=>by have:=r5 j a;rw[l];dsimp only;rw[if_neg (by omega),if_neg (by omega),if_neg (by omega),if_neg (by omega),if_neg (by omega),if_pos (by omega),if_pos a]
 have M: ∀j,Dc.Sf V.CA sv j→own j=10:=fun j a=>by have:=r6 j a;rw[l];dsimp only;rw[if_neg (by omega),if_neg (by omega),if_neg (by omega),if_neg (by omega),if_neg (by omega),if_neg (by omega),if_pos (by omega),if_pos a]
 have O:own V.box=11:=by rw[l];dsimp only;rw[if_neg (by omega),if_neg (by omega),if_neg (by omega),if_neg (by omega),if_neg (by omega),if_neg (by omega),if_neg (by omega),if_pos (by omega),if_pos rfl]
 have P:own r=1:=by rw[l];dsimp only;rw[if_neg (by omega),if_neg (by omega),if_neg (by omega),if_neg (by omega),if_neg (by omega),if_neg (by omega),if_neg (by omega),if_neg (by omega),if_pos rfl]
 have Q:own ab=4:=by rw[l];dsimp only;rw[if_neg (by omega),if_neg (by omega),if_neg (by omega),if_neg (by omega),if_neg (by omega),if_neg (by omega),if_neg (by omega),if_neg (by omega),if_neg (by omega),if_pos rfl]
 have g: ∀j,own j<20∨(∃i,i<n∧j=(R i).b∧own j=23+5*i)∨(∃i,i<n∧j=(R i).g∧own j=24+5*i):=fun j=>by
  by_cases hp:CV.Pf V.procs o n R j
  ·rw[m j hp];exact f5 j
  ·left
   rw[l];dsimp only;rw[Ah hp];by_cases h0:j<w0.heap.size
   ·rw[Ai h0];rcases u.two j with e|e<;>rw[e]<;>decide
   ·rw[Ah h0]
    (repeat' split)<;>omega
 have x: ∀j,W.heap.size≤j→own j=0:=fun j a=>by
  have hs:=B.size;have n1: ¬CV.Pf V.procs o n R j:=fun h=>by have:=E.lt h;omega
  have n2: ¬Cw.Tf V.stat tv j:=fun h=>by have:=hT.lt h;omega
  have n3: ¬S j:=fun h=>by have:=hG.lt h;omega
  rw[l];dsimp only;rw[Ah n1,Ah n2,Ah n3];have n4: ¬j<a7:=by omega
  rw[Ah (by omega),Ah (by omega),Ah (by omega),Ah (by omega),Ah (by omega),Ah (by omega),Ah (by omega),Ah (by omega),Ah (by omega),Ah (by omega)]
 have T:nd own W V.box (rj 64 N):=by
  refine⟨Y N 0 0,0,0,pz,⟨⟨[],fun _=> -1,hX,rfl,fun i c=>by omega,fun k q _=>?_,fun h=>by omega⟩⟩,Al _,by decide,by simp,fun j a=>?_⟩
  ·rw[BE,Ai q];rfl
  ·rcases a with rfl|a
   ·exact O
   ·cases a
 refine⟨own,⟨x,P,?_,⟨u.laid.1.below B,?_⟩,⟨Zag _,Zag _⟩,fun _=>⟨?_,fun j a=>?_⟩,fun _=>⟨?_,fun j a=>?_⟩,fun _=>⟨hA,fun j a=>?_⟩,fun _=>hM,fun _=>⟨o,R,?_⟩,fun _=>⟨tv,hT,G⟩,fun _=>⟨S,hG,H⟩,fun _=>⟨t,hI,K⟩,fun _=>⟨gp,hJ,L⟩,fun _=>⟨sv,hS,M⟩,fun _=>T,fun _ i c=>absurd c (BV _),fun _ j a=>absurd a (BV _),fun j a=>absurd a (BV _),fun i c=>absurd c (BV _),fun i c=>absurd c (BV _),fun j a=>absurd a (BV _),fun j a=>absurd a (BV _),fun b i z=>?_,fun b i z=>?_,?_⟩,d⟩
 ·rw[C]
  exact u.prog.turn (S:=fun _=>False) ((Cv.refl _ w0).below B) (fun j a=>a.elim) d
 ·rw[d 0 u.laid.1.lt];exact u.laid.2
 ·rw[v];exact .inl (AL _ _ _ _)
 ·rw[v]at a;cases a
 ·rw[w];exact .inl (AL _ _ _ _)
 ·rw[w]at a;cases a
 ·rw[D]at a;cases a;exact Q
 ·have A:(rj n r0).length=n:=by simp
  show Qa own V.Gw W V.procs o R (rj n r0);refine⟨by rw[A];exact E,fun i c=>?_,?_,fun j a=>?_,fun i c=>?_,fun i c=>?_,fun i c b z=>?_⟩
  ·rw[A]at c;rw[Zq _ _ _ _ c];exact F i c
  ·rw[m _ (.inl rfl)];exact f3
  ·rw[m _ (.inr (.inl a))];exact f4 j a
  ·rw[A]at c;rw[m _ (.inr (.inr ⟨i,c,.inl rfl⟩)),p];exact f1 i c
  ·rw[A]at c;rw[m _ (.inr (.inr ⟨i,c,.inr rfl⟩)),p];exact f2 i c
  ·rw[p]at z;dsimp only at z;rcases g b with h1|⟨k,q,s,y⟩|⟨k,q,s,y⟩
   ·omega
   ·rw[s,show k=i by omega]
   ·omega
 ·rcases g b with h1|⟨k,q,s,y⟩|⟨k,q,s,y⟩<;>omega
 ·rcases g b with h1|⟨k,q,s,y⟩|⟨k,q,s,y⟩<;>omega
 ·show 0≤64∧0≤64∧(rj n r0).length≤256
  simp;exact hn
end Go.Proofs.YtgadhchejmlfjaaGreatDoor.CX
namespace Go.Proofs.YtgadhchejmlfjaaGreatDoor.Cw
open Go.Proofs.Tryz Go.RowKit Go.CL
variable {t:Nat} {tv XD:qY} {w w' lT:oZ} {l':List Pr}
def LC(n:Nat)(i:Nat)(x:Pr):Pr:=if n≤i then(4,-1)else if x.1=4 then(3,-1)else x
def upto(n k:Nat)(l:List Pr):List Pr:=l.mapIdx (fun i x=>if i<k then LC n i x else x)
def wide(l:List Pr)(n:Nat):List Pr:=l++rj (n-l.length) (4,-1)
def eU(l:List Pr)(n:Nat):List Pr:=upto n (wide l n).length (wide l n)
theorem We(n:Nat)(l:List Pr):upto n 0 l=l:=by apply BC;intro i;simp[upto]
theorem Zr(n k:Nat)(l:List Pr):(upto n k l).length=l.length:=by simp[upto]
theorem Um(n k:Nat)(l:List Pr)(i:Nat)(h:k≤i):(upto n k l)[i]?.getD pz=l[i]?.getD pz:=by
 simp only[upto,Zbv];cases l[i]? with
 |none=>rfl
 |some x=>simp[show¬i<k by omega]
theorem Wf(n k:Nat)(l:List Pr)(h:k<l.length):upto n (k+1) l=(upto n k l).set k (LC n k (l[k]?.getD pz)):=by
 apply BC;intro i;rw[As];simp only[upto,Zbv,List.length_mapIdx];by_cases e:k=i
 ·subst e
  simp[h]
 ·rw[Ah e]
  cases b:l[i]? with
  |none=>rfl
  |some x=>
   simp only[BA];by_cases a:i<k
   ·rw[Ai a,Ai (by omega)]
   ·rw[Ah a,Ah (by omega)]
theorem Zs(l:List Pr)(k:Nat)(h:k<l.length):l.set k (l[k]?.getD pz)=l:=by
 apply BC;intro i;rw[As];by_cases e:k=i
 ·subst e;simp[h]
 ·rw[Ah e]
def Kv(l:List Pr):Prop:=(cnt 3 l:Int)=Pz l
instance (l:List Pr):Decidable (Kv l):=by unfold Kv;infer_instance
structure Go (t:Nat) (tv:qY) (w:oZ) (XD:qY) (l':List Pr) (w':oZ):Prop where
 G3:Tb w' t XD l'
 only:Cv (Tf t tv) w w'
 gr: ∀j,Tf t XD j→Tf t tv j∨w.heap.size≤j
theorem Go.refl{l:List Pr}(h:Tb w t tv l):Go t tv w tv l w:=⟨h,Cv.refl _ _,fun j a=>.inl a⟩
theorem Go.below(h:Go t tv w XD l' w')(a:qZ w'.heap.size w' lT):Go t tv w XD l' lT:=⟨h.G3.below a,h.only.below a,h.gr⟩
theorem Go.trans{a:qY}{b:List Pr}(h:Go t tv w XD l' w')(d:Tb lT t a b)(e:Cv (Tf t XD) w' lT)(f: ∀j,Tf t a j→Tf t XD j∨w'.heap.size≤j):Go t tv w a b lT:=⟨d,h.only.andThen e (fun j c g=>(h.gr j g).elim id (fun x=>by omega)),fun j c=>(f j c).elim (h.gr j) (fun x=>.inr (AE h.only.size x))⟩
theorem Go.put{g n cap:Nat}(h:Go t tv w (Y (Z ⟨g,0,N⟩) n cap) l' w')(i:Nat)(a:i<l'.length)(x:Pr):Go t tv w (Y (Z ⟨g,0,N⟩) n cap) (l'.set i x) ((w'.setCell ⟨g,i*2,N⟩ (I U x.1)).setCell ⟨g,i*2+1,N⟩ (I U x.2)):=h.trans (h.G3.put i a x) (((Cv.refl (Tf t (Y (Z ⟨g,0,N⟩) n cap)) w').set (.inr (.inr rfl)) _ _).set (.inr (.inr rfl)) _ _) (fun j b=>.inl b)
def qi(t:Nat)(tv:qY)(l':List Pr)(f:Int)(w:oZ)(e:Ending)(w':oZ):Prop:=e=rC (I U f)∧ ∃XD,Go t tv w XD l' w'
theorem JL(t:Nat)(tv:qY)(l:List Pr)(n:Nat)(w:oZ)(h:Tb w t tv l)(h1:1≤n)(h2:n≤256)(hl:l.length≤256):re prog 342 #[J (Z ⟨t,0,N⟩),I U n] w (qi t tv (if Kv l then eU l n else l) (if Kv l then 0 else 9) w):=by
 have W:=Aa (ER n w);rw[AZ ⟨by omega,by omega⟩]at W;have HC:Hid (re prog 360 #[J (Z ⟨t,0,N⟩),I U 3] w (cI (cnt 3 l) w)):=Nv t tv l 3 w h (by omega);have HH:=Aa h;clear h;by_cases d:Kv l
 ·rw[Ai d,Ai d]
  have G:Hid ((cnt 3 l:Int)=Pz l):=d;clear d;go_enter func342,ntmps342;go_wp2_with fail;refine W.out.mono ?_;rintro e R⟨rfl,rfl⟩;go_wp2_with fail;refine HC.out.mono ?_;rintro e R⟨rfl,q⟩;have r:=Aa ((Go.refl HH.out).below q);have o:=Aa (DT t tv l R r.out.G3 (by omega));rw[G.out];generalize Pz l=z at*
  have X:(z !=z)=false:=by simp
  clear q;go_wp2_with fail;refine o.out.mono ?_;rintro e w2⟨rfl,s⟩;have H:=Aa (r.out.below s);clear s;go_wp2_with fail;go_loopg [20] (n-l.length) (fun gk _ wr=> ∃XD l',Go t tv w XD l' wr∧l'=l++rj (n-l.length-gk) (4,-1)∧gk≤n-l.length)
  case atStart=>exact⟨tv,l,H.out,by simp,Al _⟩
  case round=>
   obtain⟨aj,b,O,p,ak⟩:=hrel;have S:b.length=l.length+(n-l.length-gk):=by rw[p];simp
   obtain⟨a,cap,rfl⟩:=O.G3.slice;have c0:=O.G3.Dp.cell 0;have ao:=O.G3.Dp.lt;simp only[Ad,Ac]at c0;have P:=Aa O;have aq:=Aa p;cases gk with
   |succ j=>
    have hd:decide (b.length<n)=true:=by simp;omega
    have E:Hid (Gz (wr.alloc (rD #[I U 4,I U (-1)] 201)) (t+1) 201 2 (.slice a b.length cap) b.length (ys b)):=.inl (CJ P.out.G3.own (Ct (rf _ _) _));have o:Hid (b.length<100000000):=by show _<_;omega
    have aa:Hid (b++[(4,-1)]=l++rj (n-l.length-j) (4,-1)):=by show _=_;rw[p,show n-l.length-j=(n-l.length-(j+1))+1 by omega,Zbt,AR]
    obtain⟨T,u⟩: ∃T,Hid (b.length=T):=⟨_,rfl⟩;have ar:t+1≤wr.heap.size:=by omega
    rw[u.out]at c0 hd E P o;clear O p S;go_wp2_with(at_builtin;refine Jg underlying197 TP rfl (by decide) (by decide) (t+1) _ rfl _ _ rfl (.slice a T cap) T (ys b) ⟨wr.heap.size,0,N⟩ 1 [I U 4,I U (-1)] rfl rfl E.out rfl (cM wr _ _ 201) (kO _ _) (by simp;omega) o.out ?_;intro v' w' V;rw[←u.out]at V;obtain⟨g',ah,rfl⟩:=V.some;obtain⟨v,K,L,M⟩:=Tb.more (by rw[u.out];exact P.out.G3) V;rw[u.out]at v K L M;have q0:=v.cell 0;have qf:=v.free 0;have au:=v.lt;simp only[Ad,Ac]at q0;have ab:=Aa (P.out.trans K L M);rw[u.out];clear V v K L M);go_roundg j
    case rel=>exact⟨_,_,ab.out,aa.out,by omega⟩
    case measure=>omega
   |zero=>
    have hd:decide (b.length<n)=false:=by simp;omega
    have ad:Hid (wide l n=b):=by show _=_;rw[p];simp[wide]
    have av:n≤b.length:=by omega
    have ai:b.length≤256:=by omega
    clear O p S;go_wp2_with fail;go_loopw [42] (fun i wr=> ∃(k:Nat)(f:Nat)(g2:Nat),k≤b.length∧i=I U k∧Go t tv w (Y (Z ⟨g2,0,N⟩) b.length f) (upto n k b) wr) (fun i _=>b.length-(intOf i).toNat)
    case atStart=>
     obtain⟨g,ha⟩: ∃g,a=Z ⟨g,0,N⟩:=by obtain⟨_,g,ha,_⟩:=P.out.G3.at 0 (by omega);exact⟨g,ha⟩
     subst ha;exact⟨0,cap,g,Ap _,rfl,by rw[We];exact P.out⟩
    case round=>
     obtain⟨k,f,g2,hk,rfl,c⟩:=hrel;by_cases A:k<b.length
     ·have ae:decide (k<b.length)=true:=by simpa using A
      have B:k<(upto n k b).length:=by rw[Zr];exact A
      have y0:=c.G3.Dp.cell 0;have aw:=c.G3.Dp.lt;simp only[Ad,Ac]at y0;obtain⟨ez,g3,eg,z0,z1⟩:=c.G3.at k B;simp only[Ak,BF]at eg;obtain⟨rfl,_⟩:=eg;rw[Um n k b k (Al _)]at z0 z1;have ax:=(c.G3.free (k*2)).1;have ay:=(c.G3.free (k*2+1)).1;have az:=(c.G3.free 0).2;have m:=Aa (Wf n k b A);have C:=Aa (Zs (upto n k b) k B);rw[Um n k b k (Al _)]at C;have af:=Aa c;have F:=Aa (fun x=>c.put k B x);have a1:(k:Int)<(b.length:Int):=by omega
      clear c ez B;by_cases D:n≤k
      ·have ag:decide (n≤k)=true:=by simpa using D
       have y:Hid (LC n k (b[k]?.getD pz)=(4,-1)):=by show _=_;unfold LC;rw[Ai D]
       rw[y.out]at m;generalize b.length=ll at*
       go_wp2_with fail;go_roundw
       case rel=>exact⟨k+1,f,g2,by omega,by go_num,by rw[m.out];exact F.out (4,-1)⟩
       case measure=>simp[intOf];omega
      ·have ag:decide (n≤k)=false:=by simpa using D
       have y:Hid (LC n k (b[k]?.getD pz)=if(b[k]?.getD pz).1=4 then(3,-1)else b[k]?.getD pz):=by show _=_;unfold LC;rw[Ah D]
       rw[y.out]at m;by_cases Q:(b[k]?.getD pz).1=4
       ·rw[Ai Q]at m
        rw[Q]at z0;clear Q y C;generalize(b[k]?.getD pz).2=yy at*
        generalize b.length=ll at*
        go_wp2_with fail;go_roundw
        case rel=>exact⟨k+1,f,g2,by omega,by go_num,by rw[m.out];exact F.out (3,-1)⟩
        case measure=>simp[intOf];omega
       ·rw[Ah Q,C.out]at m
        have a6:((b[k]?.getD pz).1==4)=false:=by rw[Au];exact Q
        clear Q y C;generalize(b[k]?.getD pz).1=y1 at*
        generalize(b[k]?.getD pz).2=y2 at*
        generalize b.length=ll at*
        go_wp2_with fail;go_roundw
        case rel=>exact⟨k+1,f,g2,by omega,by go_num,by rw[m.out];exact af.out⟩
        case measure=>simp[intOf];omega
     ·have ae:decide (k<b.length)=false:=by simpa using A
      obtain rfl:k=b.length:=by omega
      have HE:=Aa c;clear c;go_wp2_with fail;go_ret;exact⟨rfl,_,by unfold eU;rw[ad.out];exact HE.out⟩
 ·rw[Ah d,Ah d]
  have G:Hid (((cnt 3 l:Int) !=Pz l)=true):=by show _=_;simpa[Kv]using d
  clear d;go_enter func342,ntmps342;go_wp2_with fail;refine W.out.mono ?_;rintro e R⟨rfl,rfl⟩;go_wp2_with fail;refine HC.out.mono ?_;rintro e R⟨rfl,q⟩;have r:=Aa ((Go.refl HH.out).below q);have o:=Aa (DT t tv l R r.out.G3 (by omega));generalize Pz l=z at*
  generalize(cnt 3 l:Int)=z3 at*
  have X:=G.out;clear q;go_wp2_with fail;refine o.out.mono ?_;rintro e w2⟨rfl,s⟩;have H:=Aa (r.out.below s);clear s;go_wp2_with fail;go_ret;exact⟨rfl,_,H.out⟩
end Go.Proofs.YtgadhchejmlfjaaGreatDoor.Cw
