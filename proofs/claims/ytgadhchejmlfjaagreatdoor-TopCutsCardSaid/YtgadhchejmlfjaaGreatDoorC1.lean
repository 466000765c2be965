/- A part of the proof. -/
import Derived.Test.YtgadhchejmlfjaaGreatDoorC0
set_option linter.unusedVariables false
set_option maxRecDepth 20000
set_option maxHeartbeats 16000000
open Go.Value renaming int→I,pointer→J,slice→Y
open Go.IntKind renaming i64→U
open Option renaming none→N,some→Z
open Bool renaming false→rm,true→rq
open Go renaming Calls→re,Value→qY,World→oZ
open Go.Ending renaming returned→rC
open Go.Obj renaming cells→rD
open Go.RowKit renaming Below→qZ
open Go.RowKit.Below renaming drew→rk,refl→rf
open Go.Value renaming agg→rE,bool→ry,string→rF,tuple→rG
open List renaming replicate→rj
namespace Go.Proofs.YtgadhchejmlfjaaGreatDoor.CX
open Go.Proofs.Tryz Go.RowKit Go.CL
open Vm (CN)
open Cw (Pr pz)
def Kw:Nat→List Int→List Int
 |0,l=>l
 |k+1,l=>Kw k (Idle.Ig 256 l ((k+1:Nat):Int))
def cQ(c:List Fn)(a:Nat)(cg cm:Int)(b:List Int)(stat:List Pr)(ms:List M1):St:={funcs:=c,sc:=lR a cg cm,gs:=[],ms:=ms,asked:=rj a p0,rings:=rj a r0,stat:=stat,all:=[],CK:=[],CB:=b,owner:=0,waits:=[],box:=rj 64 N}
def mB:M1:=⟨0,0,1,rm,0,0,0⟩
def QM(a:Nat):List Pr:=Cw.LS (rj a (0,-1)) 0 0 (fun _ _=>(1,0)) (fun s _=>s==0)
def mC(s:St):List Rs:=s.rings.set 0 ⟨Ring.Ng (D5 s 0).CG 1 rm,Ring.Ov 256 (D5 s 0).CG (D5 s 0).row 1 rm⟩
def NY(b:List Fn)(a:Nat)(cg cm:Int):St:={GJ (cQ b a cg cm (Kw (a-1) []) (QM a) [mB]) 0 0 with rings:=mC (GJ (cQ b a cg cm (Kw (a-1) []) (QM a) [mB]) 0 0)}
def mD(o0:Nat→Nat)(w:oZ)(b:List Fn)(c:Nat)(cg cm:Int)(pv:qY)(e:Ending)(w':oZ):Prop:= ∃a V own,e=rC (rG #[ptr a,I U 0])∧CC a V own w' (NY b c cg cm)∧w.heap.size≤a∧(∀j,j<w.heap.size→own j=o0 j)∧qZ w.heap.size w w'∧V.Gb=pv
theorem I8{o0 own C6:Nat→Nat}{w W w':oZ}(b:qZ w.heap.size w W)(f: ∀j,j<w.heap.size→o0 j=0∨o0 j=14) (c: ∀j,j<w.heap.size→own j=o0 j) (g:Ext own W C6 w'):qZ w.heap.size w w':=
 b.trans (g.only.toBelow b.size (fun j d=>Nat.le_of_not_lt fun a=>by
  rcases f j a with e|e
  ·exact d.1 ((c j a).trans e)
  ·exact d.2 ((c j a).trans e)))
theorem fC(W:oZ)(B:Nat):Dn W 0 123 1 (Y N 0 0) 0 [] [ptr B] (Y (Z ⟨W.heap.size,0,N⟩) 1 1) (W.alloc (rD #[ptr B] 123)):=⟨L9 (n:=1) (size:=1) (Cx.new W #[ptr B] 123) (Ap _) rfl (by decide),World.grownBy_alloc W _ N,fun j a=>by cases a;exact .inr (Al _)⟩
theorem jT{e:Nat}{V:Vr}{c:Nat→Nat}{a:oZ}{f:List Fn}{g:Nat}{cg cm:Int}{l:List Int}{st:List Pr}(d:CC e V c a (cQ f g cg cm l st []))(hm:V.Mz=Y N 0 0): ∃h b,CC e h b (((a.setCell ⟨e,6,N⟩ (Y (Z ⟨a.heap.size+1,0,N⟩) 1 1)).alloc (rD #[I U 0,I U 0,J N,I U 1,ry rm,I U 0,I U 0,I U 0] 125)).alloc (rD #[J (Z ⟨a.heap.size,0,N⟩)] 123)) (cQ f g cg cm l st [mB])∧Ext c a b (((a.setCell ⟨e,6,N⟩ (Y (Z ⟨a.heap.size+1,0,N⟩) 1 1)).alloc (rD #[I U 0,I U 0,J N,I U 1,ry rm,I U 0,I U 0,I U 0] 125)).alloc (rD #[J (Z ⟨a.heap.size,0,N⟩)] 123))∧h.Gb=V.Gb∧h.procs=V.procs:=by have lm:=d.Nc;have k:Cx (a.alloc (rD #[I U 0,I U 0,J N,I U 1,ry rm,I U 0,I U 0,I U 0] 125)) a.heap.size (C8 V.CP (cQ f g cg cm l st []).ms.length mB) 125:=Cx.new a _ 125;have m:=fC (a.alloc (rD #[I U 0,I U 0,J N,I U 1,ry rm,I U 0,I U 0,I U 0] 125)) a.heap.size;have i:=CC.gU (y:=mB) rfl d (show(0:Nat)<64 by decide) k (Al _) (Ct (rf _ _) _) (by rw[hm];exact m);rw[show(a.alloc (rD #[I U 0,I U 0,J N,I U 1,ry rm,I U 0,I U 0,I U 0] 125)).heap.size=a.heap.size+1 by simp,World.setCell_alloc_past _ _ _ _ (by simp;omega),World.setCell_alloc_past _ _ _ _ lm]at i;obtain⟨b,n,o,j,_⟩:=i;exact⟨_,b,n,o,j.Gb,j.procs⟩
theorem GA(o0:Nat→Nat)(fs:List Fn)(n o pc q:Nat)(b cg cm:Nat)(w:oZ)(hO:nA o0 w (Y (Z ⟨n,o,N⟩) q pc) fs)(ag: ∀W,qZ w.heap.size w W→re prog 40 #[rE #[Y (Z ⟨n,o,N⟩) q pc]] W fun e w'=>e=rC (rG #[I U (-1),I U (-1),I U 0])∧qZ W.heap.size W w') (hp:1≤b∧b≤256) (hg:1≤cg∧cg≤64) (hm:1≤cm∧cm≤64):re prog 10 #[rE #[Y (Z ⟨n,o,N⟩) q pc],rE #[I U b,I U cg,I U cm]] w (mD o0 w fs b cg cm (Y (Z ⟨n,o,N⟩) q pc)):=by
 have r:=Aa hO;clear hO;have ah:=Aa ag;have g:=Aa (Ab hp (Ab hg hm));obtain⟨c,s⟩: ∃c,(w.alloc (rD #[Y (Z ⟨n,o,N⟩) q pc] 26)).alloc (rD #[I U b,I U cg,I U cm] 34)=c:=⟨_,rfl⟩;have hb:qZ w.heap.size w c:=by rw[←s];exact Ct (Ct (rf _ _) _) _
 have b2:Cx c w.heap.size #[Y (Z ⟨n,o,N⟩) q pc] 26:=by rw[←s];exact(Cx.new w _ 26).below (Ct (rf _ _) _) (by simp)
 have b3:Cx c (w.heap.size+1) #[I U b,I U cg,I U cm] 34:=by have k:=Cx.new (w.alloc (rD #[Y (Z ⟨n,o,N⟩) q pc] 26)) #[I U b,I U cg,I U cm] 34;rw[s]at k;simpa using k
 have x:Hid (∀W,qZ c.heap.size c W→W.cell? ⟨w.heap.size,0,N⟩=Z (Y (Z ⟨n,o,N⟩) q pc)∧W.cell? ⟨w.heap.size+1,0,N⟩=Z (I U b)∧W.cell? ⟨w.heap.size+1,1,N⟩=Z (I U cg)∧W.cell? ⟨w.heap.size+1,2,N⟩=Z (I U cm)):=fun W hW=>by have k2:=b2.below hW b2.lt;have k3:=b3.below hW b3.lt;exact⟨k2.cell 0,k3.cell 0,k3.cell 1,k3.cell 2⟩
 have HB:=Aa hb;obtain⟨a0,a1,a2,a3⟩:=x.out c (rf _ _);clear ag hp hg hm hb b2 b3;go_enter func10,ntmps10;go_wp2_with(first|(go_at_call 40;refine(ah.out _ HB.out).mono ?_;rintro e w1⟨rfl,a⟩;obtain⟨b0,b1,b2,b3⟩:=x.out w1 a;have Q:=Aa a;clear a)|(go_at_call 41;refine(EO.J7 b cg cm _ (by have:=g.out.1;omega) (by have:=g.out.2.1;omega) (by have:=g.out.2.2;omega)).mono ?_;rintro e w2⟨rfl,a⟩;have S:=Q.out.trans (a.mono Q.out.size);obtain⟨d0,d1,d2,d3⟩:=x.out w2 S;have E:=Aa S;clear a S));clear a0 a1 a2 a3 b0 b1 b2 b3;go_region_held3(fun w'=>w'.cell? ⟨w.heap.size,0,N⟩=Z (Y (Z ⟨n,o,N⟩) q pc)∧w'.cell? ⟨w.heap.size+1,0,N⟩=Z (I U b)∧w'.cell? ⟨w.heap.size+1,1,N⟩=Z (I U cg)∧w'.cell? ⟨w.heap.size+1,2,N⟩=Z (I U cm)) (go_keep) (first|(go_at_call 42;refine(CV.Fu b _ g.out.1.1 g.out.1.2).mono ?_;rintro e w3⟨rfl,rv,R,hP,hz,a,ai⟩;have F:Hid (qZ c.heap.size c w3):=Aa (E.out.trans ((Es (by first|exact rf _ _|exact DU|exact DA _) a).mono E.out.size));obtain⟨bq,br,bs,bt⟩:=x.out w3 F.out;have HP:=Aa (Ab hP (Ab hz ai));have aj:=Aa a;clear a hP hz ai)|(go_at_call 43;refine(Cw.Fu b _ g.out.1.1 g.out.1.2).mono ?_;rintro e w4⟨rfl,tv,hT,a⟩;have G:Hid (qZ c.heap.size c w4):=Aa (F.out.trans (a.mono F.out.size));obtain⟨bu,bw,bz,b4⟩:=x.out w4 G.out;have HT:=Aa hT;have ak:=Aa a;clear a hT)|(go_at_call 44;refine(CY.GA _).mono ?_;rintro e w5⟨rfl,hw⟩;have a:=Ct (rf w4.heap.size w4) (rD #[Y N 0 0,Y N 0 0] 203);rw[hw]at a;have H:Hid (qZ c.heap.size c w5):=Aa (G.out.trans (a.mono G.out.size));obtain⟨b5,b7,b8,b9⟩:=x.out w5 H.out;have HG:=Aa hw;have ca:=Aa a;clear a hw)|(go_at_call 45;first|(have hh:=y;refine(Idle.Fu 256 _ (by decide)).mono ?_;rintro e w7⟨rfl,hI,a⟩;have K:Hid (qZ c.heap.size c w7):=Aa (y.out.trans (a.mono y.out.size));obtain⟨cb,cc,cd,cf⟩:=x.out w7 K.out;have ao:=Aa hI;have aq:=Aa a;clear a hI hh)|(refine(Idle.Fu 64 _ (by decide)).mono ?_;rintro e w6⟨rfl,hI,a⟩;have y:Hid (qZ c.heap.size c w6):=Aa (H.out.trans (a.mono H.out.size));obtain⟨ch,cj,ck,cl⟩:=x.out w6 y.out;have ar:=Aa hI;have au:=Aa a;clear a hI))|(go_at_call 46;refine(Dc.GA _).mono ?_;rintro e w8⟨rfl,hw⟩;have a:=Ct (rf w7.heap.size w7) (rD #[I U 0,Y N 0 0] 207);rw[hw]at a;have L:Hid (qZ c.heap.size c w8):=Aa (K.out.trans (a.mono K.out.size));obtain⟨cn,cq,cr,ct⟩:=x.out w8 L.out;have HM:=Aa hw;have cu:=Aa a;clear a hw)|(go_at_call 47;refine(LK.Zp _).mono ?_;rintro e d⟨xb,rfl,hx,hX,a⟩;have M:Hid (qZ c.heap.size c d):=Aa (L.out.trans (a.mono L.out.size));obtain⟨cv,cw,cx,cy⟩:=x.out d M.out;have T:=Aa (Ab hx hX);have av:=Aa a;clear a hx hX));rename_i hh;clear hh;have aw:=Aa (ZW (cg:=cg) (cm:=cm) (w2:=w2.drew) r.out g.out.1.2 ((HB.out.trans (E.out.mono HB.out.size)).drew) HP.out.1 HP.out.2.1 HP.out.2.2 aj.out HT.out ak.out HG.out ar.out au.out ao.out aq.out HM.out T.out.1 T.out.2 av.out);have cz:=fun W=>fB b (by have:=g.out.1;omega) W;have l9:w.heap.size+1<d.heap.size:=by have:=M.out.size;rw[←s]at this;simp at this;omega
 have l10:w.heap.size+1<d.heap.size+1:=by omega
 have c2:w.heap.size+1<d.heap.size+1+1:=by omega
 have m9: ¬w.heap.size+1=d.heap.size:=by omega
 have m10: ¬w.heap.size+1=d.heap.size+1:=by omega
 have e1:IntKind.i64.wrap ((b:Int)-1)=((b-1:Nat):Int):=by have:=g.out.1;rw[Zav];omega
 have dc:Hid (qZ w.heap.size w ((d.alloc (rD #[ptr w2.drew.heap.size,Y (Z ⟨n,o,N⟩) q pc,I U b,I U cg,I U cm,Y N 0 0,Y N 0 0,Y (Z ⟨d.heap.size+1,0,N⟩) b b,ptr w3.heap.size,ptr w4.heap.size,ptr (w5.heap.size+1),ptr (w6.heap.size+1),ptr w7.heap.size,ptr xb,I U 0,I U 0,I U 0,I U 0,ry rm,I U 0,J N,I U 0,I U 0,I U 0,I U 0,I U 0,ry rm] 121)).alloc (rD (IM b) 139))):=Ct (Ct (HB.out.trans (M.out.mono HB.out.size)) _) _;go_wp2;clear cz l10 c2 m9 m10 e1 d0 d1 d2 d3 bq br bs bt bu bw bz b4 b5 b7 b8 b9 ch cj ck cl cb cc cd cf cn cq cr ct cv cw cx cy s;obtain⟨ax,X,ay⟩:=aw.out;obtain⟨V,hV⟩: ∃V,V=ZV (Y (Z ⟨n,o,N⟩) q pc) w2.drew.heap.size w3.heap.size w4.heap.size (w5.heap.size+1) (w6.heap.size+1) w7.heap.size xb (d.heap.size+1) b:=⟨_,rfl⟩;rw[←hV]at X;have HV:Hid (V.Mz=Y N 0 0∧V.Gb=Y (Z ⟨n,o,N⟩) q pc):=by show _∧_;rw[hV];exact⟨rfl,rfl⟩
 have az:=Aa (Ab X ay);have df:Hid (w.heap.size≤d.heap.size):=Nat.le_of_lt (Nat.lt_of_succ_lt l9);clear X ay hV l9;clear aw HP aj HT ak HG ca ar au ao aq HM cu T av Q E F G H y K L M x ah;go_loopw [11] (fun t wr=> ∃(k:Nat)(z:Nat→Nat)(l:List Int),k≤b-1∧t=I U k∧CC d.heap.size V z wr (cQ fs b cg cm l (rj b (0,-1)) [])∧(∀j,j<w.heap.size→z j=o0 j)∧qZ w.heap.size w wr∧Kw k l=Kw (b-1) []) (fun t _=>(intOf t).toNat)
 case atStart=>exact⟨b-1,ax,[],Al _,rfl,az.out.1,az.out.2,dc.out,rfl⟩
 case round=>
  obtain⟨k,z,l,hk,rfl,hR,ho,a,hl⟩:=hrel;by_cases h0:k=0
  ·subst h0
   have c8:=hR.c8;have dp: ∀W v,(World.setCell W ⟨d.heap.size,6,N⟩ v).cell? ⟨d.heap.size,0,N⟩=W.cell? ⟨d.heap.size,0,N⟩:=fun W v=>B9 W _ _ v (by simp);have f:=Aa (Ab hR (Ab ho (Ab a hl)));clear hR ho a hl hk;go_wp2_with(first|(go_at_call 49;go_loud (refine(f.out.1.Qd 0 0).mono ?_;rintro e A⟨rfl,a6,P,a7⟩;have h:CC d.heap.size V a6 A (cQ fs b cg cm l (QM b) []):=P;have c6:=h.c6;have c0:=h.c0;have f6:=h.EX 6;have lm:=h.Nc;have dt:d.heap.size<A.heap.size+1:=(by omega);have du: ¬d.heap.size=A.heap.size:=(by omega);have dv: ¬d.heap.size=A.heap.size+1:=(by omega);have HA:=Aa (jT h HV.out.1);have dh:=Aa a7;clear h P a7))|(go_at_call 50;go_loud (obtain⟨V5,dk,aa,a8,ba,bb⟩:=HA.out;have hQ:=aa.ring 0 (by show 0<(rj b r0).length;rw[Cd];exact g.out.1.1);rw[bb]at hQ;refine hQ.mono ?_;clear hQ;rintro e dw⟨⟨rb,rfl,bc⟩,rfl⟩;have m:=Aa (Ab aa (Ab a8 (Ab ba bc)));clear aa a8 ba bb bc))|(go_at_call 52;go_loud (refine(m.out.1.born 0 0 (show(0:Nat)<64 by decide)).mono ?_;rintro e dx⟨B,rfl,di,V6,dm,ab,ad,bd,bf,bg⟩;have k0:=Jh (i:=0) (u:=1) ab bg rfl rfl;have C:=ad.keep m.out.2.2.2 (m.out.1.CU m.out.2.2.2 (by omega));rw[←bf]at C;have O:=Aa (Ab ab (Ab ad (Ab (bd.Gb.trans m.out.2.2.1) C)));clear bf di ab ad bd bg C))|(go_at_call 51;go_loud (refine(O.out.1.lu (p:=0) (by show 0<(rj b r0).length;rw[Cd];exact g.out.1.1) O.out.2.2.2 1 rm).mono ?_;rintro e dy⟨v,rfl,hv,bh,bj,bk,_⟩;have ae:=Aa (Ab bj bk);clear hv bj bk)));go_ret2;have hl:l=Kw (b-1) []:=f.out.2.2.2;have hE:=dh.out.trans (m.out.2.1.trans (O.out.2.1.trans ae.out.2));have af:=f.out.2.2.1.size;rw[hl]at ae;exact⟨d.heap.size,V6,bh,rfl,ae.out.1,df.out,fun j hj=>(hE.same j (Am hj af)).trans (f.out.2.1 j hj),I8 f.out.2.2.1 (fun j hj=>r.out.two j) f.out.2.1 hE,O.out.2.2.1.trans HV.out.2⟩
  ·obtain⟨D,rfl⟩: ∃D,k=D+1:=⟨k-1,by omega⟩
   have RA:=hR.RA;have dn:(0:Int)<((D+1:Nat):Int):=by omega
   have e2:IntKind.i64.wrap (((D+1:Nat):Int)-1)=(D:Int):=by have:=g.out.1.2;rw[Zav];omega
   have f:=Aa (Ab hR (Ab ho (Ab a (Ab hl hk))));clear hR ho a hl hk h0;go_wp2_with(go_at_call 48;go_loud (refine(f.out.1.je ((D+1:Nat):Int)).mono ?_;rintro e A⟨rfl,bm,bn,bo⟩;have bp:=Aa (Ab bn bo);clear bn bo));have hw:wrap64 (D:Int)=(D:Int):=by have:=f.out.2.2.2.2;have:=g.out.1.2;unfold wrap64;omega
   rw[hw];have af:=f.out.2.2.1.size;have hE:=bp.out.2;exact⟨⟨D,bm,Idle.Ig 256 l ((D+1:Nat):Int),by have:=f.out.2.2.2.2;omega,rfl,bp.out.1,fun j hj=>(hE.same j (Am hj af)).trans (f.out.2.1 j hj),I8 f.out.2.2.1 (fun j hj=>r.out.two j) f.out.2.1 hE,f.out.2.2.2.1⟩,by simp[intOf]⟩
end Go.Proofs.YtgadhchejmlfjaaGreatDoor.CX
namespace Go.Proofs.YtgadhchejmlfjaaGreatDoor.ZX
open Go.Proofs.Tryz Go.RowKit Go.CL
theorem SY(n a b:Int)(w:oZ)(h:a≤n∧n<b):re prog 282 #[I U n,I U a,I U b] w fun e c=>e=rC (ry rq)∧w=c:=by
 have d1:decide (a≤n)=true:=by simpa using h.1
 have d2:decide (n<b)=true:=by simpa using h.2
 have d3:a≤n:=h.1;have d4:n<b:=h.2;clear h;go_enter func282,ntmps282;go_wp2;go_ret;exact⟨rfl,rfl⟩
def jU(k g f p n:Int):Prop:=(k=1∧n=0∨k=2)∧(1≤g∧g<65)∧(0≤f∧f<16)∧(0≤p∧p<64)
theorem SZ(k g f p n:Int)(w:oZ)(h:jU k g f p n):re prog 234 #[rE #[I U k,I U g,I U f,I U p,I U n]] w fun e i=>e=rC (ry rq)∧qZ w.heap.size w i:=by
 obtain⟨j,b,c,d⟩:=h;have a:=Aa (Ab b (Ab c d));clear b c d;rcases j with⟨rfl,rfl⟩|rfl
 all_goals
  go_enter func234,ntmps234;go_wp2_with(go_at_call 282;refine(SY _ _ _ _ (by first|exact a.out.1|exact a.out.2.1|exact a.out.2.2)).mono ?_;rintro e l⟨rfl,rfl⟩);go_ret;exact⟨rfl,Ct (rf _ _) _⟩
section
open FM (sc Oo Fc Lo I0 CZ Fv Iw Pow.below C0)
variable {w0 W w3:oZ} {wb:Nat} {ws:List (List UInt8)} {v v':qY}
structure QN (w0:oZ) (wb:Nat) (ws:List (List UInt8)) (v:qY) (W:oZ):Prop where
 below:qZ w0.heap.size w0 W
 cell:Cx W wb #[v] 170
 ge:w0.heap.size≤wb
 row:W.ownsRow w0.heap.size 9 1 v ws.length (sc ws)
theorem QN.go{W':oZ}(h:QN w0 wb ws v W)(a:qZ W.heap.size W W'):QN w0 wb ws v W':=⟨h.below.trans (a.mono h.below.size),h.cell.below a h.cell.lt,h.ge,CJ h.row a⟩
theorem QN.ne(h:QN w0 wb ws v W):v.ownBlock≠Z wb:=fun e=>by obtain⟨cs,a⟩:=De h.row e;exact absurd (C4 a h.cell) (by decide)
theorem QN.app{a:List UInt8}(h:QN w0 wb ws v W)(b:Dn W w0.heap.size 9 1 v ws.length (sc ws) [rF ⟨a.toArray⟩] v' w3):Cx w3 wb #[v] 170∧QN w0 wb (ws++[a]) v' (w3.setCell ⟨wb,0,N⟩ v'):=by
 have c:Cx w3 wb #[v] 170:=h.cell.kept b.2.1 (fun e=>h.ne e.symm);have g:=I0 b;have d:v'.ownBlock≠Z wb:=fun e=>by obtain⟨cs,i⟩:=De g e;exact absurd (C4 i c) (by decide)
 have o:Cv (fun j=>j=wb) w3 (w3.setCell ⟨wb,0,N⟩ v'):=Cv.set (S:=fun j=>j=wb) (Cv.refl _ _) (.inr rfl) _ _;refine⟨c,(CI h.below b.2.1 (fun j f=>(Az h.row j f).1)).setCell h.ge _,c.set 0 v',h.ge,Dd g o (fun j f e=>d (by rw[f,show j=wb from e]))⟩
theorem QN.kept{lb:Nat}{ys:List qY}{cs:Array qY}{t:TypeId}(h:QN w0 wb ws v W)(a:Cx W lb cs t)(c:t≠9)(b:t≠170)(d:Dn W w0.heap.size 9 1 v ws.length (sc ws) ys v' w3)(u:qY):Cx (w3.setCell ⟨wb,0,N⟩ u) lb cs t:=by have f:Cx w3 lb cs t:=a.kept d.2.1 (fun e=>by obtain⟨g,q⟩:=De h.row e.symm;exact c (C4 a q));refine f.setOther (fun e=>?_) _;subst e;exact b (C4 a h.cell)
def Ez(l:List Int):List (List UInt8):=l.map Lib.itoa
theorem S0(l:List Int)(k:Nat)(x:Int)(h:l[k]?=Z x):Ez (l.take (k+1))=Ez (l.take k)++[Lib.itoa x]:=by unfold Ez;rw[Ca,h,Cj];rfl
theorem EG(w0:oZ)(wb lb lc:Nat)(ws:List (List UInt8))(v:qY)(l:List Int)(w:oZ)(R:QN w0 wb ws v w)(S:Cx w lb (l.map fun(x:Int)=>I U x).toArray 3) (u:l.length≤100) (T: ∀x∈l,-9223372036854775808≤x∧x≤9223372036854775807) (y:ws.length≤100) (V:F2.Pow w0):re prog 235 #[Y (Z ⟨lb,0,N⟩) l.length lc,J (Z ⟨wb,0,N⟩)] w fun e H=>e=rC (rG #[])∧ ∃v',QN w0 wb (ws++Ez l) v' H:=by
 have s:=Aa (Ab R (Ab S (Ab u (Ab T y))));have HP:=Aa V;clear R S u T y V;go_enter func235,ntmps235;go_wp2;generalize z:l.length=A at*
 have q:=Aa z;clear z;go_loopw [7] (fun t wr=> ∃(k:Nat)(v1:qY),k≤A∧t=I U k∧QN w0 wb (ws++Ez (l.take k)) v1 wr∧Cx wr lb (l.map fun(x:Int)=>I U x).toArray 3) (fun t _=>A-(intOf t).toNat)
 case atStart=>exact⟨0,v,Ap _,rfl,by simpa[Ez]using s.out.1,s.out.2.1⟩
 case round=>
  obtain⟨k,v1,W,rfl,j,p⟩:=hrel;by_cases B:k<A
  ·have aa:(k:Int)<(A:Int):=by omega
   have L:k<l.length:=by rw[q.out];exact B
   obtain⟨x,m⟩: ∃x,l[k]?=Z x:=⟨l[k],Ae L⟩;have p0:=p.cell k;rw[Ad,Bn,m,BA]at p0;obtain⟨b,f⟩: ∃b,b=ws++Ez (l.take k):=⟨_,rfl⟩;rw[←f]at j;have HN:Hid (b.length≤300):=by show b.length≤300;rw[f,Aw,Ez,Bg,AN];have:=s.out.2.2.1;have:=s.out.2.2.2.2;omega
   obtain⟨a,c,rfl⟩:=DE j.row;have c0:=j.cell.cell 0;simp only[Ad,Ac]at c0;have M:=Aa (Ab m (s.out.2.2.2.1 x (A7 m)));have O:=Aa f;have ab:=j.cell.lt;have ad:=p.lt;clear m f W;generalize b=b at*
   have C:=Aa (Ab j p);have P:Hid (∀g,qZ wr.heap.size wr g→g.cell? ⟨wb,0,N⟩=Z (.slice a b.length c)):=fun g D=>((j.go D).cell.cell 0);have E:Hid (wr.drew.cell? ⟨wb,0,N⟩=Z (.slice a b.length c)):=P.out _ (rf _ _).drew;clear j p;go_wp2;refine GN 5 (fun g=>g.cell? ⟨wb,0,N⟩=Z (.slice a b.length c)) (by kernel_rfl) ?_;refine EZ (i:=1) (v:=?_) rfl (by decide) (by kernel_rfl) (by kernel_rfl) (by kernel_rfl) (fun _ _ _ h=>h) (Or.inl ⟨by kernel_rfl,?_⟩) (fun _=>E.out) ?_;rotate_left
   ·intro H;go_simp;try(with_reducible rfl)
   refine DV (i:=0) (v:=?_) rfl rfl (by kernel_rfl) (by kernel_rfl) (by kernel_rfl) (by kernel_rfl) (by kernel_rfl) (fun _ _ _ h=>h) (Or.inl ⟨by kernel_rfl,?_⟩) E.out ?_;rotate_left
   ·intro H hw';have s0:=hw';go_simp;try(with_reducible rfl)
   refine Ij 2 (by kernel_rfl) rfl fun K n=>?_;go_simp;go_wp2_with(go_at_call 134;refine(F2.itoa x M.out.2.1 M.out.2.2 _ (Pow.below HP.out (C.out.1.below.trans ((rf wr.heap.size wr).drew.mono C.out.1.below.size)))).mono ?_;rintro e w3⟨rfl,p⟩;have r:=(rf wr.heap.size wr).drew.trans p;have d:=Aa (Ab (C.out.1.go r) (C.out.2.below r C.out.2.lt));have F:Hid (∀g,qZ w3.heap.size w3 g→g.cell? ⟨wb,0,N⟩=Z (.slice a b.length c)):=(fun g D=>((d.out.1.go D).cell.cell 0));clear p r);refine⟨fun _=>F.out _ (rf _ _),?_⟩;refine Ij 3 (by kernel_rfl) rfl fun K n=>?_;go_simp;refine n _ _ ⟨fun _=>F.out _ (by(repeat(first|exact rf _ _|refine rk ?_|refine Ct ?_ _))),?_⟩;clear n K;refine Ij 4 (by kernel_rfl) rfl fun K n=>?_
   (refine J2 underlying170 Lo rfl (by decide) (by decide) w0.heap.size _ rfl (.tmp 11) (.tmp 14) rfl (.slice a b.length c) b.length (sc b) ⟨w3.heap.size,0,N⟩ 1 [rF ⟨(Lib.itoa x).toArray⟩] (by simp[Act.eval]) (by rfl) (.inl (CJ d.out.1.row (Ct (rf _ _) _))) rfl (Fc w3 _ 9) (by simp[Value.oneCell']) (by have:=d.out.1.below.size;simp;omega) (by have:=HN.out;omega) ?_;intro v' X G;obtain⟨g5,c5,rfl⟩:=G.some;have o:=(d.out.1.go (Ct (rf _ _) _)).app G;have u:=(d.out.1.go (Ct (rf _ _) _)).kept (d.out.2.below (Ct (rf _ _) _) d.out.2.lt) (by decide) (by decide) G (Y (Z ⟨g5,0,N⟩) (b.length+1) c5);have z0:=o.1.cell 0;have u0:=o.1.free 0;have Q:Hid (∀g,qZ X.heap.size X g→g.cell? ⟨wb,0,N⟩=Z (.slice a b.length c)):=(fun g D=>((o.1.below D o.1.lt).cell 0));have HE:=Aa (Ab o.2 u);simp only[Ad,Ac]at z0;clear G o u)
   refine n _ _ ⟨fun _=>Q.out _ (rf _ _),?_⟩;clear n K;refine Ij 5 (by kernel_rfl) rfl fun K n=>?_;go_simp;refine n _ _ ⟨(fun h=>absurd (h.symm.trans (show _=rq by kernel_rfl)) Cp),?_⟩;clear n K;refine GM (by kernel_rfl) ?_ _;go_wp2;have o:=HE.out;have hw:wrap64 ((k:Int)+1)=((k+1:Nat):Int):=by have:=q.out;have:=s.out.2.2.1;unfold wrap64;omega
   rw[hw];refine⟨⟨k+1,Y (Z ⟨g5,0,N⟩) (b.length+1) c5,by omega,rfl,?_,o.2⟩,by simp[intOf];omega⟩;rw[S0 l k x M.out.1,←AR,←O.out];exact o.1
  ·obtain rfl:k=A:=by omega
   rw[AU (by rw[q.out];exact Al _)]at j;have HF:=Aa j;clear j p B W;go_wp2;go_end0;exact⟨rfl,_,HF.out⟩
end
section
open FM (sc Oo Fc Lo I0 CZ Fv Iw Pow.below C0)
def Uz(k:Int):List UInt8:=if k=1 then [98,101,103,105,110]else [99,111,109,109,105,116]
def UA(k g f p:Int)(n:Nat):List (List UInt8):=[Uz k]++Ez [g,f,p]++(if k=2 then [Lib.decDigits n]else [])
def UB(k g f p:Int)(n:Nat):List UInt8:=CZ 32 (UA k g f p n)
theorem UC(k g f p:Int)(n:Nat)(h:(1≤g∧g<65)∧(0≤f∧f<16)∧(0≤p∧p<64))(i:n<100):UA k g f p n≠[]∧(UA k g f p n).length≤5∧(CZ 32 (UA k g f p n)).length≤200:=by
 have c:(UA k g f p n).length≤5:=by unfold UA Ez;by_cases e:k=2<;>simp[e]
 have r1:=(C0 g (by omega)).2.2.2.2;have j:=(C0 f (by omega)).2.2.2.2;have l:=(C0 p (by omega)).2.2.2.2;have d:(Lib.decDigits n).length≤20:=by have:=(FM.Mg n (by omega)).2.2.2.2;unfold Lib.itoa at this;rw[Ah (by omega),An]at this;omega
 have m:=Fv 32 20 (UA k g f p n) (fun a b=>by
  unfold UA Ez Uz at b;simp only[BU,List.map_cons,List.map_nil,Bv,Zbo,or_false]at b;rcases b with(b|b|b|b)|b
  ·by_cases e:k=1
   ·rw[Ai e]at b;rw[b];decide
   ·rw[Ah e]at b;rw[b];decide
  ·rw[b];omega
  ·rw[b];omega
  ·rw[b];omega
  ·by_cases e:k=2
   ·rw[Ai e]at b;simp at b;rw[b];exact d
   ·rw[Ah e]at b;cases b)
 refine⟨by unfold UA;simp,c,?_⟩;have:(UA k g f p n).length*21≤5*21:=Cs _ c;omega
theorem QN.start{w0 w1:oZ}(a:qZ w0.heap.size w0 w1)(wd:List UInt8):QN w0 (w1.heap.size+1) [wd] (Y (Z ⟨w1.heap.size,0,N⟩) 1 1) ((w1.alloc (rD #[rF ⟨wd.toArray⟩] 9)).alloc (rD #[Y (Z ⟨w1.heap.size,0,N⟩) 1 1] 170)):=by
 have b:Cx ((w1.alloc (rD #[rF ⟨wd.toArray⟩] 9)).alloc (rD #[Y (Z ⟨w1.heap.size,0,N⟩) 1 1] 170)) (w1.heap.size+1) #[Y (Z ⟨w1.heap.size,0,N⟩) 1 1] 170:=by have:=Cx.new (w1.alloc (rD #[rF ⟨wd.toArray⟩] 9)) #[Y (Z ⟨w1.heap.size,0,N⟩) 1 1] 170;simpa using this
 have c:Cx ((w1.alloc (rD #[rF ⟨wd.toArray⟩] 9)).alloc (rD #[Y (Z ⟨w1.heap.size,0,N⟩) 1 1] 170)) w1.heap.size #[rF ⟨wd.toArray⟩] 9:=(Cx.new w1 _ 9).below (Ct (rf _ _) _) (by simp);exact⟨Ct (Ct a _) _,b,BP a.size,L9 (n:=1) (size:=1) c a.size rfl (by decide)⟩
theorem ih(w:oZ)(o1 o2:Obj)(a b c:Int):Cx (((w.alloc o1).alloc o2).alloc (rD #[I U a,I U b,I U c] 3)) (w.heap.size+1+1) ([a,b,c].map fun(x:Int)=>I U x).toArray 3:=by have:=Cx.new ((w.alloc o1).alloc o2) #[I U a,I U b,I U c] 3;simpa using this
theorem QO{g f p:Int}(h:(1≤g∧g<65)∧(0≤f∧f<16)∧(0≤p∧p<64)): ∀x∈[g,f,p],-9223372036854775808≤x∧x≤9223372036854775807:=by intro x a;simp only[Bv,Zbo,or_false]at a;rcases a with rfl|rfl|rfl<;>omega
theorem WH(k g f p:Int)(n:Nat)(w:oZ)(h:jU k g f p n)(V:n<100)(hP:F2.Pow w):re prog 161 #[rE #[I U k,I U g,I U f,I U p,I U n]] w fun e S=>e=rC (rG #[rF ⟨(UB k g f p n).toArray⟩,I U 0])∧qZ w.heap.size w S:=by
 obtain⟨q,z⟩: ∃q,w.alloc (rD #[I U k,I U g,I U f,I U p,I U n] 38)=q:=⟨_,rfl⟩;have r:Cx q w.heap.size #[I U k,I U g,I U f,I U p,I U n] 38:=by rw[←z];exact Cx.new w _ 38
 have A:qZ w.heap.size w q:=by rw[←z];exact Ct (rf _ _) _
 have O:q.heap.size=w.heap.size+1:=by rw[←z];simp
 have s:=Aa O;have HR:=Aa (SZ k g f p n q h);have HO:=Aa h.2;have HK:=h.1;have HP:=Aa (Pow.below hP A);have HB:=Aa (Ab r A);have u:=Aa (UC k g f p n h.2 V);have HN:=Aa V;have x:Hid (∀W,qZ q.heap.size q W→W.cell? ⟨w.heap.size,0,N⟩=Z (I U k)∧W.cell? ⟨w.heap.size,1,N⟩=Z (I U g)∧W.cell? ⟨w.heap.size,2,N⟩=Z (I U f)∧W.cell? ⟨w.heap.size,3,N⟩=Z (I U p)∧W.cell? ⟨w.heap.size,4,N⟩=Z (I U n)∧w.heap.size<W.heap.size):=fun W B=>by have k2:=r.below B r.lt;exact⟨k2.cell 0,k2.cell 1,k2.cell 2,k2.cell 3,k2.cell 4,k2.lt⟩
 obtain⟨a0,a1,a2,a3,a4,a5⟩:=x.out q (rf _ _);clear h hP r A V O;rcases HK with⟨rfl,h0⟩|rfl
 ·clear h0
  have C:UA 1 g f p n=[[98,101,103,105,110]]++Ez [g,f,p]:=by simp[UA,Uz]
  rw[C]at u;have D:=Aa C;clear C;go_enter func161,ntmps161;go_wp2_with(first|(go_at_call 234;refine HR.out.mono ?_;rintro e b⟨rfl,d⟩;obtain⟨b0,b1,b2,b3,b4,b5⟩:=x.out b d;have m1: ¬w.heap.size=b.heap.size:=(by omega);have m2: ¬w.heap.size=b.heap.size+1:=(by omega);have m3: ¬w.heap.size=b.heap.size+1+1:=(by omega);have l1:w.heap.size<b.heap.size+1:=(by omega);have l2:w.heap.size<b.heap.size+1+1:=(by omega);have E:=Aa d;clear a0 a1 a2 a3 a4 a5 d)|(go_at_call 235;refine(EG q (b.heap.size+1) (b.heap.size+1+1) 3 [[98,101,103,105,110]] _ [g,f,p] _ ((QN.start E.out _).go (Ct (rf _ _) _)) (ih _ _ _ _ _ _) (by simp) (QO HO.out) (by simp) HP.out).mono ?_;rintro e y⟨rfl,v3,m⟩;obtain⟨a,c,rfl⟩:=DE m.row;obtain⟨d0,d1,d2,d3,d4,d5⟩:=x.out y m.below;have X:=m.cell.cell 0;have aa:=m.cell.lt;simp only[Ad,Ac]at X;have o:=Aa m;clear m)|(go_at_call 80;refine(Iw ([[98,101,103,105,110]]++Ez [g,f,p]) _ _ _ o.out.row u.out.1 (by have:=u.out.2.1;omega) (by have:=u.out.2.2;omega)).mono ?_;rintro e w8⟨rfl,P⟩;have F:=Aa ((HB.out.2.trans (o.out.below.mono (by have:=s.out;omega))).trans (P.mono (by have:=o.out.below.size;have:=s.out;omega)));clear P));go_ret2;refine⟨?_,F.out⟩;unfold UB;rw[D.out];rfl
 ·have C:UA 2 g f p n=[[99,111,109,109,105,116]]++Ez [g,f,p]++[Lib.decDigits n]:=by simp[UA,Uz]
  rw[C]at u;have D:=Aa C;clear C;go_enter func161,ntmps161;go_wp2_with(first|(go_at_call 234;refine HR.out.mono ?_;rintro e b⟨rfl,d⟩;obtain⟨b0,b1,b2,b3,b4,b5⟩:=x.out b d;have m1: ¬w.heap.size=b.heap.size:=(by omega);have m2: ¬w.heap.size=b.heap.size+1:=(by omega);have m3: ¬w.heap.size=b.heap.size+1+1:=(by omega);have l1:w.heap.size<b.heap.size+1:=(by omega);have l2:w.heap.size<b.heap.size+1+1:=(by omega);have E:=Aa d;clear a0 a1 a2 a3 a4 a5 d)|(go_at_call 235;refine(EG q (b.heap.size+1) (b.heap.size+1+1) 3 [[99,111,109,109,105,116]] _ [g,f,p] _ ((QN.start E.out _).go (Ct (rf _ _) _)) (ih _ _ _ _ _ _) (by simp) (QO HO.out) (by simp) HP.out).mono ?_;rintro e y⟨rfl,v3,m⟩;obtain⟨a,c,rfl⟩:=DE m.row;obtain⟨d0,d1,d2,d3,d4,d5⟩:=x.out y m.below;have X:=m.cell.cell 0;have aa:=m.cell.lt;simp only[Ad,Ac]at X;have o:=Aa m;clear m));have G:Hid (∀l,qZ y.heap.size y l→l.cell? ⟨b.heap.size+1,0,N⟩=Z (.slice a ([[99,111,109,109,105,116]]++Ez [g,f,p]).length c)∧l.cell? ⟨w.heap.size,4,N⟩=Z (I U n)):=fun l B=>⟨((o.out.go B).cell.cell 0),(x.out l (o.out.go B).below).2.2.2.2.1⟩;have H:=Aa (G.out _ (rf _ _).drew);refine GN 6 (fun l=>l.cell? ⟨b.heap.size+1,0,N⟩=Z (.slice a ([[99,111,109,109,105,116]]++Ez [g,f,p]).length c)∧l.cell? ⟨w.heap.size,4,N⟩=Z (I U n)) (by kernel_rfl) ?_;refine EZ (i:=1) (v:=?_) rfl (by decide) (by kernel_rfl) (by kernel_rfl) (by kernel_rfl) (fun _ _ _ h=>h) (Or.inl ⟨by kernel_rfl,?_⟩) (fun _=>H.out) ?_;rotate_left
  ·intro S;go_simp;try(with_reducible rfl)
  refine DV (i:=0) (v:=?_) rfl rfl (by kernel_rfl) (by kernel_rfl) (by kernel_rfl) (by kernel_rfl) (by kernel_rfl) (fun _ _ _ h=>h) (Or.inl ⟨by kernel_rfl,?_⟩) H.out ?_;rotate_left
  ·intro S hw';obtain⟨s0,s1⟩:=hw';go_simp;try(with_reducible rfl)
  refine DV (i:=2) (v:=?_) rfl rfl (by kernel_rfl) (by kernel_rfl) (by kernel_rfl) (by kernel_rfl) (by kernel_rfl) (fun _ _ _ h=>h) (Or.inl ⟨by kernel_rfl,?_⟩) H.out ?_;rotate_left
  ·intro S hw';obtain⟨s0,s1⟩:=hw';go_simp;try(with_reducible rfl)
  refine Ij 3 (by kernel_rfl) rfl fun K t=>?_;go_simp;go_wp2_with(go_at_call 136;refine(F2.kN n HN.out _).mono ?_;rintro e ad⟨rfl,rfl⟩);refine⟨fun _=>G.out _ (by(repeat(first|exact rf _ _|refine rk ?_|refine Ct ?_ _))),?_⟩;refine Ij 4 (by kernel_rfl) rfl fun K t=>?_;go_simp;refine t _ _ ⟨fun _=>G.out _ (by(repeat(first|exact rf _ _|refine rk ?_|refine Ct ?_ _))),?_⟩;clear t K;refine Ij 5 (by kernel_rfl) rfl fun K t=>?_
  (refine J2 underlying170 Lo rfl (by decide) (by decide) q.heap.size _ rfl (.tmp 28) (.tmp 32) rfl (.slice a ([[99,111,109,109,105,116]]++Ez [g,f,p]).length c) ([[99,111,109,109,105,116]]++Ez [g,f,p]).length (sc ([[99,111,109,109,105,116]]++Ez [g,f,p])) ⟨y.drew.heap.size,0,N⟩ 1 [rF ⟨(Lib.decDigits n).toArray⟩] (by simp[Act.eval]) (by rfl) (.inl (CJ o.out.row (by(repeat(first|exact rf _ _|refine rk ?_|refine Ct ?_ _))))) rfl (Fc y.drew _ 9) (by simp[Value.oneCell']) (by have:=o.out.below.size;simp;omega) (by simp[Ez]) ?_;intro v' T Q;obtain⟨g5,c5,rfl⟩:=Q.some;have M:=(o.out.go (W':=y.drew.alloc (rD #[rF ⟨(Lib.decDigits n).toArray⟩] 9)) (by(repeat(first|exact rf _ _|refine rk ?_|refine Ct ?_ _)))).app Q;have z0:=M.1.cell 0;have u0:=M.1.free 0;have R:=(x.out T (CI (Ct o.out.below.drew _) Q.2.1 (fun j hj=>(Az o.out.row j hj).1))).2.2.2.2.1;have ab:Hid (∀l,qZ T.heap.size T l→l.cell? ⟨b.heap.size+1,0,N⟩=Z (.slice a ([[99,111,109,109,105,116]]++Ez [g,f,p]).length c)∧l.cell? ⟨w.heap.size,4,N⟩=Z (I U n)):=(fun l B=>⟨((M.1.below B M.1.lt).cell 0),(B.cell (p:=⟨w.heap.size,4,N⟩) (x.out T (CI (Ct o.out.below.drew _) Q.2.1 (fun j hj=>(Az o.out.row j hj).1))).2.2.2.2.2).trans R⟩);have L:=Aa M.2;simp only[Ad,Ac]at z0;clear Q M R)
  refine t _ _ ⟨fun _=>ab.out _ (rf _ _),?_⟩;clear t K;refine Ij 6 (by kernel_rfl) rfl fun K t=>?_;go_simp;refine t _ _ ⟨(fun h=>absurd (h.symm.trans (show _=rq by kernel_rfl)) Cp),?_⟩;clear t K;refine GM (by kernel_rfl) ?_ _;go_wp2_with(go_at_call 80;refine(Iw (([[99,111,109,109,105,116]]++Ez [g,f,p])++[Lib.decDigits n]) _ _ _ L.out.row u.out.1 (by have:=u.out.2.1;omega) (by have:=u.out.2.2;omega)).mono ?_;rintro e w8⟨rfl,P⟩;have F:=Aa ((HB.out.2.trans (L.out.below.mono (by have:=s.out;omega))).trans (P.mono (by have:=L.out.below.size;have:=s.out;omega)));clear P);go_ret2;refine⟨?_,F.out⟩;unfold UB;rw[D.out];rfl
end
open FM (G4 LR Dg Ec Pow.below)
abbrev Ev:=Int×Int×Int×Int×Int
def e0:Ev:=(0,0,0,0,0)
def WI(w:oZ)(lb a:Nat)(l:List Ev):Prop:= ∀k,k<l.length→w.cell? ⟨lb,a+k*5,N⟩=Z (I U (l[k]?.getD e0).1)∧w.cell? ⟨lb,a+k*5+1,N⟩=Z (I U (l[k]?.getD e0).2.1)∧w.cell? ⟨lb,a+k*5+2,N⟩=Z (I U (l[k]?.getD e0).2.2.1)∧w.cell? ⟨lb,a+k*5+3,N⟩=Z (I U (l[k]?.getD e0).2.2.2.1)∧w.cell? ⟨lb,a+k*5+4,N⟩=Z (I U (l[k]?.getD e0).2.2.2.2)
def JP(x:Ev):Prop:=jU x.1 x.2.1 x.2.2.1 x.2.2.2.1 x.2.2.2.2∧0≤x.2.2.2.2∧x.2.2.2.2<100
def MU(x:Ev):List UInt8:=UB x.1 x.2.1 x.2.2.1 x.2.2.2.1 x.2.2.2.2.toNat
def Em(l:List Ev):List UInt8:=l.flatMap fun x=>MU x++[10]
theorem QP(l:List Ev)(x:Ev):Em (l++[x])=Em l++(MU x++[10]):=by simp[Em]
theorem K1(x:Ev)(h:JP x):(MU x).length≤200:=(UC x.1 x.2.1 x.2.2.1 x.2.2.2.1 x.2.2.2.2.toNat h.1.2 (by have:=h.2;omega)).2.2
theorem S5(l:List Ev)(h: ∀x∈l,JP x):(Em l).length≤l.length*201:=by
 induction l with
 |nil=>simp[Em]
 |cons x l a=>have c:=K1 x (h x (by simp));have b:=a (fun y hy=>h y (A6 _ hy));simp only[Em,BD,Aw,AB,AF]at b⊢;omega
theorem WJ(x:Ev)(w:oZ)(h:JP x)(b:F2.Pow w):re prog 161 #[rE #[I U x.1,I U x.2.1,I U x.2.2.1,I U x.2.2.2.1,I U x.2.2.2.2]] w fun e c=>e=rC (rG #[rF ⟨(MU x).toArray⟩,I U 0])∧qZ w.heap.size w c:=by obtain⟨k,g,f,p,n⟩:=x;obtain⟨a,d,i⟩:=h;simp only at a d i;obtain⟨m,rfl⟩: ∃m:Nat,n=m:=⟨n.toNat,by omega⟩;exact WH k g f p m w a (by omega) b
theorem S6(l:List Ev)(lb H lc:Nat)(w:oZ)(K:WI w lb H l)(n:lb<w.heap.size)(L: ∀x∈l,JP x) (o:l.length≤65536) (M:F2.Pow w):re prog 101 #[Y (Z ⟨lb,H,N⟩) l.length lc] w fun e S=>e=rC (rG #[rF ⟨(Em l).toArray⟩,I U 0])∧qZ w.heap.size w S:=by
 have d:=Aa (Ab K (Ab n (Ab L (Ab o M))));clear K n L o M;go_enter func101,ntmps101;go_wp2;generalize r:l.length=s at*
 have f:=Aa r;clear r;go_loopw [11] (fun t wr=> ∃k:Nat,k≤s∧t=I U k∧Lib.IsBuilder 152 5 w.heap.size w.heap.size (Lib.byteCells (Em (l.take k))) wr∧qZ w.heap.size w wr) (fun t _=>s-(intOf t).toNat)
 case atStart=>exact⟨0,Ap _,rfl,LR w 152 5,Ct (rf _ _) _⟩
 case round=>
  obtain⟨k,D,rfl,u,c⟩:=hrel;by_cases g:k<s
  ·have T:(k:Int)<(s:Int):=by omega
   have V:lb<wr.heap.size:=Am d.out.2.1 c.size;obtain⟨p0,O,P,Q,p4⟩:=d.out.1 k (by rw[f.out];exact g);have R: ∀i,wr.cell? ⟨lb,i,N⟩=w.cell? ⟨lb,i,N⟩:=fun i=>c.cell (p:=⟨lb,i,N⟩) d.out.2.1;rw[←R]at p0 O P Q p4;obtain⟨x,B⟩: ∃x,l[k]?.getD e0=x:=⟨_,rfl⟩;have h:l[k]?=Z x:=by rw[Ae (by rw[f.out];exact g)]at B⊢;exact Aq Z B
   rw[B]at p0 O P Q p4;have a:JP x:=d.out.2.2.1 _ (A7 h);have E:=Aa (WJ x (wr.alloc (rD #[I U x.1,I U x.2.1,I U x.2.2.1,I U x.2.2.2.1,I U x.2.2.2.2] 38)) a (Pow.below d.out.2.2.2.2 (c.alloc c.size _)));have W:=Aa (G4 u (Ct (rf wr.heap.size wr) (rD #[I U x.1,I U x.2.1,I U x.2.2.1,I U x.2.2.2.1,I U x.2.2.2.2] 38)));have C:=Aa (c.alloc c.size (rD #[I U x.1,I U x.2.1,I U x.2.2.1,I U x.2.2.2.1,I U x.2.2.2.2] 38));have X:=Aa (Ab h a);have n1: ¬9223372036854775807<(MU x).length+1:=by have:=K1 _ a;omega
   have HK:=Aa D;have v:Hid ((Lib.byteCells (Em (l.take k))).length+((⟨(MU x).toArray⟩:ByteArray)++⟨#[10]⟩).size≤140737488355328):=by
    have e1:=S5 (l.take k) (fun y hy=>d.out.2.2.1 y (Zaq hy));have e2:=K1 _ a;have e3:(l.take k).length≤65536:=by have:=d.out.2.2.2.1;rw[AN];omega
    rw[show(⟨#[10]⟩:ByteArray)=⟨([10]:List UInt8).toArray⟩from rfl,Dg];show(Lib.byteCells (Em (l.take k))).length+((MU x++[10]).toArray).size≤_;simp only[Lib.byteCells,Bg,Bd,Aw,AB,AF];omega
   clear c u R B h a D;go_wp2_with(first|(go_at_call 161;refine E.out.mono ?_;rintro e w1⟨rfl,j⟩;have F:=Aa (G4 W.out j);have z:=Aa (C.out.trans (j.mono C.out.size));clear j)|(go_at_call 70;refine(F2.kL _ _ _ _ _ F.out v.out z.out.size).mono ?_;rintro e w2⟨rfl,A,b⟩;have G:=Aa A;have m:=Aa (z.out.trans b);clear A b));have hw:wrap64 ((k:Int)+1)=((k+1:Nat):Int):=by have:=d.out.2.2.2.1;unfold wrap64;omega
   rw[hw];refine⟨⟨k+1,by omega,rfl,.inr ?_,m.out⟩,by simp[intOf];omega⟩;have q:=G.out;rw[show(⟨#[10]⟩:ByteArray)=⟨([10]:List UInt8).toArray⟩from rfl,Dg,Lib.strCells_eq,←Ec]at q;rw[Ca,X.out.1,Zbh,QP];exact q
  ·obtain rfl:k=s:=by omega
   rw[AU (by rw[f.out];exact Al _)]at u;have HS:=Aa (F2.kM _ _ _ _ u c.size);have C:=Aa c;clear u c g D;go_wp2_with(go_at_call 72;refine HS.out.mono ?_;rintro e w2⟨rfl,b⟩;have m:=Aa (C.out.trans b);clear b);go_ret2;exact⟨rfl,m.out⟩
end Go.Proofs.YtgadhchejmlfjaaGreatDoor.ZX
namespace Go.Proofs.YtgadhchejmlfjaaGreatDoor.Pm
open Go.Proofs.Tryz Go.RowKit Go.CL
theorem K2(n:Int)(w:oZ)(a:1≤n)(b:n≤61):re prog 35 #[I U n] w fun e c=>e=rC (ry rq)∧w=c:=by
 have d1:decide (1≤n)=true:=by simpa using a
 have d2:decide (n≤61)=true:=by simpa using b
 clear a b;go_enter func35,ntmps35;go_wp2;go_ret;exact⟨rfl,rfl⟩
theorem Jy(o a:Int)(w:oZ):re prog 38 #[I U o,I U a] w fun e b=>e=rC (rE #[I U o,I U a,I U 0,I U 0,I U 0])∧qZ w.heap.size w b:=by go_enter func38,ntmps38;go_wp2;exact AG (v:=rE #[I U o,I U a,I U 0,I U 0,I U 0]) (by simp[results,results38,go_sem]) rfl ⟨rfl,Ct (rf _ _) _⟩
section
def ij(W:oZ)(base:Nat)(e:TypeId)(size:Nat)(v:qY)(n:Nat)(xs:List qY)(m:Nat)(ys:List qY)(v':qY)(w':oZ):Prop:=w'.ownsRow base e size v' (n+m) (xs++ys)∧W.grownBy w' v.ownBlock
section
variable {P:Program} {t e:TypeId} {size bytes:Nat} {z:qY} (ht:P.underlying t=Z (.slice e)) (DC:(P.info? e).map (fun i=>(i.zero,i.size,i.bytes))=Z (Z z,size,bytes)) (Xz:z.cells.size=size) (XA:0<size) (bU:bytes≤1000)
include ht DC Xz XA bU
theorem ik(base:Nat)(W:oZ){ops:Array Oper}{rest:List Oper}{o:Oper}{a:Act}{Q:Exit→Act→oZ→Prop}(r:o.guard=N)(s y:Operand)(F:o.op= .call {callee:=.builtin .append,args:=#[s,y],argTypes:=#[t,t]})(v:qY)(n:Nat)(xs:List qY)(u:Addr)(m c:Nat)(ys:List qY)(G:a.eval s=v)(hy:a.eval y=Y (Z u) m c)
  (f:W.ownsRow base e size v n xs) (w:ys.length=m*size) (b: ∀(j:Nat)(x:qY),ys[j]?=Z x→W.cell? (u.add j)=Z x) (g: ∀x∈ys,x.oneCell'=rq) (d:base≤W.heap.size) (hlen:n+m<100000000)
  (h: ∀l p,ij W base e size v n xs m ys l p→wpList P ops Q rest (a.put o.dst l) p):
  wpList P ops Q (o::rest) a W:=by
 refine wpList_plain r fun K H=>?_;obtain⟨i0,A,B,C,D⟩: ∃i,P.info? e=Z i∧i.zero=Z z∧i.size=size∧i.bytes=bytes:=by obtain⟨i,A,q⟩:=Ax.1 DC;simp only[AM]at q;exact⟨i,A,q.1,q.2.1,q.2.2⟩
 have k:(n+m)*bytes≤140737488355328:=by have:=Nat.mul_le_mul (show n+m≤100000000 by omega) bU;omega
 have E:n+m≤maxLen:=by unfold maxLen;omega
 obtain⟨l,p,L,M,O,_⟩:=run_append_own (P:=P) W base t o.type e i0 z size bytes ht A B C D Xz XA v n xs f u m c ys w b g E k d;unfold Oper.wp;simp[execOp,F,resolve,invoke,builtin,G,hy,L,Result.andThen];exact H _ _ (h l p ⟨M,O⟩)
end
theorem K3:(prog.info? 84).map (fun i=>(i.zero,i.size,i.bytes))=Z (Z (rE #[I U 0,I U 0,I U 0,I U 0,I U 0]),5,40):=by kernel_rfl
def K4(i:Int×Int):List Value:=[I U i.1,I U 0,I U 0,I U 0,I U i.2]
theorem QQ(l:List (Int×Int)): ∀x∈l.flatMap K4,x.oneCell'=true:=by intro x b;obtain⟨i,_,a⟩:=Zbp.1 b;simp[K4]at a;rcases a with rfl|rfl|rfl<;>rfl
end
variable {mk n base:Nat} {v v':qY} {xs:List qY} {w W w3:oZ}
theorem OW:(prog.info? 87).map (fun i=>(i.zero,i.size,i.bytes))=Z (Z (rE #[Y N 0 0,Y N 0 0]),2,48):=by kernel_rfl
theorem QR:(prog.info? 4).map (fun i=>(i.zero,i.size,i.bytes))=Z (Z (ry rm),1,1):=by kernel_rfl
theorem K5(m:Nat)(hm:m≤100000)(w:oZ):(Instr.makeSlice 43 (I U (m:Int)) (I U (m:Int))).run prog w= .ok (Y (Z ⟨w.heap.size,0,N⟩) m m) (w.alloc (rD (madeCells #[ry rm] m) 4)):=run_make_row' 43 4 (ry rm) 1 underlying43 QR rfl .i64 .i64 m (by omega) (by omega) w
def Nf(mk n m base:Nat)(v b:qY)(xs:List qY)(w:oZ)(e:Ending)(w':oZ):Prop:=e=rC (rG #[])∧ ∃v' a,Cx w' mk #[J N,v'] 96∧w'.ownsRow base 87 2 v' (n+1) (xs++[b,Y (Z ⟨a,0,N⟩) m m])∧w.heap.size≤a∧Cx w' a (madeCells #[ry rm] m) 4∧Cv (fun j=>j=mk∨v.ownBlock=Z j) w w'∧v'.ownBlock≠Z mk
theorem fD{ys:List qY}(b:Cx w mk #[J N,v] 96)(a:v.ownBlock≠Z mk)(c:qZ w.heap.size w W)(d:Dn W base 87 2 v n xs ys v' w3):Cx w3 mk #[J N,v] 96:=(b.below c b.lt).only (Cv.grown (S:=fun j=>v.ownBlock=Z j) (Cv.refl _ W) d.2.1 (fun j e=>.inr e)) a
theorem fE{m:Nat}{o:qY}(p:Cx w mk #[J N,v] 96)(b:v.ownBlock≠Z mk)(f:qZ w.heap.size w W)(r:Cx W w.heap.size (madeCells #[ry rm] m) 4)(g: ∀j,v.ownBlock=Z j→j<w.heap.size) (c:Dn W base 87 2 v n xs [o,Y (Z ⟨w.heap.size,0,N⟩) m m] v' w3):Nf mk n m base v o xs w (rC (rG #[])) (w3.setCell ⟨mk,1,N⟩ v'):=by
 have i:=p.lt;have s:Cv (fun j=>j=mk∨v.ownBlock=Z j) W w3:=Cv.grown (Cv.refl _ W) c.2.1 (fun j a=>.inr (.inr a));have t:Cv (fun j=>j=mk∨v.ownBlock=Z j) w w3:=((Cv.refl _ w).below f).andThen s (fun _ _ h=>h);have k:Cx w3 mk #[J N,v] 96:=(p.below f i).only (Cv.grown (S:=fun j=>v.ownBlock=Z j) (Cv.refl _ W) c.2.1 (fun j a=>.inr a)) b;have d:v'.ownBlock≠Z mk:=fun e=>by
  rcases c.2.2 mk e with q|q
  ·exact b q
  ·have:=f.size;omega
 have l:Cx w3 w.heap.size (madeCells #[ry rm] m) 4:=r.only (Cv.grown (S:=fun j=>v.ownBlock=Z j) (Cv.refl _ W) c.2.1 (fun j a=>.inr a)) (fun e=>by have:=g _ e;omega);refine⟨rfl,v',w.heap.size,k.set 1 v',Dd c.1 (Cv.set (S:=fun j=>j=mk) (Cv.refl _ w3) (.inr rfl) 1 v') (fun j a e=>d (by rw[a,show j=mk from e])),Al _,l.only (Cv.set (S:=fun j=>j=mk) (Cv.refl _ w3) (.inr rfl) 1 v') (fun e=>by have u:w.heap.size=mk:=e;omega),t.set (.inr (.inl rfl)) 1 v',d⟩
theorem EG(mk n m:Nat)(a g:Option Addr)(cap lc base:Nat)(xs:List qY)(w:oZ)(c:Cx w mk #[J N,.slice a n cap] 96)(i:w.ownsRow base 87 2 (.slice a n cap) n xs)(k:base≤w.heap.size)(hm:m≤1000)(l:n≤1000)(d:(Value.slice a n cap).ownBlock≠Z mk):re prog 36 #[J (Z ⟨mk,0,N⟩),.slice g m lc] w (Nf mk n m base (.slice a n cap) (.slice g m lc) xs w):=by
 have q:=c.cell 1;have f1:=c.free 1;simp only[Ad,Ac,Ag]at q;have r:=fun w=>K5 m (by omega) w;have s:=c.lt;have y: ¬mk=w.heap.size:=by omega
 have z: ¬mk=w.heap.size+1:=by omega
 have e:Hid (∀W,qZ w.heap.size w W→W.ownsRow base 87 2 (.slice a n cap) n xs):=fun W t=>CJ i t;have f:=Aa (Ab c (Ab d (fun j u=>(Az i j u).2)));have o:=Aa (Ab k l);have A:mk<w.heap.size+1:=by omega
 clear c i k l d;go_enter func36,ntmps36;go_wp2;go_region_law(refine J2 underlying24 OW rfl (by decide) (by decide) base _ rfl (.tmp 9) (.tmp 15) rfl (.slice a n cap) n xs ⟨w.heap.size+1,0,N⟩ 1 [.slice g m lc,Y (Z ⟨w.heap.size,0,N⟩) m m] (by simp[Act.eval]) (by simp[Act.eval]) (.inl (e.out _ (by(repeat(first|exact rf _ _|refine rk ?_|refine Ct ?_ _))))) rfl (LK.gR (w:=w.drew.alloc (rD (madeCells #[ry rm] m) 4)) _ _ 87 (by simp)) (by simp[Value.oneCell']) (by have:=o.out.1;simp;omega) (by have:=o.out.2;omega) ?_;intro v' w3 h;obtain⟨B,p,rfl⟩:=h.some;have b:=fD f.out.1 f.out.2.1 (by(repeat(first|exact rf _ _|refine rk ?_|refine Ct ?_ _))) h;have v:=b.cell 1;have f3:=b.free 1;have x:=Aa (fE f.out.1 f.out.2.1 (by(repeat(first|exact rf _ _|refine rk ?_|refine Ct ?_ _))) (by exact((Cx.new w.drew (madeCells #[ry rm] m) 4).below (Ct (rf _ _) _) (by simp)):Cx ((w.drew.alloc (rD (madeCells #[ry rm] m) 4)).alloc (rD #[.slice g m lc,Y (Z ⟨w.heap.size,0,N⟩) m m] 87)) w.heap.size (madeCells #[ry rm] m) 4) f.out.2.2 h);simp only[Ad,Ac,Ag]at v;clear h b)
 all_goals
  go_wp2;go_end0;exact x.out
end Go.Proofs.YtgadhchejmlfjaaGreatDoor.Pm
