/- A part of the proof. -/
import Derived.Test.YtgadhchejmlfjaaGreatDoorC9
set_option linter.unusedVariables false
set_option maxRecDepth 20000
set_option maxHeartbeats 16000000
open Go.Value renaming int→I,pointer→J,slice→Y
open Go.IntKind renaming i64→U
open Option renaming none→N,some→Z
open Bool renaming false→rm,true→rq
open Go renaming Calls→re,TypeId→rA,Value→qY,World→oZ
open Go.Ending renaming returned→rC
open Go.Obj renaming cells→rD
open Go.RowKit renaming Below→qZ
open Go.RowKit.Below renaming drew→rk,refl→rf
open Go.Value renaming agg→rE,bool→ry,string→rF,tuple→rG
namespace Go.Proofs.YtgadhchejmlfjaaGreatDoor.topCuts
open Go.Proofs.Tryz
section
open Go.ChangeShapes Go.WideShapes Go.Deep Go.RowKit Go.CL
open Vm (CN)
open EO (kd ke Xp Fh)
theorem Lg{α:Type}(d:α){Q:Nat→α→Prop}: ∀n:Nat,(∀i,i<n→ ∃x,Q i x)→ ∃l:List α,l.length=n∧ ∀i,i<n→Q i (l[i]?.getD d)
 |0,_=>⟨[],rfl,fun i a=>absurd a (BV i)⟩
 |n+1,h=>by
  obtain⟨l,b,c⟩:=Lg d n (fun i a=>h i (by omega));obtain⟨x,f⟩:=h n (by omega);refine⟨l++[x],by simp[b],fun i a=>?_⟩;by_cases e:i<n
  ·rw[AD (by omega)];exact c i e
  ·obtain rfl:i=n:=by omega
   rw[AJ (by omega),b];simpa using f
section
variable {H:Type} {Lj:rA×qY→H} {P:Program} {w:oZ} {base:Nat} {spare:Nat→Bool} {held:Bool} {t:rA} {cs:List qY} {x:DataW H×List MemPlace} {fs:Array Field}
theorem Je{e:rA}{size fuel:Nat}{α:Type}(d:α){Q:List qY→α→Prop}(G:P.underlying t=Z (.slice e))(K:P.cellsOf e=size)(L:0<size)(q: ∀(n:Nat)(cs:List qY)(y:DataW H×List MemPlace),cs.length=size→DataW.trod Lj P w base spare held n e cs=Z y→ ∃z,Q cs z) (h:DataW.trod Lj P w base spare held fuel t cs=Z x): ∃(a:Option Addr)(cap:Nat)(l:List α),cs=[.slice a l.length cap]∧(l.length=0∨ ∃b o,a=Z ⟨b,o,N⟩∧b<w.heap.size∧ ∀i,i<l.length→ ∃c:List qY,c.length=size∧(∀j,j<size→w.cell? ⟨b,o+(i*size+j),N⟩=c[j]?)∧Q c (l[i]?.getD d)):=by
 rcases open_slice G h with⟨rfl,_⟩|⟨a,len,cap,m,n,D,Pl,rfl,_,T,hm,r,_,s⟩
 ·exact⟨N,0,[],rfl,.inl rfl⟩
 ·obtain⟨l,u,E⟩:=Lg d (Q:=fun i z=> ∃c:List qY,c.length=size∧(∀j,j<size→w.cell? (a.add (i*size+j))=c[j]?)∧Q c z) len (fun i M=>by
   have v:i<m:=by rw[r];split<;>omega
   obtain⟨c,F,A⟩:=s i v;rw[K]at F;obtain⟨_,f,g⟩:=World.cells?_some F;obtain⟨z,B⟩:=q n c _ f A;exact⟨z,c,f,fun j C=>by rw[←Go.Deep.add_add];exact g j C,B⟩)
  subst u;refine⟨Z a,cap,l,rfl,?_⟩;by_cases B:l.length=0
  ·exact .inl B
  ·obtain⟨c,f,g,_⟩:=E 0 (by omega)
   have k:=g 0 L;rw[Ae (by omega)]at k;obtain⟨b,off,spot⟩:=a;have p:spot=none:=by simpa[Addr.add]using World.cell?_spot k
   subst p;refine .inr ⟨b,off,rfl,by have:=EJ k;simpa[Addr.add]using this,fun i s=>?_⟩;obtain⟨c,O,R,S⟩:=E i s;exact⟨c,O,fun j C=>by rw[←add_plain];exact R j C,S⟩
theorem Rx{fuel:Nat}(he:P.underlying t=Z (.struct fs))(b:oneCellFields P fs=rq)(hint:(fs.toList.all fun f=>match P.underlying f.type with|some (.int .i64)=>rq|_=>rm)=rq) (e:cs.length=fs.size) (h:DataW.trod Lj P w base spare held fuel t cs=Z x): ∀j,j<fs.size→ ∃z:Int,cs[j]?=Z (.int .i64 z)∧(Lit.int .i64 z).wf=true:=by
 intro j k;obtain⟨ys,r,_,_,hlen,l,m⟩:=DataW.trod_struct he h;have c:fs[j]?=Z fs[j]:=Za7 k;obtain⟨n,o⟩:=hone_of b j _ c;have g:=m j _ c;rw[n,o]at g;have d:j<cs.length:=by omega
 have a:(cs.drop j).take 1=[cs[j]]:=by rw[A0 d];rfl
 rw[a,Ae (by omega:j<ys.length)]at g;have i:P.underlying (fs[j]).type=Z (.int .i64):=by
  have:=Be.1 hint fs[j] (by simp);revert this;split
  ·intro _;assumption
  ·intro p;cases p
 obtain⟨z,e0,_,q⟩:=DataW.trod_int i g;exact⟨z,by rw[Ae d];simpa using e0,q⟩
end
section
variable {H:Type} {Lj:rA×qY→H} {w:oZ} {base:Nat} {spare:Nat→Bool} {held:Bool} {fuel:Nat} {t:rA} {cs:List qY} {x:DataW H×List MemPlace} {fs:Array Field}
theorem open_ints{k:Nat}(e:fs.size=k)(he:prog.underlying t=Z (.struct fs))(b:oneCellFields prog fs=rq)(hint:(fs.toList.all fun f=>match prog.underlying f.type with|some (.int .i64)=>rq|_=>rm)=rq) (a:cs.length=k) (h:DataW.trod Lj prog w base spare held fuel t cs=Z x): ∃z:Nat→Int,∀j,j<k→cs[j]?=Z (.int .i64 (z j))∧z j≤9223372036854775807:=by subst e;have key:=Rx he b hint a h;obtain⟨l,g,c⟩:=Lg (0:Int) (Q:=fun j z=>cs[j]?=Z (.int .i64 z)∧(Lit.int .i64 z).wf=rq) fs.size key;refine⟨fun j=>l[j]?.getD 0,fun j d=>⟨(c j d).1,?_⟩⟩;have:=(c j d).2;simp[Lit.wf]at this;exact this.2
theorem bP{l:List qY}(b:cs.length=l.length)(h: ∀j,j<l.length→cs[j]?=l[j]?):cs=l:=BC fun j=>by
 by_cases a:j<l.length
 ·exact h j a
 ·rw[A9 (by omega),A9 (by omega)]
theorem qH:prog.cellsOf 84=5:=by kernel_rfl
theorem qI:prog.cellsOf 36=3:=by kernel_rfl
theorem qJ:prog.cellsOf 87=2:=by kernel_rfl
theorem qK:prog.cellsOf 85=1:=by kernel_rfl
theorem qL:prog.cellsOf 43=1:=by kernel_rfl
theorem c4:prog.cellsOf 4=1:=by kernel_rfl
theorem YZ:prog.cellsOf 24=1:=by kernel_rfl
theorem Xu(h:DataW.trod Lj prog w base spare held fuel 85 cs=Z x): ∃(a:Option Addr)(cap:Nat)(l:List CN),cs=[.slice a l.length cap]∧(l.length=0∨ ∃p co,a=Z ⟨p,co,N⟩∧Fh w p co l)∧ ∀i∈l,i.n≤9223372036854775807:=by
 obtain⟨a,cap,l,rfl,f⟩:=Je (⟨0,0,0,0,0⟩:CN) (Q:=fun cs i=>(cs=[.int .i64 i.op,.int .i64 i.a,.int .i64 i.b,.int .i64 i.c,.int .i64 i.n])∧i.n≤9223372036854775807) underlying85 qH (by decide) (fun n cs y q A=>by
  obtain⟨z,r⟩:=open_ints (k:=5) rfl underlying84 (by kernel_rfl) (by kernel_rfl) q A;refine⟨⟨z 0,z 1,z 2,z 3,z 4⟩,bP q fun j s=>?_,(r 4 (by decide)).2⟩;rw[(r j s).1];match j,s with
  |0,_=>rfl
  |1,_=>rfl
  |2,_=>rfl
  |3,_=>rfl
  |4,_=>rfl) h
 refine⟨a,cap,l,rfl,f.imp id fun⟨b,o,e,t,d⟩=>⟨b,o,e,t,fun i g=>?_⟩,fun i d=>?_⟩
 ·rcases f with B|⟨b,o,e,t,f⟩
  ·rw[A3.1 B]at d;cases d
  ·obtain⟨k,u,rfl⟩:=Zbu.1 d
   obtain⟨m,_,_,_,v⟩:=f k u;rw[Ae u]at v;exact v
 ·obtain⟨m,_,c,rfl,_⟩:=d i g
  exact⟨c 0 (by decide),c 1 (by decide),c 2 (by decide),c 3 (by decide),c 4 (by decide)⟩
theorem TJ(h:DataW.trod Lj prog w base spare held fuel 43 cs=Z x): ∃(a:Option Addr)(cap:Nat)(l:List Bool),cs=[.slice a l.length cap]∧(l.length=0∨ ∃f g,a=Z ⟨f,g,N⟩∧FO.Bs w (.slice (Z ⟨f,g,N⟩) l.length cap) l):=by obtain⟨a,cap,l,rfl,j⟩:=Je rm (Q:=fun cs b=>cs=[.bool b]) underlying43 c4 (by decide) (fun n cs y r k=>by obtain⟨b,e,_⟩:=DataW.trod_bool underlying4 k;exact⟨b,e⟩) h;refine⟨a,cap,l,rfl,j.imp id fun⟨b,o,e,m,p⟩=>⟨b,o,e,b,o,cap,rfl,m,fun i c=>?_⟩⟩;obtain⟨q,_,d,rfl⟩:=p i c;have:=d 0 (by decide);rw[Zbs,Zb3]at this;exact this
theorem Xv(r:cs.length=1)(h:DataW.trod Lj prog w base spare held fuel 26 cs=Z x): ∃(a:Option Addr)(cap:Nat)(p:List (List CN×List Bool)),cs=[.slice a p.length cap]∧Xp w a p:=by
 obtain⟨z,n,_,_,j⟩:=trod_struct1 underlying26 h;dsimp only at j;rw[YZ,Za5,AU (by omega)]at j;obtain⟨a,cap,p,rfl,A⟩:=Je (([],[]):List CN×List Bool) (Q:=fun cs f=> ∃c d g sc,cs=[.slice c f.1.length d,.slice g f.2.length sc]∧kd w c g d sc f.1 f.2) underlying24 qJ (by decide) (fun n cs y r B=>by
  obtain⟨z,O,P,_,_,m,q⟩:=trod_struct2 underlying87 B;dsimp only at m q;obtain⟨u,v,rfl⟩: ∃u v,cs=[u,v]:=by
   match cs,r with
   | [u,v],_=>exact⟨u,v,rfl⟩
  rw[qK]at m;rw[qL]at q;obtain⟨c,d,l,s,C,D⟩:=Xu m;obtain⟨g,sc,E,t,F⟩:=TJ q;simp only[Za5,Zba,Zbj,Zbe,and_true]at s;simp only[Zby,Za5,Zba,Zbj,Zbe,and_true]at t;subst s t;exact⟨(l,E),c,d,g,sc,rfl,C,F,D⟩) j
 refine⟨a,cap,p,rfl,A.imp id fun⟨b,o,e,G,H⟩=>⟨b,o,e,G,fun k K=>?_⟩⟩;obtain⟨L,_,i,c,d,g,sc,rfl,M⟩:=H k K;exact⟨c,d,g,sc,i 0 (by decide),i 1 (by decide),M⟩
theorem Pj(h:DataW.trod Lj prog w base spare held fuel 52 cs=Z x): ∃(a:Option Addr)(cap:Nat)(l:List Rt.En),cs=[.slice a l.length cap]∧Rt.UM w a l:=by
 obtain⟨a,cap,l,rfl,g⟩:=Je ((0,0,0):Rt.En) (Q:=fun cs x=>cs=[.int .i64 x.1,.int .i64 x.2.1,.int .i64 x.2.2]) underlying52 qI (by decide) (fun n cs y d i=>by
  obtain⟨z,m⟩:=open_ints (k:=3) rfl underlying36 (by kernel_rfl) (by kernel_rfl) d i;refine⟨(z 0,z 1,z 2),bP d fun j f=>?_⟩;rw[(m j f).1];match j,f with
  |0,_=>rfl
  |1,_=>rfl
  |2,_=>rfl) h
 refine⟨a,cap,l,rfl,g.imp id fun⟨b,o,e,p,q⟩=>⟨b,o,e,fun k r=>?_,p⟩⟩;obtain⟨s,_,c,rfl⟩:=q k r;exact⟨c 0 (by decide),c 1 (by decide),c 2 (by decide)⟩
theorem Xw(d:cs.length=3)(h:DataW.trod Lj prog w base spare held fuel 34 cs=Z x): ∃a b c:Int,cs=[.int .i64 a,.int .i64 b,.int .i64 c]:=by
 obtain⟨z,f⟩:=open_ints (k:=3) rfl underlying34 (by kernel_rfl) (by kernel_rfl) d h;refine⟨z 0,z 1,z 2,bP d fun j e=>?_⟩;rw[(f j e).1];match j,e with
 |0,_=>rfl
 |1,_=>rfl
 |2,_=>rfl
end
end
section
open Go.ChangeShapes Go.WideShapes Go.ChangeAt Go.RowKit
theorem k1:Rows.topCutsRow.wf (OpenSpec.ofChange Rows.topCutsSpec)=true:=by kernel_rfl
theorem k2:laidOutB checked.prog=true:=by kernel_rfl
theorem k3:mapsRowed checked.prog=true:=by kernel_rfl
theorem k4:f4.params.all (checked.prog.readableRec ·)=true:=by kernel_rfl
theorem k5:namedTie checked.prog Rows.topCutsRow.named Rows.topCutsSpec.vars=true:=by kernel_rfl
theorem k6:(Rows.topCutsRow.stops== [])=true:=by kernel_rfl
theorem k7:(checked.prog.stops== [])=true:=by kernel_rfl
theorem k8:(Rows.topCutsRow.knobs== [])=true:=by kernel_rfl
theorem k9:(checked.prog.stopKnobs== [])=true:=by kernel_rfl
theorem Rz:(Rows.topCutsRow.inPlace==checked.prog.inPlace 4)=true:=by kernel_rfl
theorem X5:(Rows.topCutsRow.unfollowed==checked.prog.unfollowed 4)=true:=by kernel_rfl
theorem eL:(Rows.topCutsRow.recurses==checked.prog.recurses 4)=true:=by kernel_rfl
theorem py:(Rows.topCutsRow.named==checked.prog.varsNamed 4)=true:=by kernel_rfl
theorem pA:(Rows.topCutsRow.maps==(f4.params.toList++Rows.topCutsSpec.plain.varTypes checked.prog).any (checked.prog.mapsRec ·))=true:=by kernel_rfl
theorem pB:(Rows.topCutsRow.ifaces==(f4.params.toList++Rows.topCutsSpec.plain.varTypes checked.prog).any (checked.prog.ifacesRec ·))=true:=by kernel_rfl
theorem ny:(Rows.topCutsRow.mapsOut==checked.prog.mapsAmong f4.resultTypes.toList)=true:=by kernel_rfl
theorem qM:(Rows.topCutsRow.loops==(f4.params.toList++Rows.topCutsSpec.plain.varTypes checked.prog).any (checked.prog.loopsFrom ·))=true:=by kernel_rfl
theorem qN:(Rows.topCutsRow.wideKeys==(f4.params.toList++Rows.topCutsSpec.plain.varTypes checked.prog++f4.resultTypes.toList).any (checked.prog.wideKeysFrom ·))=true:=by kernel_rfl
theorem ps:Rows.topCutsSpec.vars.all (checked.prog.varReadable ·)=true:=by kernel_rfl
theorem gZ:f4.resultTypes.all (fun t=>checked.prog.readableRec t&&decide (t<checked.prog.types.size))=true:=by kernel_rfl
theorem pt:(Rows.topCutsRow.ifacesOut==f4.resultTypes.toList.any (checked.prog.ifacesRec ·))=true:=by kernel_rfl
theorem px:(Rows.topCutsRow.loopsOut==f4.resultTypes.toList.any (checked.prog.loopsFrom ·))=true:=by kernel_rfl
theorem qO:(Rows.topCutsRow.plainKeys==checked.prog.plainKeys)=true:=by kernel_rfl
theorem qP:Rows.topCutsRow.shortTexts.isNone=true:=by kernel_rfl
theorem qQ:checked.prog.stopsHeard=true:=by kernel_rfl
theorem qR:checked.prog.mayEnter=true:=by kernel_rfl
theorem qS:(Rows.topCutsRow.lifted==checked.prog.liftsFinal)=true:=by kernel_rfl
theorem qT:(checked.prog.make==Z Rows.topCutsRow.make)=true:=by kernel_rfl
theorem qU:(Rows.topCutsRow.kinds==(if Rows.topCutsRow.domain.isEmpty then []else f4.params.toList.map fun t=>match checked.prog.underlying t with|some (.int k)=>Z k|_=>N))=true:=by kernel_rfl
theorem qV:(Rows.topCutsRow.pinned==Rows.topCutsRow.pinnedBy)=true:=by kernel_rfl
theorem qW:(Rows.topCutsRow.veiled==(f4.params.toList++Rows.topCutsSpec.plain.varTypes checked.prog++f4.resultTypes.toList).any (checked.prog.veiledRec ·))=true:=by kernel_rfl
theorem qX:Rows.topCutsRow.veiledFits checked.prog f4.params.toList (f4.params.toList++Rows.topCutsSpec.plain.varTypes checked.prog++f4.resultTypes.toList)=true:=by kernel_rfl
theorem both{a b:Bool}(h:a=rq)(k:b=rq):(a&&b)=true:=by rw[h,k];rfl
theorem closed:joinedFacts checked.prog 4 f4 Rows.topCutsSpec Rows.topCutsRow=true:=by unfold joinedFacts;exact(both (both (both (both (both (both (both (both (both (both (both (both (both (both (both (both (both (both (both (both (both (both (both (both (both (both (both (both (both (both (both k1 k2) k3) k4) k5) k6) k7) k8) k9) Rz) X5) eL) py) pA) pB) ny) qM) qN) ps) gZ) pt) px) qO) qP) qQ) qR) qS) qT) qU) qV) qW) qX)
theorem bQ:checked.prog.funcNamed Rows.topCutsRow.func=Z 4:=by kernel_rfl
theorem ks:Rows.topCutsRow.wfByText (OpenSpec.ofChange Rows.topCutsSpec)=true:=by kernel_rfl
theorem mainIs:checked.prog.mainIs=Z (rq,"81b73818891692d27b993e6d6bd417915a994d653eb782a953168ccbf78ae42f".toList):=by kernel_rfl
theorem bR:rq=checked.prog.looks []:=by kernel_rfl
theorem gD:rm=Rows.topCutsRow.goesBy checked.prog:=by kernel_rfl
end
open Go.ChangeShapes Go.WideShapes Go.ChangeAt Go.RowKit Go.CL
variable {cs:List qY} {W:oZ} {p:List MemPlace}
theorem Na{H:Type}{Lj:rA×qY→H}{a:Assume}{C:Checked}{os:Os}{f:FuncId}{fn:Func}{s:ChangeSpec}{conds:List PathCond}{apart fresh handsOn again:Bool}{X:oZ→Array qY→Prop}(p: ∀(w h:oZ)(args:Array qY),w.heap=h.heap→X w args→X h args) (own:ownKnob C.prog.godebug=N) (started:os.Started) (b:C.prog.inits.idxOf? f=N) (k:C.prog.funcs[f]?=Z fn) (witness: ∃(w:oZ)(tape:Tape)(i:Input),w.os=os∧(w.forCall tape i).Shaped C.prog∧i.vars=[]∧Input.okWide C.prog (w.forCall tape i) .any w.heap.size f i∧((s.pre Lj C.prog fn conds apart (w.forCall tape i).memory i.args∧X (w.forCall tape i).memory i.args)∧sizedMet Lj C.prog fn (OpenSpec.ofChange s) apart (w.forCall tape i).memory i.args)∧a.holds C.prog (lone (Frame.enter C.prog f i.args .normal) [] (w.forCall tape i))) (contract: ∀(W:oZ)(base:Nat)(args:Array qY)(ds gs:List (DataW H))(before:List MemPlace),(∀(j:Nat) t v,fn.params[j]?=Z t→args[j]?=Z v→Value.okWide C.prog W .any base t v)→DataW.Whole Lj C.prog fn.params.toList s.vars apart W args.toList ds gs before→X W args→W.ShapedOpen C.prog→re C.prog f args W fun e o=> ∃v,e=.returned v∧s.post Lj C.prog fn apart fresh handsOn again W args v o):ReturnsInHanded a C os f .any (fun w args=>(s.pre Lj C.prog fn conds apart w args∧X w args)∧sizedMet Lj C.prog fn (OpenSpec.ofChange s) apart w args) (s.post Lj C.prog fn apart fresh handsOn again):=by refine returnsInHanded_of_calls own started b witness ?_;intro w tape i _ l _ m c g;obtain⟨_,_,_,n,d,_,_,_,_,hval⟩:=m;have e:n=fn:=Bk (d.symm.trans k);subst e;obtain⟨⟨⟨ds,gs,before,hw,u⟩,q⟩,x⟩:=c;have hw':=DataW.Whole.of_heap (w':=w.forCall tape i) (by rfl) hw;refine(contract (w.forCall tape i) w.heap.size i.args ds gs before hval hw' (p _ _ _ (by rfl) q) l).mono fun e o⟨v,he,r⟩=>?_;subst he;exact ChangeSpec.post_blind r
theorem own:ownKnob prog.godebug=none:=by kernel_rfl
theorem laidOut:laidOutB prog=true:=by kernel_rfl
def gE(r:DX.Row):DataW Unit:=.agg [.lit (.string r.name),.lit (.int .i64 r.CS),.lit (.int .i64 r.target),.lit (.bool r.number),.lit (.bool r.waits),.lit (.bool r.ends),.lit (.bool r.asks)]
theorem Xx:(Rows.laid_escapement_isa_rows:DataW Unit)=.agg (DX.rows.map gE):=by rfl
theorem drop_one{a b:Nat}{v:qY}(h:((((cs.drop a).take 7).drop b).take 1)=[v]):cs[a+b]?=Z v:=by
 have:=Aq (·[0]?) h;simp only[Co,Zai,Ac]at this;split at this
 · split at this
   ·simpa using this
   ·cases this
 ·cases this
theorem gG{fuel:Nat}{s:List UInt8}(h:DataW.trod (fun _=>()) prog W 0 (fun _=>rq) rm fuel 9 cs=Z (.lit (.string s),p)):cs=[.string ⟨s.toArray⟩]:=by obtain⟨b,e,a,_⟩:=DataW.trod_string underlying9 h;simp only[AM,DataW.lit.injEq,Lit.string.injEq]at a;obtain⟨rfl,_⟩:=a;rw[e]
theorem UP{fuel:Nat}{n:Int}(h:DataW.trod (fun _=>()) prog W 0 (fun _=>rq) rm fuel 3 cs=Z (.lit (.int .i64 n),p)):cs=[.int .i64 n]:=by obtain⟨b,e,a,_⟩:=DataW.trod_int underlying3 h;simp only[AM,DataW.lit.injEq,Lit.int.injEq,true_and]at a;obtain⟨rfl,_⟩:=a;exact e
theorem KF{fuel:Nat}{b:Bool}(h:DataW.trod (fun _=>()) prog W 0 (fun _=>rq) rm fuel 4 cs=Z (.lit (.bool b),p)):cs=[.bool b]:=by obtain⟨c,e,a⟩:=DataW.trod_bool underlying4 h;simp only[AM,DataW.lit.injEq,Lit.bool.injEq]at a;obtain⟨rfl,_⟩:=a;exact e
theorem bS{α β:Type}{xs:List (α×β)}{l:List α}(h:l=xs.map (·.1)){i:Nat}{a:α}(b:l[i]?=Z a): ∃p,xs[i]?=Z (a,p):=by
 rw[h,Bn]at b;cases c:xs[i]? with
 |none=>rw[c]at b;cases b
 |some y=>rw[c]at b;simp only[BA,Ak]at b;exact⟨y.2,by rw[←b]⟩
theorem gH(k:Nat)(a:k<24):(DX.rows.map gE)[k]?=Z (gE (DX.rows[k]?.getD DX.Df)):=by
 have b:DX.rows.length=24:=by kernel_rfl
 simp[b,a]
theorem bT(h:Lib.VarReads prog W "escapement/isa.rows" Rows.laid_escapement_isa_rows):DX.Laid W:=by
 obtain⟨g,t,cs,fuel,p,n,w,x,o⟩:=h;obtain rfl:g=0:=(Bk ((show prog.globalNamed "escapement/isa.rows" =Z 0 by kernel_rfl).symm.trans n)).symm;obtain rfl:t=312:=(Bk ((show(prog.globals[0]?).map (·.type)=Z 312 by kernel_rfl).symm.trans w)).symm;have c: ∀i,W.cell? ⟨0,i,N⟩=cs.toList[i]?:=fun i=>by rw[World.var?_cell n x i];simp
 rw[Xx]at o;obtain⟨xs,m,rfl,s,_,O,l⟩:=DataW.trod_array underlying312 o;simp only[AM,DataW.agg.injEq]at s;have e:prog.cellsOf 258=7:=by kernel_rfl
 have c9:prog.cellsOf 9=1:=by kernel_rfl
 have c3:prog.cellsOf 3=1:=by kernel_rfl
 have c4:prog.cellsOf 4=1:=by kernel_rfl
 have all: ∀k,k<24→cs.toList[k*7]?=Z (.string ⟨(DX.rows[k]?.getD DX.Df).name.toArray⟩)∧cs.toList[k*7+1]?=Z (.int .i64 (DX.rows[k]?.getD DX.Df).CS)∧cs.toList[k*7+2]?=Z (.int .i64 (DX.rows[k]?.getD DX.Df).target)∧
   cs.toList[k*7+3]?=Z (.bool (DX.rows[k]?.getD DX.Df).number)∧cs.toList[k*7+4]?=Z (.bool (DX.rows[k]?.getD DX.Df).waits)∧cs.toList[k*7+5]?=Z (.bool (DX.rows[k]?.getD DX.Df).ends)∧cs.toList[k*7+6]?=Z (.bool (DX.rows[k]?.getD DX.Df).asks):=fun k j=>by
  generalize y:DX.rows[k]?.getD DX.Df=r;obtain⟨q,u⟩:=bS s.1 (gH k j);rw[y]at u;have f:=l k j;rw[u,e]at f;obtain⟨ys,m2,_,hy,_,_,d⟩:=DataW.trod_struct underlying258 f;simp only[gE,AM,DataW.agg.injEq]at hy;have at_: ∀i,∀a,[DataW.lit (.string r.name),.lit (.int .i64 r.CS),.lit (.int .i64 r.target),.lit (.bool r.number),.lit (.bool r.waits),.lit (.bool r.ends),.lit (.bool r.asks)][i]?=Z a→ ∃p,ys[i]?=Z (a,p):=fun i a z=>bS hy.1 z;obtain⟨p0,e0⟩:=at_ 0 _ rfl;obtain⟨A,B⟩:=at_ 1 _ rfl;obtain⟨C,D⟩:=at_ 2 _ rfl;obtain⟨E,F⟩:=at_ 3 _ rfl;obtain⟨p4,G⟩:=at_ 4 _ rfl;obtain⟨H,K⟩:=at_ 5 _ rfl;obtain⟨L,M⟩:=at_ 6 _ rfl;have f0:DataW.trod (fun _=>()) prog W 0 (fun _=>rq) rm m2 9 (List.take (prog.cellsOf 9) (List.drop 0 (List.take 7 (List.drop (k*7) cs.toList))))=Z (_,p0):=(d 0 _ rfl).trans e0;rw[c9]at f0;have f1:DataW.trod (fun _=>()) prog W 0 (fun _=>rq) rm m2 3 (List.take (prog.cellsOf 3) (List.drop 1 (List.take 7 (List.drop (k*7) cs.toList))))=Z (_,A):=(d 1 _ rfl).trans B;rw[c3]at f1;have f2:DataW.trod (fun _=>()) prog W 0 (fun _=>rq) rm m2 3 (List.take (prog.cellsOf 3) (List.drop 2 (List.take 7 (List.drop (k*7) cs.toList))))=Z (_,C):=(d 2 _ rfl).trans D;rw[c3]at f2;have f3:DataW.trod (fun _=>()) prog W 0 (fun _=>rq) rm m2 4 (List.take (prog.cellsOf 4) (List.drop 3 (List.take 7 (List.drop (k*7) cs.toList))))=Z (_,E):=(d 3 _ rfl).trans F;rw[c4]at f3;have f4:DataW.trod (fun _=>()) prog W 0 (fun _=>rq) rm m2 4 (List.take (prog.cellsOf 4) (List.drop 4 (List.take 7 (List.drop (k*7) cs.toList))))=Z (_,p4):=(d 4 _ rfl).trans G;rw[c4]at f4;have f5:DataW.trod (fun _=>()) prog W 0 (fun _=>rq) rm m2 4 (List.take (prog.cellsOf 4) (List.drop 5 (List.take 7 (List.drop (k*7) cs.toList))))=Z (_,H):=(d 5 _ rfl).trans K;rw[c4]at f5;have f6:DataW.trod (fun _=>()) prog W 0 (fun _=>rq) rm m2 4 (List.take (prog.cellsOf 4) (List.drop 6 (List.take 7 (List.drop (k*7) cs.toList))))=Z (_,L):=(d 6 _ rfl).trans M;rw[c4]at f6;exact⟨drop_one (b:=0) (gG f0),drop_one (b:=1) (UP f1),drop_one (b:=2) (UP f2),drop_one (b:=3) (KF f3),drop_one (b:=4) (KF f4),drop_one (b:=5) (KF f5),drop_one (b:=6) (KF f6)⟩
 refine⟨?_,fun k j=>by simp only[c];exact all k j⟩;have v:=(all 0 (by decide)).1;rw[←c]at v;exact EJ v
theorem ku(h:Lib.VarReads prog W "internal/strconv.uint64pow10" Rows.laid_internal_strconv_uint64pow10):F2.Pow W:=by obtain⟨g,t,cs,fuel,p,b,c,d,a⟩:=h;obtain rfl:g=2:=(Bk ((show prog.globalNamed "internal/strconv.uint64pow10" =Z 2 by kernel_rfl).symm.trans b)).symm;obtain rfl:t=384:=(Bk ((show(prog.globals[2]?).map (·.type)=Z 384 by kernel_rfl).symm.trans c)).symm;rw[show(Rows.laid_internal_strconv_uint64pow10:DataW Unit)=Lib.tabData .u64 Lib.pow10Tab from by rfl]at a;have e:=Lib.cells_of_tab underlying384 underlying328 (by kernel_rfl) (by kernel_rfl) a;show prog |> fun P=>W.var? P "internal/strconv.uint64pow10" =Z (Lib.pow10Tab.map fun z=>Value.int .u64 z).toArray;dsimp only;rw[d,←e]
end Go.Proofs.YtgadhchejmlfjaaGreatDoor.topCuts
