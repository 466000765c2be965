/- TopCuts, proved: its card holds for every call that the card admits, in every world where the package variables of the program are laid as the card says (the tie to the laid variables is the given one); no other premise. The texts before this one are its parts: the functions of the program walked one by one, the mirror of the machine in plain Lean, and the plain law of the cut. Names are short to keep the claim within its size. -/
import Derived.Test.YtgadhchejmlfjaaGreatDoorE0
set_option linter.unusedVariables false
set_option maxRecDepth 20000
set_option maxHeartbeats 16000000
open Go.Value renaming int→I,pointer→J,slice→Y
open Go.IntKind renaming i64→U
open Option renaming none→N,some→Z
open Bool renaming false→rm,true→rq
namespace Go.Proofs.YtgadhchejmlfjaaGreatDoor.topCuts
open Go.Proofs.Tryz
open Go.ChangeShapes Go.WideShapes Go.ChangeAt Go.RowKit Go.CL
def Hg:List (String×DataW Unit):=Rows.topCutsRow.laid.filter fun x=>x.2.handleName?.isNone
noncomputable def w0(os:Os):World:=
 let w:=World.holding prog os ⟨#[],#[],[]⟩
 {w with heap:=w.heap.modify 1 fun| .cells _ t frozen=>.cells #[.iface 395 (.agg #[J (Z ⟨8,154,N⟩)])] t frozen|o=>o}
noncomputable def wW(os:Os):World:=(w0 os).layVars prog Hg
theorem mX(os:Os):(wW os).os=os:=World.layVars_os _ _ _
theorem kv(os:Os)(args:Array Value):laidMetH prog Rows.topCutsRow.laid ((wW os).forCall (fun _ _=>0) ⟨#[],args,[]⟩).memory:=by
 have a:(Hg.filter fun x=>(Hg.map (·.1)).contains x.1)=Hg:=List.filter_eq_self.2 fun x b=>List.contains_iff_mem.2 (B8.2 ⟨x,b,rfl⟩);have c:(Hg.filter fun x=>!(Hg.map (·.1)).contains x.1)=[]:=List.filter_eq_nil_iff.2 fun x b=>by rw[List.contains_iff_mem.2 (B8.2 ⟨x,b,rfl⟩)];simp
 have h:laidMet prog Hg (wW os):=laidMet_layVars (w0:=w0 os) (Hg.map (·.1)) [] (by rw[a];rfl) (by rw[a];kernel_rfl) (by rw[a];kernel_rfl) (by rw[c];exact LaidIn.none);refine laidMetH_of_parts (h.of_heap (by simp[World.memory,World.forCall,Input.heap])) ?_;kernel_rfl
theorem Xy{W:World}(h:laidMetH prog Rows.topCutsRow.laid W):laidMet prog Hg W:=by have a:laidMet prog Hg W∧_:=h;exact a.1
theorem lifted(os:Os)(started:os.Started)(H:Type)(Lj:TypeId×Value→H):ReturnsInHanded {} checked os 4 .any (fun w args=>(Rows.topCutsSpec.pre Lj prog f4 [] rm w args∧laidMetH prog Rows.topCutsRow.laid w)∧sizedMet Lj prog f4 (OpenSpec.ofChange Rows.topCutsSpec) rm w args) (Rows.topCutsSpec.post Lj prog f4 rm rq rm rm):=by
 refine Na (C:=checked) (X:=fun w _=>laidMetH prog Rows.topCutsRow.laid w) (fun _ _ _ hh h=>h.of_heap hh) own started (by kernel_rfl) func4
  (ChangeSpec.witness_shaped (enc:=Lj) (C:=checked) (os:=os) (X:=fun w _=>laidMetH prog Rows.topCutsRow.laid w) rm (wW os) #[.agg #[Y N 0 0],.agg #[I U 0,I U 0,I U 0],Y N 0 0] 8 (mX os) (World.shaped_of_ZipB (by kernel_rfl) (by kernel_rfl)) (by kernel_rfl) (by kernel_rfl) (by kernel_rfl) (kv os _)) ?_
 intro W base args ds gs before b T hL hS;have hval: ∀(j:Nat) t v,f4.params[j]?=Z t→args[j]?=Z v→Value.okWide prog W .any base t v:=b;have B:=T;obtain⟨p,q,f,hV,rfl,aa,ab⟩:=T;have V:DataW.TrodAll Lj prog W 0 (fun _=>rq) rq f4.params.toList args.toList ds p:=f;rw[params4]at V hval;obtain⟨v0,ad,d0,ae,p0,q0,D,rfl,rfl,h0,r0⟩:=trodAll_cons V;obtain⟨v1,af,d1,ag,p1,q1,u,rfl,rfl,h1,r1⟩:=trodAll_cons r0;obtain⟨v2,ah,d2,ai,p2,q2,A,rfl,rfl,h2,r2⟩:=trodAll_cons r1;obtain⟨rfl,rfl,rfl⟩:=trodAll_nil r2;obtain rfl:args=#[v0,v1,v2]:=by cases args;simp_all
 obtain⟨rfl,rfl⟩:=trodVars_none hV;have k0:=h0;have k1:=h1;have k2:=h2;have E: ∀x∈p0,x.block<W.heap.size:=by obtain⟨m,hm⟩:=k0;exact DataW.trod_lt m _ _ _ hm
 have F: ∀x∈p1,x.block<W.heap.size:=by obtain⟨m,hm⟩:=k1;exact DataW.trod_lt m _ _ _ hm
 have G: ∀x∈p2,x.block<W.heap.size:=by obtain⟨m,hm⟩:=k2;exact DataW.trod_lt m _ _ _ hm
 obtain⟨i,rfl,K⟩:=okWide_struct underlying26 (hval 0 26 v0 rfl rfl);obtain⟨k,rfl,L⟩:=okWide_struct underlying34 (hval 1 34 v1 rfl rfl);have M:i.size=1:=K.trans (by kernel_rfl);have O:k.size=3:=L.trans (by kernel_rfl);obtain⟨a,P,pl,rfl,Q⟩: ∃(a:Option Addr)(P:Nat)(pl:List (List Vm.CN×List Bool)),i=#[.slice a pl.length P]∧EO.Xp W a pl:=by obtain⟨fuel,n⟩:=h0;obtain⟨a,c,pl,e,Q⟩:=Xv (by simpa[Value.cells]using M) n;exact⟨a,c,pl,Array.ext' (by simpa[Value.cells]using e),Q⟩
 obtain⟨x,y,z,rfl⟩: ∃x y z:Int,k=#[I U x,I U y,I U z]:=by obtain⟨fuel,n⟩:=h1;obtain⟨x,y,z,e⟩:=Xw (by simpa[Value.cells]using O) n;exact⟨x,y,z,Array.ext' (by simpa[Value.cells]using e)⟩
 obtain⟨a2,o,r,rfl⟩:=okWide_slice underlying52 (hval 2 52 v2 rfl rfl);obtain⟨l,rfl,R⟩: ∃l:List Rt.En,o=l.length∧Rt.UM W a2 l:=by obtain⟨fuel,n⟩:=h2;obtain⟨a,c,l,e,R⟩:=Pj n;simp[Value.cells]at e;obtain⟨rfl,rfl,rfl⟩:=e;exact⟨l,rfl,R⟩
 have s:laidMet prog Hg W:=Xy hL;have hI:=bT (Lib.laidMet.reads s (by simp[Hg,Rows.topCutsRow];rfl));have S:=ku (Lib.laidMet.reads s (by simp[Hg,Rows.topCutsRow];rfl));have hM:FM.Mx W:=cell_of_shapedOpen_int (g:=3) (t:=3) (zero:=#[I U 0]) hS (Cc (by kernel_rfl)) (by kernel_rfl) rfl (by kernel_rfl) (by kernel_rfl) underlying3;clear f b;refine(nF.bN W a a2 P r x y z pl l Q R hI hM S).mono fun e W'⟨he,d⟩=>?_;subst he;exact⟨_,rfl,_,_,_,[],_,[],B,trodAll_mk1 (shut_bool underlying4 _),(trodAll_cons_mk (Below.trod laidOut (by kernel_rfl) (Cc (by kernel_rfl)) k0 d E) (trodAll_cons_mk (Below.trod laidOut (by kernel_rfl) (Cc (by kernel_rfl)) k1 d F) (trodAll_cons_mk (Below.trod laidOut (by kernel_rfl) (Cc (by kernel_rfl)) k2 d G) trodAll_mk0))),rfl,d.frame _,fun h=>by cases h⟩
theorem over:Rows.TopCutsSaid:=
 OpenClaim.holds_of_wide 4 f4 rfl rfl rfl rfl rfl rfl rfl ⟨rfl,rfl,rfl,rfl,rfl⟩ rfl rfl rfl rfl rfl bQ func4 closed
  (Cc (by kernel_rfl)) (by unfold Func.isWrapper;first|(rw[Ai (by decide+kernel)];kernel_rfl)|(rw[Ah (by decide+kernel)];exact⟨rfl,rfl⟩))
  (fun os started H a _=>lifted os started H a)
end Go.Proofs.YtgadhchejmlfjaaGreatDoor.topCuts
namespace Go.Proofs.YtgadhchejmlfjaaGreatDoor
open Go.Proofs.Tryz
theorem topCuts_holds:Rows.TopCutsCardSaid:=
 Claim7.holds_tied_plain_at .later [] [.data,.data,.data,.data,.data,.handle,.pinned] rq (rq,"81b73818891692d27b993e6d6bd417915a994d653eb782a953168ccbf78ae42f") rq
  topCuts.over (fun _ h=>by cases h) topCuts.ks (fun _ h=>by cases h) topCuts_row_tie rfl ⟨rfl,rfl⟩ topCuts.mainIs rfl
  (fun f fn d b=>by
   obtain rfl:f=4:=Bk (topCuts.bQ.symm.trans d) |>.symm;obtain rfl:fn=f4:=(Bk (func4.symm.trans b)).symm;exact⟨topCuts.bR,fun j t c=>by
    rw[params4]at c;have hm:t∈[26,34,52]:=by simpa using Array.mem_of_getElem? c
    have a:([26,34,52].all fun u=>!prog.wantsStandIn u)=true:=by kernel_rfl
    exact(show prog.wantsStandIn t=rm by simpa using Be.1 a t hm)⟩)
  topCuts.gD
end Go.Proofs.YtgadhchejmlfjaaGreatDoor
