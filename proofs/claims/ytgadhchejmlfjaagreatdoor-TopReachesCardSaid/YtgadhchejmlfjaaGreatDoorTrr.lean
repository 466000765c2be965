/- The Go function TopReaches returns true whatever the draws are, and leaves them as they were. Conditions: the package variables that the row lists hold what the program's text lays (tied: the card). -/
import Derived.Test.YtgadhchejmlfjaaGreatDoorTie
import Derived.Test.YtgadhchejmlfjaaGreatDoorCards
import Derived.WalkKit
import Derived.ProofKit
import Derived.OpenShut
import Derived.ShutString
import Derived.ChangeOld
import Derived.Below
import Derived.LaidLaws
import Derived.LaidHandle
import Derived.Lay
import Derived.Lib.LaidTab
import Derived.Lib.LaidU8
import Derived.Shelf.Vars
import Derived.SevenTiedAt
import Derived.JoinedOf
import Derived.Stop.Joined
import Derived.Test.YtgadhchejmlfjaaGreatDoorRch
import Derived.Test.YtgadhchejmlfjaaGreatDoorTrq
import Derived.Test.YtgadhchejmlfjaaGreatDoorTrf
set_option linter.unusedVariables false
set_option maxRecDepth 20000
namespace Go.Proofs.YtgadhchejmlfjaaGreatDoor.topReaches
open Go.ChangeShapes Go.WideShapes Go.ChangeAt Go.RowKit Go.Esc
set_option maxRecDepth 100000
def laidD:List (String × DataW Unit):=Rows.topReachesRow.laid.filter fun x=>x.2.handleName?.isNone
noncomputable def w0 (os:Os):World:=
 let w:=World.holding Tryz.prog os ⟨#[],#[],[]⟩
 { w with heap:=w.heap.modify 1 fun
   | .cells _ t frozen=>.cells #[.iface 395 (.agg #[.pointer (some ⟨8,154,none⟩)])] t frozen
   | o=>o }
noncomputable def wW (os:Os):World:=(w0 os).layVars Tryz.prog laidD
theorem wW_os (os:Os):(wW os).os = os:=World.layVars_os _ _ _
theorem wW_met (os:Os) (args:Array Value):laidMetH Tryz.prog Rows.topReachesRow.laid ((wW os).forCall (fun _ _=>0) ⟨#[],args,[]⟩).memory:=by
 have e1:(laidD.filter fun x=>(laidD.map (·.1)).contains x.1) = laidD:=List.filter_eq_self.2 fun x hx=>List.contains_iff_mem.2 (List.mem_map.2 ⟨x,hx,rfl⟩)
 have e2:(laidD.filter fun x=>!(laidD.map (·.1)).contains x.1) = []:=List.filter_eq_nil_iff.2 fun x hx=>by rw [List.contains_iff_mem.2 (List.mem_map.2 ⟨x,hx,rfl⟩)];simp
 have h:laidMet Tryz.prog laidD (wW os):=laidMet_layVars (w0:=w0 os) (laidD.map (·.1)) [] (by rw [e1];rfl) (by rw [e1];kernel_rfl) (by rw [e1];kernel_rfl) (by rw [e2];exact LaidIn.none)
 refine laidMetH_of_parts (h.of_heap (by simp [World.memory,World.forCall,Input.heap])) ?_
 kernel_rfl
theorem laid_data {W:World} (h:laidMetH Tryz.prog Rows.topReachesRow.laid W):laidMet Tryz.prog laidD W:=by
 have h':laidMet Tryz.prog laidD W ∧ _:=h
 exact h'.1
theorem lifted (os:Os) (started:os.Started) (H:Type) (enc:TypeId × Value → H) :
  ReturnsInHanded {} Tryz.checked os 3 .any (fun w args=>(Rows.topReachesSpec.pre enc Tryz.prog Tryz.f3 [] false w args ∧ laidMetH Tryz.prog Rows.topReachesRow.laid w) ∧ sizedMet enc Tryz.prog Tryz.f3 (OpenSpec.ofChange Rows.topReachesSpec) false w args)
   (Rows.topReachesSpec.post enc Tryz.prog Tryz.f3 false true false false):=by
 refine returns_shaped (C:=Tryz.checked) (X:=fun w _=>laidMetH Tryz.prog Rows.topReachesRow.laid w) (fun _ _ _ hh h=>h.of_heap hh) own started (by kernel_rfl) Tryz.func3
  (ChangeSpec.witness_shaped (enc:=enc) (C:=Tryz.checked) (os:=os) (X:=fun w _=>laidMetH Tryz.prog Rows.topReachesRow.laid w) false (wW os) #[.slice none 0 0] 8 (wW_os os)
   (World.shaped_of_ZipB (by kernel_rfl) (by kernel_rfl)) (by kernel_rfl) (by kernel_rfl) (by kernel_rfl) (wW_met os _)) ?_
 intro W base args ds gs before hval0 hW hL hS
 have hval:∀ (j:Nat) t v,Tryz.f3.params[j]? = some t → args[j]? = some v → Value.okWide Tryz.prog W .any base t v:=hval0
 have hW':=hW
 obtain ⟨p,q,hA0,hV,rfl,hfz,hnd⟩:=hW
 have hA:DataW.TrodAll enc Tryz.prog W 0 (fun _=>true) true Tryz.f3.params.toList args.toList ds p:=hA0
 rw [Tryz.params3] at hA hval
 obtain ⟨v0,vs0,d0,ds0,p0,q0,hargs,rfl,rfl,h0,r0⟩:=trodAll_cons hA
 obtain ⟨rfl,rfl,rfl⟩:=trodAll_nil r0
 obtain rfl:args = #[v0]:=by cases args;simp_all
 obtain ⟨rfl,rfl⟩:=trodVars_none hV
 obtain ⟨a0,len0,cap0,rfl⟩:=okWide_slice Tryz.underlying22 (hval 0 22 v0 rfl rfl)
 have k0:=h0
 have lt0:∀ x ∈ p0,x.block < W.heap.size:=by obtain ⟨m,hm⟩:=k0;exact DataW.trod_lt m _ _ _ hm
 obtain ⟨z0,r0⟩:∃ f,Row W a0 len0 1 f:=by
  obtain ⟨fuel,hf⟩:=h0
  obtain ⟨x,l,c,hcs,f,hr⟩:=open_introw Tryz.underlying22 Tryz.underlying3 (by kernel_rfl) hf
  simp [Value.cells] at hcs
  obtain ⟨rfl,rfl,rfl⟩:=hcs
  exact ⟨f,hr⟩
 have hL':laidMet Tryz.prog laidD W:=laid_data hL
 have hI:=laid_isa (Lib.laidMet.reads hL' (by simp [laidD,Rows.topReachesRow];rfl))
 have hP:=pow_of (Lib.laidMet.reads hL' (by simp [laidD,Rows.topReachesRow];rfl))
 have hM:Txt.Mx W:=cell_of_shapedOpen_int (g:=3) (t:=3) (zero:=#[.int .i64 0]) hS (of_decide_eq_true (by kernel_rfl)) (by kernel_rfl) rfl (by kernel_rfl) (by kernel_rfl) Tryz.underlying3
 clear hA0 hval0
 refine (Top.reaches_any W a0 len0 cap0 z0 r0 hI hM hP).mono fun e W' ⟨he,bel⟩=>?_
 subst he
 exact ⟨_,rfl,_,_,_,[],_,[],hW',trodAll_mk1 (shut_bool Tryz.underlying4 _),(trodAll_cons_mk (Below.trod laidOut (by kernel_rfl) (of_decide_eq_true (by kernel_rfl)) k0 bel lt0) trodAll_mk0),rfl,bel.frame _,fun h=>by cases h⟩
theorem over:Rows.TopReachesSaid:=
 OpenClaim.holds_of_wide 3 Tryz.f3 rfl rfl rfl rfl rfl rfl rfl ⟨rfl,rfl,rfl,rfl,rfl⟩ rfl rfl rfl rfl rfl named3 Tryz.func3 closed
  (of_decide_eq_true (by kernel_rfl)) (by unfold Func.isWrapper;first | (rw [if_pos (by decide +kernel)];kernel_rfl) | (rw [if_neg (by decide +kernel)];exact ⟨rfl,rfl⟩))
  (fun os started H enc _=>lifted os started H enc)
end Go.Proofs.YtgadhchejmlfjaaGreatDoor.topReaches
namespace Go.Proofs.YtgadhchejmlfjaaGreatDoor
set_option maxRecDepth 100000 in
theorem topReaches_holds:Rows.TopReachesCardSaid:=
 Claim7.holds_tied_plain_at .later [] [.data, .data, .data, .data, .data, .handle, .pinned] true (true, "81b73818891692d27b993e6d6bd417915a994d653eb782a953168ccbf78ae42f") true
  topReaches.over (fun _ h=>by cases h) topReaches.wfText (fun _ h=>by cases h) topReaches_row_tie rfl ⟨rfl,rfl⟩ topReaches.mainIs rfl
  (fun f fn hf hfn=>by
   obtain rfl:f = 3:=Option.some.inj (topReaches.named3.symm.trans hf) |>.symm
   obtain rfl:fn = Tryz.f3:=(Option.some.inj (Tryz.func3.symm.trans hfn)).symm
   exact ⟨topReaches.looksAll,fun j t ht=>by
    rw [Tryz.params3] at ht
    have hm:t ∈ [22]:=by simpa using Array.mem_of_getElem? ht
    have hall:([22].all fun u=>!Tryz.prog.wantsStandIn u) = true:=by kernel_rfl
    exact (show Tryz.prog.wantsStandIn t = false by simpa using List.all_eq_true.1 hall t hm)⟩)
  topReaches.goesNot
#print axioms topReaches_holds
end Go.Proofs.YtgadhchejmlfjaaGreatDoor
