/- The closed facts of TopReaches' row and card: what the program forces, one by one (together they want more memory than the kernel has). -/
import Derived.Test.YtgadhchejmlfjaaGreatDoorTie
import Derived.Test.YtgadhchejmlfjaaGreatDoorCards
import Derived.ProofKit
import Derived.JoinedOf
import Derived.SevenTiedAt
import Derived.Stop.Joined
set_option linter.unusedVariables false
set_option maxRecDepth 20000
namespace Go.Proofs.YtgadhchejmlfjaaGreatDoor.topReaches
open Go.ChangeShapes Go.WideShapes Go.ChangeAt Go.RowKit
set_option maxRecDepth 100000
theorem k1:Rows.topReachesRow.wf (OpenSpec.ofChange Rows.topReachesSpec) = true:=by kernel_rfl
theorem k2:laidOutB Tryz.checked.prog = true:=by kernel_rfl
theorem k3:mapsRowed Tryz.checked.prog = true:=by kernel_rfl
theorem k4:Tryz.f3.params.all (Tryz.checked.prog.readableRec ·) = true:=by kernel_rfl
theorem k5:namedTie Tryz.checked.prog Rows.topReachesRow.named Rows.topReachesSpec.vars = true:=by kernel_rfl
theorem k6:(Rows.topReachesRow.stops == []) = true:=by kernel_rfl
theorem k7:(Tryz.checked.prog.stops == []) = true:=by kernel_rfl
theorem k8:(Rows.topReachesRow.knobs == []) = true:=by kernel_rfl
theorem k9:(Tryz.checked.prog.stopKnobs == []) = true:=by kernel_rfl
theorem k10:(Rows.topReachesRow.inPlace == Tryz.checked.prog.inPlace 3) = true:=by kernel_rfl
theorem k11:(Rows.topReachesRow.unfollowed == Tryz.checked.prog.unfollowed 3) = true:=by kernel_rfl
theorem k12:(Rows.topReachesRow.recurses == Tryz.checked.prog.recurses 3) = true:=by kernel_rfl
theorem k13:(Rows.topReachesRow.named == Tryz.checked.prog.varsNamed 3) = true:=by kernel_rfl
theorem k14:(Rows.topReachesRow.maps == (Tryz.f3.params.toList ++ Rows.topReachesSpec.plain.varTypes Tryz.checked.prog).any (Tryz.checked.prog.mapsRec ·)) = true:=by kernel_rfl
theorem k15:(Rows.topReachesRow.ifaces == (Tryz.f3.params.toList ++ Rows.topReachesSpec.plain.varTypes Tryz.checked.prog).any (Tryz.checked.prog.ifacesRec ·)) = true:=by kernel_rfl
theorem k16:(Rows.topReachesRow.mapsOut == Tryz.checked.prog.mapsAmong Tryz.f3.resultTypes.toList) = true:=by kernel_rfl
theorem k17:(Rows.topReachesRow.loops == (Tryz.f3.params.toList ++ Rows.topReachesSpec.plain.varTypes Tryz.checked.prog).any (Tryz.checked.prog.loopsFrom ·)) = true:=by kernel_rfl
theorem k18:(Rows.topReachesRow.wideKeys == (Tryz.f3.params.toList ++ Rows.topReachesSpec.plain.varTypes Tryz.checked.prog ++ Tryz.f3.resultTypes.toList).any (Tryz.checked.prog.wideKeysFrom ·)) = true:=by kernel_rfl
theorem k19:Rows.topReachesSpec.vars.all (Tryz.checked.prog.varReadable ·) = true:=by kernel_rfl
theorem k20:Tryz.f3.resultTypes.all (fun t=>Tryz.checked.prog.readableRec t && decide (t < Tryz.checked.prog.types.size)) = true:=by kernel_rfl
theorem k21:(Rows.topReachesRow.ifacesOut == Tryz.f3.resultTypes.toList.any (Tryz.checked.prog.ifacesRec ·)) = true:=by kernel_rfl
theorem k22:(Rows.topReachesRow.loopsOut == Tryz.f3.resultTypes.toList.any (Tryz.checked.prog.loopsFrom ·)) = true:=by kernel_rfl
theorem k23:(Rows.topReachesRow.plainKeys == Tryz.checked.prog.plainKeys) = true:=by kernel_rfl
theorem k24:Rows.topReachesRow.shortTexts.isNone = true:=by kernel_rfl
theorem k25:Tryz.checked.prog.stopsHeard = true:=by kernel_rfl
theorem k26:Tryz.checked.prog.mayEnter = true:=by kernel_rfl
theorem k27:(Rows.topReachesRow.lifted == Tryz.checked.prog.liftsFinal) = true:=by kernel_rfl
theorem k28:(Tryz.checked.prog.make == some Rows.topReachesRow.make) = true:=by kernel_rfl
theorem k29:(Rows.topReachesRow.kinds == (if Rows.topReachesRow.domain.isEmpty then [] else Tryz.f3.params.toList.map fun t=>match Tryz.checked.prog.underlying t with | some (.int k)=>some k | _=>none)) = true:=by kernel_rfl
theorem k30:(Rows.topReachesRow.pinned == Rows.topReachesRow.pinnedBy) = true:=by kernel_rfl
theorem k31:(Rows.topReachesRow.veiled == (Tryz.f3.params.toList ++ Rows.topReachesSpec.plain.varTypes Tryz.checked.prog ++ Tryz.f3.resultTypes.toList).any (Tryz.checked.prog.veiledRec ·)) = true:=by kernel_rfl
theorem k32:Rows.topReachesRow.veiledFits Tryz.checked.prog Tryz.f3.params.toList (Tryz.f3.params.toList ++ Rows.topReachesSpec.plain.varTypes Tryz.checked.prog ++ Tryz.f3.resultTypes.toList) = true:=by kernel_rfl
theorem both {a b:Bool} (h:a = true) (k:b = true):(a && b) = true:=by rw [h,k];rfl
theorem closed:joinedFacts Tryz.checked.prog 3 Tryz.f3 Rows.topReachesSpec Rows.topReachesRow = true:=by
 unfold joinedFacts
 exact (both (both (both (both (both (both (both (both (both (both (both (both (both (both (both (both (both (both (both (both (both (both (both (both (both (both (both (both (both (both (both k1 k2) k3) k4) k5) k6) k7) k8) k9) k10) k11) k12) k13) k14) k15) k16) k17) k18) k19) k20) k21) k22) k23) k24) k25) k26) k27) k28) k29) k30) k31) k32)
theorem named3:Tryz.checked.prog.funcNamed Rows.topReachesRow.func = some 3:=by kernel_rfl
theorem wfText:Rows.topReachesRow.wfByText (OpenSpec.ofChange Rows.topReachesSpec) = true:=by kernel_rfl
theorem mainIs : Tryz.checked.prog.mainIs = some (true, "81b73818891692d27b993e6d6bd417915a994d653eb782a953168ccbf78ae42f".toList) := by kernel_rfl
theorem looksAll:true = Tryz.checked.prog.looks []:=by kernel_rfl
theorem goesNot:false = Rows.topReachesRow.goesBy Tryz.checked.prog:=by kernel_rfl
end Go.Proofs.YtgadhchejmlfjaaGreatDoor.topReaches
