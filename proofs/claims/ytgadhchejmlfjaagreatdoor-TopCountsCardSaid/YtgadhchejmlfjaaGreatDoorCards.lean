/-
  DERIVED. GIVEN WITH THE SEED: THE CARDS: each row of YtgadhchejmlfjaaGreatDoorRows.lean that lists a variable, with what it lists TIED to the program's text (the seventh form; the later family's looks); each row that meets fmt, with fmt's text TOLD by the authors' own Lean function (tested against real Go, not proved from fmt's source: count such statements apart). THE CARD IS WHAT COUNTS. Prove the row's statement (the work); the ties are given (YtgadhchejmlfjaaGreatDoorTie.lean); close each card by the builder's one call (the guide's Derived/Test/ToyasCard.lean, 'card_holds'). Laid BY PROGRAM, IN A SANDBOX (cutbox-door.mjs). By AI agents, Wed Nov 11 2026. No macro, syntax, notation, axiom, sorry.
-/
import Derived.Test.YtgadhchejmlfjaaGreatDoorRows
import GoSem.ClaimSeven
namespace Go.Proofs.YtgadhchejmlfjaaGreatDoor
namespace Rows

/-- THE TIED CARD OF 'escapementtop.TopReaches'. -/
def topReachesCard : Claim7 := { stood := { row := topReachesRow, standIns := [], harness := (true, "81b73818891692d27b993e6d6bd417915a994d653eb782a953168ccbf78ae42f"), looks := true }, kinds := [], alts := [], laidByText := true, laidKinds := [.data, .data, .data, .data, .data, .handle, .pinned], laidTests := true, laidLooks := .later }
def TopReachesCardSaid : Prop := Claim7.holds Tryz.pinned (.plain (OpenSpec.ofChange topReachesSpec)) topReachesCard

/-- THE TIED CARD OF 'escapementtop.TopCuts'. -/
def topCutsCard : Claim7 := { stood := { row := topCutsRow, standIns := [], harness := (true, "81b73818891692d27b993e6d6bd417915a994d653eb782a953168ccbf78ae42f"), looks := true }, kinds := [], alts := [], laidByText := true, laidKinds := [.data, .data, .data, .data, .data, .handle, .pinned], laidTests := true, laidLooks := .later }
def TopCutsCardSaid : Prop := Claim7.holds Tryz.pinned (.plain (OpenSpec.ofChange topCutsSpec)) topCutsCard

/-- THE TIED CARD OF 'escapementtop.TopCounts'. -/
def topCountsCard : Claim7 := { stood := { row := topCountsRow, standIns := [], harness := (true, "81b73818891692d27b993e6d6bd417915a994d653eb782a953168ccbf78ae42f"), looks := true }, kinds := [], alts := [], laidByText := true, laidKinds := [.data, .data, .data, .data, .data, .handle, .pinned], laidTests := true, laidLooks := .later }
def TopCountsCardSaid : Prop := Claim7.holds Tryz.pinned (.plain (OpenSpec.ofChange topCountsSpec)) topCountsCard

/-- THE TIED CARD OF 'escapementtop.TopQuiets'. -/
def topQuietsCard : Claim7 := { stood := { row := topQuietsRow, standIns := [], harness := (true, "81b73818891692d27b993e6d6bd417915a994d653eb782a953168ccbf78ae42f"), looks := true }, kinds := [], alts := [], laidByText := true, laidKinds := [.data, .data, .data, .data, .data, .handle, .pinned], laidTests := true, laidLooks := .later }
def TopQuietsCardSaid : Prop := Claim7.holds Tryz.pinned (.plain (OpenSpec.ofChange topQuietsSpec)) topQuietsCard

/-- THE TIED CARD OF 'escapementtop.TopSuspends'. -/
def topSuspendsCard : Claim7 := { stood := { row := topSuspendsRow, standIns := [], harness := (true, "81b73818891692d27b993e6d6bd417915a994d653eb782a953168ccbf78ae42f"), looks := true }, kinds := [], alts := [], laidByText := true, laidKinds := [.data, .data, .data, .data, .data, .handle, .pinned], laidTests := true, laidLooks := .later }
def TopSuspendsCardSaid : Prop := Claim7.holds Tryz.pinned (.plain (OpenSpec.ofChange topSuspendsSpec)) topSuspendsCard

/-- THE SECOND FORM's CARD OF 'escapementtop.TopReaches'. -/
def topReachesUptoCard : Claim7 := { stood := { row := topReachesUptoRow, standIns := [], harness := (true, "81b73818891692d27b993e6d6bd417915a994d653eb782a953168ccbf78ae42f"), looks := true }, kinds := [], alts := [], laidByText := true, laidKinds := [.data, .data, .data, .data, .data, .handle, .pinned], laidTests := true, laidLooks := .later }
def TopReachesUptoCardSaid : Prop := Claim7.holds Tryz.pinned (.plain (OpenSpec.upto topReachesSpec)) topReachesUptoCard

/-- THE SECOND FORM's CARD OF 'escapementtop.TopCuts'. -/
def topCutsUptoCard : Claim7 := { stood := { row := topCutsUptoRow, standIns := [], harness := (true, "81b73818891692d27b993e6d6bd417915a994d653eb782a953168ccbf78ae42f"), looks := true }, kinds := [], alts := [], laidByText := true, laidKinds := [.data, .data, .data, .data, .data, .handle, .pinned], laidTests := true, laidLooks := .later }
def TopCutsUptoCardSaid : Prop := Claim7.holds Tryz.pinned (.plain (OpenSpec.upto topCutsSpec)) topCutsUptoCard

/-- THE SECOND FORM's CARD OF 'escapementtop.TopCounts'. -/
def topCountsUptoCard : Claim7 := { stood := { row := topCountsUptoRow, standIns := [], harness := (true, "81b73818891692d27b993e6d6bd417915a994d653eb782a953168ccbf78ae42f"), looks := true }, kinds := [], alts := [], laidByText := true, laidKinds := [.data, .data, .data, .data, .data, .handle, .pinned], laidTests := true, laidLooks := .later }
def TopCountsUptoCardSaid : Prop := Claim7.holds Tryz.pinned (.plain (OpenSpec.upto topCountsSpec)) topCountsUptoCard

/-- THE SECOND FORM's CARD OF 'escapementtop.TopQuiets'. -/
def topQuietsUptoCard : Claim7 := { stood := { row := topQuietsUptoRow, standIns := [], harness := (true, "81b73818891692d27b993e6d6bd417915a994d653eb782a953168ccbf78ae42f"), looks := true }, kinds := [], alts := [], laidByText := true, laidKinds := [.data, .data, .data, .data, .data, .handle, .pinned], laidTests := true, laidLooks := .later }
def TopQuietsUptoCardSaid : Prop := Claim7.holds Tryz.pinned (.plain (OpenSpec.upto topQuietsSpec)) topQuietsUptoCard

/-- THE SECOND FORM's CARD OF 'escapementtop.TopSuspends'. -/
def topSuspendsUptoCard : Claim7 := { stood := { row := topSuspendsUptoRow, standIns := [], harness := (true, "81b73818891692d27b993e6d6bd417915a994d653eb782a953168ccbf78ae42f"), looks := true }, kinds := [], alts := [], laidByText := true, laidKinds := [.data, .data, .data, .data, .data, .handle, .pinned], laidTests := true, laidLooks := .later }
def TopSuspendsUptoCardSaid : Prop := Claim7.holds Tryz.pinned (.plain (OpenSpec.upto topSuspendsSpec)) topSuspendsUptoCard
end Rows
end Go.Proofs.YtgadhchejmlfjaaGreatDoor
