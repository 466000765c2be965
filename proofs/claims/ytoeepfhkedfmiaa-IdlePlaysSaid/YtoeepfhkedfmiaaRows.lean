/-
  No cell of these rows narrows 'for every input' (looked for: loops, veiled, ifaces, maps, wideKeys, modest, calm, conditions, laid).
  DERIVED. THE GIVEN ROWS OF THIS SEAT. 12 by the template 'for every input the law returns true; each argument reads behind the call as it read before'; 0 by the template 'total and deterministic' (their statements: YtoeepfhkedfmiaaTotals.lean).
  GIVEN WITH THE SEED: the statements are not yours to turn. If you find one false, say at which input.
  Laid BY PROGRAM, IN A SANDBOX (cutbox-rows.mjs): the forced cells as the released guide's own fill.sh prints them over the translation 9303f6172cc0dc28… (all of the seat's roots in one cut). By AI agents, Wed Nov 11 2026. No macro, syntax, notation, axiom, sorry.
-/
import Derived.Test.YtoeepfhkedfmiaaChecked
import GoSem.Claim
import GoSem.ClaimJoined
import GoSem.ClaimMapViews
import Derived.JoinedTies
import Derived.KernelRfl
namespace Go.Proofs.Ytoeepfhkedfmiaa
/- THE CELL 'sum', in the pinned program and in every row, IS THE sha256 OF THE DUMP (.gsa) THAT YtoeepfhkedfmiaaProg.lean LOADS. Nothing in Lean hashes anything: it is a label: what it is worth is what the hold of that sum in a sandbox is worth. -/
noncomputable def Try.pinned : Pinned := { name := "ytoeepfhkedfmiaa", sum := "9303f6172cc0dc2839bbb18cac54ad80d484afa2fc3a61ed75292520ef73696e", checked := Try.checked }
namespace Rows
def none {H : Type} : Left H := { results := [], args := [] }

/-- 'escapementlaw01.NumRounds': WHATEVER THE INPUT: true; the input reads as it did. -/
def numRoundsSpec : ChangeSpec := { name := "numRounds", fn := fun _ => fun
  | [d1, d2, d3, d4] => { results := [.lit (.bool true)], args := [d1, d2, d3, d4] }
  | _ => none }
def numRoundsRow : OpenClaim := { program := "ytoeepfhkedfmiaa", sum := "9303f6172cc0dc2839bbb18cac54ad80d484afa2fc3a61ed75292520ef73696e", func := "escapement/escapementlaw01.NumRounds", spec := "numRounds", unfollowed := true, recurses := true, apart := false }
def NumRoundsSaid : Prop := numRoundsRow.holds Try.pinned (OpenSpec.ofChange numRoundsSpec)

/-- ITS FALSE NEIGHBOUR: 'it returns false'. Refute it at one input. -/
def numRoundsWrong : ChangeSpec := { name := "numRounds", fn := fun _ => fun
  | [d1, d2, d3, d4] => { results := [.lit (.bool false)], args := [d1, d2, d3, d4] }
  | _ => none }
def NumRoundsWrongFalsely : Prop := numRoundsRow.holds Try.pinned (OpenSpec.ofChange numRoundsWrong)

/-- 'escapementlaw03.NotePlays': WHATEVER THE INPUT: true; the input reads as it did. -/
def notePlaysSpec : ChangeSpec := { name := "notePlays", fn := fun _ => fun
  | [d] => { results := [.lit (.bool true)], args := [d] }
  | _ => none }
def notePlaysRow : OpenClaim := { program := "ytoeepfhkedfmiaa", sum := "9303f6172cc0dc2839bbb18cac54ad80d484afa2fc3a61ed75292520ef73696e", func := "escapement/escapementlaw03.NotePlays", spec := "notePlays", apart := false }
def NotePlaysSaid : Prop := notePlaysRow.holds Try.pinned (OpenSpec.ofChange notePlaysSpec)

/-- ITS FALSE NEIGHBOUR: 'it returns false'. Refute it at one input. -/
def notePlaysWrong : ChangeSpec := { name := "notePlays", fn := fun _ => fun
  | [d] => { results := [.lit (.bool false)], args := [d] }
  | _ => none }
def NotePlaysWrongFalsely : Prop := notePlaysRow.holds Try.pinned (OpenSpec.ofChange notePlaysWrong)

/-- 'escapementlaw03.NoteOnce': WHATEVER THE INPUT: true; the input reads as it did. -/
def noteOnceSpec : ChangeSpec := { name := "noteOnce", fn := fun _ => fun
  | [d] => { results := [.lit (.bool true)], args := [d] }
  | _ => none }
def noteOnceRow : OpenClaim := { program := "ytoeepfhkedfmiaa", sum := "9303f6172cc0dc2839bbb18cac54ad80d484afa2fc3a61ed75292520ef73696e", func := "escapement/escapementlaw03.NoteOnce", spec := "noteOnce", apart := false }
def NoteOnceSaid : Prop := noteOnceRow.holds Try.pinned (OpenSpec.ofChange noteOnceSpec)

/-- ITS FALSE NEIGHBOUR: 'it returns false'. Refute it at one input. -/
def noteOnceWrong : ChangeSpec := { name := "noteOnce", fn := fun _ => fun
  | [d] => { results := [.lit (.bool false)], args := [d] }
  | _ => none }
def NoteOnceWrongFalsely : Prop := noteOnceRow.holds Try.pinned (OpenSpec.ofChange noteOnceWrong)

/-- 'escapementlaw03.NoteNils': WHATEVER THE INPUT: true; the input reads as it did. -/
def noteNilsSpec : ChangeSpec := { name := "noteNils", fn := fun _ => fun
  | [d] => { results := [.lit (.bool true)], args := [d] }
  | _ => none }
def noteNilsRow : OpenClaim := { program := "ytoeepfhkedfmiaa", sum := "9303f6172cc0dc2839bbb18cac54ad80d484afa2fc3a61ed75292520ef73696e", func := "escapement/escapementlaw03.NoteNils", spec := "noteNils", apart := false }
def NoteNilsSaid : Prop := noteNilsRow.holds Try.pinned (OpenSpec.ofChange noteNilsSpec)

/-- ITS FALSE NEIGHBOUR: 'it returns false'. Refute it at one input. -/
def noteNilsWrong : ChangeSpec := { name := "noteNils", fn := fun _ => fun
  | [d] => { results := [.lit (.bool false)], args := [d] }
  | _ => none }
def NoteNilsWrongFalsely : Prop := noteNilsRow.holds Try.pinned (OpenSpec.ofChange noteNilsWrong)

/-- 'escapementlaw01.NumDivides': WHATEVER THE INPUT: true; the input reads as it did. -/
def numDividesSpec : ChangeSpec := { name := "numDivides", fn := fun _ => fun
  | [d1, d2, d3] => { results := [.lit (.bool true)], args := [d1, d2, d3] }
  | _ => none }
def numDividesRow : OpenClaim := { program := "ytoeepfhkedfmiaa", sum := "9303f6172cc0dc2839bbb18cac54ad80d484afa2fc3a61ed75292520ef73696e", func := "escapement/escapementlaw01.NumDivides", spec := "numDivides", unfollowed := true, recurses := true, apart := false }
def NumDividesSaid : Prop := numDividesRow.holds Try.pinned (OpenSpec.ofChange numDividesSpec)

/-- ITS FALSE NEIGHBOUR: 'it returns false'. Refute it at one input. -/
def numDividesWrong : ChangeSpec := { name := "numDivides", fn := fun _ => fun
  | [d1, d2, d3] => { results := [.lit (.bool false)], args := [d1, d2, d3] }
  | _ => none }
def NumDividesWrongFalsely : Prop := numDividesRow.holds Try.pinned (OpenSpec.ofChange numDividesWrong)

/-- 'escapementlaw01.NumOnce': WHATEVER THE INPUT: true; the input reads as it did. -/
def numOnceSpec : ChangeSpec := { name := "numOnce", fn := fun _ => fun
  | [d1, d2, d3] => { results := [.lit (.bool true)], args := [d1, d2, d3] }
  | _ => none }
def numOnceRow : OpenClaim := { program := "ytoeepfhkedfmiaa", sum := "9303f6172cc0dc2839bbb18cac54ad80d484afa2fc3a61ed75292520ef73696e", func := "escapement/escapementlaw01.NumOnce", spec := "numOnce", unfollowed := true, recurses := true, apart := false }
def NumOnceSaid : Prop := numOnceRow.holds Try.pinned (OpenSpec.ofChange numOnceSpec)

/-- ITS FALSE NEIGHBOUR: 'it returns false'. Refute it at one input. -/
def numOnceWrong : ChangeSpec := { name := "numOnce", fn := fun _ => fun
  | [d1, d2, d3] => { results := [.lit (.bool false)], args := [d1, d2, d3] }
  | _ => none }
def NumOnceWrongFalsely : Prop := numOnceRow.holds Try.pinned (OpenSpec.ofChange numOnceWrong)

/-- 'escapementlaw20.IdleOnce': WHATEVER THE INPUT: true; the input reads as it did. -/
def idleOnceSpec : ChangeSpec := { name := "idleOnce", fn := fun _ => fun
  | [d] => { results := [.lit (.bool true)], args := [d] }
  | _ => none }
def idleOnceRow : OpenClaim := { program := "ytoeepfhkedfmiaa", sum := "9303f6172cc0dc2839bbb18cac54ad80d484afa2fc3a61ed75292520ef73696e", func := "escapement/escapementlaw20.IdleOnce", spec := "idleOnce", unfollowed := true, recurses := true, apart := false }
def IdleOnceSaid : Prop := idleOnceRow.holds Try.pinned (OpenSpec.ofChange idleOnceSpec)

/-- ITS FALSE NEIGHBOUR: 'it returns false'. Refute it at one input. -/
def idleOnceWrong : ChangeSpec := { name := "idleOnce", fn := fun _ => fun
  | [d] => { results := [.lit (.bool false)], args := [d] }
  | _ => none }
def IdleOnceWrongFalsely : Prop := idleOnceRow.holds Try.pinned (OpenSpec.ofChange idleOnceWrong)

/-- 'escapementlaw17.DealEven': WHATEVER THE INPUT: true; the input reads as it did. -/
def dealEvenSpec : ChangeSpec := { name := "dealEven", fn := fun _ => fun
  | [d] => { results := [.lit (.bool true)], args := [d] }
  | _ => none }
def dealEvenRow : OpenClaim := { program := "ytoeepfhkedfmiaa", sum := "9303f6172cc0dc2839bbb18cac54ad80d484afa2fc3a61ed75292520ef73696e", func := "escapement/escapementlaw17.DealEven", spec := "dealEven", unfollowed := true, recurses := true, apart := false }
def DealEvenSaid : Prop := dealEvenRow.holds Try.pinned (OpenSpec.ofChange dealEvenSpec)

/-- ITS FALSE NEIGHBOUR: 'it returns false'. Refute it at one input. -/
def dealEvenWrong : ChangeSpec := { name := "dealEven", fn := fun _ => fun
  | [d] => { results := [.lit (.bool false)], args := [d] }
  | _ => none }
def DealEvenWrongFalsely : Prop := dealEvenRow.holds Try.pinned (OpenSpec.ofChange dealEvenWrong)

/-- 'escapementlaw20.IdlePlays': WHATEVER THE INPUT: true; the input reads as it did. -/
def idlePlaysSpec : ChangeSpec := { name := "idlePlays", fn := fun _ => fun
  | [d1, d2, d3] => { results := [.lit (.bool true)], args := [d1, d2, d3] }
  | _ => none }
def idlePlaysRow : OpenClaim := { program := "ytoeepfhkedfmiaa", sum := "9303f6172cc0dc2839bbb18cac54ad80d484afa2fc3a61ed75292520ef73696e", func := "escapement/escapementlaw20.IdlePlays", spec := "idlePlays", unfollowed := true, recurses := true, apart := false }
def IdlePlaysSaid : Prop := idlePlaysRow.holds Try.pinned (OpenSpec.ofChange idlePlaysSpec)

/-- ITS FALSE NEIGHBOUR: 'it returns false'. Refute it at one input. -/
def idlePlaysWrong : ChangeSpec := { name := "idlePlays", fn := fun _ => fun
  | [d1, d2, d3] => { results := [.lit (.bool false)], args := [d1, d2, d3] }
  | _ => none }
def IdlePlaysWrongFalsely : Prop := idlePlaysRow.holds Try.pinned (OpenSpec.ofChange idlePlaysWrong)

/-- 'escapementlaw20.IdleNils': WHATEVER THE INPUT: true; the input reads as it did. -/
def idleNilsSpec : ChangeSpec := { name := "idleNils", fn := fun _ => fun
  | [d] => { results := [.lit (.bool true)], args := [d] }
  | _ => none }
def idleNilsRow : OpenClaim := { program := "ytoeepfhkedfmiaa", sum := "9303f6172cc0dc2839bbb18cac54ad80d484afa2fc3a61ed75292520ef73696e", func := "escapement/escapementlaw20.IdleNils", spec := "idleNils", unfollowed := true, recurses := true, apart := false }
def IdleNilsSaid : Prop := idleNilsRow.holds Try.pinned (OpenSpec.ofChange idleNilsSpec)

/-- ITS FALSE NEIGHBOUR: 'it returns false'. Refute it at one input. -/
def idleNilsWrong : ChangeSpec := { name := "idleNils", fn := fun _ => fun
  | [d] => { results := [.lit (.bool false)], args := [d] }
  | _ => none }
def IdleNilsWrongFalsely : Prop := idleNilsRow.holds Try.pinned (OpenSpec.ofChange idleNilsWrong)

/-- 'escapementlaw17.DealOrders': WHATEVER THE INPUT: true; the input reads as it did. -/
def dealOrdersSpec : ChangeSpec := { name := "dealOrders", fn := fun _ => fun
  | [d1, d2, d3] => { results := [.lit (.bool true)], args := [d1, d2, d3] }
  | _ => none }
def dealOrdersRow : OpenClaim := { program := "ytoeepfhkedfmiaa", sum := "9303f6172cc0dc2839bbb18cac54ad80d484afa2fc3a61ed75292520ef73696e", func := "escapement/escapementlaw17.DealOrders", spec := "dealOrders", unfollowed := true, recurses := true, apart := false }
def DealOrdersSaid : Prop := dealOrdersRow.holds Try.pinned (OpenSpec.ofChange dealOrdersSpec)

/-- ITS FALSE NEIGHBOUR: 'it returns false'. Refute it at one input. -/
def dealOrdersWrong : ChangeSpec := { name := "dealOrders", fn := fun _ => fun
  | [d1, d2, d3] => { results := [.lit (.bool false)], args := [d1, d2, d3] }
  | _ => none }
def DealOrdersWrongFalsely : Prop := dealOrdersRow.holds Try.pinned (OpenSpec.ofChange dealOrdersWrong)

/-- 'escapementlaw17.DealOnce': WHATEVER THE INPUT: true; the input reads as it did. -/
def dealOnceSpec : ChangeSpec := { name := "dealOnce", fn := fun _ => fun
  | [d1, d2, d3] => { results := [.lit (.bool true)], args := [d1, d2, d3] }
  | _ => none }
def dealOnceRow : OpenClaim := { program := "ytoeepfhkedfmiaa", sum := "9303f6172cc0dc2839bbb18cac54ad80d484afa2fc3a61ed75292520ef73696e", func := "escapement/escapementlaw17.DealOnce", spec := "dealOnce", unfollowed := true, recurses := true, apart := false }
def DealOnceSaid : Prop := dealOnceRow.holds Try.pinned (OpenSpec.ofChange dealOnceSpec)

/-- ITS FALSE NEIGHBOUR: 'it returns false'. Refute it at one input. -/
def dealOnceWrong : ChangeSpec := { name := "dealOnce", fn := fun _ => fun
  | [d1, d2, d3] => { results := [.lit (.bool false)], args := [d1, d2, d3] }
  | _ => none }
def DealOnceWrongFalsely : Prop := dealOnceRow.holds Try.pinned (OpenSpec.ofChange dealOnceWrong)

/- THE SECOND FORM. 'bulk': how many values and letters a reading holds, each counted each time it is reached (what is shared counts as often as it is met; a slice's spare places count too). A statement '..UptoSaid' is the law's where the arguments, and the package variables that the reading takes, are together of bulk at most 1048576: NARROWER than '..Said'. Prove '..Said' where nothing that the law and all that it calls make is longer than what came in: it says more and counts as full. Else prove '..UptoSaid'. A law counts once. -/
mutual
def uptoBulk {H : Type} : DataW H → Nat
  | .lit (.string bytes) => bytes.length + 1
  | .lit _ => 1
  | .nil => 1
  | .ptr d => uptoBulk d + 1
  | .slice elems spare => uptoBulkAll elems + uptoBulkAll spare + 1
  | .agg parts => uptoBulkAll parts + 1
  | .iface _ d => uptoBulk d + 1
  | .map entries => uptoBulkEntries entries + 1
  | .held _ => 1
def uptoBulkAll {H : Type} : List (DataW H) → Nat
  | [] => 0
  | d :: r => uptoBulk d + uptoBulkAll r
def uptoBulkEntries {H : Type} : List (Lit × DataW H) → Nat
  | [] => 0
  | x :: r => uptoBulkEntry x + uptoBulkEntries r
def uptoBulkEntry {H : Type} : Lit × DataW H → Nat
  | (.string bytes, d) => bytes.length + uptoBulk d + 1
  | (_, d) => uptoBulk d + 1
 end
def uptoSmall : (H : Type) → List (DataW H) → Bool := fun _ ds => decide (uptoBulkAll ds ≤ 1048576)
def OpenSpec.upto (s : _root_.Go.ChangeSpec) : _root_.Go.OpenSpec := { _root_.Go.OpenSpec.ofChange s with cond := some uptoSmall }

/-- 'escapementlaw01.NumRounds', WHERE WHAT IT READS IS OF BULK AT MOST 1048576: true; the input reads as it did. -/
def numRoundsUptoRow : OpenClaim := { program := "ytoeepfhkedfmiaa", sum := "9303f6172cc0dc2839bbb18cac54ad80d484afa2fc3a61ed75292520ef73696e", func := "escapement/escapementlaw01.NumRounds", spec := "numRounds", unfollowed := true, recurses := true, apart := false, narrowed := true }
def NumRoundsUptoSaid : Prop := numRoundsUptoRow.holds Try.pinned (OpenSpec.upto numRoundsSpec)

/-- 'escapementlaw03.NotePlays', WHERE WHAT IT READS IS OF BULK AT MOST 1048576: true; the input reads as it did. -/
def notePlaysUptoRow : OpenClaim := { program := "ytoeepfhkedfmiaa", sum := "9303f6172cc0dc2839bbb18cac54ad80d484afa2fc3a61ed75292520ef73696e", func := "escapement/escapementlaw03.NotePlays", spec := "notePlays", apart := false, narrowed := true }
def NotePlaysUptoSaid : Prop := notePlaysUptoRow.holds Try.pinned (OpenSpec.upto notePlaysSpec)

/-- 'escapementlaw03.NoteOnce', WHERE WHAT IT READS IS OF BULK AT MOST 1048576: true; the input reads as it did. -/
def noteOnceUptoRow : OpenClaim := { program := "ytoeepfhkedfmiaa", sum := "9303f6172cc0dc2839bbb18cac54ad80d484afa2fc3a61ed75292520ef73696e", func := "escapement/escapementlaw03.NoteOnce", spec := "noteOnce", apart := false, narrowed := true }
def NoteOnceUptoSaid : Prop := noteOnceUptoRow.holds Try.pinned (OpenSpec.upto noteOnceSpec)

/-- 'escapementlaw03.NoteNils', WHERE WHAT IT READS IS OF BULK AT MOST 1048576: true; the input reads as it did. -/
def noteNilsUptoRow : OpenClaim := { program := "ytoeepfhkedfmiaa", sum := "9303f6172cc0dc2839bbb18cac54ad80d484afa2fc3a61ed75292520ef73696e", func := "escapement/escapementlaw03.NoteNils", spec := "noteNils", apart := false, narrowed := true }
def NoteNilsUptoSaid : Prop := noteNilsUptoRow.holds Try.pinned (OpenSpec.upto noteNilsSpec)

/-- 'escapementlaw01.NumDivides', WHERE WHAT IT READS IS OF BULK AT MOST 1048576: true; the input reads as it did. -/
def numDividesUptoRow : OpenClaim := { program := "ytoeepfhkedfmiaa", sum := "9303f6172cc0dc2839bbb18cac54ad80d484afa2fc3a61ed75292520ef73696e", func := "escapement/escapementlaw01.NumDivides", spec := "numDivides", unfollowed := true, recurses := true, apart := false, narrowed := true }
def NumDividesUptoSaid : Prop := numDividesUptoRow.holds Try.pinned (OpenSpec.upto numDividesSpec)

/-- 'escapementlaw01.NumOnce', WHERE WHAT IT READS IS OF BULK AT MOST 1048576: true; the input reads as it did. -/
def numOnceUptoRow : OpenClaim := { program := "ytoeepfhkedfmiaa", sum := "9303f6172cc0dc2839bbb18cac54ad80d484afa2fc3a61ed75292520ef73696e", func := "escapement/escapementlaw01.NumOnce", spec := "numOnce", unfollowed := true, recurses := true, apart := false, narrowed := true }
def NumOnceUptoSaid : Prop := numOnceUptoRow.holds Try.pinned (OpenSpec.upto numOnceSpec)

/-- 'escapementlaw20.IdleOnce', WHERE WHAT IT READS IS OF BULK AT MOST 1048576: true; the input reads as it did. -/
def idleOnceUptoRow : OpenClaim := { program := "ytoeepfhkedfmiaa", sum := "9303f6172cc0dc2839bbb18cac54ad80d484afa2fc3a61ed75292520ef73696e", func := "escapement/escapementlaw20.IdleOnce", spec := "idleOnce", unfollowed := true, recurses := true, apart := false, narrowed := true }
def IdleOnceUptoSaid : Prop := idleOnceUptoRow.holds Try.pinned (OpenSpec.upto idleOnceSpec)

/-- 'escapementlaw17.DealEven', WHERE WHAT IT READS IS OF BULK AT MOST 1048576: true; the input reads as it did. -/
def dealEvenUptoRow : OpenClaim := { program := "ytoeepfhkedfmiaa", sum := "9303f6172cc0dc2839bbb18cac54ad80d484afa2fc3a61ed75292520ef73696e", func := "escapement/escapementlaw17.DealEven", spec := "dealEven", unfollowed := true, recurses := true, apart := false, narrowed := true }
def DealEvenUptoSaid : Prop := dealEvenUptoRow.holds Try.pinned (OpenSpec.upto dealEvenSpec)

/-- 'escapementlaw20.IdlePlays', WHERE WHAT IT READS IS OF BULK AT MOST 1048576: true; the input reads as it did. -/
def idlePlaysUptoRow : OpenClaim := { program := "ytoeepfhkedfmiaa", sum := "9303f6172cc0dc2839bbb18cac54ad80d484afa2fc3a61ed75292520ef73696e", func := "escapement/escapementlaw20.IdlePlays", spec := "idlePlays", unfollowed := true, recurses := true, apart := false, narrowed := true }
def IdlePlaysUptoSaid : Prop := idlePlaysUptoRow.holds Try.pinned (OpenSpec.upto idlePlaysSpec)

/-- 'escapementlaw20.IdleNils', WHERE WHAT IT READS IS OF BULK AT MOST 1048576: true; the input reads as it did. -/
def idleNilsUptoRow : OpenClaim := { program := "ytoeepfhkedfmiaa", sum := "9303f6172cc0dc2839bbb18cac54ad80d484afa2fc3a61ed75292520ef73696e", func := "escapement/escapementlaw20.IdleNils", spec := "idleNils", unfollowed := true, recurses := true, apart := false, narrowed := true }
def IdleNilsUptoSaid : Prop := idleNilsUptoRow.holds Try.pinned (OpenSpec.upto idleNilsSpec)

/-- 'escapementlaw17.DealOrders', WHERE WHAT IT READS IS OF BULK AT MOST 1048576: true; the input reads as it did. -/
def dealOrdersUptoRow : OpenClaim := { program := "ytoeepfhkedfmiaa", sum := "9303f6172cc0dc2839bbb18cac54ad80d484afa2fc3a61ed75292520ef73696e", func := "escapement/escapementlaw17.DealOrders", spec := "dealOrders", unfollowed := true, recurses := true, apart := false, narrowed := true }
def DealOrdersUptoSaid : Prop := dealOrdersUptoRow.holds Try.pinned (OpenSpec.upto dealOrdersSpec)

/-- 'escapementlaw17.DealOnce', WHERE WHAT IT READS IS OF BULK AT MOST 1048576: true; the input reads as it did. -/
def dealOnceUptoRow : OpenClaim := { program := "ytoeepfhkedfmiaa", sum := "9303f6172cc0dc2839bbb18cac54ad80d484afa2fc3a61ed75292520ef73696e", func := "escapement/escapementlaw17.DealOnce", spec := "dealOnce", unfollowed := true, recurses := true, apart := false, narrowed := true }
def DealOnceUptoSaid : Prop := dealOnceUptoRow.holds Try.pinned (OpenSpec.upto dealOnceSpec)

end Rows
end Go.Proofs.Ytoeepfhkedfmiaa
