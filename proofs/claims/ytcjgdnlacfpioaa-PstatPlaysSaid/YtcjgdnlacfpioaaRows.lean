/-
  No cell of these rows narrows 'for every input' (looked for: loops, veiled, ifaces, maps, wideKeys, modest, calm, conditions, laid).
  DERIVED. THE GIVEN ROWS OF THIS SEAT. 6 by the template 'for every input the law returns true; each argument reads behind the call as it read before'; 0 by the template 'total and deterministic' (their statements: YtcjgdnlacfpioaaTotals.lean).
  GIVEN WITH THE SEED: the statements are not yours to turn. If you find one false, say at which input.
  Laid BY PROGRAM, IN A SANDBOX (cutbox-rows.mjs): the forced cells as the released guide's own fill.sh prints them over the translation 93c50393b653768b… (all of the seat's roots in one cut). By AI agents, Wed Nov 11 2026. No macro, syntax, notation, axiom, sorry.
-/
import Derived.Test.YtcjgdnlacfpioaaChecked
import GoSem.Claim
import GoSem.ClaimJoined
import GoSem.ClaimMapViews
import Derived.JoinedTies
import Derived.KernelRfl
namespace Go.Proofs.Ytcjgdnlacfpioaa
/- THE CELL 'sum', in the pinned program and in every row, IS THE sha256 OF THE DUMP (.gsa) THAT YtcjgdnlacfpioaaProg.lean LOADS. Nothing in Lean hashes anything: it is a label: what it is worth is what the hold of that sum in a sandbox is worth. -/
noncomputable def Try.pinned : Pinned := { name := "ytcjgdnlacfpioaa", sum := "93c50393b653768b70dc0c407c13298d0ac2a8e80d897102f8d18952a7d618d2", checked := Try.checked }
namespace Rows
def none {H : Type} : Left H := { results := [], args := [] }

/-- 'escapementlaw22.SemaOrder': WHATEVER THE INPUT: true; the input reads as it did. -/
def semaOrderSpec : ChangeSpec := { name := "semaOrder", fn := fun _ => fun
  | [d] => { results := [.lit (.bool true)], args := [d] }
  | _ => none }
def semaOrderRow : OpenClaim := { program := "ytcjgdnlacfpioaa", sum := "93c50393b653768b70dc0c407c13298d0ac2a8e80d897102f8d18952a7d618d2", func := "escapement/escapementlaw22.SemaOrder", spec := "semaOrder", unfollowed := true, recurses := true, apart := false }
def SemaOrderSaid : Prop := semaOrderRow.holds Try.pinned (OpenSpec.ofChange semaOrderSpec)

/-- ITS FALSE NEIGHBOUR: 'it returns false'. Refute it at one input. -/
def semaOrderWrong : ChangeSpec := { name := "semaOrder", fn := fun _ => fun
  | [d] => { results := [.lit (.bool false)], args := [d] }
  | _ => none }
def SemaOrderWrongFalsely : Prop := semaOrderRow.holds Try.pinned (OpenSpec.ofChange semaOrderWrong)

/-- 'escapementlaw22.SemaPlays': WHATEVER THE INPUT: true; the input reads as it did. -/
def semaPlaysSpec : ChangeSpec := { name := "semaPlays", fn := fun _ => fun
  | [d1, d2] => { results := [.lit (.bool true)], args := [d1, d2] }
  | _ => none }
def semaPlaysRow : OpenClaim := { program := "ytcjgdnlacfpioaa", sum := "93c50393b653768b70dc0c407c13298d0ac2a8e80d897102f8d18952a7d618d2", func := "escapement/escapementlaw22.SemaPlays", spec := "semaPlays", unfollowed := true, recurses := true, apart := false }
def SemaPlaysSaid : Prop := semaPlaysRow.holds Try.pinned (OpenSpec.ofChange semaPlaysSpec)

/-- ITS FALSE NEIGHBOUR: 'it returns false'. Refute it at one input. -/
def semaPlaysWrong : ChangeSpec := { name := "semaPlays", fn := fun _ => fun
  | [d1, d2] => { results := [.lit (.bool false)], args := [d1, d2] }
  | _ => none }
def SemaPlaysWrongFalsely : Prop := semaPlaysRow.holds Try.pinned (OpenSpec.ofChange semaPlaysWrong)

/-- 'escapementlaw22.SemaNils': WHATEVER THE INPUT: true; the input reads as it did. -/
def semaNilsSpec : ChangeSpec := { name := "semaNils", fn := fun _ => fun
  | [d] => { results := [.lit (.bool true)], args := [d] }
  | _ => none }
def semaNilsRow : OpenClaim := { program := "ytcjgdnlacfpioaa", sum := "93c50393b653768b70dc0c407c13298d0ac2a8e80d897102f8d18952a7d618d2", func := "escapement/escapementlaw22.SemaNils", spec := "semaNils", unfollowed := true, recurses := true, apart := false }
def SemaNilsSaid : Prop := semaNilsRow.holds Try.pinned (OpenSpec.ofChange semaNilsSpec)

/-- ITS FALSE NEIGHBOUR: 'it returns false'. Refute it at one input. -/
def semaNilsWrong : ChangeSpec := { name := "semaNils", fn := fun _ => fun
  | [d] => { results := [.lit (.bool false)], args := [d] }
  | _ => none }
def SemaNilsWrongFalsely : Prop := semaNilsRow.holds Try.pinned (OpenSpec.ofChange semaNilsWrong)

/-- 'escapementlaw19.PstatPlays': WHATEVER THE INPUT: true; the input reads as it did. -/
def pstatPlaysSpec : ChangeSpec := { name := "pstatPlays", fn := fun _ => fun
  | [d1, d2] => { results := [.lit (.bool true)], args := [d1, d2] }
  | _ => none }
def pstatPlaysRow : OpenClaim := { program := "ytcjgdnlacfpioaa", sum := "93c50393b653768b70dc0c407c13298d0ac2a8e80d897102f8d18952a7d618d2", func := "escapement/escapementlaw19.PstatPlays", spec := "pstatPlays", unfollowed := true, recurses := true, apart := false }
def PstatPlaysSaid : Prop := pstatPlaysRow.holds Try.pinned (OpenSpec.ofChange pstatPlaysSpec)

/-- ITS FALSE NEIGHBOUR: 'it returns false'. Refute it at one input. -/
def pstatPlaysWrong : ChangeSpec := { name := "pstatPlays", fn := fun _ => fun
  | [d1, d2] => { results := [.lit (.bool false)], args := [d1, d2] }
  | _ => none }
def PstatPlaysWrongFalsely : Prop := pstatPlaysRow.holds Try.pinned (OpenSpec.ofChange pstatPlaysWrong)

/-- 'escapementlaw19.PstatOnes': WHATEVER THE INPUT: true; the input reads as it did. -/
def pstatOnesSpec : ChangeSpec := { name := "pstatOnes", fn := fun _ => fun
  | [d1, d2] => { results := [.lit (.bool true)], args := [d1, d2] }
  | _ => none }
def pstatOnesRow : OpenClaim := { program := "ytcjgdnlacfpioaa", sum := "93c50393b653768b70dc0c407c13298d0ac2a8e80d897102f8d18952a7d618d2", func := "escapement/escapementlaw19.PstatOnes", spec := "pstatOnes", unfollowed := true, recurses := true, apart := false }
def PstatOnesSaid : Prop := pstatOnesRow.holds Try.pinned (OpenSpec.ofChange pstatOnesSpec)

/-- ITS FALSE NEIGHBOUR: 'it returns false'. Refute it at one input. -/
def pstatOnesWrong : ChangeSpec := { name := "pstatOnes", fn := fun _ => fun
  | [d1, d2] => { results := [.lit (.bool false)], args := [d1, d2] }
  | _ => none }
def PstatOnesWrongFalsely : Prop := pstatOnesRow.holds Try.pinned (OpenSpec.ofChange pstatOnesWrong)

/-- 'escapementlaw19.PstatNils': WHATEVER THE INPUT: true; the input reads as it did. -/
def pstatNilsSpec : ChangeSpec := { name := "pstatNils", fn := fun _ => fun
  | [d] => { results := [.lit (.bool true)], args := [d] }
  | _ => none }
def pstatNilsRow : OpenClaim := { program := "ytcjgdnlacfpioaa", sum := "93c50393b653768b70dc0c407c13298d0ac2a8e80d897102f8d18952a7d618d2", func := "escapement/escapementlaw19.PstatNils", spec := "pstatNils", unfollowed := true, recurses := true, apart := false }
def PstatNilsSaid : Prop := pstatNilsRow.holds Try.pinned (OpenSpec.ofChange pstatNilsSpec)

/-- ITS FALSE NEIGHBOUR: 'it returns false'. Refute it at one input. -/
def pstatNilsWrong : ChangeSpec := { name := "pstatNils", fn := fun _ => fun
  | [d] => { results := [.lit (.bool false)], args := [d] }
  | _ => none }
def PstatNilsWrongFalsely : Prop := pstatNilsRow.holds Try.pinned (OpenSpec.ofChange pstatNilsWrong)

/- THE SECOND FORM. 'bulk': how many values and letters a reading holds, each counted each time it is reached (what is shared counts as often as it is met; a slice's spare places count too). A statement '..UptoSaid' is the law's where the arguments, and the package variables that the reading takes, are together of bulk at most 1048576: NARROWER than '..Said'. Prove '..Said' where nothing that the law and all that it calls make is longer than what came in: it says more and counts as full. Else prove '..UptoSaid'. A law counts once. -/
mutual
def uptoBulk {H : Type} : DataW H → Nat
  | .lit (.string bytes) => bytes.length + 1
  | .lit _ => 1
  | .nil => 1
  | .ptr d => uptoBulk d + 1
  | .slice elems spare => uptoBulkAll elems + uptoBulkAll spare + 1
  | .agg parts => uptoBulkAll parts + 1
  | .iface _ d => uptoBulk d + 1
  | .map entries => uptoBulkEntries entries + 1
  | .held _ => 1
def uptoBulkAll {H : Type} : List (DataW H) → Nat
  | [] => 0
  | d :: r => uptoBulk d + uptoBulkAll r
def uptoBulkEntries {H : Type} : List (Lit × DataW H) → Nat
  | [] => 0
  | x :: r => uptoBulkEntry x + uptoBulkEntries r
def uptoBulkEntry {H : Type} : Lit × DataW H → Nat
  | (.string bytes, d) => bytes.length + uptoBulk d + 1
  | (_, d) => uptoBulk d + 1
 end
def uptoSmall : (H : Type) → List (DataW H) → Bool := fun _ ds => decide (uptoBulkAll ds ≤ 1048576)
def OpenSpec.upto (s : _root_.Go.ChangeSpec) : _root_.Go.OpenSpec := { _root_.Go.OpenSpec.ofChange s with cond := some uptoSmall }

/-- 'escapementlaw22.SemaOrder', WHERE WHAT IT READS IS OF BULK AT MOST 1048576: true; the input reads as it did. -/
def semaOrderUptoRow : OpenClaim := { program := "ytcjgdnlacfpioaa", sum := "93c50393b653768b70dc0c407c13298d0ac2a8e80d897102f8d18952a7d618d2", func := "escapement/escapementlaw22.SemaOrder", spec := "semaOrder", unfollowed := true, recurses := true, apart := false, narrowed := true }
def SemaOrderUptoSaid : Prop := semaOrderUptoRow.holds Try.pinned (OpenSpec.upto semaOrderSpec)

/-- 'escapementlaw22.SemaPlays', WHERE WHAT IT READS IS OF BULK AT MOST 1048576: true; the input reads as it did. -/
def semaPlaysUptoRow : OpenClaim := { program := "ytcjgdnlacfpioaa", sum := "93c50393b653768b70dc0c407c13298d0ac2a8e80d897102f8d18952a7d618d2", func := "escapement/escapementlaw22.SemaPlays", spec := "semaPlays", unfollowed := true, recurses := true, apart := false, narrowed := true }
def SemaPlaysUptoSaid : Prop := semaPlaysUptoRow.holds Try.pinned (OpenSpec.upto semaPlaysSpec)

/-- 'escapementlaw22.SemaNils', WHERE WHAT IT READS IS OF BULK AT MOST 1048576: true; the input reads as it did. -/
def semaNilsUptoRow : OpenClaim := { program := "ytcjgdnlacfpioaa", sum := "93c50393b653768b70dc0c407c13298d0ac2a8e80d897102f8d18952a7d618d2", func := "escapement/escapementlaw22.SemaNils", spec := "semaNils", unfollowed := true, recurses := true, apart := false, narrowed := true }
def SemaNilsUptoSaid : Prop := semaNilsUptoRow.holds Try.pinned (OpenSpec.upto semaNilsSpec)

/-- 'escapementlaw19.PstatPlays', WHERE WHAT IT READS IS OF BULK AT MOST 1048576: true; the input reads as it did. -/
def pstatPlaysUptoRow : OpenClaim := { program := "ytcjgdnlacfpioaa", sum := "93c50393b653768b70dc0c407c13298d0ac2a8e80d897102f8d18952a7d618d2", func := "escapement/escapementlaw19.PstatPlays", spec := "pstatPlays", unfollowed := true, recurses := true, apart := false, narrowed := true }
def PstatPlaysUptoSaid : Prop := pstatPlaysUptoRow.holds Try.pinned (OpenSpec.upto pstatPlaysSpec)

/-- 'escapementlaw19.PstatOnes', WHERE WHAT IT READS IS OF BULK AT MOST 1048576: true; the input reads as it did. -/
def pstatOnesUptoRow : OpenClaim := { program := "ytcjgdnlacfpioaa", sum := "93c50393b653768b70dc0c407c13298d0ac2a8e80d897102f8d18952a7d618d2", func := "escapement/escapementlaw19.PstatOnes", spec := "pstatOnes", unfollowed := true, recurses := true, apart := false, narrowed := true }
def PstatOnesUptoSaid : Prop := pstatOnesUptoRow.holds Try.pinned (OpenSpec.upto pstatOnesSpec)

/-- 'escapementlaw19.PstatNils', WHERE WHAT IT READS IS OF BULK AT MOST 1048576: true; the input reads as it did. -/
def pstatNilsUptoRow : OpenClaim := { program := "ytcjgdnlacfpioaa", sum := "93c50393b653768b70dc0c407c13298d0ac2a8e80d897102f8d18952a7d618d2", func := "escapement/escapementlaw19.PstatNils", spec := "pstatNils", unfollowed := true, recurses := true, apart := false, narrowed := true }
def PstatNilsUptoSaid : Prop := pstatNilsUptoRow.holds Try.pinned (OpenSpec.upto pstatNilsSpec)

end Rows
end Go.Proofs.Ytcjgdnlacfpioaa
