/-
  No cell of these rows narrows 'for every input' (looked for: loops, veiled, ifaces, maps, wideKeys, modest, calm, conditions, laid).
  DERIVED. THE GIVEN ROWS OF THIS SEAT. 10 by the template 'for every input the law returns true; each argument reads behind the call as it read before'; 0 by the template 'total and deterministic' (their statements: YtgahkcbkpnehfaaTotals.lean).
  GIVEN WITH THE SEED: the statements are not yours to turn. If you find one false, say at which input.
  Laid BY PROGRAM, IN A SANDBOX (cutbox-rows.mjs): the forced cells as the released guide's own fill.sh prints them over the translation 8d5ed981588d5a8b… (all of the seat's roots in one cut). By AI agents, Wed Nov 11 2026. No macro, syntax, notation, axiom, sorry.
-/
import Derived.Test.YtgahkcbkpnehfaaChecked
import GoSem.Claim
import GoSem.ClaimJoined
import GoSem.ClaimMapViews
import Derived.JoinedTies
import Derived.KernelRfl
namespace Go.Proofs.Ytgahkcbkpnehfaa
/- THE CELL 'sum', in the pinned program and in every row, IS THE sha256 OF THE DUMP (.gsa) THAT YtgahkcbkpnehfaaProg.lean LOADS. Nothing in Lean hashes anything: it is a label: what it is worth is what the hold of that sum in a sandbox is worth. -/
noncomputable def Try.pinned : Pinned := { name := "ytgahkcbkpnehfaa", sum := "8d5ed981588d5a8b399e92e91c20fcdcc881687adb7cc646833d5b7802f56424", checked := Try.checked }
namespace Rows
def none {H : Type} : Left H := { results := [], args := [] }

/-- 'escapementlaw16.GlobManies': WHATEVER THE INPUT: true; the input reads as it did. -/
def globManiesSpec : ChangeSpec := { name := "globManies", fn := fun _ => fun
  | [d1, d2, d3] => { results := [.lit (.bool true)], args := [d1, d2, d3] }
  | _ => none }
def globManiesRow : OpenClaim := { program := "ytgahkcbkpnehfaa", sum := "8d5ed981588d5a8b399e92e91c20fcdcc881687adb7cc646833d5b7802f56424", func := "escapement/escapementlaw16.GlobManies", spec := "globManies", unfollowed := true, recurses := true, apart := false }
def GlobManiesSaid : Prop := globManiesRow.holds Try.pinned (OpenSpec.ofChange globManiesSpec)

/-- ITS FALSE NEIGHBOUR: 'it returns false'. Refute it at one input. -/
def globManiesWrong : ChangeSpec := { name := "globManies", fn := fun _ => fun
  | [d1, d2, d3] => { results := [.lit (.bool false)], args := [d1, d2, d3] }
  | _ => none }
def GlobManiesWrongFalsely : Prop := globManiesRow.holds Try.pinned (OpenSpec.ofChange globManiesWrong)

/-- 'escapementlaw16.GlobOrder': WHATEVER THE INPUT: true; the input reads as it did. -/
def globOrderSpec : ChangeSpec := { name := "globOrder", fn := fun _ => fun
  | [d1, d2] => { results := [.lit (.bool true)], args := [d1, d2] }
  | _ => none }
def globOrderRow : OpenClaim := { program := "ytgahkcbkpnehfaa", sum := "8d5ed981588d5a8b399e92e91c20fcdcc881687adb7cc646833d5b7802f56424", func := "escapement/escapementlaw16.GlobOrder", spec := "globOrder", unfollowed := true, recurses := true, apart := false }
def GlobOrderSaid : Prop := globOrderRow.holds Try.pinned (OpenSpec.ofChange globOrderSpec)

/-- ITS FALSE NEIGHBOUR: 'it returns false'. Refute it at one input. -/
def globOrderWrong : ChangeSpec := { name := "globOrder", fn := fun _ => fun
  | [d1, d2] => { results := [.lit (.bool false)], args := [d1, d2] }
  | _ => none }
def GlobOrderWrongFalsely : Prop := globOrderRow.holds Try.pinned (OpenSpec.ofChange globOrderWrong)

/-- 'escapementlaw13.RingKeeps': WHATEVER THE INPUT: true; the input reads as it did. -/
def ringKeepsSpec : ChangeSpec := { name := "ringKeeps", fn := fun _ => fun
  | [d1, d2] => { results := [.lit (.bool true)], args := [d1, d2] }
  | _ => none }
def ringKeepsRow : OpenClaim := { program := "ytgahkcbkpnehfaa", sum := "8d5ed981588d5a8b399e92e91c20fcdcc881687adb7cc646833d5b7802f56424", func := "escapement/escapementlaw13.RingKeeps", spec := "ringKeeps", apart := false }
def RingKeepsSaid : Prop := ringKeepsRow.holds Try.pinned (OpenSpec.ofChange ringKeepsSpec)

/-- ITS FALSE NEIGHBOUR: 'it returns false'. Refute it at one input. -/
def ringKeepsWrong : ChangeSpec := { name := "ringKeeps", fn := fun _ => fun
  | [d1, d2] => { results := [.lit (.bool false)], args := [d1, d2] }
  | _ => none }
def RingKeepsWrongFalsely : Prop := ringKeepsRow.holds Try.pinned (OpenSpec.ofChange ringKeepsWrong)

/-- 'escapementlaw16.GlobPlays': WHATEVER THE INPUT: true; the input reads as it did. -/
def globPlaysSpec : ChangeSpec := { name := "globPlays", fn := fun _ => fun
  | [d] => { results := [.lit (.bool true)], args := [d] }
  | _ => none }
def globPlaysRow : OpenClaim := { program := "ytgahkcbkpnehfaa", sum := "8d5ed981588d5a8b399e92e91c20fcdcc881687adb7cc646833d5b7802f56424", func := "escapement/escapementlaw16.GlobPlays", spec := "globPlays", unfollowed := true, recurses := true, apart := false }
def GlobPlaysSaid : Prop := globPlaysRow.holds Try.pinned (OpenSpec.ofChange globPlaysSpec)

/-- ITS FALSE NEIGHBOUR: 'it returns false'. Refute it at one input. -/
def globPlaysWrong : ChangeSpec := { name := "globPlays", fn := fun _ => fun
  | [d] => { results := [.lit (.bool false)], args := [d] }
  | _ => none }
def GlobPlaysWrongFalsely : Prop := globPlaysRow.holds Try.pinned (OpenSpec.ofChange globPlaysWrong)

/-- 'escapementlaw16.GlobNils': WHATEVER THE INPUT: true; the input reads as it did. -/
def globNilsSpec : ChangeSpec := { name := "globNils", fn := fun _ => fun
  | [d] => { results := [.lit (.bool true)], args := [d] }
  | _ => none }
def globNilsRow : OpenClaim := { program := "ytgahkcbkpnehfaa", sum := "8d5ed981588d5a8b399e92e91c20fcdcc881687adb7cc646833d5b7802f56424", func := "escapement/escapementlaw16.GlobNils", spec := "globNils", unfollowed := true, recurses := true, apart := false }
def GlobNilsSaid : Prop := globNilsRow.holds Try.pinned (OpenSpec.ofChange globNilsSpec)

/-- ITS FALSE NEIGHBOUR: 'it returns false'. Refute it at one input. -/
def globNilsWrong : ChangeSpec := { name := "globNils", fn := fun _ => fun
  | [d] => { results := [.lit (.bool false)], args := [d] }
  | _ => none }
def GlobNilsWrongFalsely : Prop := globNilsRow.holds Try.pinned (OpenSpec.ofChange globNilsWrong)

/-- 'escapementlaw13.RingPlays': WHATEVER THE INPUT: true; the input reads as it did. -/
def ringPlaysSpec : ChangeSpec := { name := "ringPlays", fn := fun _ => fun
  | [d1, d2] => { results := [.lit (.bool true)], args := [d1, d2] }
  | _ => none }
def ringPlaysRow : OpenClaim := { program := "ytgahkcbkpnehfaa", sum := "8d5ed981588d5a8b399e92e91c20fcdcc881687adb7cc646833d5b7802f56424", func := "escapement/escapementlaw13.RingPlays", spec := "ringPlays", unfollowed := true, recurses := true, apart := false }
def RingPlaysSaid : Prop := ringPlaysRow.holds Try.pinned (OpenSpec.ofChange ringPlaysSpec)

/-- ITS FALSE NEIGHBOUR: 'it returns false'. Refute it at one input. -/
def ringPlaysWrong : ChangeSpec := { name := "ringPlays", fn := fun _ => fun
  | [d1, d2] => { results := [.lit (.bool false)], args := [d1, d2] }
  | _ => none }
def RingPlaysWrongFalsely : Prop := ringPlaysRow.holds Try.pinned (OpenSpec.ofChange ringPlaysWrong)

/-- 'escapementlaw13.RingNils': WHATEVER THE INPUT: true; the input reads as it did. -/
def ringNilsSpec : ChangeSpec := { name := "ringNils", fn := fun _ => fun
  | [d] => { results := [.lit (.bool true)], args := [d] }
  | _ => none }
def ringNilsRow : OpenClaim := { program := "ytgahkcbkpnehfaa", sum := "8d5ed981588d5a8b399e92e91c20fcdcc881687adb7cc646833d5b7802f56424", func := "escapement/escapementlaw13.RingNils", spec := "ringNils", unfollowed := true, recurses := true, apart := false }
def RingNilsSaid : Prop := ringNilsRow.holds Try.pinned (OpenSpec.ofChange ringNilsSpec)

/-- ITS FALSE NEIGHBOUR: 'it returns false'. Refute it at one input. -/
def ringNilsWrong : ChangeSpec := { name := "ringNils", fn := fun _ => fun
  | [d] => { results := [.lit (.bool false)], args := [d] }
  | _ => none }
def RingNilsWrongFalsely : Prop := ringNilsRow.holds Try.pinned (OpenSpec.ofChange ringNilsWrong)

/-- 'escapementlaw23.ProcsKeeps': WHATEVER THE INPUT: true; the input reads as it did. -/
def procsKeepsSpec : ChangeSpec := { name := "procsKeeps", fn := fun _ => fun
  | [d1, d2, d3] => { results := [.lit (.bool true)], args := [d1, d2, d3] }
  | _ => none }
def procsKeepsRow : OpenClaim := { program := "ytgahkcbkpnehfaa", sum := "8d5ed981588d5a8b399e92e91c20fcdcc881687adb7cc646833d5b7802f56424", func := "escapement/escapementlaw23.ProcsKeeps", spec := "procsKeeps", unfollowed := true, recurses := true, apart := false }
def ProcsKeepsSaid : Prop := procsKeepsRow.holds Try.pinned (OpenSpec.ofChange procsKeepsSpec)

/-- ITS FALSE NEIGHBOUR: 'it returns false'. Refute it at one input. -/
def procsKeepsWrong : ChangeSpec := { name := "procsKeeps", fn := fun _ => fun
  | [d1, d2, d3] => { results := [.lit (.bool false)], args := [d1, d2, d3] }
  | _ => none }
def ProcsKeepsWrongFalsely : Prop := procsKeepsRow.holds Try.pinned (OpenSpec.ofChange procsKeepsWrong)

/-- 'escapementlaw23.ProcsNils': WHATEVER THE INPUT: true; the input reads as it did. -/
def procsNilsSpec : ChangeSpec := { name := "procsNils", fn := fun _ => fun
  | [d] => { results := [.lit (.bool true)], args := [d] }
  | _ => none }
def procsNilsRow : OpenClaim := { program := "ytgahkcbkpnehfaa", sum := "8d5ed981588d5a8b399e92e91c20fcdcc881687adb7cc646833d5b7802f56424", func := "escapement/escapementlaw23.ProcsNils", spec := "procsNils", unfollowed := true, recurses := true, apart := false }
def ProcsNilsSaid : Prop := procsNilsRow.holds Try.pinned (OpenSpec.ofChange procsNilsSpec)

/-- ITS FALSE NEIGHBOUR: 'it returns false'. Refute it at one input. -/
def procsNilsWrong : ChangeSpec := { name := "procsNils", fn := fun _ => fun
  | [d] => { results := [.lit (.bool false)], args := [d] }
  | _ => none }
def ProcsNilsWrongFalsely : Prop := procsNilsRow.holds Try.pinned (OpenSpec.ofChange procsNilsWrong)

/-- 'escapementlaw23.ProcsPlays': WHATEVER THE INPUT: true; the input reads as it did. -/
def procsPlaysSpec : ChangeSpec := { name := "procsPlays", fn := fun _ => fun
  | [d1, d2] => { results := [.lit (.bool true)], args := [d1, d2] }
  | _ => none }
def procsPlaysRow : OpenClaim := { program := "ytgahkcbkpnehfaa", sum := "8d5ed981588d5a8b399e92e91c20fcdcc881687adb7cc646833d5b7802f56424", func := "escapement/escapementlaw23.ProcsPlays", spec := "procsPlays", unfollowed := true, recurses := true, apart := false }
def ProcsPlaysSaid : Prop := procsPlaysRow.holds Try.pinned (OpenSpec.ofChange procsPlaysSpec)

/-- ITS FALSE NEIGHBOUR: 'it returns false'. Refute it at one input. -/
def procsPlaysWrong : ChangeSpec := { name := "procsPlays", fn := fun _ => fun
  | [d1, d2] => { results := [.lit (.bool false)], args := [d1, d2] }
  | _ => none }
def ProcsPlaysWrongFalsely : Prop := procsPlaysRow.holds Try.pinned (OpenSpec.ofChange procsPlaysWrong)

/- THE SECOND FORM. 'bulk': how many values and letters a reading holds, each counted each time it is reached (what is shared counts as often as it is met; a slice's spare places count too). A statement '..UptoSaid' is the law's where the arguments, and the package variables that the reading takes, are together of bulk at most 1048576: NARROWER than '..Said'. Prove '..Said' where nothing that the law and all that it calls make is longer than what came in: it says more and counts as full. Else prove '..UptoSaid'. A law counts once. -/
mutual
def uptoBulk {H : Type} : DataW H → Nat
  | .lit (.string bytes) => bytes.length + 1
  | .lit _ => 1
  | .nil => 1
  | .ptr d => uptoBulk d + 1
  | .slice elems spare => uptoBulkAll elems + uptoBulkAll spare + 1
  | .agg parts => uptoBulkAll parts + 1
  | .iface _ d => uptoBulk d + 1
  | .map entries => uptoBulkEntries entries + 1
  | .held _ => 1
def uptoBulkAll {H : Type} : List (DataW H) → Nat
  | [] => 0
  | d :: r => uptoBulk d + uptoBulkAll r
def uptoBulkEntries {H : Type} : List (Lit × DataW H) → Nat
  | [] => 0
  | x :: r => uptoBulkEntry x + uptoBulkEntries r
def uptoBulkEntry {H : Type} : Lit × DataW H → Nat
  | (.string bytes, d) => bytes.length + uptoBulk d + 1
  | (_, d) => uptoBulk d + 1
 end
def uptoSmall : (H : Type) → List (DataW H) → Bool := fun _ ds => decide (uptoBulkAll ds ≤ 1048576)
def OpenSpec.upto (s : _root_.Go.ChangeSpec) : _root_.Go.OpenSpec := { _root_.Go.OpenSpec.ofChange s with cond := some uptoSmall }

/-- 'escapementlaw16.GlobManies', WHERE WHAT IT READS IS OF BULK AT MOST 1048576: true; the input reads as it did. -/
def globManiesUptoRow : OpenClaim := { program := "ytgahkcbkpnehfaa", sum := "8d5ed981588d5a8b399e92e91c20fcdcc881687adb7cc646833d5b7802f56424", func := "escapement/escapementlaw16.GlobManies", spec := "globManies", unfollowed := true, recurses := true, apart := false, narrowed := true }
def GlobManiesUptoSaid : Prop := globManiesUptoRow.holds Try.pinned (OpenSpec.upto globManiesSpec)

/-- 'escapementlaw16.GlobOrder', WHERE WHAT IT READS IS OF BULK AT MOST 1048576: true; the input reads as it did. -/
def globOrderUptoRow : OpenClaim := { program := "ytgahkcbkpnehfaa", sum := "8d5ed981588d5a8b399e92e91c20fcdcc881687adb7cc646833d5b7802f56424", func := "escapement/escapementlaw16.GlobOrder", spec := "globOrder", unfollowed := true, recurses := true, apart := false, narrowed := true }
def GlobOrderUptoSaid : Prop := globOrderUptoRow.holds Try.pinned (OpenSpec.upto globOrderSpec)

/-- 'escapementlaw13.RingKeeps', WHERE WHAT IT READS IS OF BULK AT MOST 1048576: true; the input reads as it did. -/
def ringKeepsUptoRow : OpenClaim := { program := "ytgahkcbkpnehfaa", sum := "8d5ed981588d5a8b399e92e91c20fcdcc881687adb7cc646833d5b7802f56424", func := "escapement/escapementlaw13.RingKeeps", spec := "ringKeeps", apart := false, narrowed := true }
def RingKeepsUptoSaid : Prop := ringKeepsUptoRow.holds Try.pinned (OpenSpec.upto ringKeepsSpec)

/-- 'escapementlaw16.GlobPlays', WHERE WHAT IT READS IS OF BULK AT MOST 1048576: true; the input reads as it did. -/
def globPlaysUptoRow : OpenClaim := { program := "ytgahkcbkpnehfaa", sum := "8d5ed981588d5a8b399e92e91c20fcdcc881687adb7cc646833d5b7802f56424", func := "escapement/escapementlaw16.GlobPlays", spec := "globPlays", unfollowed := true, recurses := true, apart := false, narrowed := true }
def GlobPlaysUptoSaid : Prop := globPlaysUptoRow.holds Try.pinned (OpenSpec.upto globPlaysSpec)

/-- 'escapementlaw16.GlobNils', WHERE WHAT IT READS IS OF BULK AT MOST 1048576: true; the input reads as it did. -/
def globNilsUptoRow : OpenClaim := { program := "ytgahkcbkpnehfaa", sum := "8d5ed981588d5a8b399e92e91c20fcdcc881687adb7cc646833d5b7802f56424", func := "escapement/escapementlaw16.GlobNils", spec := "globNils", unfollowed := true, recurses := true, apart := false, narrowed := true }
def GlobNilsUptoSaid : Prop := globNilsUptoRow.holds Try.pinned (OpenSpec.upto globNilsSpec)

/-- 'escapementlaw13.RingPlays', WHERE WHAT IT READS IS OF BULK AT MOST 1048576: true; the input reads as it did. -/
def ringPlaysUptoRow : OpenClaim := { program := "ytgahkcbkpnehfaa", sum := "8d5ed981588d5a8b399e92e91c20fcdcc881687adb7cc646833d5b7802f56424", func := "escapement/escapementlaw13.RingPlays", spec := "ringPlays", unfollowed := true, recurses := true, apart := false, narrowed := true }
def RingPlaysUptoSaid : Prop := ringPlaysUptoRow.holds Try.pinned (OpenSpec.upto ringPlaysSpec)

/-- 'escapementlaw13.RingNils', WHERE WHAT IT READS IS OF BULK AT MOST 1048576: true; the input reads as it did. -/
def ringNilsUptoRow : OpenClaim := { program := "ytgahkcbkpnehfaa", sum := "8d5ed981588d5a8b399e92e91c20fcdcc881687adb7cc646833d5b7802f56424", func := "escapement/escapementlaw13.RingNils", spec := "ringNils", unfollowed := true, recurses := true, apart := false, narrowed := true }
def RingNilsUptoSaid : Prop := ringNilsUptoRow.holds Try.pinned (OpenSpec.upto ringNilsSpec)

/-- 'escapementlaw23.ProcsKeeps', WHERE WHAT IT READS IS OF BULK AT MOST 1048576: true; the input reads as it did. -/
def procsKeepsUptoRow : OpenClaim := { program := "ytgahkcbkpnehfaa", sum := "8d5ed981588d5a8b399e92e91c20fcdcc881687adb7cc646833d5b7802f56424", func := "escapement/escapementlaw23.ProcsKeeps", spec := "procsKeeps", unfollowed := true, recurses := true, apart := false, narrowed := true }
def ProcsKeepsUptoSaid : Prop := procsKeepsUptoRow.holds Try.pinned (OpenSpec.upto procsKeepsSpec)

/-- 'escapementlaw23.ProcsNils', WHERE WHAT IT READS IS OF BULK AT MOST 1048576: true; the input reads as it did. -/
def procsNilsUptoRow : OpenClaim := { program := "ytgahkcbkpnehfaa", sum := "8d5ed981588d5a8b399e92e91c20fcdcc881687adb7cc646833d5b7802f56424", func := "escapement/escapementlaw23.ProcsNils", spec := "procsNils", unfollowed := true, recurses := true, apart := false, narrowed := true }
def ProcsNilsUptoSaid : Prop := procsNilsUptoRow.holds Try.pinned (OpenSpec.upto procsNilsSpec)

/-- 'escapementlaw23.ProcsPlays', WHERE WHAT IT READS IS OF BULK AT MOST 1048576: true; the input reads as it did. -/
def procsPlaysUptoRow : OpenClaim := { program := "ytgahkcbkpnehfaa", sum := "8d5ed981588d5a8b399e92e91c20fcdcc881687adb7cc646833d5b7802f56424", func := "escapement/escapementlaw23.ProcsPlays", spec := "procsPlays", unfollowed := true, recurses := true, apart := false, narrowed := true }
def ProcsPlaysUptoSaid : Prop := procsPlaysUptoRow.holds Try.pinned (OpenSpec.upto procsPlaysSpec)

end Rows
end Go.Proofs.Ytgahkcbkpnehfaa
