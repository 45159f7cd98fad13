/-
  No cell of these rows narrows 'for every input' (looked for: loops, veiled, ifaces, maps, wideKeys, modest, calm, conditions, laid).
  DERIVED. THE GIVEN ROWS OF THIS SEAT. 9 by the template 'for every input the law returns true; each argument reads behind the call as it read before'; 0 by the template 'total and deterministic' (their statements: YtkojheinklgdeaaTotals.lean).
  GIVEN WITH THE SEED: the statements are not yours to turn. If you find one false, say at which input.
  Laid BY PROGRAM, IN A SANDBOX (cutbox-rows.mjs): the forced cells as the released guide's own fill.sh prints them over the translation 235a9d4cbaae4ec8… (all of the seat's roots in one cut). By AI agents, Wed Nov 11 2026. No macro, syntax, notation, axiom, sorry.
-/
import Derived.Test.YtkojheinklgdeaaChecked
import GoSem.Claim
import GoSem.ClaimJoined
import GoSem.ClaimMapViews
import Derived.JoinedTies
import Derived.KernelRfl
namespace Go.Proofs.Ytkojheinklgdeaa
/- THE CELL 'sum', in the pinned program and in every row, IS THE sha256 OF THE DUMP (.gsa) THAT YtkojheinklgdeaaProg.lean LOADS. Nothing in Lean hashes anything: it is a label: what it is worth is what the hold of that sum in a sandbox is worth. -/
noncomputable def Try.pinned : Pinned := { name := "ytkojheinklgdeaa", sum := "235a9d4cbaae4ec833f2ff942948115309d39e822141c377ec1c188f53f0e0e9", checked := Try.checked }
namespace Rows
def none {H : Type} : Left H := { results := [], args := [] }

/-- 'laws.FnBatchesFor': WHATEVER THE INPUT: true; the input reads as it did. -/
def fnBatchesForSpec : ChangeSpec := { name := "fnBatchesFor", fn := fun _ => fun
  | [d] => { results := [.lit (.bool true)], args := [d] }
  | _ => none }
def fnBatchesForRow : OpenClaim := { program := "ytkojheinklgdeaa", sum := "235a9d4cbaae4ec833f2ff942948115309d39e822141c377ec1c188f53f0e0e9", func := "loop.example/panecutter/laws.FnBatchesFor", spec := "fnBatchesFor", unfollowed := true, recurses := true, apart := false }
def FnBatchesForSaid : Prop := fnBatchesForRow.holds Try.pinned (OpenSpec.ofChange fnBatchesForSpec)

/-- ITS FALSE NEIGHBOUR: 'it returns false'. Refute it at one input. -/
def fnBatchesForWrong : ChangeSpec := { name := "fnBatchesFor", fn := fun _ => fun
  | [d] => { results := [.lit (.bool false)], args := [d] }
  | _ => none }
def FnBatchesForWrongFalsely : Prop := fnBatchesForRow.holds Try.pinned (OpenSpec.ofChange fnBatchesForWrong)

/-- 'laws.FnExactBatchesFor': WHATEVER THE INPUT: true; the input reads as it did. -/
def fnExactBatchesForSpec : ChangeSpec := { name := "fnExactBatchesFor", fn := fun _ => fun
  | [d1, d2] => { results := [.lit (.bool true)], args := [d1, d2] }
  | _ => none }
def fnExactBatchesForRow : OpenClaim := { program := "ytkojheinklgdeaa", sum := "235a9d4cbaae4ec833f2ff942948115309d39e822141c377ec1c188f53f0e0e9", func := "loop.example/panecutter/laws.FnExactBatchesFor", spec := "fnExactBatchesFor", unfollowed := true, recurses := true, apart := false }
def FnExactBatchesForSaid : Prop := fnExactBatchesForRow.holds Try.pinned (OpenSpec.ofChange fnExactBatchesForSpec)

/-- ITS FALSE NEIGHBOUR: 'it returns false'. Refute it at one input. -/
def fnExactBatchesForWrong : ChangeSpec := { name := "fnExactBatchesFor", fn := fun _ => fun
  | [d1, d2] => { results := [.lit (.bool false)], args := [d1, d2] }
  | _ => none }
def FnExactBatchesForWrongFalsely : Prop := fnExactBatchesForRow.holds Try.pinned (OpenSpec.ofChange fnExactBatchesForWrong)

/-- 'laws.FnFewestBars': WHATEVER THE INPUT: true; the input reads as it did. -/
def fnFewestBarsSpec : ChangeSpec := { name := "fnFewestBars", fn := fun _ => fun
  | [d] => { results := [.lit (.bool true)], args := [d] }
  | _ => none }
def fnFewestBarsRow : OpenClaim := { program := "ytkojheinklgdeaa", sum := "235a9d4cbaae4ec833f2ff942948115309d39e822141c377ec1c188f53f0e0e9", func := "loop.example/panecutter/laws.FnFewestBars", spec := "fnFewestBars", unfollowed := true, recurses := true, apart := false }
def FnFewestBarsSaid : Prop := fnFewestBarsRow.holds Try.pinned (OpenSpec.ofChange fnFewestBarsSpec)

/-- ITS FALSE NEIGHBOUR: 'it returns false'. Refute it at one input. -/
def fnFewestBarsWrong : ChangeSpec := { name := "fnFewestBars", fn := fun _ => fun
  | [d] => { results := [.lit (.bool false)], args := [d] }
  | _ => none }
def FnFewestBarsWrongFalsely : Prop := fnFewestBarsRow.holds Try.pinned (OpenSpec.ofChange fnFewestBarsWrong)

/-- 'laws.FnExactBestValue': WHATEVER THE INPUT: true; the input reads as it did. -/
def fnExactBestValueSpec : ChangeSpec := { name := "fnExactBestValue", fn := fun _ => fun
  | [d1, d2] => { results := [.lit (.bool true)], args := [d1, d2] }
  | _ => none }
def fnExactBestValueRow : OpenClaim := { program := "ytkojheinklgdeaa", sum := "235a9d4cbaae4ec833f2ff942948115309d39e822141c377ec1c188f53f0e0e9", func := "loop.example/panecutter/laws.FnExactBestValue", spec := "fnExactBestValue", recurses := true, apart := false }
def FnExactBestValueSaid : Prop := fnExactBestValueRow.holds Try.pinned (OpenSpec.ofChange fnExactBestValueSpec)

/-- ITS FALSE NEIGHBOUR: 'it returns false'. Refute it at one input. -/
def fnExactBestValueWrong : ChangeSpec := { name := "fnExactBestValue", fn := fun _ => fun
  | [d1, d2] => { results := [.lit (.bool false)], args := [d1, d2] }
  | _ => none }
def FnExactBestValueWrongFalsely : Prop := fnExactBestValueRow.holds Try.pinned (OpenSpec.ofChange fnExactBestValueWrong)

/-- 'laws.FnCutsFromTurned': WHATEVER THE INPUT: true; the input reads as it did. -/
def fnCutsFromTurnedSpec : ChangeSpec := { name := "fnCutsFromTurned", fn := fun _ => fun
  | [d] => { results := [.lit (.bool true)], args := [d] }
  | _ => none }
def fnCutsFromTurnedRow : OpenClaim := { program := "ytkojheinklgdeaa", sum := "235a9d4cbaae4ec833f2ff942948115309d39e822141c377ec1c188f53f0e0e9", func := "loop.example/panecutter/laws.FnCutsFromTurned", spec := "fnCutsFromTurned", recurses := true, apart := false }
def FnCutsFromTurnedSaid : Prop := fnCutsFromTurnedRow.holds Try.pinned (OpenSpec.ofChange fnCutsFromTurnedSpec)

/-- ITS FALSE NEIGHBOUR: 'it returns false'. Refute it at one input. -/
def fnCutsFromTurnedWrong : ChangeSpec := { name := "fnCutsFromTurned", fn := fun _ => fun
  | [d] => { results := [.lit (.bool false)], args := [d] }
  | _ => none }
def FnCutsFromTurnedWrongFalsely : Prop := fnCutsFromTurnedRow.holds Try.pinned (OpenSpec.ofChange fnCutsFromTurnedWrong)

/-- 'laws.FnCutsFrom': WHATEVER THE INPUT: true; the input reads as it did. -/
def fnCutsFromSpec : ChangeSpec := { name := "fnCutsFrom", fn := fun _ => fun
  | [d] => { results := [.lit (.bool true)], args := [d] }
  | _ => none }
def fnCutsFromRow : OpenClaim := { program := "ytkojheinklgdeaa", sum := "235a9d4cbaae4ec833f2ff942948115309d39e822141c377ec1c188f53f0e0e9", func := "loop.example/panecutter/laws.FnCutsFrom", spec := "fnCutsFrom", recurses := true, apart := false }
def FnCutsFromSaid : Prop := fnCutsFromRow.holds Try.pinned (OpenSpec.ofChange fnCutsFromSpec)

/-- ITS FALSE NEIGHBOUR: 'it returns false'. Refute it at one input. -/
def fnCutsFromWrong : ChangeSpec := { name := "fnCutsFrom", fn := fun _ => fun
  | [d] => { results := [.lit (.bool false)], args := [d] }
  | _ => none }
def FnCutsFromWrongFalsely : Prop := fnCutsFromRow.holds Try.pinned (OpenSpec.ofChange fnCutsFromWrong)

/-- 'laws.FnExactCutsFrom': WHATEVER THE INPUT: true; the input reads as it did. -/
def fnExactCutsFromSpec : ChangeSpec := { name := "fnExactCutsFrom", fn := fun _ => fun
  | [d] => { results := [.lit (.bool true)], args := [d] }
  | _ => none }
def fnExactCutsFromRow : OpenClaim := { program := "ytkojheinklgdeaa", sum := "235a9d4cbaae4ec833f2ff942948115309d39e822141c377ec1c188f53f0e0e9", func := "loop.example/panecutter/laws.FnExactCutsFrom", spec := "fnExactCutsFrom", recurses := true, apart := false }
def FnExactCutsFromSaid : Prop := fnExactCutsFromRow.holds Try.pinned (OpenSpec.ofChange fnExactCutsFromSpec)

/-- ITS FALSE NEIGHBOUR: 'it returns false'. Refute it at one input. -/
def fnExactCutsFromWrong : ChangeSpec := { name := "fnExactCutsFrom", fn := fun _ => fun
  | [d] => { results := [.lit (.bool false)], args := [d] }
  | _ => none }
def FnExactCutsFromWrongFalsely : Prop := fnExactCutsFromRow.holds Try.pinned (OpenSpec.ofChange fnExactCutsFromWrong)

/-- 'laws.FnFewestSheetsLess': WHATEVER THE INPUT: true; the input reads as it did. -/
def fnFewestSheetsLessSpec : ChangeSpec := { name := "fnFewestSheetsLess", fn := fun _ => fun
  | [d] => { results := [.lit (.bool true)], args := [d] }
  | _ => none }
def fnFewestSheetsLessRow : OpenClaim := { program := "ytkojheinklgdeaa", sum := "235a9d4cbaae4ec833f2ff942948115309d39e822141c377ec1c188f53f0e0e9", func := "loop.example/panecutter/laws.FnFewestSheetsLess", spec := "fnFewestSheetsLess", unfollowed := true, recurses := true, apart := false }
def FnFewestSheetsLessSaid : Prop := fnFewestSheetsLessRow.holds Try.pinned (OpenSpec.ofChange fnFewestSheetsLessSpec)

/-- ITS FALSE NEIGHBOUR: 'it returns false'. Refute it at one input. -/
def fnFewestSheetsLessWrong : ChangeSpec := { name := "fnFewestSheetsLess", fn := fun _ => fun
  | [d] => { results := [.lit (.bool false)], args := [d] }
  | _ => none }
def FnFewestSheetsLessWrongFalsely : Prop := fnFewestSheetsLessRow.holds Try.pinned (OpenSpec.ofChange fnFewestSheetsLessWrong)

/-- 'laws.FnExactFewestSheets': WHATEVER THE INPUT: true; the input reads as it did. -/
def fnExactFewestSheetsSpec : ChangeSpec := { name := "fnExactFewestSheets", fn := fun _ => fun
  | [d] => { results := [.lit (.bool true)], args := [d] }
  | _ => none }
def fnExactFewestSheetsRow : OpenClaim := { program := "ytkojheinklgdeaa", sum := "235a9d4cbaae4ec833f2ff942948115309d39e822141c377ec1c188f53f0e0e9", func := "loop.example/panecutter/laws.FnExactFewestSheets", spec := "fnExactFewestSheets", unfollowed := true, recurses := true, apart := false }
def FnExactFewestSheetsSaid : Prop := fnExactFewestSheetsRow.holds Try.pinned (OpenSpec.ofChange fnExactFewestSheetsSpec)

/-- ITS FALSE NEIGHBOUR: 'it returns false'. Refute it at one input. -/
def fnExactFewestSheetsWrong : ChangeSpec := { name := "fnExactFewestSheets", fn := fun _ => fun
  | [d] => { results := [.lit (.bool false)], args := [d] }
  | _ => none }
def FnExactFewestSheetsWrongFalsely : Prop := fnExactFewestSheetsRow.holds Try.pinned (OpenSpec.ofChange fnExactFewestSheetsWrong)

/- THE SECOND FORM. 'bulk': how many values and letters a reading holds, each counted each time it is reached (what is shared counts as often as it is met; a slice's spare places count too). A statement '..UptoSaid' is the law's where the arguments, and the package variables that the reading takes, are together of bulk at most 1048576: NARROWER than '..Said'. Prove '..Said' where nothing that the law and all that it calls make is longer than what came in: it says more and counts as full. Else prove '..UptoSaid'. A law counts once. -/
mutual
def uptoBulk {H : Type} : DataW H → Nat
  | .lit (.string bytes) => bytes.length + 1
  | .lit _ => 1
  | .nil => 1
  | .ptr d => uptoBulk d + 1
  | .slice elems spare => uptoBulkAll elems + uptoBulkAll spare + 1
  | .agg parts => uptoBulkAll parts + 1
  | .iface _ d => uptoBulk d + 1
  | .map entries => uptoBulkEntries entries + 1
  | .held _ => 1
def uptoBulkAll {H : Type} : List (DataW H) → Nat
  | [] => 0
  | d :: r => uptoBulk d + uptoBulkAll r
def uptoBulkEntries {H : Type} : List (Lit × DataW H) → Nat
  | [] => 0
  | x :: r => uptoBulkEntry x + uptoBulkEntries r
def uptoBulkEntry {H : Type} : Lit × DataW H → Nat
  | (.string bytes, d) => bytes.length + uptoBulk d + 1
  | (_, d) => uptoBulk d + 1
 end
def uptoSmall : (H : Type) → List (DataW H) → Bool := fun _ ds => decide (uptoBulkAll ds ≤ 1048576)
def OpenSpec.upto (s : _root_.Go.ChangeSpec) : _root_.Go.OpenSpec := { _root_.Go.OpenSpec.ofChange s with cond := some uptoSmall }

/-- 'laws.FnBatchesFor', WHERE WHAT IT READS IS OF BULK AT MOST 1048576: true; the input reads as it did. -/
def fnBatchesForUptoRow : OpenClaim := { program := "ytkojheinklgdeaa", sum := "235a9d4cbaae4ec833f2ff942948115309d39e822141c377ec1c188f53f0e0e9", func := "loop.example/panecutter/laws.FnBatchesFor", spec := "fnBatchesFor", unfollowed := true, recurses := true, apart := false, narrowed := true }
def FnBatchesForUptoSaid : Prop := fnBatchesForUptoRow.holds Try.pinned (OpenSpec.upto fnBatchesForSpec)

/-- 'laws.FnExactBatchesFor', WHERE WHAT IT READS IS OF BULK AT MOST 1048576: true; the input reads as it did. -/
def fnExactBatchesForUptoRow : OpenClaim := { program := "ytkojheinklgdeaa", sum := "235a9d4cbaae4ec833f2ff942948115309d39e822141c377ec1c188f53f0e0e9", func := "loop.example/panecutter/laws.FnExactBatchesFor", spec := "fnExactBatchesFor", unfollowed := true, recurses := true, apart := false, narrowed := true }
def FnExactBatchesForUptoSaid : Prop := fnExactBatchesForUptoRow.holds Try.pinned (OpenSpec.upto fnExactBatchesForSpec)

/-- 'laws.FnFewestBars', WHERE WHAT IT READS IS OF BULK AT MOST 1048576: true; the input reads as it did. -/
def fnFewestBarsUptoRow : OpenClaim := { program := "ytkojheinklgdeaa", sum := "235a9d4cbaae4ec833f2ff942948115309d39e822141c377ec1c188f53f0e0e9", func := "loop.example/panecutter/laws.FnFewestBars", spec := "fnFewestBars", unfollowed := true, recurses := true, apart := false, narrowed := true }
def FnFewestBarsUptoSaid : Prop := fnFewestBarsUptoRow.holds Try.pinned (OpenSpec.upto fnFewestBarsSpec)

/-- 'laws.FnExactBestValue', WHERE WHAT IT READS IS OF BULK AT MOST 1048576: true; the input reads as it did. -/
def fnExactBestValueUptoRow : OpenClaim := { program := "ytkojheinklgdeaa", sum := "235a9d4cbaae4ec833f2ff942948115309d39e822141c377ec1c188f53f0e0e9", func := "loop.example/panecutter/laws.FnExactBestValue", spec := "fnExactBestValue", recurses := true, apart := false, narrowed := true }
def FnExactBestValueUptoSaid : Prop := fnExactBestValueUptoRow.holds Try.pinned (OpenSpec.upto fnExactBestValueSpec)

/-- 'laws.FnCutsFromTurned', WHERE WHAT IT READS IS OF BULK AT MOST 1048576: true; the input reads as it did. -/
def fnCutsFromTurnedUptoRow : OpenClaim := { program := "ytkojheinklgdeaa", sum := "235a9d4cbaae4ec833f2ff942948115309d39e822141c377ec1c188f53f0e0e9", func := "loop.example/panecutter/laws.FnCutsFromTurned", spec := "fnCutsFromTurned", recurses := true, apart := false, narrowed := true }
def FnCutsFromTurnedUptoSaid : Prop := fnCutsFromTurnedUptoRow.holds Try.pinned (OpenSpec.upto fnCutsFromTurnedSpec)

/-- 'laws.FnCutsFrom', WHERE WHAT IT READS IS OF BULK AT MOST 1048576: true; the input reads as it did. -/
def fnCutsFromUptoRow : OpenClaim := { program := "ytkojheinklgdeaa", sum := "235a9d4cbaae4ec833f2ff942948115309d39e822141c377ec1c188f53f0e0e9", func := "loop.example/panecutter/laws.FnCutsFrom", spec := "fnCutsFrom", recurses := true, apart := false, narrowed := true }
def FnCutsFromUptoSaid : Prop := fnCutsFromUptoRow.holds Try.pinned (OpenSpec.upto fnCutsFromSpec)

/-- 'laws.FnExactCutsFrom', WHERE WHAT IT READS IS OF BULK AT MOST 1048576: true; the input reads as it did. -/
def fnExactCutsFromUptoRow : OpenClaim := { program := "ytkojheinklgdeaa", sum := "235a9d4cbaae4ec833f2ff942948115309d39e822141c377ec1c188f53f0e0e9", func := "loop.example/panecutter/laws.FnExactCutsFrom", spec := "fnExactCutsFrom", recurses := true, apart := false, narrowed := true }
def FnExactCutsFromUptoSaid : Prop := fnExactCutsFromUptoRow.holds Try.pinned (OpenSpec.upto fnExactCutsFromSpec)

/-- 'laws.FnFewestSheetsLess', WHERE WHAT IT READS IS OF BULK AT MOST 1048576: true; the input reads as it did. -/
def fnFewestSheetsLessUptoRow : OpenClaim := { program := "ytkojheinklgdeaa", sum := "235a9d4cbaae4ec833f2ff942948115309d39e822141c377ec1c188f53f0e0e9", func := "loop.example/panecutter/laws.FnFewestSheetsLess", spec := "fnFewestSheetsLess", unfollowed := true, recurses := true, apart := false, narrowed := true }
def FnFewestSheetsLessUptoSaid : Prop := fnFewestSheetsLessUptoRow.holds Try.pinned (OpenSpec.upto fnFewestSheetsLessSpec)

/-- 'laws.FnExactFewestSheets', WHERE WHAT IT READS IS OF BULK AT MOST 1048576: true; the input reads as it did. -/
def fnExactFewestSheetsUptoRow : OpenClaim := { program := "ytkojheinklgdeaa", sum := "235a9d4cbaae4ec833f2ff942948115309d39e822141c377ec1c188f53f0e0e9", func := "loop.example/panecutter/laws.FnExactFewestSheets", spec := "fnExactFewestSheets", unfollowed := true, recurses := true, apart := false, narrowed := true }
def FnExactFewestSheetsUptoSaid : Prop := fnExactFewestSheetsUptoRow.holds Try.pinned (OpenSpec.upto fnExactFewestSheetsSpec)

end Rows
end Go.Proofs.Ytkojheinklgdeaa
