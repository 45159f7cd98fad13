/-
  No cell of these rows narrows 'for every input' (looked for: loops, veiled, ifaces, maps, wideKeys, modest, calm, conditions, laid).
  DERIVED. THE GIVEN ROWS OF THIS SEAT. 11 by the template 'for every input the law returns true; each argument reads behind the call as it read before'; 0 by the template 'total and deterministic' (their statements: YtlknglhldfpbdaaTotals.lean).
  GIVEN WITH THE SEED: the statements are not yours to turn. If you find one false, say at which input.
  Laid BY PROGRAM, IN A SANDBOX (cutbox-rows.mjs): the forced cells as the released guide's own fill.sh prints them over the translation cd45ac768673f624… (all of the seat's roots in one cut). By AI agents, Wed Nov 11 2026. No macro, syntax, notation, axiom, sorry.
-/
import Derived.Test.YtlknglhldfpbdaaChecked
import GoSem.Claim
import GoSem.ClaimJoined
import GoSem.ClaimMapViews
import Derived.JoinedTies
import Derived.KernelRfl
namespace Go.Proofs.Ytlknglhldfpbdaa
/- THE CELL 'sum', in the pinned program and in every row, IS THE sha256 OF THE DUMP (.gsa) THAT YtlknglhldfpbdaaProg.lean LOADS. Nothing in Lean hashes anything: it is a label: what it is worth is what the hold of that sum in a sandbox is worth. -/
noncomputable def Try.pinned : Pinned := { name := "ytlknglhldfpbdaa", sum := "cd45ac768673f624964b37e828964800be53835f4cd97fe19bb181ab8730e9df", checked := Try.checked }
namespace Rows
def none {H : Type} : Left H := { results := [], args := [] }

/-- 'laws.FnExactFirstFit': WHATEVER THE INPUT: true; the input reads as it did. -/
def fnExactFirstFitSpec : ChangeSpec := { name := "fnExactFirstFit", fn := fun _ => fun
  | [d1, d2] => { results := [.lit (.bool true)], args := [d1, d2] }
  | _ => none }
def fnExactFirstFitRow : OpenClaim := { program := "ytlknglhldfpbdaa", sum := "cd45ac768673f624964b37e828964800be53835f4cd97fe19bb181ab8730e9df", func := "loop.example/panecutter/laws.FnExactFirstFit", spec := "fnExactFirstFit", unfollowed := true, recurses := true, apart := false }
def FnExactFirstFitSaid : Prop := fnExactFirstFitRow.holds Try.pinned (OpenSpec.ofChange fnExactFirstFitSpec)

/-- ITS FALSE NEIGHBOUR: 'it returns false'. Refute it at one input. -/
def fnExactFirstFitWrong : ChangeSpec := { name := "fnExactFirstFit", fn := fun _ => fun
  | [d1, d2] => { results := [.lit (.bool false)], args := [d1, d2] }
  | _ => none }
def FnExactFirstFitWrongFalsely : Prop := fnExactFirstFitRow.holds Try.pinned (OpenSpec.ofChange fnExactFirstFitWrong)

/-- 'laws.FnExactGroupPanes': WHATEVER THE INPUT: true; the input reads as it did. -/
def fnExactGroupPanesSpec : ChangeSpec := { name := "fnExactGroupPanes", fn := fun _ => fun
  | [d1, d2] => { results := [.lit (.bool true)], args := [d1, d2] }
  | _ => none }
def fnExactGroupPanesRow : OpenClaim := { program := "ytlknglhldfpbdaa", sum := "cd45ac768673f624964b37e828964800be53835f4cd97fe19bb181ab8730e9df", func := "loop.example/panecutter/laws.FnExactGroupPanes", spec := "fnExactGroupPanes", unfollowed := true, recurses := true, apart := false }
def FnExactGroupPanesSaid : Prop := fnExactGroupPanesRow.holds Try.pinned (OpenSpec.ofChange fnExactGroupPanesSpec)

/-- ITS FALSE NEIGHBOUR: 'it returns false'. Refute it at one input. -/
def fnExactGroupPanesWrong : ChangeSpec := { name := "fnExactGroupPanes", fn := fun _ => fun
  | [d1, d2] => { results := [.lit (.bool false)], args := [d1, d2] }
  | _ => none }
def FnExactGroupPanesWrongFalsely : Prop := fnExactGroupPanesRow.holds Try.pinned (OpenSpec.ofChange fnExactGroupPanesWrong)

/-- 'laws.FnExactFirstFitDown': WHATEVER THE INPUT: true; the input reads as it did. -/
def fnExactFirstFitDownSpec : ChangeSpec := { name := "fnExactFirstFitDown", fn := fun _ => fun
  | [d1, d2] => { results := [.lit (.bool true)], args := [d1, d2] }
  | _ => none }
def fnExactFirstFitDownRow : OpenClaim := { program := "ytlknglhldfpbdaa", sum := "cd45ac768673f624964b37e828964800be53835f4cd97fe19bb181ab8730e9df", func := "loop.example/panecutter/laws.FnExactFirstFitDown", spec := "fnExactFirstFitDown", unfollowed := true, recurses := true, apart := false }
def FnExactFirstFitDownSaid : Prop := fnExactFirstFitDownRow.holds Try.pinned (OpenSpec.ofChange fnExactFirstFitDownSpec)

/-- ITS FALSE NEIGHBOUR: 'it returns false'. Refute it at one input. -/
def fnExactFirstFitDownWrong : ChangeSpec := { name := "fnExactFirstFitDown", fn := fun _ => fun
  | [d1, d2] => { results := [.lit (.bool false)], args := [d1, d2] }
  | _ => none }
def FnExactFirstFitDownWrongFalsely : Prop := fnExactFirstFitDownRow.holds Try.pinned (OpenSpec.ofChange fnExactFirstFitDownWrong)

/-- 'laws.FnScaleLengthBars': WHATEVER THE INPUT: true; the input reads as it did. -/
def fnScaleLengthBarsSpec : ChangeSpec := { name := "fnScaleLengthBars", fn := fun _ => fun
  | [d] => { results := [.lit (.bool true)], args := [d] }
  | _ => none }
def fnScaleLengthBarsRow : OpenClaim := { program := "ytlknglhldfpbdaa", sum := "cd45ac768673f624964b37e828964800be53835f4cd97fe19bb181ab8730e9df", func := "loop.example/panecutter/laws.FnScaleLengthBars", spec := "fnScaleLengthBars", unfollowed := true, recurses := true, apart := false }
def FnScaleLengthBarsSaid : Prop := fnScaleLengthBarsRow.holds Try.pinned (OpenSpec.ofChange fnScaleLengthBarsSpec)

/-- ITS FALSE NEIGHBOUR: 'it returns false'. Refute it at one input. -/
def fnScaleLengthBarsWrong : ChangeSpec := { name := "fnScaleLengthBars", fn := fun _ => fun
  | [d] => { results := [.lit (.bool false)], args := [d] }
  | _ => none }
def FnScaleLengthBarsWrongFalsely : Prop := fnScaleLengthBarsRow.holds Try.pinned (OpenSpec.ofChange fnScaleLengthBarsWrong)

/-- 'laws.FnFireTime': WHATEVER THE INPUT: true; the input reads as it did. -/
def fnFireTimeSpec : ChangeSpec := { name := "fnFireTime", fn := fun _ => fun
  | [d] => { results := [.lit (.bool true)], args := [d] }
  | _ => none }
def fnFireTimeRow : OpenClaim := { program := "ytlknglhldfpbdaa", sum := "cd45ac768673f624964b37e828964800be53835f4cd97fe19bb181ab8730e9df", func := "loop.example/panecutter/laws.FnFireTime", spec := "fnFireTime", unfollowed := true, recurses := true, apart := false }
def FnFireTimeSaid : Prop := fnFireTimeRow.holds Try.pinned (OpenSpec.ofChange fnFireTimeSpec)

/-- ITS FALSE NEIGHBOUR: 'it returns false'. Refute it at one input. -/
def fnFireTimeWrong : ChangeSpec := { name := "fnFireTime", fn := fun _ => fun
  | [d] => { results := [.lit (.bool false)], args := [d] }
  | _ => none }
def FnFireTimeWrongFalsely : Prop := fnFireTimeRow.holds Try.pinned (OpenSpec.ofChange fnFireTimeWrong)

/-- 'laws.FnFirstFit': WHATEVER THE INPUT: true; the input reads as it did. -/
def fnFirstFitSpec : ChangeSpec := { name := "fnFirstFit", fn := fun _ => fun
  | [d] => { results := [.lit (.bool true)], args := [d] }
  | _ => none }
def fnFirstFitRow : OpenClaim := { program := "ytlknglhldfpbdaa", sum := "cd45ac768673f624964b37e828964800be53835f4cd97fe19bb181ab8730e9df", func := "loop.example/panecutter/laws.FnFirstFit", spec := "fnFirstFit", unfollowed := true, recurses := true, apart := false }
def FnFirstFitSaid : Prop := fnFirstFitRow.holds Try.pinned (OpenSpec.ofChange fnFirstFitSpec)

/-- ITS FALSE NEIGHBOUR: 'it returns false'. Refute it at one input. -/
def fnFirstFitWrong : ChangeSpec := { name := "fnFirstFit", fn := fun _ => fun
  | [d] => { results := [.lit (.bool false)], args := [d] }
  | _ => none }
def FnFirstFitWrongFalsely : Prop := fnFirstFitRow.holds Try.pinned (OpenSpec.ofChange fnFirstFitWrong)

/-- 'laws.FnGroupPanes': WHATEVER THE INPUT: true; the input reads as it did. -/
def fnGroupPanesSpec : ChangeSpec := { name := "fnGroupPanes", fn := fun _ => fun
  | [d] => { results := [.lit (.bool true)], args := [d] }
  | _ => none }
def fnGroupPanesRow : OpenClaim := { program := "ytlknglhldfpbdaa", sum := "cd45ac768673f624964b37e828964800be53835f4cd97fe19bb181ab8730e9df", func := "loop.example/panecutter/laws.FnGroupPanes", spec := "fnGroupPanes", unfollowed := true, recurses := true, apart := false }
def FnGroupPanesSaid : Prop := fnGroupPanesRow.holds Try.pinned (OpenSpec.ofChange fnGroupPanesSpec)

/-- ITS FALSE NEIGHBOUR: 'it returns false'. Refute it at one input. -/
def fnGroupPanesWrong : ChangeSpec := { name := "fnGroupPanes", fn := fun _ => fun
  | [d] => { results := [.lit (.bool false)], args := [d] }
  | _ => none }
def FnGroupPanesWrongFalsely : Prop := fnGroupPanesRow.holds Try.pinned (OpenSpec.ofChange fnGroupPanesWrong)

/-- 'laws.FnFirstFitDown': WHATEVER THE INPUT: true; the input reads as it did. -/
def fnFirstFitDownSpec : ChangeSpec := { name := "fnFirstFitDown", fn := fun _ => fun
  | [d] => { results := [.lit (.bool true)], args := [d] }
  | _ => none }
def fnFirstFitDownRow : OpenClaim := { program := "ytlknglhldfpbdaa", sum := "cd45ac768673f624964b37e828964800be53835f4cd97fe19bb181ab8730e9df", func := "loop.example/panecutter/laws.FnFirstFitDown", spec := "fnFirstFitDown", unfollowed := true, recurses := true, apart := false }
def FnFirstFitDownSaid : Prop := fnFirstFitDownRow.holds Try.pinned (OpenSpec.ofChange fnFirstFitDownSpec)

/-- ITS FALSE NEIGHBOUR: 'it returns false'. Refute it at one input. -/
def fnFirstFitDownWrong : ChangeSpec := { name := "fnFirstFitDown", fn := fun _ => fun
  | [d] => { results := [.lit (.bool false)], args := [d] }
  | _ => none }
def FnFirstFitDownWrongFalsely : Prop := fnFirstFitDownRow.holds Try.pinned (OpenSpec.ofChange fnFirstFitDownWrong)

/-- 'laws.FnFewestBars': WHATEVER THE INPUT: true; the input reads as it did. -/
def fnFewestBarsSpec : ChangeSpec := { name := "fnFewestBars", fn := fun _ => fun
  | [d] => { results := [.lit (.bool true)], args := [d] }
  | _ => none }
def fnFewestBarsRow : OpenClaim := { program := "ytlknglhldfpbdaa", sum := "cd45ac768673f624964b37e828964800be53835f4cd97fe19bb181ab8730e9df", func := "loop.example/panecutter/laws.FnFewestBars", spec := "fnFewestBars", unfollowed := true, recurses := true, apart := false }
def FnFewestBarsSaid : Prop := fnFewestBarsRow.holds Try.pinned (OpenSpec.ofChange fnFewestBarsSpec)

/-- ITS FALSE NEIGHBOUR: 'it returns false'. Refute it at one input. -/
def fnFewestBarsWrong : ChangeSpec := { name := "fnFewestBars", fn := fun _ => fun
  | [d] => { results := [.lit (.bool false)], args := [d] }
  | _ => none }
def FnFewestBarsWrongFalsely : Prop := fnFewestBarsRow.holds Try.pinned (OpenSpec.ofChange fnFewestBarsWrong)

/-- 'laws.FnBatchesFor': WHATEVER THE INPUT: true; the input reads as it did. -/
def fnBatchesForSpec : ChangeSpec := { name := "fnBatchesFor", fn := fun _ => fun
  | [d] => { results := [.lit (.bool true)], args := [d] }
  | _ => none }
def fnBatchesForRow : OpenClaim := { program := "ytlknglhldfpbdaa", sum := "cd45ac768673f624964b37e828964800be53835f4cd97fe19bb181ab8730e9df", func := "loop.example/panecutter/laws.FnBatchesFor", spec := "fnBatchesFor", unfollowed := true, recurses := true, apart := false }
def FnBatchesForSaid : Prop := fnBatchesForRow.holds Try.pinned (OpenSpec.ofChange fnBatchesForSpec)

/-- ITS FALSE NEIGHBOUR: 'it returns false'. Refute it at one input. -/
def fnBatchesForWrong : ChangeSpec := { name := "fnBatchesFor", fn := fun _ => fun
  | [d] => { results := [.lit (.bool false)], args := [d] }
  | _ => none }
def FnBatchesForWrongFalsely : Prop := fnBatchesForRow.holds Try.pinned (OpenSpec.ofChange fnBatchesForWrong)

/-- 'laws.FnExactBatchesFor': WHATEVER THE INPUT: true; the input reads as it did. -/
def fnExactBatchesForSpec : ChangeSpec := { name := "fnExactBatchesFor", fn := fun _ => fun
  | [d1, d2] => { results := [.lit (.bool true)], args := [d1, d2] }
  | _ => none }
def fnExactBatchesForRow : OpenClaim := { program := "ytlknglhldfpbdaa", sum := "cd45ac768673f624964b37e828964800be53835f4cd97fe19bb181ab8730e9df", func := "loop.example/panecutter/laws.FnExactBatchesFor", spec := "fnExactBatchesFor", unfollowed := true, recurses := true, apart := false }
def FnExactBatchesForSaid : Prop := fnExactBatchesForRow.holds Try.pinned (OpenSpec.ofChange fnExactBatchesForSpec)

/-- ITS FALSE NEIGHBOUR: 'it returns false'. Refute it at one input. -/
def fnExactBatchesForWrong : ChangeSpec := { name := "fnExactBatchesFor", fn := fun _ => fun
  | [d1, d2] => { results := [.lit (.bool false)], args := [d1, d2] }
  | _ => none }
def FnExactBatchesForWrongFalsely : Prop := fnExactBatchesForRow.holds Try.pinned (OpenSpec.ofChange fnExactBatchesForWrong)

/- THE SECOND FORM. 'bulk': how many values and letters a reading holds, each counted each time it is reached (what is shared counts as often as it is met; a slice's spare places count too). A statement '..UptoSaid' is the law's where the arguments, and the package variables that the reading takes, are together of bulk at most 1048576: NARROWER than '..Said'. Prove '..Said' where nothing that the law and all that it calls make is longer than what came in: it says more and counts as full. Else prove '..UptoSaid'. A law counts once. -/
mutual
def uptoBulk {H : Type} : DataW H → Nat
  | .lit (.string bytes) => bytes.length + 1
  | .lit _ => 1
  | .nil => 1
  | .ptr d => uptoBulk d + 1
  | .slice elems spare => uptoBulkAll elems + uptoBulkAll spare + 1
  | .agg parts => uptoBulkAll parts + 1
  | .iface _ d => uptoBulk d + 1
  | .map entries => uptoBulkEntries entries + 1
  | .held _ => 1
def uptoBulkAll {H : Type} : List (DataW H) → Nat
  | [] => 0
  | d :: r => uptoBulk d + uptoBulkAll r
def uptoBulkEntries {H : Type} : List (Lit × DataW H) → Nat
  | [] => 0
  | x :: r => uptoBulkEntry x + uptoBulkEntries r
def uptoBulkEntry {H : Type} : Lit × DataW H → Nat
  | (.string bytes, d) => bytes.length + uptoBulk d + 1
  | (_, d) => uptoBulk d + 1
 end
def uptoSmall : (H : Type) → List (DataW H) → Bool := fun _ ds => decide (uptoBulkAll ds ≤ 1048576)
def OpenSpec.upto (s : _root_.Go.ChangeSpec) : _root_.Go.OpenSpec := { _root_.Go.OpenSpec.ofChange s with cond := some uptoSmall }

/-- 'laws.FnExactFirstFit', WHERE WHAT IT READS IS OF BULK AT MOST 1048576: true; the input reads as it did. -/
def fnExactFirstFitUptoRow : OpenClaim := { program := "ytlknglhldfpbdaa", sum := "cd45ac768673f624964b37e828964800be53835f4cd97fe19bb181ab8730e9df", func := "loop.example/panecutter/laws.FnExactFirstFit", spec := "fnExactFirstFit", unfollowed := true, recurses := true, apart := false, narrowed := true }
def FnExactFirstFitUptoSaid : Prop := fnExactFirstFitUptoRow.holds Try.pinned (OpenSpec.upto fnExactFirstFitSpec)

/-- 'laws.FnExactGroupPanes', WHERE WHAT IT READS IS OF BULK AT MOST 1048576: true; the input reads as it did. -/
def fnExactGroupPanesUptoRow : OpenClaim := { program := "ytlknglhldfpbdaa", sum := "cd45ac768673f624964b37e828964800be53835f4cd97fe19bb181ab8730e9df", func := "loop.example/panecutter/laws.FnExactGroupPanes", spec := "fnExactGroupPanes", unfollowed := true, recurses := true, apart := false, narrowed := true }
def FnExactGroupPanesUptoSaid : Prop := fnExactGroupPanesUptoRow.holds Try.pinned (OpenSpec.upto fnExactGroupPanesSpec)

/-- 'laws.FnExactFirstFitDown', WHERE WHAT IT READS IS OF BULK AT MOST 1048576: true; the input reads as it did. -/
def fnExactFirstFitDownUptoRow : OpenClaim := { program := "ytlknglhldfpbdaa", sum := "cd45ac768673f624964b37e828964800be53835f4cd97fe19bb181ab8730e9df", func := "loop.example/panecutter/laws.FnExactFirstFitDown", spec := "fnExactFirstFitDown", unfollowed := true, recurses := true, apart := false, narrowed := true }
def FnExactFirstFitDownUptoSaid : Prop := fnExactFirstFitDownUptoRow.holds Try.pinned (OpenSpec.upto fnExactFirstFitDownSpec)

/-- 'laws.FnScaleLengthBars', WHERE WHAT IT READS IS OF BULK AT MOST 1048576: true; the input reads as it did. -/
def fnScaleLengthBarsUptoRow : OpenClaim := { program := "ytlknglhldfpbdaa", sum := "cd45ac768673f624964b37e828964800be53835f4cd97fe19bb181ab8730e9df", func := "loop.example/panecutter/laws.FnScaleLengthBars", spec := "fnScaleLengthBars", unfollowed := true, recurses := true, apart := false, narrowed := true }
def FnScaleLengthBarsUptoSaid : Prop := fnScaleLengthBarsUptoRow.holds Try.pinned (OpenSpec.upto fnScaleLengthBarsSpec)

/-- 'laws.FnFireTime', WHERE WHAT IT READS IS OF BULK AT MOST 1048576: true; the input reads as it did. -/
def fnFireTimeUptoRow : OpenClaim := { program := "ytlknglhldfpbdaa", sum := "cd45ac768673f624964b37e828964800be53835f4cd97fe19bb181ab8730e9df", func := "loop.example/panecutter/laws.FnFireTime", spec := "fnFireTime", unfollowed := true, recurses := true, apart := false, narrowed := true }
def FnFireTimeUptoSaid : Prop := fnFireTimeUptoRow.holds Try.pinned (OpenSpec.upto fnFireTimeSpec)

/-- 'laws.FnFirstFit', WHERE WHAT IT READS IS OF BULK AT MOST 1048576: true; the input reads as it did. -/
def fnFirstFitUptoRow : OpenClaim := { program := "ytlknglhldfpbdaa", sum := "cd45ac768673f624964b37e828964800be53835f4cd97fe19bb181ab8730e9df", func := "loop.example/panecutter/laws.FnFirstFit", spec := "fnFirstFit", unfollowed := true, recurses := true, apart := false, narrowed := true }
def FnFirstFitUptoSaid : Prop := fnFirstFitUptoRow.holds Try.pinned (OpenSpec.upto fnFirstFitSpec)

/-- 'laws.FnGroupPanes', WHERE WHAT IT READS IS OF BULK AT MOST 1048576: true; the input reads as it did. -/
def fnGroupPanesUptoRow : OpenClaim := { program := "ytlknglhldfpbdaa", sum := "cd45ac768673f624964b37e828964800be53835f4cd97fe19bb181ab8730e9df", func := "loop.example/panecutter/laws.FnGroupPanes", spec := "fnGroupPanes", unfollowed := true, recurses := true, apart := false, narrowed := true }
def FnGroupPanesUptoSaid : Prop := fnGroupPanesUptoRow.holds Try.pinned (OpenSpec.upto fnGroupPanesSpec)

/-- 'laws.FnFirstFitDown', WHERE WHAT IT READS IS OF BULK AT MOST 1048576: true; the input reads as it did. -/
def fnFirstFitDownUptoRow : OpenClaim := { program := "ytlknglhldfpbdaa", sum := "cd45ac768673f624964b37e828964800be53835f4cd97fe19bb181ab8730e9df", func := "loop.example/panecutter/laws.FnFirstFitDown", spec := "fnFirstFitDown", unfollowed := true, recurses := true, apart := false, narrowed := true }
def FnFirstFitDownUptoSaid : Prop := fnFirstFitDownUptoRow.holds Try.pinned (OpenSpec.upto fnFirstFitDownSpec)

/-- 'laws.FnFewestBars', WHERE WHAT IT READS IS OF BULK AT MOST 1048576: true; the input reads as it did. -/
def fnFewestBarsUptoRow : OpenClaim := { program := "ytlknglhldfpbdaa", sum := "cd45ac768673f624964b37e828964800be53835f4cd97fe19bb181ab8730e9df", func := "loop.example/panecutter/laws.FnFewestBars", spec := "fnFewestBars", unfollowed := true, recurses := true, apart := false, narrowed := true }
def FnFewestBarsUptoSaid : Prop := fnFewestBarsUptoRow.holds Try.pinned (OpenSpec.upto fnFewestBarsSpec)

/-- 'laws.FnBatchesFor', WHERE WHAT IT READS IS OF BULK AT MOST 1048576: true; the input reads as it did. -/
def fnBatchesForUptoRow : OpenClaim := { program := "ytlknglhldfpbdaa", sum := "cd45ac768673f624964b37e828964800be53835f4cd97fe19bb181ab8730e9df", func := "loop.example/panecutter/laws.FnBatchesFor", spec := "fnBatchesFor", unfollowed := true, recurses := true, apart := false, narrowed := true }
def FnBatchesForUptoSaid : Prop := fnBatchesForUptoRow.holds Try.pinned (OpenSpec.upto fnBatchesForSpec)

/-- 'laws.FnExactBatchesFor', WHERE WHAT IT READS IS OF BULK AT MOST 1048576: true; the input reads as it did. -/
def fnExactBatchesForUptoRow : OpenClaim := { program := "ytlknglhldfpbdaa", sum := "cd45ac768673f624964b37e828964800be53835f4cd97fe19bb181ab8730e9df", func := "loop.example/panecutter/laws.FnExactBatchesFor", spec := "fnExactBatchesFor", unfollowed := true, recurses := true, apart := false, narrowed := true }
def FnExactBatchesForUptoSaid : Prop := fnExactBatchesForUptoRow.holds Try.pinned (OpenSpec.upto fnExactBatchesForSpec)

end Rows
end Go.Proofs.Ytlknglhldfpbdaa
