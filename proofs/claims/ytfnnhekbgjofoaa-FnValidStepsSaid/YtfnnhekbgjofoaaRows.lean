/-
  NARROWER THAN 'FOR EVERY INPUT', by the rows' own cells (each row's printed sentence says how): FnExactSwapSteps: loops · FnExactWaitingOf: loops · FnExactAllSteps: loops.
  DERIVED. THE GIVEN ROWS OF THIS SEAT. 8 by the template 'for every input the law returns true; each argument reads behind the call as it read before'; 0 by the template 'total and deterministic' (their statements: YtfnnhekbgjofoaaTotals.lean).
  GIVEN WITH THE SEED: the statements are not yours to turn. If you find one false, say at which input.
  Laid BY PROGRAM, IN A SANDBOX (cutbox-rows.mjs): the forced cells as the released guide's own fill.sh prints them over the translation dfe20467f1309de6… (all of the seat's roots in one cut). By AI agents, Wed Nov 11 2026. No macro, syntax, notation, axiom, sorry.
-/
import Derived.Test.YtfnnhekbgjofoaaChecked
import GoSem.Claim
import GoSem.ClaimJoined
import GoSem.ClaimMapViews
import Derived.JoinedTies
import Derived.KernelRfl
namespace Go.Proofs.Ytfnnhekbgjofoaa
/- THE CELL 'sum', in the pinned program and in every row, IS THE sha256 OF THE DUMP (.gsa) THAT YtfnnhekbgjofoaaProg.lean LOADS. Nothing in Lean hashes anything: it is a label: what it is worth is what the hold of that sum in a sandbox is worth. -/
noncomputable def Try.pinned : Pinned := { name := "ytfnnhekbgjofoaa", sum := "dfe20467f1309de66ad810bfbc861c11c4f303516e4070a0c23a49c1c1c0fb57", checked := Try.checked }
namespace Rows
def none {H : Type} : Left H := { results := [], args := [] }

/-- 'laws.FnAboveOf': WHATEVER THE INPUT: true; the input reads as it did. -/
def fnAboveOfSpec : ChangeSpec := { name := "fnAboveOf", fn := fun _ => fun
  | [d] => { results := [.lit (.bool true)], args := [d] }
  | _ => none }
def fnAboveOfRow : OpenClaim := { program := "ytfnnhekbgjofoaa", sum := "dfe20467f1309de66ad810bfbc861c11c4f303516e4070a0c23a49c1c1c0fb57", func := "loop.example/panecutter/laws.FnAboveOf", spec := "fnAboveOf", unfollowed := true, recurses := true, apart := false }
def FnAboveOfSaid : Prop := fnAboveOfRow.holds Try.pinned (OpenSpec.ofChange fnAboveOfSpec)

/-- ITS FALSE NEIGHBOUR: 'it returns false'. Refute it at one input. -/
def fnAboveOfWrong : ChangeSpec := { name := "fnAboveOf", fn := fun _ => fun
  | [d] => { results := [.lit (.bool false)], args := [d] }
  | _ => none }
def FnAboveOfWrongFalsely : Prop := fnAboveOfRow.holds Try.pinned (OpenSpec.ofChange fnAboveOfWrong)

/-- 'laws.FnNumbersOf': WHATEVER THE INPUT: true; the input reads as it did. -/
def fnNumbersOfSpec : ChangeSpec := { name := "fnNumbersOf", fn := fun _ => fun
  | [d] => { results := [.lit (.bool true)], args := [d] }
  | _ => none }
def fnNumbersOfRow : OpenClaim := { program := "ytfnnhekbgjofoaa", sum := "dfe20467f1309de66ad810bfbc861c11c4f303516e4070a0c23a49c1c1c0fb57", func := "loop.example/panecutter/laws.FnNumbersOf", spec := "fnNumbersOf", unfollowed := true, recurses := true, apart := false }
def FnNumbersOfSaid : Prop := fnNumbersOfRow.holds Try.pinned (OpenSpec.ofChange fnNumbersOfSpec)

/-- ITS FALSE NEIGHBOUR: 'it returns false'. Refute it at one input. -/
def fnNumbersOfWrong : ChangeSpec := { name := "fnNumbersOf", fn := fun _ => fun
  | [d] => { results := [.lit (.bool false)], args := [d] }
  | _ => none }
def FnNumbersOfWrongFalsely : Prop := fnNumbersOfRow.holds Try.pinned (OpenSpec.ofChange fnNumbersOfWrong)

/-- 'laws.FnAllSteps': WHATEVER THE INPUT: true; the input reads as it did. -/
def fnAllStepsSpec : ChangeSpec := { name := "fnAllSteps", fn := fun _ => fun
  | [d] => { results := [.lit (.bool true)], args := [d] }
  | _ => none }
def fnAllStepsRow : OpenClaim := { program := "ytfnnhekbgjofoaa", sum := "dfe20467f1309de66ad810bfbc861c11c4f303516e4070a0c23a49c1c1c0fb57", func := "loop.example/panecutter/laws.FnAllSteps", spec := "fnAllSteps", unfollowed := true, recurses := true, apart := false }
def FnAllStepsSaid : Prop := fnAllStepsRow.holds Try.pinned (OpenSpec.ofChange fnAllStepsSpec)

/-- ITS FALSE NEIGHBOUR: 'it returns false'. Refute it at one input. -/
def fnAllStepsWrong : ChangeSpec := { name := "fnAllSteps", fn := fun _ => fun
  | [d] => { results := [.lit (.bool false)], args := [d] }
  | _ => none }
def FnAllStepsWrongFalsely : Prop := fnAllStepsRow.holds Try.pinned (OpenSpec.ofChange fnAllStepsWrong)

/-- 'laws.FnBestSteps': WHATEVER THE INPUT: true; the input reads as it did. -/
def fnBestStepsSpec : ChangeSpec := { name := "fnBestSteps", fn := fun _ => fun
  | [d] => { results := [.lit (.bool true)], args := [d] }
  | _ => none }
def fnBestStepsRow : OpenClaim := { program := "ytfnnhekbgjofoaa", sum := "dfe20467f1309de66ad810bfbc861c11c4f303516e4070a0c23a49c1c1c0fb57", func := "loop.example/panecutter/laws.FnBestSteps", spec := "fnBestSteps", unfollowed := true, recurses := true, apart := false }
def FnBestStepsSaid : Prop := fnBestStepsRow.holds Try.pinned (OpenSpec.ofChange fnBestStepsSpec)

/-- ITS FALSE NEIGHBOUR: 'it returns false'. Refute it at one input. -/
def fnBestStepsWrong : ChangeSpec := { name := "fnBestSteps", fn := fun _ => fun
  | [d] => { results := [.lit (.bool false)], args := [d] }
  | _ => none }
def FnBestStepsWrongFalsely : Prop := fnBestStepsRow.holds Try.pinned (OpenSpec.ofChange fnBestStepsWrong)

/-- 'laws.FnValidSteps': WHATEVER THE INPUT: true; the input reads as it did. -/
def fnValidStepsSpec : ChangeSpec := { name := "fnValidSteps", fn := fun _ => fun
  | [d] => { results := [.lit (.bool true)], args := [d] }
  | _ => none }
def fnValidStepsRow : OpenClaim := { program := "ytfnnhekbgjofoaa", sum := "dfe20467f1309de66ad810bfbc861c11c4f303516e4070a0c23a49c1c1c0fb57", func := "loop.example/panecutter/laws.FnValidSteps", spec := "fnValidSteps", unfollowed := true, recurses := true, apart := false }
def FnValidStepsSaid : Prop := fnValidStepsRow.holds Try.pinned (OpenSpec.ofChange fnValidStepsSpec)

/-- ITS FALSE NEIGHBOUR: 'it returns false'. Refute it at one input. -/
def fnValidStepsWrong : ChangeSpec := { name := "fnValidSteps", fn := fun _ => fun
  | [d] => { results := [.lit (.bool false)], args := [d] }
  | _ => none }
def FnValidStepsWrongFalsely : Prop := fnValidStepsRow.holds Try.pinned (OpenSpec.ofChange fnValidStepsWrong)

/-- 'laws.FnExactSwapSteps': WHATEVER THE INPUT: true; the input reads as it did. -/
def fnExactSwapStepsSpec : ChangeSpec := { name := "fnExactSwapSteps", fn := fun _ => fun
  | [d1, d2, d3] => { results := [.lit (.bool true)], args := [d1, d2, d3] }
  | _ => none }
def fnExactSwapStepsRow : OpenClaim := { program := "ytfnnhekbgjofoaa", sum := "dfe20467f1309de66ad810bfbc861c11c4f303516e4070a0c23a49c1c1c0fb57", func := "loop.example/panecutter/laws.FnExactSwapSteps", spec := "fnExactSwapSteps", unfollowed := true, recurses := true, loops := true, apart := false }
def FnExactSwapStepsSaid : Prop := fnExactSwapStepsRow.holds Try.pinned (OpenSpec.ofChange fnExactSwapStepsSpec)

/-- ITS FALSE NEIGHBOUR: 'it returns false'. Refute it at one input. -/
def fnExactSwapStepsWrong : ChangeSpec := { name := "fnExactSwapSteps", fn := fun _ => fun
  | [d1, d2, d3] => { results := [.lit (.bool false)], args := [d1, d2, d3] }
  | _ => none }
def FnExactSwapStepsWrongFalsely : Prop := fnExactSwapStepsRow.holds Try.pinned (OpenSpec.ofChange fnExactSwapStepsWrong)

/-- 'laws.FnExactWaitingOf': WHATEVER THE INPUT: true; the input reads as it did. -/
def fnExactWaitingOfSpec : ChangeSpec := { name := "fnExactWaitingOf", fn := fun _ => fun
  | [d1, d2] => { results := [.lit (.bool true)], args := [d1, d2] }
  | _ => none }
def fnExactWaitingOfRow : OpenClaim := { program := "ytfnnhekbgjofoaa", sum := "dfe20467f1309de66ad810bfbc861c11c4f303516e4070a0c23a49c1c1c0fb57", func := "loop.example/panecutter/laws.FnExactWaitingOf", spec := "fnExactWaitingOf", unfollowed := true, recurses := true, loops := true, apart := false }
def FnExactWaitingOfSaid : Prop := fnExactWaitingOfRow.holds Try.pinned (OpenSpec.ofChange fnExactWaitingOfSpec)

/-- ITS FALSE NEIGHBOUR: 'it returns false'. Refute it at one input. -/
def fnExactWaitingOfWrong : ChangeSpec := { name := "fnExactWaitingOf", fn := fun _ => fun
  | [d1, d2] => { results := [.lit (.bool false)], args := [d1, d2] }
  | _ => none }
def FnExactWaitingOfWrongFalsely : Prop := fnExactWaitingOfRow.holds Try.pinned (OpenSpec.ofChange fnExactWaitingOfWrong)

/-- 'laws.FnExactAllSteps': WHATEVER THE INPUT: true; the input reads as it did. -/
def fnExactAllStepsSpec : ChangeSpec := { name := "fnExactAllSteps", fn := fun _ => fun
  | [d] => { results := [.lit (.bool true)], args := [d] }
  | _ => none }
def fnExactAllStepsRow : OpenClaim := { program := "ytfnnhekbgjofoaa", sum := "dfe20467f1309de66ad810bfbc861c11c4f303516e4070a0c23a49c1c1c0fb57", func := "loop.example/panecutter/laws.FnExactAllSteps", spec := "fnExactAllSteps", unfollowed := true, recurses := true, loops := true, apart := false }
def FnExactAllStepsSaid : Prop := fnExactAllStepsRow.holds Try.pinned (OpenSpec.ofChange fnExactAllStepsSpec)

/-- ITS FALSE NEIGHBOUR: 'it returns false'. Refute it at one input. -/
def fnExactAllStepsWrong : ChangeSpec := { name := "fnExactAllSteps", fn := fun _ => fun
  | [d] => { results := [.lit (.bool false)], args := [d] }
  | _ => none }
def FnExactAllStepsWrongFalsely : Prop := fnExactAllStepsRow.holds Try.pinned (OpenSpec.ofChange fnExactAllStepsWrong)

/- THE SECOND FORM. 'bulk': how many values and letters a reading holds, each counted each time it is reached (what is shared counts as often as it is met; a slice's spare places count too). A statement '..UptoSaid' is the law's where the arguments, and the package variables that the reading takes, are together of bulk at most 1048576: NARROWER than '..Said'. Prove '..Said' where nothing that the law and all that it calls make is longer than what came in: it says more and counts as full. Else prove '..UptoSaid'. A law counts once. -/
mutual
def uptoBulk {H : Type} : DataW H → Nat
  | .lit (.string bytes) => bytes.length + 1
  | .lit _ => 1
  | .nil => 1
  | .ptr d => uptoBulk d + 1
  | .slice elems spare => uptoBulkAll elems + uptoBulkAll spare + 1
  | .agg parts => uptoBulkAll parts + 1
  | .iface _ d => uptoBulk d + 1
  | .map entries => uptoBulkEntries entries + 1
  | .held _ => 1
def uptoBulkAll {H : Type} : List (DataW H) → Nat
  | [] => 0
  | d :: r => uptoBulk d + uptoBulkAll r
def uptoBulkEntries {H : Type} : List (Lit × DataW H) → Nat
  | [] => 0
  | x :: r => uptoBulkEntry x + uptoBulkEntries r
def uptoBulkEntry {H : Type} : Lit × DataW H → Nat
  | (.string bytes, d) => bytes.length + uptoBulk d + 1
  | (_, d) => uptoBulk d + 1
 end
def uptoSmall : (H : Type) → List (DataW H) → Bool := fun _ ds => decide (uptoBulkAll ds ≤ 1048576)
def OpenSpec.upto (s : _root_.Go.ChangeSpec) : _root_.Go.OpenSpec := { _root_.Go.OpenSpec.ofChange s with cond := some uptoSmall }

/-- 'laws.FnAboveOf', WHERE WHAT IT READS IS OF BULK AT MOST 1048576: true; the input reads as it did. -/
def fnAboveOfUptoRow : OpenClaim := { program := "ytfnnhekbgjofoaa", sum := "dfe20467f1309de66ad810bfbc861c11c4f303516e4070a0c23a49c1c1c0fb57", func := "loop.example/panecutter/laws.FnAboveOf", spec := "fnAboveOf", unfollowed := true, recurses := true, apart := false, narrowed := true }
def FnAboveOfUptoSaid : Prop := fnAboveOfUptoRow.holds Try.pinned (OpenSpec.upto fnAboveOfSpec)

/-- 'laws.FnNumbersOf', WHERE WHAT IT READS IS OF BULK AT MOST 1048576: true; the input reads as it did. -/
def fnNumbersOfUptoRow : OpenClaim := { program := "ytfnnhekbgjofoaa", sum := "dfe20467f1309de66ad810bfbc861c11c4f303516e4070a0c23a49c1c1c0fb57", func := "loop.example/panecutter/laws.FnNumbersOf", spec := "fnNumbersOf", unfollowed := true, recurses := true, apart := false, narrowed := true }
def FnNumbersOfUptoSaid : Prop := fnNumbersOfUptoRow.holds Try.pinned (OpenSpec.upto fnNumbersOfSpec)

/-- 'laws.FnAllSteps', WHERE WHAT IT READS IS OF BULK AT MOST 1048576: true; the input reads as it did. -/
def fnAllStepsUptoRow : OpenClaim := { program := "ytfnnhekbgjofoaa", sum := "dfe20467f1309de66ad810bfbc861c11c4f303516e4070a0c23a49c1c1c0fb57", func := "loop.example/panecutter/laws.FnAllSteps", spec := "fnAllSteps", unfollowed := true, recurses := true, apart := false, narrowed := true }
def FnAllStepsUptoSaid : Prop := fnAllStepsUptoRow.holds Try.pinned (OpenSpec.upto fnAllStepsSpec)

/-- 'laws.FnBestSteps', WHERE WHAT IT READS IS OF BULK AT MOST 1048576: true; the input reads as it did. -/
def fnBestStepsUptoRow : OpenClaim := { program := "ytfnnhekbgjofoaa", sum := "dfe20467f1309de66ad810bfbc861c11c4f303516e4070a0c23a49c1c1c0fb57", func := "loop.example/panecutter/laws.FnBestSteps", spec := "fnBestSteps", unfollowed := true, recurses := true, apart := false, narrowed := true }
def FnBestStepsUptoSaid : Prop := fnBestStepsUptoRow.holds Try.pinned (OpenSpec.upto fnBestStepsSpec)

/-- 'laws.FnValidSteps', WHERE WHAT IT READS IS OF BULK AT MOST 1048576: true; the input reads as it did. -/
def fnValidStepsUptoRow : OpenClaim := { program := "ytfnnhekbgjofoaa", sum := "dfe20467f1309de66ad810bfbc861c11c4f303516e4070a0c23a49c1c1c0fb57", func := "loop.example/panecutter/laws.FnValidSteps", spec := "fnValidSteps", unfollowed := true, recurses := true, apart := false, narrowed := true }
def FnValidStepsUptoSaid : Prop := fnValidStepsUptoRow.holds Try.pinned (OpenSpec.upto fnValidStepsSpec)

/-- 'laws.FnExactSwapSteps', WHERE WHAT IT READS IS OF BULK AT MOST 1048576: true; the input reads as it did. -/
def fnExactSwapStepsUptoRow : OpenClaim := { program := "ytfnnhekbgjofoaa", sum := "dfe20467f1309de66ad810bfbc861c11c4f303516e4070a0c23a49c1c1c0fb57", func := "loop.example/panecutter/laws.FnExactSwapSteps", spec := "fnExactSwapSteps", unfollowed := true, recurses := true, loops := true, apart := false, narrowed := true }
def FnExactSwapStepsUptoSaid : Prop := fnExactSwapStepsUptoRow.holds Try.pinned (OpenSpec.upto fnExactSwapStepsSpec)

/-- 'laws.FnExactWaitingOf', WHERE WHAT IT READS IS OF BULK AT MOST 1048576: true; the input reads as it did. -/
def fnExactWaitingOfUptoRow : OpenClaim := { program := "ytfnnhekbgjofoaa", sum := "dfe20467f1309de66ad810bfbc861c11c4f303516e4070a0c23a49c1c1c0fb57", func := "loop.example/panecutter/laws.FnExactWaitingOf", spec := "fnExactWaitingOf", unfollowed := true, recurses := true, loops := true, apart := false, narrowed := true }
def FnExactWaitingOfUptoSaid : Prop := fnExactWaitingOfUptoRow.holds Try.pinned (OpenSpec.upto fnExactWaitingOfSpec)

/-- 'laws.FnExactAllSteps', WHERE WHAT IT READS IS OF BULK AT MOST 1048576: true; the input reads as it did. -/
def fnExactAllStepsUptoRow : OpenClaim := { program := "ytfnnhekbgjofoaa", sum := "dfe20467f1309de66ad810bfbc861c11c4f303516e4070a0c23a49c1c1c0fb57", func := "loop.example/panecutter/laws.FnExactAllSteps", spec := "fnExactAllSteps", unfollowed := true, recurses := true, loops := true, apart := false, narrowed := true }
def FnExactAllStepsUptoSaid : Prop := fnExactAllStepsUptoRow.holds Try.pinned (OpenSpec.upto fnExactAllStepsSpec)

end Rows
end Go.Proofs.Ytfnnhekbgjofoaa
