/-
  No cell of these rows narrows 'for every input' (looked for: loops, veiled, ifaces, maps, wideKeys, modest, calm, conditions, laid).
  DERIVED. THE GIVEN ROWS OF THIS SEAT. 10 by the template 'for every input the law returns true; each argument reads behind the call as it read before'; 0 by the template 'total and deterministic' (their statements: YtbgalcjkmgdaiaaTotals.lean).
  GIVEN WITH THE SEED: the statements are not yours to turn. If you find one false, say at which input.
  Laid BY PROGRAM, IN A SANDBOX (cutbox-rows.mjs): the forced cells as the released guide's own fill.sh prints them over the translation c247f4a339872f79… (all of the seat's roots in one cut). By AI agents, Wed Nov 11 2026. No macro, syntax, notation, axiom, sorry.
-/
import Derived.Test.YtbgalcjkmgdaiaaChecked
import GoSem.Claim
import GoSem.ClaimJoined
import GoSem.ClaimMapViews
import Derived.JoinedTies
import Derived.KernelRfl
namespace Go.Proofs.Ytbgalcjkmgdaiaa
/- THE CELL 'sum', in the pinned program and in every row, IS THE sha256 OF THE DUMP (.gsa) THAT YtbgalcjkmgdaiaaProg.lean LOADS. Nothing in Lean hashes anything: it is a label: what it is worth is what the hold of that sum in a sandbox is worth. -/
noncomputable def Try.pinned : Pinned := { name := "ytbgalcjkmgdaiaa", sum := "c247f4a339872f794fbd2721984361759ec4e7b7339b165fa410c7aefd8c9c7c", checked := Try.checked }
namespace Rows
def none {H : Type} : Left H := { results := [], args := [] }

/-- 'laws.FnExactPairUp': WHATEVER THE INPUT: true; the input reads as it did. -/
def fnExactPairUpSpec : ChangeSpec := { name := "fnExactPairUp", fn := fun _ => fun
  | [d1, d2, d3] => { results := [.lit (.bool true)], args := [d1, d2, d3] }
  | _ => none }
def fnExactPairUpRow : OpenClaim := { program := "ytbgalcjkmgdaiaa", sum := "c247f4a339872f794fbd2721984361759ec4e7b7339b165fa410c7aefd8c9c7c", func := "loop.example/panecutter/laws.FnExactPairUp", spec := "fnExactPairUp", unfollowed := true, recurses := true, apart := false }
def FnExactPairUpSaid : Prop := fnExactPairUpRow.holds Try.pinned (OpenSpec.ofChange fnExactPairUpSpec)

/-- ITS FALSE NEIGHBOUR: 'it returns false'. Refute it at one input. -/
def fnExactPairUpWrong : ChangeSpec := { name := "fnExactPairUp", fn := fun _ => fun
  | [d1, d2, d3] => { results := [.lit (.bool false)], args := [d1, d2, d3] }
  | _ => none }
def FnExactPairUpWrongFalsely : Prop := fnExactPairUpRow.holds Try.pinned (OpenSpec.ofChange fnExactPairUpWrong)

/-- 'laws.FnExactPairsIn': WHATEVER THE INPUT: true; the input reads as it did. -/
def fnExactPairsInSpec : ChangeSpec := { name := "fnExactPairsIn", fn := fun _ => fun
  | [d1, d2, d3] => { results := [.lit (.bool true)], args := [d1, d2, d3] }
  | _ => none }
def fnExactPairsInRow : OpenClaim := { program := "ytbgalcjkmgdaiaa", sum := "c247f4a339872f794fbd2721984361759ec4e7b7339b165fa410c7aefd8c9c7c", func := "loop.example/panecutter/laws.FnExactPairsIn", spec := "fnExactPairsIn", unfollowed := true, recurses := true, apart := false }
def FnExactPairsInSaid : Prop := fnExactPairsInRow.holds Try.pinned (OpenSpec.ofChange fnExactPairsInSpec)

/-- ITS FALSE NEIGHBOUR: 'it returns false'. Refute it at one input. -/
def fnExactPairsInWrong : ChangeSpec := { name := "fnExactPairsIn", fn := fun _ => fun
  | [d1, d2, d3] => { results := [.lit (.bool false)], args := [d1, d2, d3] }
  | _ => none }
def FnExactPairsInWrongFalsely : Prop := fnExactPairsInRow.holds Try.pinned (OpenSpec.ofChange fnExactPairsInWrong)

/-- 'laws.FnPairUp': WHATEVER THE INPUT: true; the input reads as it did. -/
def fnPairUpSpec : ChangeSpec := { name := "fnPairUp", fn := fun _ => fun
  | [d] => { results := [.lit (.bool true)], args := [d] }
  | _ => none }
def fnPairUpRow : OpenClaim := { program := "ytbgalcjkmgdaiaa", sum := "c247f4a339872f794fbd2721984361759ec4e7b7339b165fa410c7aefd8c9c7c", func := "loop.example/panecutter/laws.FnPairUp", spec := "fnPairUp", unfollowed := true, recurses := true, apart := false }
def FnPairUpSaid : Prop := fnPairUpRow.holds Try.pinned (OpenSpec.ofChange fnPairUpSpec)

/-- ITS FALSE NEIGHBOUR: 'it returns false'. Refute it at one input. -/
def fnPairUpWrong : ChangeSpec := { name := "fnPairUp", fn := fun _ => fun
  | [d] => { results := [.lit (.bool false)], args := [d] }
  | _ => none }
def FnPairUpWrongFalsely : Prop := fnPairUpRow.holds Try.pinned (OpenSpec.ofChange fnPairUpWrong)

/-- 'laws.FnPairUpLeft': WHATEVER THE INPUT: true; the input reads as it did. -/
def fnPairUpLeftSpec : ChangeSpec := { name := "fnPairUpLeft", fn := fun _ => fun
  | [d] => { results := [.lit (.bool true)], args := [d] }
  | _ => none }
def fnPairUpLeftRow : OpenClaim := { program := "ytbgalcjkmgdaiaa", sum := "c247f4a339872f794fbd2721984361759ec4e7b7339b165fa410c7aefd8c9c7c", func := "loop.example/panecutter/laws.FnPairUpLeft", spec := "fnPairUpLeft", unfollowed := true, recurses := true, apart := false }
def FnPairUpLeftSaid : Prop := fnPairUpLeftRow.holds Try.pinned (OpenSpec.ofChange fnPairUpLeftSpec)

/-- ITS FALSE NEIGHBOUR: 'it returns false'. Refute it at one input. -/
def fnPairUpLeftWrong : ChangeSpec := { name := "fnPairUpLeft", fn := fun _ => fun
  | [d] => { results := [.lit (.bool false)], args := [d] }
  | _ => none }
def FnPairUpLeftWrongFalsely : Prop := fnPairUpLeftRow.holds Try.pinned (OpenSpec.ofChange fnPairUpLeftWrong)

/-- 'laws.FnPairsIn': WHATEVER THE INPUT: true; the input reads as it did. -/
def fnPairsInSpec : ChangeSpec := { name := "fnPairsIn", fn := fun _ => fun
  | [d] => { results := [.lit (.bool true)], args := [d] }
  | _ => none }
def fnPairsInRow : OpenClaim := { program := "ytbgalcjkmgdaiaa", sum := "c247f4a339872f794fbd2721984361759ec4e7b7339b165fa410c7aefd8c9c7c", func := "loop.example/panecutter/laws.FnPairsIn", spec := "fnPairsIn", unfollowed := true, recurses := true, apart := false }
def FnPairsInSaid : Prop := fnPairsInRow.holds Try.pinned (OpenSpec.ofChange fnPairsInSpec)

/-- ITS FALSE NEIGHBOUR: 'it returns false'. Refute it at one input. -/
def fnPairsInWrong : ChangeSpec := { name := "fnPairsIn", fn := fun _ => fun
  | [d] => { results := [.lit (.bool false)], args := [d] }
  | _ => none }
def FnPairsInWrongFalsely : Prop := fnPairsInRow.holds Try.pinned (OpenSpec.ofChange fnPairsInWrong)

/-- 'laws.FnPairsInLess': WHATEVER THE INPUT: true; the input reads as it did. -/
def fnPairsInLessSpec : ChangeSpec := { name := "fnPairsInLess", fn := fun _ => fun
  | [d] => { results := [.lit (.bool true)], args := [d] }
  | _ => none }
def fnPairsInLessRow : OpenClaim := { program := "ytbgalcjkmgdaiaa", sum := "c247f4a339872f794fbd2721984361759ec4e7b7339b165fa410c7aefd8c9c7c", func := "loop.example/panecutter/laws.FnPairsInLess", spec := "fnPairsInLess", unfollowed := true, recurses := true, apart := false }
def FnPairsInLessSaid : Prop := fnPairsInLessRow.holds Try.pinned (OpenSpec.ofChange fnPairsInLessSpec)

/-- ITS FALSE NEIGHBOUR: 'it returns false'. Refute it at one input. -/
def fnPairsInLessWrong : ChangeSpec := { name := "fnPairsInLess", fn := fun _ => fun
  | [d] => { results := [.lit (.bool false)], args := [d] }
  | _ => none }
def FnPairsInLessWrongFalsely : Prop := fnPairsInLessRow.holds Try.pinned (OpenSpec.ofChange fnPairsInLessWrong)

/-- 'laws.FnSpanBound': WHATEVER THE INPUT: true; the input reads as it did. -/
def fnSpanBoundSpec : ChangeSpec := { name := "fnSpanBound", fn := fun _ => fun
  | [d] => { results := [.lit (.bool true)], args := [d] }
  | _ => none }
def fnSpanBoundRow : OpenClaim := { program := "ytbgalcjkmgdaiaa", sum := "c247f4a339872f794fbd2721984361759ec4e7b7339b165fa410c7aefd8c9c7c", func := "loop.example/panecutter/laws.FnSpanBound", spec := "fnSpanBound", unfollowed := true, recurses := true, apart := false }
def FnSpanBoundSaid : Prop := fnSpanBoundRow.holds Try.pinned (OpenSpec.ofChange fnSpanBoundSpec)

/-- ITS FALSE NEIGHBOUR: 'it returns false'. Refute it at one input. -/
def fnSpanBoundWrong : ChangeSpec := { name := "fnSpanBound", fn := fun _ => fun
  | [d] => { results := [.lit (.bool false)], args := [d] }
  | _ => none }
def FnSpanBoundWrongFalsely : Prop := fnSpanBoundRow.holds Try.pinned (OpenSpec.ofChange fnSpanBoundWrong)

/-- 'laws.FnExactBestOrder': WHATEVER THE INPUT: true; the input reads as it did. -/
def fnExactBestOrderSpec : ChangeSpec := { name := "fnExactBestOrder", fn := fun _ => fun
  | [d] => { results := [.lit (.bool true)], args := [d] }
  | _ => none }
def fnExactBestOrderRow : OpenClaim := { program := "ytbgalcjkmgdaiaa", sum := "c247f4a339872f794fbd2721984361759ec4e7b7339b165fa410c7aefd8c9c7c", func := "loop.example/panecutter/laws.FnExactBestOrder", spec := "fnExactBestOrder", unfollowed := true, recurses := true, apart := false }
def FnExactBestOrderSaid : Prop := fnExactBestOrderRow.holds Try.pinned (OpenSpec.ofChange fnExactBestOrderSpec)

/-- ITS FALSE NEIGHBOUR: 'it returns false'. Refute it at one input. -/
def fnExactBestOrderWrong : ChangeSpec := { name := "fnExactBestOrder", fn := fun _ => fun
  | [d] => { results := [.lit (.bool false)], args := [d] }
  | _ => none }
def FnExactBestOrderWrongFalsely : Prop := fnExactBestOrderRow.holds Try.pinned (OpenSpec.ofChange fnExactBestOrderWrong)

/-- 'laws.FnBestOrder': WHATEVER THE INPUT: true; the input reads as it did. -/
def fnBestOrderSpec : ChangeSpec := { name := "fnBestOrder", fn := fun _ => fun
  | [d] => { results := [.lit (.bool true)], args := [d] }
  | _ => none }
def fnBestOrderRow : OpenClaim := { program := "ytbgalcjkmgdaiaa", sum := "c247f4a339872f794fbd2721984361759ec4e7b7339b165fa410c7aefd8c9c7c", func := "loop.example/panecutter/laws.FnBestOrder", spec := "fnBestOrder", unfollowed := true, recurses := true, apart := false }
def FnBestOrderSaid : Prop := fnBestOrderRow.holds Try.pinned (OpenSpec.ofChange fnBestOrderSpec)

/-- ITS FALSE NEIGHBOUR: 'it returns false'. Refute it at one input. -/
def fnBestOrderWrong : ChangeSpec := { name := "fnBestOrder", fn := fun _ => fun
  | [d] => { results := [.lit (.bool false)], args := [d] }
  | _ => none }
def FnBestOrderWrongFalsely : Prop := fnBestOrderRow.holds Try.pinned (OpenSpec.ofChange fnBestOrderWrong)

/-- 'laws.FnSpanOfBack': WHATEVER THE INPUT: true; the input reads as it did. -/
def fnSpanOfBackSpec : ChangeSpec := { name := "fnSpanOfBack", fn := fun _ => fun
  | [d] => { results := [.lit (.bool true)], args := [d] }
  | _ => none }
def fnSpanOfBackRow : OpenClaim := { program := "ytbgalcjkmgdaiaa", sum := "c247f4a339872f794fbd2721984361759ec4e7b7339b165fa410c7aefd8c9c7c", func := "loop.example/panecutter/laws.FnSpanOfBack", spec := "fnSpanOfBack", unfollowed := true, recurses := true, apart := false }
def FnSpanOfBackSaid : Prop := fnSpanOfBackRow.holds Try.pinned (OpenSpec.ofChange fnSpanOfBackSpec)

/-- ITS FALSE NEIGHBOUR: 'it returns false'. Refute it at one input. -/
def fnSpanOfBackWrong : ChangeSpec := { name := "fnSpanOfBack", fn := fun _ => fun
  | [d] => { results := [.lit (.bool false)], args := [d] }
  | _ => none }
def FnSpanOfBackWrongFalsely : Prop := fnSpanOfBackRow.holds Try.pinned (OpenSpec.ofChange fnSpanOfBackWrong)

/- THE SECOND FORM. 'bulk': how many values and letters a reading holds, each counted each time it is reached (what is shared counts as often as it is met; a slice's spare places count too). A statement '..UptoSaid' is the law's where the arguments, and the package variables that the reading takes, are together of bulk at most 1048576: NARROWER than '..Said'. Prove '..Said' where nothing that the law and all that it calls make is longer than what came in: it says more and counts as full. Else prove '..UptoSaid'. A law counts once. -/
mutual
def uptoBulk {H : Type} : DataW H → Nat
  | .lit (.string bytes) => bytes.length + 1
  | .lit _ => 1
  | .nil => 1
  | .ptr d => uptoBulk d + 1
  | .slice elems spare => uptoBulkAll elems + uptoBulkAll spare + 1
  | .agg parts => uptoBulkAll parts + 1
  | .iface _ d => uptoBulk d + 1
  | .map entries => uptoBulkEntries entries + 1
  | .held _ => 1
def uptoBulkAll {H : Type} : List (DataW H) → Nat
  | [] => 0
  | d :: r => uptoBulk d + uptoBulkAll r
def uptoBulkEntries {H : Type} : List (Lit × DataW H) → Nat
  | [] => 0
  | x :: r => uptoBulkEntry x + uptoBulkEntries r
def uptoBulkEntry {H : Type} : Lit × DataW H → Nat
  | (.string bytes, d) => bytes.length + uptoBulk d + 1
  | (_, d) => uptoBulk d + 1
 end
def uptoSmall : (H : Type) → List (DataW H) → Bool := fun _ ds => decide (uptoBulkAll ds ≤ 1048576)
def OpenSpec.upto (s : _root_.Go.ChangeSpec) : _root_.Go.OpenSpec := { _root_.Go.OpenSpec.ofChange s with cond := some uptoSmall }

/-- 'laws.FnExactPairUp', WHERE WHAT IT READS IS OF BULK AT MOST 1048576: true; the input reads as it did. -/
def fnExactPairUpUptoRow : OpenClaim := { program := "ytbgalcjkmgdaiaa", sum := "c247f4a339872f794fbd2721984361759ec4e7b7339b165fa410c7aefd8c9c7c", func := "loop.example/panecutter/laws.FnExactPairUp", spec := "fnExactPairUp", unfollowed := true, recurses := true, apart := false, narrowed := true }
def FnExactPairUpUptoSaid : Prop := fnExactPairUpUptoRow.holds Try.pinned (OpenSpec.upto fnExactPairUpSpec)

/-- 'laws.FnExactPairsIn', WHERE WHAT IT READS IS OF BULK AT MOST 1048576: true; the input reads as it did. -/
def fnExactPairsInUptoRow : OpenClaim := { program := "ytbgalcjkmgdaiaa", sum := "c247f4a339872f794fbd2721984361759ec4e7b7339b165fa410c7aefd8c9c7c", func := "loop.example/panecutter/laws.FnExactPairsIn", spec := "fnExactPairsIn", unfollowed := true, recurses := true, apart := false, narrowed := true }
def FnExactPairsInUptoSaid : Prop := fnExactPairsInUptoRow.holds Try.pinned (OpenSpec.upto fnExactPairsInSpec)

/-- 'laws.FnPairUp', WHERE WHAT IT READS IS OF BULK AT MOST 1048576: true; the input reads as it did. -/
def fnPairUpUptoRow : OpenClaim := { program := "ytbgalcjkmgdaiaa", sum := "c247f4a339872f794fbd2721984361759ec4e7b7339b165fa410c7aefd8c9c7c", func := "loop.example/panecutter/laws.FnPairUp", spec := "fnPairUp", unfollowed := true, recurses := true, apart := false, narrowed := true }
def FnPairUpUptoSaid : Prop := fnPairUpUptoRow.holds Try.pinned (OpenSpec.upto fnPairUpSpec)

/-- 'laws.FnPairUpLeft', WHERE WHAT IT READS IS OF BULK AT MOST 1048576: true; the input reads as it did. -/
def fnPairUpLeftUptoRow : OpenClaim := { program := "ytbgalcjkmgdaiaa", sum := "c247f4a339872f794fbd2721984361759ec4e7b7339b165fa410c7aefd8c9c7c", func := "loop.example/panecutter/laws.FnPairUpLeft", spec := "fnPairUpLeft", unfollowed := true, recurses := true, apart := false, narrowed := true }
def FnPairUpLeftUptoSaid : Prop := fnPairUpLeftUptoRow.holds Try.pinned (OpenSpec.upto fnPairUpLeftSpec)

/-- 'laws.FnPairsIn', WHERE WHAT IT READS IS OF BULK AT MOST 1048576: true; the input reads as it did. -/
def fnPairsInUptoRow : OpenClaim := { program := "ytbgalcjkmgdaiaa", sum := "c247f4a339872f794fbd2721984361759ec4e7b7339b165fa410c7aefd8c9c7c", func := "loop.example/panecutter/laws.FnPairsIn", spec := "fnPairsIn", unfollowed := true, recurses := true, apart := false, narrowed := true }
def FnPairsInUptoSaid : Prop := fnPairsInUptoRow.holds Try.pinned (OpenSpec.upto fnPairsInSpec)

/-- 'laws.FnPairsInLess', WHERE WHAT IT READS IS OF BULK AT MOST 1048576: true; the input reads as it did. -/
def fnPairsInLessUptoRow : OpenClaim := { program := "ytbgalcjkmgdaiaa", sum := "c247f4a339872f794fbd2721984361759ec4e7b7339b165fa410c7aefd8c9c7c", func := "loop.example/panecutter/laws.FnPairsInLess", spec := "fnPairsInLess", unfollowed := true, recurses := true, apart := false, narrowed := true }
def FnPairsInLessUptoSaid : Prop := fnPairsInLessUptoRow.holds Try.pinned (OpenSpec.upto fnPairsInLessSpec)

/-- 'laws.FnSpanBound', WHERE WHAT IT READS IS OF BULK AT MOST 1048576: true; the input reads as it did. -/
def fnSpanBoundUptoRow : OpenClaim := { program := "ytbgalcjkmgdaiaa", sum := "c247f4a339872f794fbd2721984361759ec4e7b7339b165fa410c7aefd8c9c7c", func := "loop.example/panecutter/laws.FnSpanBound", spec := "fnSpanBound", unfollowed := true, recurses := true, apart := false, narrowed := true }
def FnSpanBoundUptoSaid : Prop := fnSpanBoundUptoRow.holds Try.pinned (OpenSpec.upto fnSpanBoundSpec)

/-- 'laws.FnExactBestOrder', WHERE WHAT IT READS IS OF BULK AT MOST 1048576: true; the input reads as it did. -/
def fnExactBestOrderUptoRow : OpenClaim := { program := "ytbgalcjkmgdaiaa", sum := "c247f4a339872f794fbd2721984361759ec4e7b7339b165fa410c7aefd8c9c7c", func := "loop.example/panecutter/laws.FnExactBestOrder", spec := "fnExactBestOrder", unfollowed := true, recurses := true, apart := false, narrowed := true }
def FnExactBestOrderUptoSaid : Prop := fnExactBestOrderUptoRow.holds Try.pinned (OpenSpec.upto fnExactBestOrderSpec)

/-- 'laws.FnBestOrder', WHERE WHAT IT READS IS OF BULK AT MOST 1048576: true; the input reads as it did. -/
def fnBestOrderUptoRow : OpenClaim := { program := "ytbgalcjkmgdaiaa", sum := "c247f4a339872f794fbd2721984361759ec4e7b7339b165fa410c7aefd8c9c7c", func := "loop.example/panecutter/laws.FnBestOrder", spec := "fnBestOrder", unfollowed := true, recurses := true, apart := false, narrowed := true }
def FnBestOrderUptoSaid : Prop := fnBestOrderUptoRow.holds Try.pinned (OpenSpec.upto fnBestOrderSpec)

/-- 'laws.FnSpanOfBack', WHERE WHAT IT READS IS OF BULK AT MOST 1048576: true; the input reads as it did. -/
def fnSpanOfBackUptoRow : OpenClaim := { program := "ytbgalcjkmgdaiaa", sum := "c247f4a339872f794fbd2721984361759ec4e7b7339b165fa410c7aefd8c9c7c", func := "loop.example/panecutter/laws.FnSpanOfBack", spec := "fnSpanOfBack", unfollowed := true, recurses := true, apart := false, narrowed := true }
def FnSpanOfBackUptoSaid : Prop := fnSpanOfBackUptoRow.holds Try.pinned (OpenSpec.upto fnSpanOfBackSpec)

end Rows
end Go.Proofs.Ytbgalcjkmgdaiaa
