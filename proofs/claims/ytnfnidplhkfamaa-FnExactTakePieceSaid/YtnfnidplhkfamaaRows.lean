/-
  No cell of these rows narrows 'for every input' (looked for: loops, veiled, ifaces, maps, wideKeys, modest, calm, conditions, laid).
  DERIVED. THE GIVEN ROWS OF THIS SEAT. 8 by the template 'for every input the law returns true; each argument reads behind the call as it read before'; 0 by the template 'total and deterministic' (their statements: YtnfnidplhkfamaaTotals.lean).
  GIVEN WITH THE SEED: the statements are not yours to turn. If you find one false, say at which input.
  Laid BY PROGRAM, IN A SANDBOX (cutbox-rows.mjs): the forced cells as the released guide's own fill.sh prints them over the translation e11fe8a33fa0a8fa… (all of the seat's roots in one cut). By AI agents, Wed Nov 11 2026. No macro, syntax, notation, axiom, sorry.
-/
import Derived.Test.YtnfnidplhkfamaaChecked
import GoSem.Claim
import GoSem.ClaimJoined
import GoSem.ClaimMapViews
import Derived.JoinedTies
import Derived.KernelRfl
namespace Go.Proofs.Ytnfnidplhkfamaa
/- THE CELL 'sum', in the pinned program and in every row, IS THE sha256 OF THE DUMP (.gsa) THAT YtnfnidplhkfamaaProg.lean LOADS. Nothing in Lean hashes anything: it is a label: what it is worth is what the hold of that sum in a sandbox is worth. -/
noncomputable def Try.pinned : Pinned := { name := "ytnfnidplhkfamaa", sum := "e11fe8a33fa0a8fabb53e1de6b1abd8820b667d97807efd4c4bc1f4381da45ad", checked := Try.checked }
namespace Rows
def none {H : Type} : Left H := { results := [], args := [] }

/-- 'laws.FnFindPiece': WHATEVER THE INPUT: true; the input reads as it did. -/
def fnFindPieceSpec : ChangeSpec := { name := "fnFindPiece", fn := fun _ => fun
  | [d] => { results := [.lit (.bool true)], args := [d] }
  | _ => none }
def fnFindPieceRow : OpenClaim := { program := "ytnfnidplhkfamaa", sum := "e11fe8a33fa0a8fabb53e1de6b1abd8820b667d97807efd4c4bc1f4381da45ad", func := "loop.example/panecutter/laws.FnFindPiece", spec := "fnFindPiece", apart := false }
def FnFindPieceSaid : Prop := fnFindPieceRow.holds Try.pinned (OpenSpec.ofChange fnFindPieceSpec)

/-- ITS FALSE NEIGHBOUR: 'it returns false'. Refute it at one input. -/
def fnFindPieceWrong : ChangeSpec := { name := "fnFindPiece", fn := fun _ => fun
  | [d] => { results := [.lit (.bool false)], args := [d] }
  | _ => none }
def FnFindPieceWrongFalsely : Prop := fnFindPieceRow.holds Try.pinned (OpenSpec.ofChange fnFindPieceWrong)

/-- 'laws.FnLargestClear': WHATEVER THE INPUT: true; the input reads as it did. -/
def fnLargestClearSpec : ChangeSpec := { name := "fnLargestClear", fn := fun _ => fun
  | [d] => { results := [.lit (.bool true)], args := [d] }
  | _ => none }
def fnLargestClearRow : OpenClaim := { program := "ytnfnidplhkfamaa", sum := "e11fe8a33fa0a8fabb53e1de6b1abd8820b667d97807efd4c4bc1f4381da45ad", func := "loop.example/panecutter/laws.FnLargestClear", spec := "fnLargestClear", apart := false }
def FnLargestClearSaid : Prop := fnLargestClearRow.holds Try.pinned (OpenSpec.ofChange fnLargestClearSpec)

/-- ITS FALSE NEIGHBOUR: 'it returns false'. Refute it at one input. -/
def fnLargestClearWrong : ChangeSpec := { name := "fnLargestClear", fn := fun _ => fun
  | [d] => { results := [.lit (.bool false)], args := [d] }
  | _ => none }
def FnLargestClearWrongFalsely : Prop := fnLargestClearRow.holds Try.pinned (OpenSpec.ofChange fnLargestClearWrong)

/-- 'laws.FnAddPiece': WHATEVER THE INPUT: true; the input reads as it did. -/
def fnAddPieceSpec : ChangeSpec := { name := "fnAddPiece", fn := fun _ => fun
  | [d] => { results := [.lit (.bool true)], args := [d] }
  | _ => none }
def fnAddPieceRow : OpenClaim := { program := "ytnfnidplhkfamaa", sum := "e11fe8a33fa0a8fabb53e1de6b1abd8820b667d97807efd4c4bc1f4381da45ad", func := "loop.example/panecutter/laws.FnAddPiece", spec := "fnAddPiece", unfollowed := true, recurses := true, apart := false }
def FnAddPieceSaid : Prop := fnAddPieceRow.holds Try.pinned (OpenSpec.ofChange fnAddPieceSpec)

/-- ITS FALSE NEIGHBOUR: 'it returns false'. Refute it at one input. -/
def fnAddPieceWrong : ChangeSpec := { name := "fnAddPiece", fn := fun _ => fun
  | [d] => { results := [.lit (.bool false)], args := [d] }
  | _ => none }
def FnAddPieceWrongFalsely : Prop := fnAddPieceRow.holds Try.pinned (OpenSpec.ofChange fnAddPieceWrong)

/-- 'laws.FnExactLargestClear': WHATEVER THE INPUT: true; the input reads as it did. -/
def fnExactLargestClearSpec : ChangeSpec := { name := "fnExactLargestClear", fn := fun _ => fun
  | [d] => { results := [.lit (.bool true)], args := [d] }
  | _ => none }
def fnExactLargestClearRow : OpenClaim := { program := "ytnfnidplhkfamaa", sum := "e11fe8a33fa0a8fabb53e1de6b1abd8820b667d97807efd4c4bc1f4381da45ad", func := "loop.example/panecutter/laws.FnExactLargestClear", spec := "fnExactLargestClear", apart := false }
def FnExactLargestClearSaid : Prop := fnExactLargestClearRow.holds Try.pinned (OpenSpec.ofChange fnExactLargestClearSpec)

/-- ITS FALSE NEIGHBOUR: 'it returns false'. Refute it at one input. -/
def fnExactLargestClearWrong : ChangeSpec := { name := "fnExactLargestClear", fn := fun _ => fun
  | [d] => { results := [.lit (.bool false)], args := [d] }
  | _ => none }
def FnExactLargestClearWrongFalsely : Prop := fnExactLargestClearRow.holds Try.pinned (OpenSpec.ofChange fnExactLargestClearWrong)

/-- 'laws.FnLargestClearNone': WHATEVER THE INPUT: true; the input reads as it did. -/
def fnLargestClearNoneSpec : ChangeSpec := { name := "fnLargestClearNone", fn := fun _ => fun
  | [d] => { results := [.lit (.bool true)], args := [d] }
  | _ => none }
def fnLargestClearNoneRow : OpenClaim := { program := "ytnfnidplhkfamaa", sum := "e11fe8a33fa0a8fabb53e1de6b1abd8820b667d97807efd4c4bc1f4381da45ad", func := "loop.example/panecutter/laws.FnLargestClearNone", spec := "fnLargestClearNone", apart := false }
def FnLargestClearNoneSaid : Prop := fnLargestClearNoneRow.holds Try.pinned (OpenSpec.ofChange fnLargestClearNoneSpec)

/-- ITS FALSE NEIGHBOUR: 'it returns false'. Refute it at one input. -/
def fnLargestClearNoneWrong : ChangeSpec := { name := "fnLargestClearNone", fn := fun _ => fun
  | [d] => { results := [.lit (.bool false)], args := [d] }
  | _ => none }
def FnLargestClearNoneWrongFalsely : Prop := fnLargestClearNoneRow.holds Try.pinned (OpenSpec.ofChange fnLargestClearNoneWrong)

/-- 'laws.FnExactFindPiece': WHATEVER THE INPUT: true; the input reads as it did. -/
def fnExactFindPieceSpec : ChangeSpec := { name := "fnExactFindPiece", fn := fun _ => fun
  | [d1, d2] => { results := [.lit (.bool true)], args := [d1, d2] }
  | _ => none }
def fnExactFindPieceRow : OpenClaim := { program := "ytnfnidplhkfamaa", sum := "e11fe8a33fa0a8fabb53e1de6b1abd8820b667d97807efd4c4bc1f4381da45ad", func := "loop.example/panecutter/laws.FnExactFindPiece", spec := "fnExactFindPiece", apart := false }
def FnExactFindPieceSaid : Prop := fnExactFindPieceRow.holds Try.pinned (OpenSpec.ofChange fnExactFindPieceSpec)

/-- ITS FALSE NEIGHBOUR: 'it returns false'. Refute it at one input. -/
def fnExactFindPieceWrong : ChangeSpec := { name := "fnExactFindPiece", fn := fun _ => fun
  | [d1, d2] => { results := [.lit (.bool false)], args := [d1, d2] }
  | _ => none }
def FnExactFindPieceWrongFalsely : Prop := fnExactFindPieceRow.holds Try.pinned (OpenSpec.ofChange fnExactFindPieceWrong)

/-- 'laws.FnExactAddPiece': WHATEVER THE INPUT: true; the input reads as it did. -/
def fnExactAddPieceSpec : ChangeSpec := { name := "fnExactAddPiece", fn := fun _ => fun
  | [d1, d2] => { results := [.lit (.bool true)], args := [d1, d2] }
  | _ => none }
def fnExactAddPieceRow : OpenClaim := { program := "ytnfnidplhkfamaa", sum := "e11fe8a33fa0a8fabb53e1de6b1abd8820b667d97807efd4c4bc1f4381da45ad", func := "loop.example/panecutter/laws.FnExactAddPiece", spec := "fnExactAddPiece", unfollowed := true, recurses := true, apart := false }
def FnExactAddPieceSaid : Prop := fnExactAddPieceRow.holds Try.pinned (OpenSpec.ofChange fnExactAddPieceSpec)

/-- ITS FALSE NEIGHBOUR: 'it returns false'. Refute it at one input. -/
def fnExactAddPieceWrong : ChangeSpec := { name := "fnExactAddPiece", fn := fun _ => fun
  | [d1, d2] => { results := [.lit (.bool false)], args := [d1, d2] }
  | _ => none }
def FnExactAddPieceWrongFalsely : Prop := fnExactAddPieceRow.holds Try.pinned (OpenSpec.ofChange fnExactAddPieceWrong)

/-- 'laws.FnExactTakePiece': WHATEVER THE INPUT: true; the input reads as it did. -/
def fnExactTakePieceSpec : ChangeSpec := { name := "fnExactTakePiece", fn := fun _ => fun
  | [d1, d2] => { results := [.lit (.bool true)], args := [d1, d2] }
  | _ => none }
def fnExactTakePieceRow : OpenClaim := { program := "ytnfnidplhkfamaa", sum := "e11fe8a33fa0a8fabb53e1de6b1abd8820b667d97807efd4c4bc1f4381da45ad", func := "loop.example/panecutter/laws.FnExactTakePiece", spec := "fnExactTakePiece", unfollowed := true, recurses := true, apart := false }
def FnExactTakePieceSaid : Prop := fnExactTakePieceRow.holds Try.pinned (OpenSpec.ofChange fnExactTakePieceSpec)

/-- ITS FALSE NEIGHBOUR: 'it returns false'. Refute it at one input. -/
def fnExactTakePieceWrong : ChangeSpec := { name := "fnExactTakePiece", fn := fun _ => fun
  | [d1, d2] => { results := [.lit (.bool false)], args := [d1, d2] }
  | _ => none }
def FnExactTakePieceWrongFalsely : Prop := fnExactTakePieceRow.holds Try.pinned (OpenSpec.ofChange fnExactTakePieceWrong)

/- THE SECOND FORM. 'bulk': how many values and letters a reading holds, each counted each time it is reached (what is shared counts as often as it is met; a slice's spare places count too). A statement '..UptoSaid' is the law's where the arguments, and the package variables that the reading takes, are together of bulk at most 1048576: NARROWER than '..Said'. Prove '..Said' where nothing that the law and all that it calls make is longer than what came in: it says more and counts as full. Else prove '..UptoSaid'. A law counts once. -/
mutual
def uptoBulk {H : Type} : DataW H → Nat
  | .lit (.string bytes) => bytes.length + 1
  | .lit _ => 1
  | .nil => 1
  | .ptr d => uptoBulk d + 1
  | .slice elems spare => uptoBulkAll elems + uptoBulkAll spare + 1
  | .agg parts => uptoBulkAll parts + 1
  | .iface _ d => uptoBulk d + 1
  | .map entries => uptoBulkEntries entries + 1
  | .held _ => 1
def uptoBulkAll {H : Type} : List (DataW H) → Nat
  | [] => 0
  | d :: r => uptoBulk d + uptoBulkAll r
def uptoBulkEntries {H : Type} : List (Lit × DataW H) → Nat
  | [] => 0
  | x :: r => uptoBulkEntry x + uptoBulkEntries r
def uptoBulkEntry {H : Type} : Lit × DataW H → Nat
  | (.string bytes, d) => bytes.length + uptoBulk d + 1
  | (_, d) => uptoBulk d + 1
 end
def uptoSmall : (H : Type) → List (DataW H) → Bool := fun _ ds => decide (uptoBulkAll ds ≤ 1048576)
def OpenSpec.upto (s : _root_.Go.ChangeSpec) : _root_.Go.OpenSpec := { _root_.Go.OpenSpec.ofChange s with cond := some uptoSmall }

/-- 'laws.FnFindPiece', WHERE WHAT IT READS IS OF BULK AT MOST 1048576: true; the input reads as it did. -/
def fnFindPieceUptoRow : OpenClaim := { program := "ytnfnidplhkfamaa", sum := "e11fe8a33fa0a8fabb53e1de6b1abd8820b667d97807efd4c4bc1f4381da45ad", func := "loop.example/panecutter/laws.FnFindPiece", spec := "fnFindPiece", apart := false, narrowed := true }
def FnFindPieceUptoSaid : Prop := fnFindPieceUptoRow.holds Try.pinned (OpenSpec.upto fnFindPieceSpec)

/-- 'laws.FnLargestClear', WHERE WHAT IT READS IS OF BULK AT MOST 1048576: true; the input reads as it did. -/
def fnLargestClearUptoRow : OpenClaim := { program := "ytnfnidplhkfamaa", sum := "e11fe8a33fa0a8fabb53e1de6b1abd8820b667d97807efd4c4bc1f4381da45ad", func := "loop.example/panecutter/laws.FnLargestClear", spec := "fnLargestClear", apart := false, narrowed := true }
def FnLargestClearUptoSaid : Prop := fnLargestClearUptoRow.holds Try.pinned (OpenSpec.upto fnLargestClearSpec)

/-- 'laws.FnAddPiece', WHERE WHAT IT READS IS OF BULK AT MOST 1048576: true; the input reads as it did. -/
def fnAddPieceUptoRow : OpenClaim := { program := "ytnfnidplhkfamaa", sum := "e11fe8a33fa0a8fabb53e1de6b1abd8820b667d97807efd4c4bc1f4381da45ad", func := "loop.example/panecutter/laws.FnAddPiece", spec := "fnAddPiece", unfollowed := true, recurses := true, apart := false, narrowed := true }
def FnAddPieceUptoSaid : Prop := fnAddPieceUptoRow.holds Try.pinned (OpenSpec.upto fnAddPieceSpec)

/-- 'laws.FnExactLargestClear', WHERE WHAT IT READS IS OF BULK AT MOST 1048576: true; the input reads as it did. -/
def fnExactLargestClearUptoRow : OpenClaim := { program := "ytnfnidplhkfamaa", sum := "e11fe8a33fa0a8fabb53e1de6b1abd8820b667d97807efd4c4bc1f4381da45ad", func := "loop.example/panecutter/laws.FnExactLargestClear", spec := "fnExactLargestClear", apart := false, narrowed := true }
def FnExactLargestClearUptoSaid : Prop := fnExactLargestClearUptoRow.holds Try.pinned (OpenSpec.upto fnExactLargestClearSpec)

/-- 'laws.FnLargestClearNone', WHERE WHAT IT READS IS OF BULK AT MOST 1048576: true; the input reads as it did. -/
def fnLargestClearNoneUptoRow : OpenClaim := { program := "ytnfnidplhkfamaa", sum := "e11fe8a33fa0a8fabb53e1de6b1abd8820b667d97807efd4c4bc1f4381da45ad", func := "loop.example/panecutter/laws.FnLargestClearNone", spec := "fnLargestClearNone", apart := false, narrowed := true }
def FnLargestClearNoneUptoSaid : Prop := fnLargestClearNoneUptoRow.holds Try.pinned (OpenSpec.upto fnLargestClearNoneSpec)

/-- 'laws.FnExactFindPiece', WHERE WHAT IT READS IS OF BULK AT MOST 1048576: true; the input reads as it did. -/
def fnExactFindPieceUptoRow : OpenClaim := { program := "ytnfnidplhkfamaa", sum := "e11fe8a33fa0a8fabb53e1de6b1abd8820b667d97807efd4c4bc1f4381da45ad", func := "loop.example/panecutter/laws.FnExactFindPiece", spec := "fnExactFindPiece", apart := false, narrowed := true }
def FnExactFindPieceUptoSaid : Prop := fnExactFindPieceUptoRow.holds Try.pinned (OpenSpec.upto fnExactFindPieceSpec)

/-- 'laws.FnExactAddPiece', WHERE WHAT IT READS IS OF BULK AT MOST 1048576: true; the input reads as it did. -/
def fnExactAddPieceUptoRow : OpenClaim := { program := "ytnfnidplhkfamaa", sum := "e11fe8a33fa0a8fabb53e1de6b1abd8820b667d97807efd4c4bc1f4381da45ad", func := "loop.example/panecutter/laws.FnExactAddPiece", spec := "fnExactAddPiece", unfollowed := true, recurses := true, apart := false, narrowed := true }
def FnExactAddPieceUptoSaid : Prop := fnExactAddPieceUptoRow.holds Try.pinned (OpenSpec.upto fnExactAddPieceSpec)

/-- 'laws.FnExactTakePiece', WHERE WHAT IT READS IS OF BULK AT MOST 1048576: true; the input reads as it did. -/
def fnExactTakePieceUptoRow : OpenClaim := { program := "ytnfnidplhkfamaa", sum := "e11fe8a33fa0a8fabb53e1de6b1abd8820b667d97807efd4c4bc1f4381da45ad", func := "loop.example/panecutter/laws.FnExactTakePiece", spec := "fnExactTakePiece", unfollowed := true, recurses := true, apart := false, narrowed := true }
def FnExactTakePieceUptoSaid : Prop := fnExactTakePieceUptoRow.holds Try.pinned (OpenSpec.upto fnExactTakePieceSpec)

end Rows
end Go.Proofs.Ytnfnidplhkfamaa
