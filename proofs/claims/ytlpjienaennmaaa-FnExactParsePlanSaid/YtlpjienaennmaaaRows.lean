/-
  NARROWER THAN 'FOR EVERY INPUT', by the rows' own cells (each row's printed sentence says how): FnExactValidPlan: loops.
  DERIVED. THE GIVEN ROWS OF THIS SEAT. 7 by the template 'for every input the law returns true; each argument reads behind the call as it read before'; 0 by the template 'total and deterministic' (their statements: YtlpjienaennmaaaTotals.lean).
  GIVEN WITH THE SEED: the statements are not yours to turn. If you find one false, say at which input.
  Laid BY PROGRAM, IN A SANDBOX (cutbox-rows.mjs): the forced cells as the released guide's own fill.sh prints them over the translation 0c38fc9f24690df7… (all of the seat's roots in one cut). By AI agents, Wed Nov 11 2026. No macro, syntax, notation, axiom, sorry.
-/
import Derived.Test.YtlpjienaennmaaaChecked
import GoSem.Claim
import GoSem.ClaimJoined
import GoSem.ClaimMapViews
import Derived.JoinedTies
import Derived.KernelRfl
namespace Go.Proofs.Ytlpjienaennmaaa
/- THE CELL 'sum', in the pinned program and in every row, IS THE sha256 OF THE DUMP (.gsa) THAT YtlpjienaennmaaaProg.lean LOADS. Nothing in Lean hashes anything: it is a label: what it is worth is what the hold of that sum in a sandbox is worth. -/
noncomputable def Try.pinned : Pinned := { name := "ytlpjienaennmaaa", sum := "0c38fc9f24690df7241c02574f26f69ef7ae28e5df181db3c49a7db72c16655a", checked := Try.checked }
namespace Rows
def none {H : Type} : Left H := { results := [], args := [] }

/-- 'laws.FnCutLengths': WHATEVER THE INPUT: true; the input reads as it did. -/
def fnCutLengthsSpec : ChangeSpec := { name := "fnCutLengths", fn := fun _ => fun
  | [d] => { results := [.lit (.bool true)], args := [d] }
  | _ => none }
def fnCutLengthsRow : OpenClaim := { program := "ytlpjienaennmaaa", sum := "0c38fc9f24690df7241c02574f26f69ef7ae28e5df181db3c49a7db72c16655a", func := "loop.example/panecutter/laws.FnCutLengths", spec := "fnCutLengths", recurses := true, apart := false }
def FnCutLengthsSaid : Prop := fnCutLengthsRow.holds Try.pinned (OpenSpec.ofChange fnCutLengthsSpec)

/-- ITS FALSE NEIGHBOUR: 'it returns false'. Refute it at one input. -/
def fnCutLengthsWrong : ChangeSpec := { name := "fnCutLengths", fn := fun _ => fun
  | [d] => { results := [.lit (.bool false)], args := [d] }
  | _ => none }
def FnCutLengthsWrongFalsely : Prop := fnCutLengthsRow.holds Try.pinned (OpenSpec.ofChange fnCutLengthsWrong)

/-- 'laws.FnMirrorPlanPlaces': WHATEVER THE INPUT: true; the input reads as it did. -/
def fnMirrorPlanPlacesSpec : ChangeSpec := { name := "fnMirrorPlanPlaces", fn := fun _ => fun
  | [d] => { results := [.lit (.bool true)], args := [d] }
  | _ => none }
def fnMirrorPlanPlacesRow : OpenClaim := { program := "ytlpjienaennmaaa", sum := "0c38fc9f24690df7241c02574f26f69ef7ae28e5df181db3c49a7db72c16655a", func := "loop.example/panecutter/laws.FnMirrorPlanPlaces", spec := "fnMirrorPlanPlaces", recurses := true, apart := false }
def FnMirrorPlanPlacesSaid : Prop := fnMirrorPlanPlacesRow.holds Try.pinned (OpenSpec.ofChange fnMirrorPlanPlacesSpec)

/-- ITS FALSE NEIGHBOUR: 'it returns false'. Refute it at one input. -/
def fnMirrorPlanPlacesWrong : ChangeSpec := { name := "fnMirrorPlanPlaces", fn := fun _ => fun
  | [d] => { results := [.lit (.bool false)], args := [d] }
  | _ => none }
def FnMirrorPlanPlacesWrongFalsely : Prop := fnMirrorPlanPlacesRow.holds Try.pinned (OpenSpec.ofChange fnMirrorPlanPlacesWrong)

/-- 'laws.FnLostArea': WHATEVER THE INPUT: true; the input reads as it did. -/
def fnLostAreaSpec : ChangeSpec := { name := "fnLostArea", fn := fun _ => fun
  | [d] => { results := [.lit (.bool true)], args := [d] }
  | _ => none }
def fnLostAreaRow : OpenClaim := { program := "ytlpjienaennmaaa", sum := "0c38fc9f24690df7241c02574f26f69ef7ae28e5df181db3c49a7db72c16655a", func := "loop.example/panecutter/laws.FnLostArea", spec := "fnLostArea", recurses := true, apart := false }
def FnLostAreaSaid : Prop := fnLostAreaRow.holds Try.pinned (OpenSpec.ofChange fnLostAreaSpec)

/-- ITS FALSE NEIGHBOUR: 'it returns false'. Refute it at one input. -/
def fnLostAreaWrong : ChangeSpec := { name := "fnLostArea", fn := fun _ => fun
  | [d] => { results := [.lit (.bool false)], args := [d] }
  | _ => none }
def FnLostAreaWrongFalsely : Prop := fnLostAreaRow.holds Try.pinned (OpenSpec.ofChange fnLostAreaWrong)

/-- 'laws.FnValidPlaces': WHATEVER THE INPUT: true; the input reads as it did. -/
def fnValidPlacesSpec : ChangeSpec := { name := "fnValidPlaces", fn := fun _ => fun
  | [d] => { results := [.lit (.bool true)], args := [d] }
  | _ => none }
def fnValidPlacesRow : OpenClaim := { program := "ytlpjienaennmaaa", sum := "0c38fc9f24690df7241c02574f26f69ef7ae28e5df181db3c49a7db72c16655a", func := "loop.example/panecutter/laws.FnValidPlaces", spec := "fnValidPlaces", recurses := true, apart := false }
def FnValidPlacesSaid : Prop := fnValidPlacesRow.holds Try.pinned (OpenSpec.ofChange fnValidPlacesSpec)

/-- ITS FALSE NEIGHBOUR: 'it returns false'. Refute it at one input. -/
def fnValidPlacesWrong : ChangeSpec := { name := "fnValidPlaces", fn := fun _ => fun
  | [d] => { results := [.lit (.bool false)], args := [d] }
  | _ => none }
def FnValidPlacesWrongFalsely : Prop := fnValidPlacesRow.holds Try.pinned (OpenSpec.ofChange fnValidPlacesWrong)

/-- 'laws.FnExactParsePlan': WHATEVER THE INPUT: true; the input reads as it did. -/
def fnExactParsePlanSpec : ChangeSpec := { name := "fnExactParsePlan", fn := fun _ => fun
  | [d] => { results := [.lit (.bool true)], args := [d] }
  | _ => none }
def fnExactParsePlanRow : OpenClaim := { program := "ytlpjienaennmaaa", sum := "0c38fc9f24690df7241c02574f26f69ef7ae28e5df181db3c49a7db72c16655a", func := "loop.example/panecutter/laws.FnExactParsePlan", spec := "fnExactParsePlan", recurses := true, apart := false }
def FnExactParsePlanSaid : Prop := fnExactParsePlanRow.holds Try.pinned (OpenSpec.ofChange fnExactParsePlanSpec)

/-- ITS FALSE NEIGHBOUR: 'it returns false'. Refute it at one input. -/
def fnExactParsePlanWrong : ChangeSpec := { name := "fnExactParsePlan", fn := fun _ => fun
  | [d] => { results := [.lit (.bool false)], args := [d] }
  | _ => none }
def FnExactParsePlanWrongFalsely : Prop := fnExactParsePlanRow.holds Try.pinned (OpenSpec.ofChange fnExactParsePlanWrong)

/-- 'laws.FnExactValidPlan': WHATEVER THE INPUT: true; the input reads as it did. -/
def fnExactValidPlanSpec : ChangeSpec := { name := "fnExactValidPlan", fn := fun _ => fun
  | [d1, d2] => { results := [.lit (.bool true)], args := [d1, d2] }
  | _ => none }
def fnExactValidPlanRow : OpenClaim := { program := "ytlpjienaennmaaa", sum := "0c38fc9f24690df7241c02574f26f69ef7ae28e5df181db3c49a7db72c16655a", func := "loop.example/panecutter/laws.FnExactValidPlan", spec := "fnExactValidPlan", recurses := true, loops := true, apart := false }
def FnExactValidPlanSaid : Prop := fnExactValidPlanRow.holds Try.pinned (OpenSpec.ofChange fnExactValidPlanSpec)

/-- ITS FALSE NEIGHBOUR: 'it returns false'. Refute it at one input. -/
def fnExactValidPlanWrong : ChangeSpec := { name := "fnExactValidPlan", fn := fun _ => fun
  | [d1, d2] => { results := [.lit (.bool false)], args := [d1, d2] }
  | _ => none }
def FnExactValidPlanWrongFalsely : Prop := fnExactValidPlanRow.holds Try.pinned (OpenSpec.ofChange fnExactValidPlanWrong)

/-- 'laws.FnExactValidPlaces': WHATEVER THE INPUT: true; the input reads as it did. -/
def fnExactValidPlacesSpec : ChangeSpec := { name := "fnExactValidPlaces", fn := fun _ => fun
  | [d1, d2] => { results := [.lit (.bool true)], args := [d1, d2] }
  | _ => none }
def fnExactValidPlacesRow : OpenClaim := { program := "ytlpjienaennmaaa", sum := "0c38fc9f24690df7241c02574f26f69ef7ae28e5df181db3c49a7db72c16655a", func := "loop.example/panecutter/laws.FnExactValidPlaces", spec := "fnExactValidPlaces", recurses := true, apart := false }
def FnExactValidPlacesSaid : Prop := fnExactValidPlacesRow.holds Try.pinned (OpenSpec.ofChange fnExactValidPlacesSpec)

/-- ITS FALSE NEIGHBOUR: 'it returns false'. Refute it at one input. -/
def fnExactValidPlacesWrong : ChangeSpec := { name := "fnExactValidPlaces", fn := fun _ => fun
  | [d1, d2] => { results := [.lit (.bool false)], args := [d1, d2] }
  | _ => none }
def FnExactValidPlacesWrongFalsely : Prop := fnExactValidPlacesRow.holds Try.pinned (OpenSpec.ofChange fnExactValidPlacesWrong)

/- THE SECOND FORM. 'bulk': how many values and letters a reading holds, each counted each time it is reached (what is shared counts as often as it is met; a slice's spare places count too). A statement '..UptoSaid' is the law's where the arguments, and the package variables that the reading takes, are together of bulk at most 1048576: NARROWER than '..Said'. Prove '..Said' where nothing that the law and all that it calls make is longer than what came in: it says more and counts as full. Else prove '..UptoSaid'. A law counts once. -/
mutual
def uptoBulk {H : Type} : DataW H → Nat
  | .lit (.string bytes) => bytes.length + 1
  | .lit _ => 1
  | .nil => 1
  | .ptr d => uptoBulk d + 1
  | .slice elems spare => uptoBulkAll elems + uptoBulkAll spare + 1
  | .agg parts => uptoBulkAll parts + 1
  | .iface _ d => uptoBulk d + 1
  | .map entries => uptoBulkEntries entries + 1
  | .held _ => 1
def uptoBulkAll {H : Type} : List (DataW H) → Nat
  | [] => 0
  | d :: r => uptoBulk d + uptoBulkAll r
def uptoBulkEntries {H : Type} : List (Lit × DataW H) → Nat
  | [] => 0
  | x :: r => uptoBulkEntry x + uptoBulkEntries r
def uptoBulkEntry {H : Type} : Lit × DataW H → Nat
  | (.string bytes, d) => bytes.length + uptoBulk d + 1
  | (_, d) => uptoBulk d + 1
 end
def uptoSmall : (H : Type) → List (DataW H) → Bool := fun _ ds => decide (uptoBulkAll ds ≤ 1048576)
def OpenSpec.upto (s : _root_.Go.ChangeSpec) : _root_.Go.OpenSpec := { _root_.Go.OpenSpec.ofChange s with cond := some uptoSmall }

/-- 'laws.FnCutLengths', WHERE WHAT IT READS IS OF BULK AT MOST 1048576: true; the input reads as it did. -/
def fnCutLengthsUptoRow : OpenClaim := { program := "ytlpjienaennmaaa", sum := "0c38fc9f24690df7241c02574f26f69ef7ae28e5df181db3c49a7db72c16655a", func := "loop.example/panecutter/laws.FnCutLengths", spec := "fnCutLengths", recurses := true, apart := false, narrowed := true }
def FnCutLengthsUptoSaid : Prop := fnCutLengthsUptoRow.holds Try.pinned (OpenSpec.upto fnCutLengthsSpec)

/-- 'laws.FnMirrorPlanPlaces', WHERE WHAT IT READS IS OF BULK AT MOST 1048576: true; the input reads as it did. -/
def fnMirrorPlanPlacesUptoRow : OpenClaim := { program := "ytlpjienaennmaaa", sum := "0c38fc9f24690df7241c02574f26f69ef7ae28e5df181db3c49a7db72c16655a", func := "loop.example/panecutter/laws.FnMirrorPlanPlaces", spec := "fnMirrorPlanPlaces", recurses := true, apart := false, narrowed := true }
def FnMirrorPlanPlacesUptoSaid : Prop := fnMirrorPlanPlacesUptoRow.holds Try.pinned (OpenSpec.upto fnMirrorPlanPlacesSpec)

/-- 'laws.FnLostArea', WHERE WHAT IT READS IS OF BULK AT MOST 1048576: true; the input reads as it did. -/
def fnLostAreaUptoRow : OpenClaim := { program := "ytlpjienaennmaaa", sum := "0c38fc9f24690df7241c02574f26f69ef7ae28e5df181db3c49a7db72c16655a", func := "loop.example/panecutter/laws.FnLostArea", spec := "fnLostArea", recurses := true, apart := false, narrowed := true }
def FnLostAreaUptoSaid : Prop := fnLostAreaUptoRow.holds Try.pinned (OpenSpec.upto fnLostAreaSpec)

/-- 'laws.FnValidPlaces', WHERE WHAT IT READS IS OF BULK AT MOST 1048576: true; the input reads as it did. -/
def fnValidPlacesUptoRow : OpenClaim := { program := "ytlpjienaennmaaa", sum := "0c38fc9f24690df7241c02574f26f69ef7ae28e5df181db3c49a7db72c16655a", func := "loop.example/panecutter/laws.FnValidPlaces", spec := "fnValidPlaces", recurses := true, apart := false, narrowed := true }
def FnValidPlacesUptoSaid : Prop := fnValidPlacesUptoRow.holds Try.pinned (OpenSpec.upto fnValidPlacesSpec)

/-- 'laws.FnExactParsePlan', WHERE WHAT IT READS IS OF BULK AT MOST 1048576: true; the input reads as it did. -/
def fnExactParsePlanUptoRow : OpenClaim := { program := "ytlpjienaennmaaa", sum := "0c38fc9f24690df7241c02574f26f69ef7ae28e5df181db3c49a7db72c16655a", func := "loop.example/panecutter/laws.FnExactParsePlan", spec := "fnExactParsePlan", recurses := true, apart := false, narrowed := true }
def FnExactParsePlanUptoSaid : Prop := fnExactParsePlanUptoRow.holds Try.pinned (OpenSpec.upto fnExactParsePlanSpec)

/-- 'laws.FnExactValidPlan', WHERE WHAT IT READS IS OF BULK AT MOST 1048576: true; the input reads as it did. -/
def fnExactValidPlanUptoRow : OpenClaim := { program := "ytlpjienaennmaaa", sum := "0c38fc9f24690df7241c02574f26f69ef7ae28e5df181db3c49a7db72c16655a", func := "loop.example/panecutter/laws.FnExactValidPlan", spec := "fnExactValidPlan", recurses := true, loops := true, apart := false, narrowed := true }
def FnExactValidPlanUptoSaid : Prop := fnExactValidPlanUptoRow.holds Try.pinned (OpenSpec.upto fnExactValidPlanSpec)

/-- 'laws.FnExactValidPlaces', WHERE WHAT IT READS IS OF BULK AT MOST 1048576: true; the input reads as it did. -/
def fnExactValidPlacesUptoRow : OpenClaim := { program := "ytlpjienaennmaaa", sum := "0c38fc9f24690df7241c02574f26f69ef7ae28e5df181db3c49a7db72c16655a", func := "loop.example/panecutter/laws.FnExactValidPlaces", spec := "fnExactValidPlaces", recurses := true, apart := false, narrowed := true }
def FnExactValidPlacesUptoSaid : Prop := fnExactValidPlacesUptoRow.holds Try.pinned (OpenSpec.upto fnExactValidPlacesSpec)

end Rows
end Go.Proofs.Ytlpjienaennmaaa
