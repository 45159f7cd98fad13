/-
  The given statement FnExactLargestClearSaid, proved: whatever the arguments, the law returns true, and the arguments read as they did.
-/
import Derived.Test.YtnfnidplhkfamaaEC1
import Derived.Test.YtnfnidplhkfamaaFRQ
import Derived.Test.YtnfnidplhkfamaaFR
namespace Go.Proofs.Ytnfnidplhkfamaa
open Go Go.ChangeShapes Go.WideShapes Go.ChangeAt Go.RowKit

set_option maxRecDepth 100000 in
theorem fnExactLargestClear_lifted (os : Os) (started : os.Started) (H : Type) (enc : TypeId × Value → H) :
    ReturnsInHanded {} Try.checked os 6 .any (Rows.fnExactLargestClearSpec.pre6 enc Try.prog Try.f6 Rows.fnExactLargestClearRow.domain false) (Rows.fnExactLargestClearSpec.post enc Try.prog Try.f6 false true false false) := by
  refine returnsInHanded_of_change (C := Try.checked) own started (by kernel_rfl) Try.func6
    (ChangeSpec.witness6 (enc := enc) (C := Try.checked) false ⟨#[], #[.agg #[.int .i64 0, .int .i64 0, .int .i64 0, .slice none 0 0]], []⟩ 8 (by kernel_rfl) (by kernel_rfl) (by kernel_rfl) (by kernel_rfl)) ?_
  intro W base args ds gs before hval0 hW _ _
  have hval : ∀ (j : Nat) t v, Try.f6.params[j]? = some t → args[j]? = some v → Value.okWide Try.prog W .any base t v := hval0
  have hW' := hW
  obtain ⟨p, q, hA0, hV, rfl, _, _⟩ := hW
  have hA : DataW.TrodAll enc Try.prog W 0 (fun _ => true) true Try.f6.params.toList args.toList ds p := hA0
  rw [Try.params6] at hA hval
  obtain ⟨v0, d0, rfl, rfl, h0⟩ := trodAll_one hA
  obtain ⟨rfl, rfl⟩ := trodVars_none hV
  clear hA0 hval0
  simp only [List.append_nil] at hW'
  have hlt : ∀ x ∈ p, x.block < W.heap.size := fun x hx => by simpa using hW'.lt x hx
  have hlt0 := hlt
  have h0k := h0
  obtain ⟨fuel0, hf0⟩ := h0
  obtain ⟨q0, rfl, _⟩ := okWide_struct Try.underlying52 (hval 0 52 v0 rfl rfl)
  obtain ⟨u0, e0, hu0⟩ := Came.piece ⟨_, hf0⟩
  obtain rfl : q0 = (encF u0).toArray := by rw [← show q0.toList = encF u0 from e0]
  refine (FnExactLargestClear_ok (A := Amb.of W) hu0 W (St.nil (Amb.of_ok W))).mono fun e W' ⟨v, fs, he, hv, hs⟩ => ?_
  obtain ⟨rfl, rfl⟩ := hv
  subst he
  have hb := below_of hs
  exact ⟨_, rfl, ⟨_, _, _, [], _, [], hW', trodAll_mk1 (shut_bool Try.underlying4 _),
    trodAll_mk1 (Below.trod laidOut (by kernel_rfl) (of_decide_eq_true (by kernel_rfl)) h0k hb hlt0), rfl, hb.frame _, fun h => by cases h⟩⟩

theorem fnExactLargestClear_holds : Rows.FnExactLargestClearSaid :=
  OpenClaim.holds_of_wide 6 Try.f6 rfl rfl rfl rfl rfl rfl rfl ⟨rfl, rfl, rfl, rfl, rfl⟩ rfl rfl rfl rfl rfl (by kernel_rfl) Try.func6 (by kernel_rfl)
    (of_decide_eq_true (by kernel_rfl)) (by unfold Func.isWrapper; first | (rw [if_pos (by decide +kernel)]; kernel_rfl) | (rw [if_neg (by decide +kernel)]; exact ⟨rfl, rfl⟩))
    (fun os started H enc _ => fnExactLargestClear_lifted os started H enc)
#print axioms fnExactLargestClear_holds
end Go.Proofs.Ytnfnidplhkfamaa
