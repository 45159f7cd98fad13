/-
  The given statement FnExactFewestSheetsSaid, proved: whatever the arguments, the law returns true, and the arguments read as they did.
-/
import Derived.Test.YtkojheinklgdeaaCF6
import Derived.Test.YtkojheinklgdeaaFRS
import Derived.Test.YtkojheinklgdeaaFR
namespace Go.Proofs.Ytkojheinklgdeaa
open Go Go.ChangeShapes Go.WideShapes Go.ChangeAt Go.RowKit

set_option maxRecDepth 100000 in
theorem fnExactFewestSheets_lifted (os : Os) (started : os.Started) (H : Type) (enc : TypeId × Value → H) :
    ReturnsInHanded {} Try.checked os 11 .any (Rows.fnExactFewestSheetsSpec.pre6 enc Try.prog Try.f11 Rows.fnExactFewestSheetsRow.domain false) (Rows.fnExactFewestSheetsSpec.post enc Try.prog Try.f11 false true false false) := by
  refine returnsInHanded_of_change (C := Try.checked) own started (by kernel_rfl) Try.func11
    (ChangeSpec.witness6 (enc := enc) (C := Try.checked) false ⟨#[], #[.agg #[.int .i64 0, .int .i64 0, .slice none 0 0]], []⟩ 8 (by kernel_rfl) (by kernel_rfl) (by kernel_rfl) (by kernel_rfl)) ?_
  intro W base args ds gs before hval0 hW _ _
  have hval : ∀ (j : Nat) t v, Try.f11.params[j]? = some t → args[j]? = some v → Value.okWide Try.prog W .any base t v := hval0
  have hW' := hW
  obtain ⟨p, q, hA0, hV, rfl, _, _⟩ := hW
  have hA : DataW.TrodAll enc Try.prog W 0 (fun _ => true) true Try.f11.params.toList args.toList ds p := hA0
  rw [Try.params11] at hA hval
  obtain ⟨v0, d0, rfl, rfl, h0⟩ := trodAll_one hA
  obtain ⟨rfl, rfl⟩ := trodVars_none hV
  clear hA0 hval0
  simp only [List.append_nil] at hW'
  have hlt : ∀ x ∈ p, x.block < W.heap.size := fun x hx => by simpa using hW'.lt x hx
  have hlt0 := hlt
  have h0k := h0
  obtain ⟨fuel0, hf0⟩ := h0
  obtain ⟨q0, rfl, _⟩ := okWide_struct Try.underlying42 (hval 0 42 v0 rfl rfl)
  obtain ⟨W0, H0, a0, n0, c0, e0, hW0, hH0, hn0, l0, hl0, hl0b⟩ := Came.work ⟨_, hf0⟩
  obtain rfl : q0 = ([vI W0, vI H0, .slice a0 n0 c0]).toArray := by rw [← show q0.toList = [vI W0, vI H0, .slice a0 n0 c0] from e0]
  refine (FnExactFewestSheets_ok (A := Amb.of W) hn0 hl0 W (St.nil (Amb.of_ok W))).mono fun e W' ⟨v, fs, he, hv, hs⟩ => ?_
  obtain ⟨rfl, rfl⟩ := hv
  subst he
  have hb := below_of hs
  exact ⟨_, rfl, ⟨_, _, _, [], _, [], hW', trodAll_mk1 (shut_bool Try.underlying4 _),
    trodAll_mk1 (Below.trod laidOut (by kernel_rfl) (of_decide_eq_true (by kernel_rfl)) h0k hb hlt0), rfl, hb.frame _, fun h => by cases h⟩⟩

theorem fnExactFewestSheets_holds : Rows.FnExactFewestSheetsSaid :=
  OpenClaim.holds_of_wide 11 Try.f11 rfl rfl rfl rfl rfl rfl rfl ⟨rfl, rfl, rfl, rfl, rfl⟩ rfl rfl rfl rfl rfl (by kernel_rfl) Try.func11 (by kernel_rfl)
    (of_decide_eq_true (by kernel_rfl)) (by unfold Func.isWrapper; first | (rw [if_pos (by decide +kernel)]; kernel_rfl) | (rw [if_neg (by decide +kernel)]; exact ⟨rfl, rfl⟩))
    (fun os started H enc _ => fnExactFewestSheets_lifted os started H enc)
#print axioms fnExactFewestSheets_holds
end Go.Proofs.Ytkojheinklgdeaa
