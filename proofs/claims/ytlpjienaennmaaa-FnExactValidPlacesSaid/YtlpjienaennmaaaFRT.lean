/-
  Places that came in.
-/
import Derived.Test.YtlpjienaennmaaaFRS
import Derived.Test.YtlpjienaennmaaaPL1
namespace Go.Proofs.Ytlpjienaennmaaa
open Go Go.ChangeShapes Go.WideShapes Go.ChangeAt Go.RowKit
set_option maxRecDepth 100000

theorem cellsPc : Try.prog.cellsOf 113 = 6 := by kernel_rfl
theorem Came.place {H : Type} {enc : TypeId × Value → H} {W : World} {m : Nat} {cs : List Value} (h : Came enc W m 113 cs) : ∃ u : Plc, cs = encPl u ∧ True := by
  obtain ⟨n, _, hl, hf⟩ := h.fields Try.underlying113
  rw [cellsPc] at hl
  obtain ⟨x0, e0, w0⟩ := (hf 0 _ rfl).int
  obtain ⟨x1, e1⟩ := (hf 1 _ rfl).bool
  obtain ⟨b, e2, _⟩ := Came.box (hf 2 _ rfl)
  match cs, hl with
  | [c0, c1, c2, c3, c4, c5], _ =>
    replace e0 : List.take (Try.prog.cellsOf 3) (List.drop 0 [c0, c1, c2, c3, c4, c5]) = [vI x0] := e0
    replace e1 : List.take (Try.prog.cellsOf 4) (List.drop 1 [c0, c1, c2, c3, c4, c5]) = [.bool x1] := e1
    replace e2 : List.take (Try.prog.cellsOf 111) (List.drop 2 [c0, c1, c2, c3, c4, c5]) = [vI b.X, vI b.Y, vI b.W, vI b.H] := e2
    rw [cells3] at e0
    rw [cellsB] at e1
    rw [cellsBx] at e2
    simp at e0 e1 e2
    obtain ⟨h1, h2, h3, h4⟩ := e2
    subst e0 e1 h1 h2 h3 h4
    exact ⟨⟨x0, x1, b⟩, rfl, trivial⟩
theorem Came.places {H : Type} {enc : TypeId × Value → H} {W : World} {m : Nat} {cs : List Value} (h : Came enc W m 71 cs) : ∃ a n c, cs = [.slice a n c] ∧ n ≤ 9223372036854775807 ∧ ∃ l : List Plc, (n ≤ 1048576 → RdL encPl 6 (hpOf W) (.slice a n c) l ∧ n = l.length) ∧ ∀ u ∈ l, True :=
  h.slice Try.underlying71 cellsPc (by decide) (fun _ _ _ h => h.place) (fun _ => rfl)
end Go.Proofs.Ytlpjienaennmaaa
