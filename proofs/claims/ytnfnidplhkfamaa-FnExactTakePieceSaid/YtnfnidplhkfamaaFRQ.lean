/-
  Pieces and stocks that came in.
-/
import Derived.Test.YtnfnidplhkfamaaFRS
import Derived.Test.YtnfnidplhkfamaaEC1
namespace Go.Proofs.Ytnfnidplhkfamaa
open Go Go.ChangeShapes Go.WideShapes Go.ChangeAt Go.RowKit
set_option maxRecDepth 100000

theorem cellsPi : Try.prog.cellsOf 52 = 4 := by kernel_rfl
theorem cellsBxS : Try.prog.cellsOf 50 = 1 := by kernel_rfl
theorem Came.piece {H : Type} {enc : TypeId × Value → H} {W : World} {m : Nat} {cs : List Value} (h : Came enc W m 52 cs) : ∃ u : QF, cs = encF u ∧ QfOk (hpOf W) u := by
  obtain ⟨n, _, hl, hf⟩ := h.fields Try.underlying52
  rw [cellsPi] at hl
  obtain ⟨x0, e0, w0⟩ := (hf 0 _ rfl).int
  obtain ⟨x1, e1, w1⟩ := (hf 1 _ rfl).int
  obtain ⟨x2, e2, w2⟩ := (hf 2 _ rfl).int
  obtain ⟨a, k, c, e3, hn, l, h3, _⟩ := Came.boxes (hf 3 _ rfl)
  match cs, hl with
  | [c0, c1, c2, c3], _ =>
    replace e0 : List.take (Try.prog.cellsOf 3) (List.drop 0 [c0, c1, c2, c3]) = [vI x0] := e0
    replace e1 : List.take (Try.prog.cellsOf 3) (List.drop 1 [c0, c1, c2, c3]) = [vI x1] := e1
    replace e2 : List.take (Try.prog.cellsOf 3) (List.drop 2 [c0, c1, c2, c3]) = [vI x2] := e2
    replace e3 : List.take (Try.prog.cellsOf 50) (List.drop 3 [c0, c1, c2, c3]) = [.slice a k c] := e3
    rw [cells3] at e0 e1 e2
    rw [cellsBxS] at e3
    simp at e0 e1 e2 e3
    subst e0 e1 e2 e3
    exact ⟨⟨x0, x1, x2, a, k, c, l⟩, rfl, w0, w1, w2, hn, h3⟩
theorem Came.pieces {H : Type} {enc : TypeId × Value → H} {W : World} {m : Nat} {cs : List Value} (h : Came enc W m 58 cs) : ∃ a n c, cs = [.slice a n c] ∧ n ≤ 9223372036854775807 ∧ ∃ l : List QF, (n ≤ 1048576 → RdL encF 4 (hpOf W) (.slice a n c) l ∧ n = l.length) ∧ ∀ u ∈ l, QfOk (hpOf W) u :=
  h.slice Try.underlying58 cellsPi (by decide) (fun _ _ _ h => h.piece) (fun _ => rfl)
end Go.Proofs.Ytnfnidplhkfamaa
