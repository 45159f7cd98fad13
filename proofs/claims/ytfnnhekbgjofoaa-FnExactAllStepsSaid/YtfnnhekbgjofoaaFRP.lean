/-
  Plans that came in.
-/
import Derived.Test.YtfnnhekbgjofoaaFRS
import Derived.Test.YtfnnhekbgjofoaaEP1
namespace Go.Proofs.Ytfnnhekbgjofoaa
open Go Go.ChangeShapes Go.WideShapes Go.ChangeAt Go.RowKit

set_option maxRecDepth 100000
theorem cellsPl : Try.prog.cellsOf 47 = 5 := by kernel_rfl
theorem cellsPlS : Try.prog.cellsOf 45 = 1 := by kernel_rfl
theorem Came.plan {H : Type} {enc : TypeId × Value → H} {W : World} : ∀ (m : Nat) (cs : List Value), Came enc W m 47 cs → ∃ u : PE, cs = encP u ∧ PlF (hpOf W) u := by
  intro m
  induction m using Nat.strongRecOn with
  | _ m ih =>
    intro cs h
    obtain ⟨q, hq, hl, hf⟩ := h.fields Try.underlying47
    rw [cellsPl] at hl
    obtain ⟨x0, e0, w0⟩ := (hf 0 _ rfl).int
    obtain ⟨x1, e1, w1⟩ := (hf 1 _ rfl).int
    obtain ⟨x2, e2, w2⟩ := (hf 2 _ rfl).int
    obtain ⟨x3, e3⟩ := (hf 3 _ rfl).bool
    obtain ⟨a, n, c, e4, hn, l, h4, h5⟩ := (hf 4 _ rfl).slice (en := encP) (wf := PlF (hpOf W)) Try.underlying45 cellsPl (by decide) (fun r hr cs h => ih r (by omega) cs h) (fun _ => rfl)
    match cs, hl with
    | [c0, c1, c2, c3, c4], _ =>
      replace e0 : List.take (Try.prog.cellsOf 3) (List.drop 0 [c0, c1, c2, c3, c4]) = [vI x0] := e0
      replace e1 : List.take (Try.prog.cellsOf 3) (List.drop 1 [c0, c1, c2, c3, c4]) = [vI x1] := e1
      replace e2 : List.take (Try.prog.cellsOf 3) (List.drop 2 [c0, c1, c2, c3, c4]) = [vI x2] := e2
      replace e3 : List.take (Try.prog.cellsOf 4) (List.drop 3 [c0, c1, c2, c3, c4]) = [.bool x3] := e3
      replace e4 : List.take (Try.prog.cellsOf 45) (List.drop 4 [c0, c1, c2, c3, c4]) = [.slice a n c] := e4
      rw [cells3] at e0 e1 e2
      rw [cellsB] at e3
      rw [cellsPlS] at e4
      simp at e0 e1 e2 e3 e4
      subst e0 e1 e2 e3 e4
      exact ⟨⟨x0, x1, x2, x3, a, n, c⟩, rfl, .mk l w0 w1 w2 hn h4 h5⟩
end Go.Proofs.Ytfnnhekbgjofoaa
