/-
  From contracts to the given statements: what a contract says of old memory; a code that came in.
-/
import Derived.Test.YtolhdpjhibgfiaaG5
import Derived.Test.YtolhdpjhibgfiaaRows
import Derived.WalkKit
import Derived.ProofKit
import Derived.OpenShut
namespace Go.Proofs.Ytolhdpjhibgfiaa
open Go Go.ChangeShapes Go.WideShapes Go.ChangeAt Go.RowKit

theorem own : ownKnob Try.prog.godebug = none := by kernel_rfl
theorem laidOut : laidOutB Try.prog = true := by kernel_rfl
theorem below_of {W W' : World} {fs : List HProp} (s : St (Amb.of W) W' fs) : Below W.heap.size W W' := by
  obtain ⟨⟨h1, h2, h3, h4⟩, _⟩ := s
  have hb : ∀ k, k < W.heap.size → W'.heap[k]? = W.heap[k]? := fun k hk => by
    have e : W.heap[k]? = some W.heap[k] := Array.getElem?_eq_getElem hk
    rw [e]; exact h1 k _ e
  refine ⟨h2, h3, h4, ?_, hb⟩
  rcases Nat.eq_zero_or_pos W.heap.size with e | e
  · omega
  · have := hb (W.heap.size - 1) (by omega)
    rw [Array.getElem?_eq_getElem (show W.heap.size - 1 < W.heap.size by omega)] at this
    have := (Array.getElem?_eq_some_iff.1 this).1
    omega
theorem cells22 : Try.prog.cellsOf 5 = 1 := by kernel_rfl
theorem code_of {H : Type} {enc : TypeId × Value → H} {W : World} {a : Option Addr} {n c fuel : Nat} {x : DataW H × List MemPlace}
    (h : DataW.trod enc Try.prog W 0 (fun _ => true) true fuel 22 (Value.slice a n c).cells.toList = some x) : Code (hpOf W) a n c := by
  rcases open_ints Try.underlying22 Try.underlying5 cells22 h with ⟨hcs, hx⟩ | ⟨a', len, cap, zs, hcs, _, hl, hm, hz, hx, hcell, hwz⟩
  · simp [Value.cells] at hcs
    obtain ⟨rfl, rfl, rfl⟩ := hcs
    exact ⟨.inl rfl, Nat.le_refl _, fun _ _ => rfl, fun _ q e => by cases e⟩
  · simp [Value.cells] at hcs
    obtain ⟨rfl, rfl, rfl⟩ := hcs
    simp only [if_true] at hz
    refine ⟨?_, hl, fun _ e => (by cases e), fun h0 q e => ?_⟩
    · rcases Nat.eq_zero_or_pos n with e | e
      · exact .inl e
      · right
        obtain ⟨b, off, spot⟩ := a'
        have hspot : spot = none := by simpa [Addr.add] using World.cell?_spot (hcell 0 (by omega))
        subst hspot
        refine ⟨b, off, rfl, fun i hi => ?_⟩
        have hi2 : i < zs.length := by omega
        have hw := hwz zs[i] (List.getElem_mem _)
        have hc := hcell i hi2
        rw [List.getD_eq_getElem?_getD, List.getElem?_eq_getElem hi2, Option.getD_some, add_lit] at hc
        simp [Lit.wf, IntKind.min, IntKind.max, IntKind.signed, IntKind.bits] at hw
        exact ⟨zs[i], by omega, by omega, by rw [Nat.mul_one]; exact hc⟩
    · cases e
      simpa [Addr.add] using World.cell?_spot (hcell 0 (by omega))
end Go.Proofs.Ytolhdpjhibgfiaa
