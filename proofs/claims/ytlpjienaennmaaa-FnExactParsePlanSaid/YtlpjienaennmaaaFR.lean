/-
  From contracts to the given statements: what a contract says of old memory; a code that came in.
-/
import Derived.Test.YtlpjienaennmaaaRD
import Derived.Test.YtlpjienaennmaaaRows
import Derived.WalkKit
import Derived.ProofKit
import Derived.OpenShut
namespace Go.Proofs.Ytlpjienaennmaaa
open Go Go.ChangeShapes Go.WideShapes Go.ChangeAt Go.RowKit

theorem own : ownKnob Try.prog.godebug = none := by kernel_rfl
theorem laidOut : laidOutB Try.prog = true := by kernel_rfl
theorem below_of {W W' : World} {fs : List HProp} (s : St (Amb.of W) W' fs) : Below W.heap.size W W' := by
  obtain ⟨⟨h1, h2, h3, h4⟩, _⟩ := s
  have hb : ∀ k, k < W.heap.size → W'.heap[k]? = W.heap[k]? := fun k hk => by
    have e : W.heap[k]? = some W.heap[k] := Array.getElem?_eq_getElem hk
    rw [e]; exact h1 k _ e
  refine ⟨h2, h3, h4, ?_, hb⟩
  rcases Nat.eq_zero_or_pos W.heap.size with e | e
  · omega
  · have := hb (W.heap.size - 1) (by omega)
    rw [Array.getElem?_eq_getElem (show W.heap.size - 1 < W.heap.size by omega)] at this
    have := (Array.getElem?_eq_some_iff.1 this).1
    omega
theorem cells22 : Try.prog.cellsOf 5 = 1 := by kernel_rfl
theorem code_of {H : Type} {enc : TypeId × Value → H} {W : World} {a : Option Addr} {n c fuel : Nat} {x : DataW H × List MemPlace}
    (h : DataW.trod enc Try.prog W 0 (fun _ => true) true fuel 22 (Value.slice a n c).cells.toList = some x) : Code (hpOf W) a n c := by
  rcases open_ints Try.underlying22 Try.underlying5 cells22 h with ⟨hcs, hx⟩ | ⟨a', len, cap, zs, hcs, _, hl, hm, hz, hx, hcell, hwz⟩
  · simp [Value.cells] at hcs
    obtain ⟨rfl, rfl, rfl⟩ := hcs
    exact ⟨.inl rfl, Nat.le_refl _, fun _ _ => rfl, fun _ q e => by cases e⟩
  · simp [Value.cells] at hcs
    obtain ⟨rfl, rfl, rfl⟩ := hcs
    simp only [if_true] at hz
    refine ⟨?_, hl, fun _ e => (by cases e), fun h0 q e => ?_⟩
    · rcases Nat.eq_zero_or_pos n with e | e
      · exact .inl e
      · right
        obtain ⟨b, off, spot⟩ := a'
        have hspot : spot = none := by simpa [Addr.add] using World.cell?_spot (hcell 0 (by omega))
        subst hspot
        refine ⟨b, off, rfl, fun i hi => ?_⟩
        have hi2 : i < zs.length := by omega
        have hw := hwz zs[i] (List.getElem_mem _)
        have hc := hcell i hi2
        rw [List.getD_eq_getElem?_getD, List.getElem?_eq_getElem hi2, Option.getD_some, add_lit] at hc
        simp [Lit.wf, IntKind.min, IntKind.max, IntKind.signed, IntKind.bits] at hw
        exact ⟨zs[i], by omega, by omega, by rw [Nat.mul_one]; exact hc⟩
    · cases e
      simpa [Addr.add] using World.cell?_spot (hcell 0 (by omega))
theorem cells3 : Try.prog.cellsOf 3 = 1 := by kernel_rfl
/-- a list of numbers that came in -/
theorem ints_of {H : Type} {enc : TypeId × Value → H} {W : World} {a : Option Addr} {n c fuel : Nat} {x : DataW H × List MemPlace}
    (h : DataW.trod enc Try.prog W 0 (fun _ => true) true fuel 31 (Value.slice a n c).cells.toList = some x) : ∃ l : List Int, (n ≤ 1048576 → RdL encI 1 (hpOf W) (.slice a n c) l ∧ n = l.length) ∧ ∀ u ∈ l, I64 u := by
  rcases open_ints Try.underlying31 Try.underlying3 cells3 h with ⟨hcs, hx⟩ | ⟨a', len, cap, zs, hcs, _, hl, hm, hz, hx, hcell, hwz⟩
  · simp [Value.cells] at hcs
    obtain ⟨rfl, rfl, rfl⟩ := hcs
    exact ⟨[], fun _ => ⟨RdL.nil _ _ _ _, rfl⟩, by simp⟩
  · simp [Value.cells] at hcs
    obtain ⟨rfl, rfl, rfl⟩ := hcs
    simp only [if_true] at hz
    have hlen : (zs.take n).length = n := by simp; omega
    refine ⟨zs.take n, fun hn => ⟨⟨⟨some a', c, by rw [List.length_map, hlen], by rw [List.length_map, hlen]; omega, ?_⟩, fun cs hcs => by obtain ⟨y, _, rfl⟩ := List.mem_map.1 hcs; rfl⟩, hlen.symm⟩, fun u hu => ?_⟩
    · rcases Nat.eq_zero_or_pos n with e | e
      · left; rw [e]; simp
      · right
        obtain ⟨b, off, spot⟩ := a'
        have hspot : spot = none := by simpa [Addr.add] using World.cell?_spot (hcell 0 (by omega))
        subst hspot
        refine ⟨b, off, rfl, fun i cs j y h1 h2 => ?_⟩
        rw [List.getElem?_map] at h1
        obtain ⟨u, hu, rfl⟩ := Option.map_eq_some_iff.1 h1
        have hi := ltC hu
        rw [hlen] at hi
        rw [List.getElem?_take, if_pos hi] at hu
        have hj : j = 0 := by have := (List.getElem?_eq_some_iff.1 h2).1; simp at this; exact this
        subst hj
        cases h2
        have hc := hcell i (by omega)
        rw [List.getD_eq_getElem?_getD, hu, Option.getD_some, add_lit] at hc
        rw [Nat.mul_one, Nat.add_zero]; exact hc
    · have hw := hwz u (List.mem_of_mem_take hu)
      simp [Lit.wf, IntKind.min, IntKind.max, IntKind.signed, IntKind.bits] at hw
      unfold I64; omega
end Go.Proofs.Ytlpjienaennmaaa
