/-
  Lists of jobs that came in.
-/
import Derived.Test.YtbgalcjkmgdaiaaFR
import Derived.Test.YtbgalcjkmgdaiaaJ1
namespace Go.Proofs.Ytbgalcjkmgdaiaa
open Go Go.ChangeShapes Go.WideShapes Go.ChangeAt Go.RowKit

/-- a list of structs that came in: each element's cells are told by enc -/
theorem structs_of {H : Type} {enc : TypeId × Value → H} {W : World} {a : Option Addr} {n c fuel k : Nat} {x : DataW H × List MemPlace} {t e : TypeId} {α : Type} {en : α → List Value} {wf : α → Prop} (ht : Try.prog.underlying t = some (.slice e)) (hk : Try.prog.cellsOf e = k) (hk0 : 0 < k)
    (he : ∀ (m : Nat) (cs : List Value) (y : DataW H × List MemPlace), DataW.trod enc Try.prog W 0 (fun _ => true) true m e cs = some y → ∃ u : α, cs = en u ∧ wf u) (hen : ∀ u, (en u).length = k)
    (h : DataW.trod enc Try.prog W 0 (fun _ => true) true fuel t (Value.slice a n c).cells.toList = some x) :
    n ≤ 9223372036854775807 ∧ ∃ l : List α, (n ≤ 1048576 → RdL en k (hpOf W) (.slice a n c) l ∧ n = l.length) ∧ ∀ u ∈ l, wf u := by
  rcases DataW.trod_slice ht h with ⟨hcs, hx⟩ | ⟨a', len, cap, elems, rest, m, _, hcs, hx, _, hl, hm, hlen, hel, _, _⟩
  · simp [Value.cells] at hcs
    obtain ⟨rfl, rfl, rfl⟩ := hcs
    exact ⟨by omega, [], fun _ => ⟨RdL.nil _ _ _ _, rfl⟩, by simp⟩
  · simp [Value.cells] at hcs
    obtain ⟨rfl, rfl, rfl⟩ := hcs
    have hcap : n ≤ 9223372036854775807 := by unfold maxLen at hm; omega
    refine ⟨hcap, ?_⟩
    have each : ∀ i, i < n → ∃ u : α, wf u ∧ ∃ cs, W.cells? 0 (a'.add (i * k)) k = some cs ∧ cs = en u := by
      intro i hi
      have h1 := hel i hi
      rw [hk] at h1
      have h2 : elems[i]? = some elems[i] := List.getElem?_eq_getElem (by omega)
      rw [h2] at h1
      obtain ⟨cs, hc1, hc2⟩ := Option.bind_eq_some_iff.1 h1
      obtain ⟨u, hu1, hu2⟩ := he m cs _ hc2
      exact ⟨u, hu2, cs, hc1, hu1⟩
    have hlist : ∀ j, j ≤ n → ∃ l : List α, l.length = j ∧ (∀ u ∈ l, wf u) ∧ ∀ i u, l[i]? = some u → W.cells? 0 (a'.add (i * k)) k = some (en u) := by
      intro j
      induction j with
      | zero => intro _; exact ⟨[], rfl, by simp, by simp⟩
      | succ j ih =>
        intro hj
        obtain ⟨l, h1, h2, h3⟩ := ih (by omega)
        obtain ⟨u, hu, cs, hc1, rfl⟩ := each j (by omega)
        refine ⟨l ++ [u], by simp [h1], fun w hw => ?_, fun i w hi => ?_⟩
        · rcases List.mem_append.1 hw with hw | hw
          · exact h2 w hw
          · rw [List.mem_singleton.1 hw]; exact hu
        · rw [List.getElem?_append] at hi
          split at hi
          · exact h3 i w hi
          · have e : i = j := by
              have := (List.getElem?_eq_some_iff.1 hi).1
              simp at this; omega
            subst e
            rw [h1] at hi
            simp at hi
            subst hi; exact hc1
    obtain ⟨l, h1, h2, h3⟩ := hlist n (Nat.le_refl n)
    refine ⟨l, fun hn => ⟨⟨⟨some a', c, by rw [List.length_map, h1], by rw [List.length_map, h1]; omega, ?_⟩, fun cs hcs => by obtain ⟨y, _, rfl⟩ := List.mem_map.1 hcs; exact hen y⟩, h1.symm⟩, h2⟩
    by_cases hl0 : l = []
    · left; rw [hl0]; rfl
    · right
      obtain ⟨u0, hi0⟩ : ∃ u0 : α, l[0]? = some u0 := by
        cases l with
        | nil => exact absurd rfl hl0
        | cons u r => exact ⟨u, rfl⟩
      obtain ⟨b, off, spot⟩ := a'
      have hspot : spot = none := by
        have h4 := (World.cells?_some (h3 0 u0 hi0)).2.2 0 hk0
        have h5 : (en u0)[0]? = some ((en u0)[0]'(by rw [hen]; exact hk0)) := List.getElem?_eq_getElem _
        rw [h5] at h4
        have := World.cell?_spot h4
        unfold Addr.add at this
        split at this <;> simp_all
      subst hspot
      refine ⟨b, off, rfl, fun i cs j y h4 h5 => ?_⟩
      rw [List.getElem?_map] at h4
      obtain ⟨u, hu, rfl⟩ := Option.map_eq_some_iff.1 h4
      have hj : j < k := by have := (List.getElem?_eq_some_iff.1 h5).1; rw [hen] at this; exact this
      have h6 := (World.cells?_some (h3 i u hu)).2.2 j hj
      rw [add_lit, add_lit, h5] at h6
      exact h6
/-- an int of a struct -/
theorem int_cell {H : Type} {enc : TypeId × Value → H} {W : World} {m : Nat} {cs : List Value} {y : DataW H × List MemPlace} (h : DataW.trod enc Try.prog W 0 (fun _ => true) true m 3 cs = some y) : ∃ n : Int, cs = [vI n] ∧ I64 n := by
  obtain ⟨n, rfl, _, hw⟩ := DataW.trod_int Try.underlying3 h
  simp [Lit.wf, IntKind.min, IntKind.max, IntKind.signed, IntKind.bits] at hw
  exact ⟨n, rfl, by unfold I64; omega⟩
theorem cellsJ : Try.prog.cellsOf 65 = 2 := by kernel_rfl
theorem jobs_of {H : Type} {enc : TypeId × Value → H} {W : World} {a : Option Addr} {n c fuel : Nat} {x : DataW H × List MemPlace}
    (h : DataW.trod enc Try.prog W 0 (fun _ => true) true fuel 42 (Value.slice a n c).cells.toList = some x) :
    n ≤ 9223372036854775807 ∧ ∃ l : List Job, (n ≤ 1048576 → RdL Job.enc 2 (hpOf W) (.slice a n c) l ∧ n = l.length) ∧ ∀ u ∈ l, I64 u.Cut ∧ I64 u.Heat := by
  refine structs_of Try.underlying42 cellsJ (by decide) (fun m cs y hy => ?_) (fun u => rfl) h
  obtain ⟨xs, n', _, _, hl, hxl, hf⟩ := DataW.trod_struct Try.underlying65 hy
  rw [cellsJ] at hl
  have hx2 : xs.length = 2 := hxl
  have f0 := hf 0 _ rfl
  have f1 := hf 1 _ rfl
  rw [List.getElem?_eq_getElem (by omega)] at f0 f1
  obtain ⟨x0, e0, w0⟩ := int_cell f0
  obtain ⟨x1, e1, w1⟩ := int_cell f1
  match cs, hl with
  | [c0, c1], _ =>
    replace e0 : List.take (Try.prog.cellsOf 3) (List.drop 0 [c0, c1]) = [vI x0] := e0
    replace e1 : List.take (Try.prog.cellsOf 3) (List.drop 1 [c0, c1]) = [vI x1] := e1
    rw [cells3] at e0 e1
    simp at e0 e1
    subst e0 e1
    exact ⟨⟨x0, x1⟩, rfl, w0, w1⟩
end Go.Proofs.Ytbgalcjkmgdaiaa
