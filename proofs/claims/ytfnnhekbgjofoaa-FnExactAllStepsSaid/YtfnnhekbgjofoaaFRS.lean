/-
  What came in, opened: structs, lists of structs.
-/
import Derived.Test.YtfnnhekbgjofoaaFR
namespace Go.Proofs.Ytfnnhekbgjofoaa
open Go Go.ChangeShapes Go.WideShapes Go.ChangeAt Go.RowKit

set_option maxRecDepth 100000
section
variable {H : Type} {enc : TypeId × Value → H} {W : World} {m : Nat} {cs : List Value}
/-- these cells came in as a value of this type -/
def Came (enc : TypeId × Value → H) (W : World) (m : Nat) (t : TypeId) (cs : List Value) : Prop := ∃ y, DataW.trod enc Try.prog W 0 (fun _ => true) true m t cs = some y
theorem Came.int (h : Came enc W m 3 cs) : ∃ n : Int, cs = [vI n] ∧ I64 n := by
  obtain ⟨y, h⟩ := h
  obtain ⟨n, rfl, _, hw⟩ := DataW.trod_int Try.underlying3 h
  simp [Lit.wf, IntKind.min, IntKind.max, IntKind.signed, IntKind.bits] at hw
  exact ⟨n, rfl, by unfold I64; omega⟩
theorem Came.bool (h : Came enc W m 4 cs) : ∃ b : Bool, cs = [.bool b] := by
  obtain ⟨y, h⟩ := h
  obtain ⟨b, e, _⟩ := DataW.trod_bool Try.underlying4 h
  exact ⟨b, e⟩
theorem Came.fields {t : TypeId} {fs : Array Field} (ht : Try.prog.underlying t = some (.struct fs)) (h : Came enc W m t cs) :
    ∃ n, m = n + 1 ∧ cs.length = Try.prog.cellsOf t ∧ ∀ (i : Nat) (f : Field), fs[i]? = some f → Came enc W n f.type ((cs.drop f.offset).take (Try.prog.cellsOf f.type)) := by
  obtain ⟨y, h⟩ := h
  obtain ⟨xs, n, hm, _, hl, hx, hf⟩ := DataW.trod_struct ht h
  refine ⟨n, hm, hl, fun i f hi => ?_⟩
  have h1 := hf i f hi
  have hlt : i < xs.length := by rw [hx]; exact (Array.getElem?_eq_some_iff.1 hi).1
  rw [List.getElem?_eq_getElem hlt] at h1
  exact ⟨_, h1⟩
/-- a list that came in: each element's cells are told by en -/
theorem Came.slice {t e : TypeId} {k : Nat} {α : Type} {en : α → List Value} {wf : α → Prop} (ht : Try.prog.underlying t = some (.slice e)) (hk : Try.prog.cellsOf e = k) (hk0 : 0 < k)
    (he : ∀ n, n < m → ∀ cs, Came enc W n e cs → ∃ u : α, cs = en u ∧ wf u) (hen : ∀ u, (en u).length = k) (h : Came enc W m t cs) :
    ∃ a n c, cs = [.slice a n c] ∧ n ≤ 9223372036854775807 ∧ ∃ l : List α, (n ≤ 1048576 → RdL en k (hpOf W) (.slice a n c) l ∧ n = l.length) ∧ ∀ u ∈ l, wf u := by
  obtain ⟨y, h⟩ := h
  rcases DataW.trod_slice ht h with ⟨hcs, hx⟩ | ⟨a', n, c, elems, rest, q, hq, hcs, hx, _, hl, hm, hlen, hel, _, _⟩
  · exact ⟨none, 0, 0, hcs, by omega, [], fun _ => ⟨RdL.nil _ _ _ _, rfl⟩, by simp⟩
  · refine ⟨some a', n, c, hcs, by unfold maxLen at hm; omega, ?_⟩
    have each : ∀ i, i < n → ∃ u : α, wf u ∧ ∃ cs, W.cells? 0 (a'.add (i * k)) k = some cs ∧ cs = en u := by
      intro i hi
      have h1 := hel i hi
      rw [hk] at h1
      have h2 : elems[i]? = some elems[i] := List.getElem?_eq_getElem (by omega)
      rw [h2] at h1
      obtain ⟨cs, hc1, hc2⟩ := Option.bind_eq_some_iff.1 h1
      obtain ⟨u, hu1, hu2⟩ := he q (by omega) cs ⟨_, hc2⟩
      exact ⟨u, hu2, cs, hc1, hu1⟩
    have hlist : ∀ j, j ≤ n → ∃ l : List α, l.length = j ∧ (∀ u ∈ l, wf u) ∧ ∀ i u, l[i]? = some u → W.cells? 0 (a'.add (i * k)) k = some (en u) := by
      intro j
      induction j with
      | zero => intro _; exact ⟨[], rfl, by simp, by simp⟩
      | succ j ih =>
        intro hj
        obtain ⟨l, h1, h2, h3⟩ := ih (by omega)
        obtain ⟨u, hu, cs, hc1, rfl⟩ := each j (by omega)
        refine ⟨l ++ [u], by simp [h1], fun w hw => ?_, fun i w hi => ?_⟩
        · rcases List.mem_append.1 hw with hw | hw
          · exact h2 w hw
          · rw [List.mem_singleton.1 hw]; exact hu
        · rw [List.getElem?_append] at hi
          split at hi
          · exact h3 i w hi
          · have e : i = j := by
              have := (List.getElem?_eq_some_iff.1 hi).1
              simp at this; omega
            subst e
            rw [h1] at hi
            simp at hi
            subst hi; exact hc1
    obtain ⟨l, h1, h2, h3⟩ := hlist n (Nat.le_refl n)
    refine ⟨l, fun hn => ⟨⟨⟨some a', c, by rw [List.length_map, h1], by rw [List.length_map, h1]; omega, ?_⟩, fun cs hcs => by obtain ⟨y, _, rfl⟩ := List.mem_map.1 hcs; exact hen y⟩, h1.symm⟩, h2⟩
    by_cases hl0 : l = []
    · left; rw [hl0]; rfl
    · right
      obtain ⟨u0, hi0⟩ : ∃ u0 : α, l[0]? = some u0 := by
        cases l with
        | nil => exact absurd rfl hl0
        | cons u r => exact ⟨u, rfl⟩
      obtain ⟨b, off, spot⟩ := a'
      have hspot : spot = none := by
        have h4 := (World.cells?_some (h3 0 u0 hi0)).2.2 0 hk0
        have h5 : (en u0)[0]? = some ((en u0)[0]'(by rw [hen]; exact hk0)) := List.getElem?_eq_getElem _
        rw [h5] at h4
        have := World.cell?_spot h4
        unfold Addr.add at this
        split at this <;> simp_all
      subst hspot
      refine ⟨b, off, rfl, fun i cs j y h4 h5 => ?_⟩
      rw [List.getElem?_map] at h4
      obtain ⟨u, hu, rfl⟩ := Option.map_eq_some_iff.1 h4
      have hj : j < k := by have := (List.getElem?_eq_some_iff.1 h5).1; rw [hen] at this; exact this
      have h6 := (World.cells?_some (h3 i u hu)).2.2 j hj
      rw [add_lit, add_lit, h5] at h6
      exact h6
theorem cellsB : Try.prog.cellsOf 4 = 1 := by kernel_rfl
end
end Go.Proofs.Ytfnnhekbgjofoaa
