/-
  Contracts: copies of lists of numbers, marks in them.
-/
import Derived.Test.YtlpjienaennmaaaA1
namespace Go.Proofs.Ytlpjienaennmaaa
open Go
set_option maxRecDepth 20000
set_option maxHeartbeats 1000000

theorem take_set {α : Type} {l : List α} {k : Nat} {u z : α} (hu : l[k]? = some u) : (l.take k ++ List.replicate (l.length - k) z).set k u = l.take (k + 1) ++ List.replicate (l.length - (k + 1)) z := by
  have h := ltC hu
  obtain ⟨m, hm⟩ : ∃ m, l.length = k + 1 + m := ⟨l.length - k - 1, by omega⟩
  rw [hm, takeC hu, show k + 1 + m - k = m + 1 by omega, show k + 1 + m - (k + 1) = m by omega, List.set_append_right _ _ (by simp; omega), List.replicate_succ]
  simp [show k - min k l.length = 0 by omega]
/-- numbers that ascend from q on -/
def marks (q : Int) (n : Nat) : List Int := (List.range n).map fun (i : Nat) => q + (i : Int)
theorem marks_len (q : Int) (n : Nat) : (marks q n).length = n := by simp [marks]
theorem marks_succ (q : Int) (n : Nat) : marks q (n + 1) = marks q n ++ [q + n] := by simp [marks, List.range_succ]
theorem marks_get {q : Int} {n i : Nat} (h : i < n) : (marks q n)[i]? = some (q + i) := by simp [marks, h]
theorem marks_set {q : Int} {l : List Int} {k : Nat} (h : k < l.length) : (marks q k ++ l.drop k).set k (q + k) = marks q (k + 1) ++ l.drop (k + 1) := by
  obtain ⟨u, hu⟩ : ∃ u, l[k]? = some u := ⟨_, List.getElem?_eq_getElem h⟩
  rw [dropC hu, List.set_append_right _ _ (by rw [marks_len]; omega), marks_len, Nat.sub_self, List.set_cons_zero, marks_succ]
  simp
end Go.Proofs.Ytlpjienaennmaaa
