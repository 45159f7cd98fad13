/-
  More laws of lists: an element of several cells is stored as a whole.
-/
import Derived.Test.YtbgalcjkmgdaiaaLI
namespace Go.Proofs.Ytbgalcjkmgdaiaa
open Go
section
variable {P : Program} {T : TypeId} {ρ : Env} {A : Amb} {fs : List HProp}
variable {α : Type} {enc : α → List Value} {k : Nat} {l : List α} {a : Option Addr} {c : Nat}
theorem OpR.stG {X E : TypeId} {x y : Operand} {b off j : Nat} {u' : α} {f : List Value} [TySize P X k] (i : Nat) (hi : fs[i]? = some (LR enc E k a c l)) (ha : a = some ⟨b, 0, none⟩) (hx : ev ρ x = .pointer (some ⟨b, off, none⟩)) (hy : ev ρ y = .agg f.toArray)
    (hf : enc u' = f) (hlen : ∀ u, Nat.beq (enc u).length k = true) (h1 : f.all Value.oneCell' = true) (ho : off = 0 + j * k) (hj : j < l.length) :
    OpR P (.store X x y) T ρ A fs (fun v' fs' => v' = undef ∧ fs' = fs.set i (LR enc E k a c (l.set j u'))) := by
  obtain ⟨u, hu⟩ := someC hj
  have e1 : (enc u).length = k := Nat.eq_of_beq_eq_true (hlen u)
  have e2 : f.length = k := by rw [← hf]; exact Nat.eq_of_beq_eq_true (hlen u')
  refine OpR.stR i 0 hi ha hx hy hu ho (by simp [Value.cells, e2]) (by simpa [Value.cells] using h1) ?_ (by rw [e1]; simp [Nat.ble_eq])
  rw [hf]
  simp [Value.cells, e1]
end
/-- the first n numbers of a list of things of one kind, all alike -/
theorem take_rep {α : Type} {l : List α} {k : Nat} {u z : α} (hu : l[k]? = some u) : (l.take k ++ List.replicate (l.length - k) z).set k u = l.take (k + 1) ++ List.replicate (l.length - (k + 1)) z := by
  have h := ltC hu
  obtain ⟨m, hm⟩ : ∃ m, l.length = k + 1 + m := ⟨l.length - k - 1, by omega⟩
  rw [hm, takeC hu, show k + 1 + m - k = m + 1 by omega, show k + 1 + m - (k + 1) = m by omega, List.set_append_right _ _ (by simp; omega), List.replicate_succ]
  simp [show k - min k l.length = 0 by omega]
end Go.Proofs.Ytbgalcjkmgdaiaa
