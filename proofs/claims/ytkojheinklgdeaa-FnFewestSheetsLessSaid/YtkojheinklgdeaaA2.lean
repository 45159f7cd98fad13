/-
  Sorting: insertion into a list, what Go's stable sort does on at most twenty numbers.
-/
import Derived.Test.YtkojheinklgdeaaA1
namespace Go.Proofs.Ytkojheinklgdeaa
open Go
set_option maxRecDepth 20000
set_option maxHeartbeats 1000000

/-- an element goes into a list that is told from its end -/
def ins (lt : Int → Int → Bool) (x : Int) : List Int → List Int
  | [] => [x]
  | y :: r => if lt x y = true then y :: ins lt x r else x :: y :: r
/-- elements go in one after the other -/
def insAll (lt : Int → Int → Bool) (p : List Int) : List Int → List Int
  | [] => p
  | x :: r => insAll lt (ins lt x p.reverse).reverse r
theorem ins_length (lt : Int → Int → Bool) (x : Int) (p : List Int) : (ins lt x p).length = p.length + 1 := by
  induction p with
  | nil => rfl
  | cons y r ih => simp only [ins]; split <;> simp [ih]
theorem ins_mem {lt : Int → Int → Bool} {x z : Int} {p : List Int} : z ∈ ins lt x p ↔ z = x ∨ z ∈ p := by
  induction p with
  | nil => simp [ins]
  | cons y r ih => simp only [ins]; split <;> simp [ih] <;> (try exact or_left_comm)
theorem insAll_length (lt : Int → Int → Bool) : ∀ (r p : List Int), (insAll lt p r).length = p.length + r.length
  | [], p => rfl
  | x :: r, p => by simp only [insAll, insAll_length lt r, List.length_reverse, ins_length, List.length_cons]; omega
theorem insAll_mem {lt : Int → Int → Bool} {z : Int} : ∀ {r p : List Int}, z ∈ insAll lt p r ↔ z ∈ p ∨ z ∈ r
  | [], p => by simp [insAll]
  | x :: r, p => by
    rw [insAll, insAll_mem, List.mem_reverse, ins_mem, List.mem_reverse, List.mem_cons]
    exact ⟨fun h => h.elim (fun h => h.elim (fun h => .inr (.inl h)) .inl) (fun h => .inr (.inr h)), fun h => h.elim (fun h => .inl (.inr h)) (fun h => h.elim (fun h => .inl (.inl h)) .inr)⟩
/-- a function value compares numbers -/
def Cmp (A : Amb) (F : FuncId) (caps : List Value) (D : Int → Prop) (lt : Int → Int → Bool) : Prop :=
  ∀ B : Amb, AmbLe A B → ∀ x y, D x → D y → Ctr Try.prog F ([vI x, vI y] ++ caps).toArray B [] (fun v gs => ∃ c, v = vI c ∧ gs = [] ∧ (c < 0 ↔ lt x y = true))
theorem Cmp.up {A B : Amb} [h : AmbLe A B] {F : FuncId} {caps : List Value} {D : Int → Prop} {lt : Int → Int → Bool} (c : Cmp A F caps D lt) : Cmp B F caps D lt := fun C hC => c C ⟨h.le.trans hC.le, hC.os.trans h.os, hC.tape.trans h.tape, hC.out.trans h.out⟩
theorem ins_step {lt : Int → Int → Bool} {p : List Int} {x y : Int} {j : Nat} (hj : 0 < j) (hy : p[j - 1]? = some y) (h : lt x y = true) :
    (ins lt x (p.take j).reverse).reverse ++ p.drop j = (ins lt x (p.take (j - 1)).reverse).reverse ++ p.drop (j - 1) := by
  obtain ⟨i, rfl⟩ : ∃ i, j = i + 1 := ⟨j - 1, by omega⟩
  simp only [Nat.add_sub_cancel] at hy ⊢
  rw [takeC hy, List.reverse_append, List.reverse_singleton, List.singleton_append, ins, if_pos h, dropC hy]
  simp
theorem ins_stop {lt : Int → Int → Bool} {p : List Int} {x y : Int} {j : Nat} (hj : 0 < j) (hy : p[j - 1]? = some y) (h : ¬ lt x y = true) :
    (ins lt x (p.take j).reverse).reverse ++ p.drop j = p.take j ++ x :: p.drop j := by
  obtain ⟨i, rfl⟩ : ∃ i, j = i + 1 := ⟨j - 1, by omega⟩
  simp only [Nat.add_sub_cancel] at hy ⊢
  rw [takeC hy, List.reverse_append, List.reverse_singleton, List.singleton_append, ins, if_neg h]
  simp
theorem ins_zero {lt : Int → Int → Bool} {p : List Int} {x : Int} : (ins lt x (p.take 0).reverse).reverse ++ p.drop 0 = p.take 0 ++ x :: p.drop 0 := by simp [ins]
theorem ins_full {lt : Int → Int → Bool} {p : List Int} {x : Int} : (ins lt x (p.take p.length).reverse).reverse ++ p.drop p.length = (ins lt x p.reverse).reverse := by simp
/-- x at its place among p -/
def midL (p : List Int) (x : Int) (s : List Int) (j : Nat) : List Int := p.take j ++ x :: (p.drop j ++ s)
theorem midL_length {p s : List Int} {x : Int} {j : Nat} (h : j ≤ p.length) : (midL p x s j).length = p.length + 1 + s.length := by simp [midL]; omega
theorem midL_at {p s : List Int} {x : Int} {j : Nat} (h : j ≤ p.length) : (midL p x s j)[j]? = some x := by
  unfold midL
  rw [List.getElem?_append_right (by simp; omega)]
  simp [Nat.min_eq_left h]
theorem midL_before {p s : List Int} {x : Int} {j i : Nat} (h : i < j) (h2 : j ≤ p.length) : (midL p x s j)[i]? = p[i]? := by
  unfold midL
  rw [List.getElem?_append_left (by simp; omega), List.getElem?_take, if_pos h]
theorem midL_swap {p s : List Int} {x y : Int} {j : Nat} (hj : 0 < j) (h2 : j ≤ p.length) (hy : p[j - 1]? = some y) : ((midL p x s j).set j y).set (j - 1) x = midL p x s (j - 1) := by
  obtain ⟨i, rfl⟩ : ∃ i, j = i + 1 := ⟨j - 1, by omega⟩
  simp only [Nat.add_sub_cancel] at hy ⊢
  have e : p.take (i + 1) = p.take i ++ [y] := takeC hy
  have hl : (p.take i).length = i := by simp; omega
  unfold midL
  rw [e, dropC hy]
  apply List.ext_getElem?
  intro q
  simp only [List.getElem?_set, List.length_set, List.getElem?_append, List.length_append, hl, List.length_cons, List.length_nil]
  by_cases h1 : q < i
  · simp only [h1]; simp [show i ≠ q by omega, show i + 1 ≠ q by omega, show q < i + 1 by omega, h1, hl]
  · by_cases h3 : q = i
    · subst h3; simp; omega
    · by_cases h4 : q = i + 1
      · subst h4; simp [hl]
      · obtain ⟨t, rfl⟩ : ∃ t, q = i + 2 + t := ⟨q - i - 2, by omega⟩
        simp [show i ≠ i + 2 + t by omega, show i + 1 ≠ i + 2 + t by omega, show ¬ i + 2 + t < i + 1 by omega, show ¬ i + 2 + t < i by omega, show i + 2 + t - (i + 1) = t + 1 by omega, show i + 2 + t - i = t + 2 by omega]
end Go.Proofs.Ytkojheinklgdeaa
