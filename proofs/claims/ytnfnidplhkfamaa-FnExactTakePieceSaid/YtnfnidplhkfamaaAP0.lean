/-
  Pieces put into a stock and taken out, in plain Lean.
-/
import Derived.Test.YtnfnidplhkfamaaPC5
namespace Go.Proofs.Ytnfnidplhkfamaa
open Go

def addL (p : Piece) : List Piece → List Piece
  | [] => [p]
  | x :: r => if p.l < x.l then p :: x :: r else x :: addL p r
theorem addL_len {p : Piece} : ∀ {L : List Piece}, (addL p L).length = L.length + 1
  | [] => rfl
  | x :: r => by
    rw [addL]
    split
    · simp
    · simp [addL_len (L := r)]
theorem addL_mem {p z : Piece} : ∀ {L : List Piece}, z ∈ addL p L ↔ z = p ∨ z ∈ L
  | [] => by simp [addL]
  | x :: r => by
    rw [addL]
    split
    · simp
    · simp only [List.mem_cons, addL_mem (L := r)]
      constructor
      · rintro (h | h | h)
        · exact .inr (.inl h)
        · exact .inl h
        · exact .inr (.inr h)
      · rintro (h | h | h)
        · exact .inr (.inl h)
        · exact .inl h
        · exact .inr (.inr h)
theorem stGo_add {p : Piece} (hp : pcOk p = true) : ∀ {L : List Piece} {b : Int}, stGo b L = true → b < p.l → (stGo b (addL p L) = true ↔ ∀ x ∈ L, x.l ≠ p.l)
  | [], b, _, hb => by simp [addL, stGo, hp, hb]
  | x :: r, b, h, hb => by
    simp only [stGo, Bool.and_eq_true, decide_eq_true_eq] at h
    obtain ⟨h1, h2, h3⟩ := h
    rw [addL]
    split
    · rename_i hlt
      constructor
      · intro _ y hy e
        rcases List.mem_cons.1 hy with rfl | hy
        · omega
        · have := (stGo_all h3 y hy).2; omega
      · intro _
        simp only [stGo, Bool.and_eq_true, decide_eq_true_eq]
        exact ⟨hp, hb, h1, hlt, h3⟩
    · rename_i hlt
      by_cases e : x.l = p.l
      · constructor
        · intro hs
          simp only [stGo, Bool.and_eq_true, decide_eq_true_eq] at hs
          have := (stGo_all hs.2.2 p (addL_mem.2 (.inl rfl))).2
          omega
        · intro hs
          exact absurd e (hs x (by simp))
      · have ih := stGo_add hp h3 (show x.l < p.l by omega)
        simp only [stGo, Bool.and_eq_true, decide_eq_true_eq]
        constructor
        · rintro ⟨_, _, hs⟩ y hy
          rcases List.mem_cons.1 hy with rfl | hy
          · exact e
          · exact ih.1 hs y hy
        · intro hs
          exact ⟨h1, h2, ih.2 fun y hy => hs y (by simp [hy])⟩
/-- the place of a label -/
def fnd (l : Int) : List Piece → Nat → Int
  | [], _ => -1
  | x :: r, k => if x.l = l then k else fnd l r (k + 1)
theorem fnd_neg {l : Int} : ∀ {L : List Piece} {k : Nat}, fnd l L k < 0 ↔ ∀ x ∈ L, x.l ≠ l
  | [], _ => by simp [fnd]
  | x :: r, k => by
    rw [fnd]
    split
    · rename_i e
      constructor
      · intro h; omega
      · intro h; exact absurd e (h x (by simp))
    · rename_i e
      rw [fnd_neg (L := r)]
      constructor
      · intro h y hy
        rcases List.mem_cons.1 hy with rfl | hy
        · exact e
        · exact h y hy
      · intro h y hy; exact h y (by simp [hy])
theorem fnd_at {l : Int} : ∀ {L : List Piece} {k : Nat}, ¬ fnd l L k < 0 → ∃ j x, fnd l L k = ((k + j : Nat) : Int) ∧ L[j]? = some x ∧ x.l = l
  | [], _, h => by simp [fnd] at h
  | x :: r, k, h => by
    rw [fnd] at h ⊢
    split
    · rename_i e
      exact ⟨0, x, rfl, rfl, e⟩
    · rename_i e
      rw [if_neg e] at h
      obtain ⟨j, y, h1, h2, h3⟩ := fnd_at h
      exact ⟨j + 1, y, by rw [h1]; omega, by simpa using h2, h3⟩
theorem fnd_add {p : Piece} : ∀ {L : List Piece} {k : Nat}, (∀ x ∈ L, x.l ≠ p.l) → ∃ j, fnd p.l (addL p L) k = ((k + j : Nat) : Int) ∧ (addL p L)[j]? = some p ∧ (addL p L).eraseIdx j = L
  | [], k, _ => ⟨0, by simp [addL, fnd], rfl, rfl⟩
  | x :: r, k, h => by
    rw [addL]
    split
    · exact ⟨0, by simp [fnd], rfl, rfl⟩
    · obtain ⟨j, h1, h2, h3⟩ := fnd_add (L := r) (k := k + 1) fun y hy => h y (by simp [hy])
      exact ⟨j + 1, by rw [fnd, if_neg (h x (by simp)), h1]; omega, by simpa using h2, by simp [h3]⟩
def sumA : List Piece → Int
  | [] => 0
  | x :: r => x.w * x.h + sumA r
theorem sumA_add {p : Piece} : ∀ {L : List Piece}, sumA (addL p L) = sumA L + p.w * p.h
  | [] => by simp [addL, sumA]
  | x :: r => by
    rw [addL]
    split
    · simp only [sumA]; omega
    · simp only [sumA, sumA_add (L := r)]; omega
theorem sumA_b : ∀ {L : List Piece} {b : Int}, stGo b L = true → 0 ≤ sumA L ∧ sumA L ≤ 40000 * L.length
  | [], _, _ => by simp [sumA]
  | x :: r, b, h => by
    simp only [stGo, Bool.and_eq_true, decide_eq_true_eq] at h
    have h1 := area_b h.1
    have h2 := sumA_b h.2.2
    simp only [sumA, List.length_cons]; omega
theorem sumA_append {L M : List Piece} : sumA (L ++ M) = sumA L + sumA M := by
  induction L with
  | nil => simp [sumA]
  | cons x r ih => simp only [List.cons_append, sumA, ih]; omega
def addB (L : List Piece) (p : Piece) : Bool := stOk L && (pcOk p && stOk (addL p L))
def addR (L : List Piece) (p : Piece) : List Piece := if addB L p = true then addL p L else []
theorem addB_iff {L : List Piece} {p : Piece} : addB L p = true ↔ stOk L = true ∧ pcOk p = true ∧ L.length ≠ 20 ∧ fnd p.l L 0 < 0 := by
  simp only [addB, Bool.and_eq_true]
  constructor
  · rintro ⟨h1, h2, h3⟩
    obtain ⟨a1, a2⟩ := stOk_iff.1 h1
    obtain ⟨b1, b2⟩ := stOk_iff.1 h3
    rw [addL_len] at b1
    exact ⟨h1, h2, by omega, fnd_neg.2 ((stGo_add h2 a2 (by have := (pcOk_iff.1 h2).1; omega)).1 b2)⟩
  · rintro ⟨h1, h2, h3, h4⟩
    obtain ⟨a1, a2⟩ := stOk_iff.1 h1
    exact ⟨h1, h2, stOk_iff.2 ⟨by rw [addL_len]; omega, (stGo_add h2 a2 (by have := (pcOk_iff.1 h2).1; omega)).2 (fnd_neg.1 h4)⟩⟩
def zeroP : Piece := ⟨0, 0, 0, []⟩
def takB (L : List Piece) (l : Int) : Bool := stOk L && !decide (fnd l L 0 < 0)
def takP (L : List Piece) (l : Int) : Piece := if takB L l = true then L.getD (fnd l L 0).toNat zeroP else zeroP
def takR (L : List Piece) (l : Int) : List Piece := if takB L l = true then L.eraseIdx (fnd l L 0).toNat else []
theorem tak_add {L : List Piece} {p : Piece} (h : addB L p = true) : takB (addL p L) p.l = true ∧ takP (addL p L) p.l = p ∧ takR (addL p L) p.l = L := by
  have h2 := h
  simp only [addB, Bool.and_eq_true] at h2
  obtain ⟨h3, h4, h5, h6⟩ := addB_iff.1 h
  obtain ⟨j, e1, e2, e3⟩ := fnd_add (k := 0) (fnd_neg.1 h6)
  have hb : takB (addL p L) p.l = true := by rw [takB, h2.2.2, decide_eq_false (by omega)]; rfl
  refine ⟨hb, ?_, ?_⟩
  · rw [takP, if_pos hb, e1, List.getD_eq_getElem?_getD, show ((0 + j : Nat) : Int).toNat = j by omega, e2]; rfl
  · rw [takR, if_pos hb, e1, show ((0 + j : Nat) : Int).toNat = j by omega, e3]
end Go.Proofs.Ytnfnidplhkfamaa
