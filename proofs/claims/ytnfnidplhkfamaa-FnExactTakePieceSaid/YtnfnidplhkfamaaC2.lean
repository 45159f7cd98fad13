/-
  How many points boxes have together, plainly: glass with a clear box has points that no flaw has.
-/
import Derived.Test.YtnfnidplhkfamaaC1
namespace Go.Proofs.Ytnfnidplhkfamaa
open Go

/-- how many numbers below n are meant -/
def cB (p : Nat → Bool) : Nat → Int
  | 0 => 0
  | n + 1 => cB p n + if p n = true then 1 else 0
theorem cB_le (p : Nat → Bool) : ∀ n, 0 ≤ cB p n ∧ cB p n ≤ n
  | 0 => by simp [cB]
  | n + 1 => by have := cB_le p n; simp only [cB]; split <;> omega
theorem cB_all {p : Nat → Bool} : ∀ {n : Nat}, (∀ i, i < n → p i = true) → cB p n = n
  | 0, _ => rfl
  | n + 1, h => by rw [cB, cB_all (fun i hi => h i (by omega)), if_pos (h n (by omega))]; omega
theorem cB_lt {p : Nat → Bool} : ∀ {n i : Nat}, i < n → p i = false → cB p n < n
  | n + 1, i, hi, h => by
    have := cB_le p n
    simp only [cB]
    by_cases e : i = n
    · subst e; rw [h]; simp; omega
    · have := cB_lt (n := n) (by omega) h
      split <;> omega
theorem cB_ext {p : Nat → Bool} {n : Nat} : ∀ {m : Nat}, n ≤ m → (∀ i, n ≤ i → i < m → p i = false) → cB p m = cB p n
  | 0, h, _ => by rw [show n = 0 by omega]
  | m + 1, h, hf => by
    by_cases e : n = m + 1
    · rw [e]
    · rw [cB, hf m (by omega) (by omega), cB_ext (by omega) (fun i h1 h2 => hf i h1 (by omega))]; simp
theorem cB_cong {p q : Nat → Bool} : ∀ {n : Nat}, (∀ i, i < n → p i = q i) → cB p n = cB q n
  | 0, _ => rfl
  | n + 1, h => by rw [cB, cB, cB_cong (fun i hi => h i (by omega)), h n (by omega)]
/-- how many of a list are true -/
def ctT : List Bool → Int
  | [] => 0
  | b :: r => (if b = true then 1 else 0) + ctT r
theorem ctT_append : ∀ a b : List Bool, ctT (a ++ b) = ctT a + ctT b
  | [], b => by simp [ctT]
  | x :: r, b => by simp only [List.cons_append, ctT, ctT_append r b]; omega
theorem ctT_range (p : Nat → Bool) : ∀ n, ctT ((List.range n).map p) = cB p n
  | 0 => rfl
  | n + 1 => by rw [List.range_succ, List.map_append, ctT_append, ctT_range p n]; simp [ctT, cB]
theorem ctT_le : ∀ l : List Bool, 0 ≤ ctT l ∧ ctT l ≤ l.length
  | [] => by simp [ctT]
  | x :: r => by have := ctT_le r; simp only [ctT, List.length_cons]; split <;> omega
theorem ctT_set : ∀ {l : List Bool} {j : Nat}, l[j]? = some false → ctT (l.set j true) = ctT l + 1
  | x :: r, 0, h => by
    simp at h; subst h; simp [ctT]; omega
  | x :: r, j + 1, h => by
    simp only [List.set_cons_succ, ctT]
    rw [ctT_set (l := r) (j := j) (by simpa using h)]; omega
def inP (f : Box) (x y : Int) : Bool := decide (f.X ≤ x) && (decide (x < f.X + f.W) && (decide (f.Y ≤ y) && decide (y < f.Y + f.H)))
theorem inP_iff {f : Box} {x y : Int} : inP f x y = true ↔ f.X ≤ x ∧ x < f.X + f.W ∧ f.Y ≤ y ∧ y < f.Y + f.H := by simp [inP]
/-- the points of a row that boxes have -/
def cvP (fl : List Box) (y : Int) (x : Nat) : Bool := fl.any fun f => inP f x y
def cvR (fl : List Box) (y : Int) : List Bool := (List.range 200).map (cvP fl y)
def cvA (fl : List Box) : Nat → Int
  | 0 => 0
  | n + 1 => cvA fl n + ctT (cvR fl n)
theorem cvA_le (fl : List Box) : ∀ n : Nat, 0 ≤ cvA fl n ∧ cvA fl n ≤ 200 * n
  | 0 => by simp [cvA]
  | n + 1 => by
    have h1 := cvA_le fl n
    have h2 := ctT_le (cvR fl n)
    simp only [cvR, List.length_map, List.length_range] at h2
    simp only [cvA, cvR] at *
    omega
theorem cvP_F {W H : Int} {fl : List Box} (hf : FlG W H fl) {y : Int} {x : Nat} (h : W ≤ x ∨ H ≤ y) : cvP fl y x = false := by
  refine Bool.eq_false_iff.2 fun e => ?_
  obtain ⟨f, h1, h2⟩ := List.any_eq_true.1 e
  obtain ⟨g1, g2, g3, g4, g5, g6⟩ := hf f h1
  obtain ⟨i1, i2, i3, i4⟩ := inP_iff.1 h2
  omega
theorem cvR_ct {W H : Int} {fl : List Box} (hf : FlG W H fl) {w : Nat} (hw : W = w) (hw2 : w ≤ 200) (y : Int) : ctT (cvR fl y) = cB (cvP fl y) w := by
  rw [cvR, ctT_range]
  exact cB_ext hw2 fun i h1 h2 => cvP_F hf (by omega)
theorem cvA_lo {W H : Int} {fl : List Box} (hf : FlG W H fl) {w : Nat} (hw : W = w) (hw2 : w ≤ 200) : ∀ n : Nat, cvA fl n ≤ n * w
  | 0 => by simp [cvA]
  | n + 1 => by
    have h1 := cvA_lo hf hw hw2 n
    have h2 := cB_le (cvP fl n) w
    rw [cvA, cvR_ct hf hw hw2]
    push_cast
    rw [Int.add_mul]
    omega
theorem cvA_full {W H : Int} {fl : List Box} (hf : FlG W H fl) {w : Nat} (hw : W = w) (hw2 : w ≤ 200) : ∀ n : Nat, (∀ (y x : Nat), y < n → x < w → cvP fl y x = true) → cvA fl n = n * w
  | 0, _ => by simp [cvA]
  | n + 1, h => by
    rw [cvA, cvR_ct hf hw hw2, cvA_full hf hw hw2 n (fun y x h1 h2 => h y x (by omega) h2), cB_all (fun i hi => h n i (by omega) hi)]
    push_cast
    rw [Int.add_mul]
    omega
theorem cvA_lt {W H : Int} {fl : List Box} (hf : FlG W H fl) {w : Nat} (hw : W = w) (hw2 : w ≤ 200) : ∀ {n y x : Nat}, y < n → x < w → cvP fl y x = false → cvA fl n < n * w
  | n + 1, y, x, h1, h2, h3 => by
    have h4 := cvA_lo hf hw hw2 n
    have h5 := cB_le (cvP fl n) w
    rw [cvA, cvR_ct hf hw hw2]
    push_cast
    rw [Int.add_mul]
    by_cases e : y = n
    · subst e
      have := cB_lt h2 h3
      omega
    · have := cvA_lt hf hw hw2 (n := n) (by omega) h2 h3
      omega
theorem cvA_out {W H : Int} {fl : List Box} (hf : FlG W H fl) {w k : Nat} (hw : W = w) (hw2 : w ≤ 200) (hk : H = k) : ∀ {n : Nat}, k ≤ n → cvA fl n = cvA fl k
  | 0, h => by rw [show k = 0 by omega]
  | n + 1, h => by
    by_cases e : k = n + 1
    · rw [e]
    · rw [cvA, cvA_out hf hw hw2 hk (n := n) (by omega), cvR_ct hf hw hw2, cB_ext (n := 0) (by omega) (fun i _ h2 => cvP_F hf (.inr (by omega)))]; simp [cB]
/-- glass has a clear box exactly if flaws do not have all of its points -/
theorem cov_iff {W H : Int} {fl : List Box} (hf : FlG W H fl) (hW : 1 ≤ W ∧ W ≤ 200) (hH : 1 ≤ H ∧ H ≤ 200) : cvA fl 200 < W * H ↔ ∃ b : Box, b.inG W H ∧ clr fl b = true := by
  obtain ⟨w, hw⟩ : ∃ w : Nat, W = w := ⟨W.toNat, by omega⟩
  obtain ⟨k, hk⟩ : ∃ k : Nat, H = k := ⟨H.toNat, by omega⟩
  rw [cvA_out hf hw (by omega) hk (by omega)]
  constructor
  · intro h
    refine Classical.byContradiction fun hn => ?_
    have := cvA_full hf hw (by omega) k fun y x h1 h2 => by
      refine Classical.byContradiction fun h3 => hn ⟨⟨x, y, 1, 1⟩, ⟨by simp only; omega, by simp only; omega, by simp only; omega, by simp only; omega, by simp only; omega, by simp only; omega⟩, clr_iff.2 fun f hfm => ?_⟩
      refine Bool.eq_false_iff.2 fun ho => h3 ?_
      obtain ⟨g1, g2, g3, g4, g5, g6⟩ := hf f hfm
      have := (ovl_iff g3 g4 (by simp only; omega) (by simp only; omega)).1 ho
      simp only at this
      exact List.any_eq_true.2 ⟨f, hfm, inP_iff.2 ⟨by omega, by omega, by omega, by omega⟩⟩
    rw [this, hw, hk, Int.mul_comm] at h
    omega
  · rintro ⟨b, ⟨b1, b2, b3, b4, b5, b6⟩, hc⟩
    have := cvA_lt hf hw (by omega) (n := k) (y := b.Y.toNat) (x := b.X.toNat) (by omega) (by omega) (by
      refine Bool.eq_false_iff.2 fun e => ?_
      obtain ⟨f, hfm, h2⟩ := List.any_eq_true.1 e
      obtain ⟨i1, i2, i3, i4⟩ := inP_iff.1 h2
      obtain ⟨g1, g2, g3, g4, g5, g6⟩ := hf f hfm
      have h3 := clr_iff.1 hc f hfm
      rw [(ovl_iff g3 g4 b3 b4).2 ⟨by omega, by omega⟩] at h3
      cases h3)
    rw [hw, hk, Int.mul_comm]
    exact this
end Go.Proofs.Ytnfnidplhkfamaa
