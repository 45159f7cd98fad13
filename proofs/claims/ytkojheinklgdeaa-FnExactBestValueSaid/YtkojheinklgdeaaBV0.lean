/-
  The greatest values of plans for glass of all sizes, in plain Lean.
-/
import Derived.Test.YtkojheinklgdeaaFT
namespace Go.Proofs.Ytkojheinklgdeaa
open Go

/-- the value of the best of two ways to lay a pane -/
def lfT (ps : List Pane) (w h : Int) (i : Nat) (v o : Int) : Nat → Int
  | 0 => o
  | n + 1 => if lfT ps w h i v o n < v ∧ fitP ps i (decide ((n : Int) = 1)) w h = true then v else lfT ps w h i v o n
def lfV (ps : List Pane) (l : List Int) (w h : Int) : Nat → Int
  | 0 => 0
  | k + 1 => lfT ps w h k (l.getD k 0) (lfV ps l w h k) 2
theorem lfT_b {ps : List Pane} {w h : Int} {i n : Nat} {v o : Int} (hv : v ≤ 1000) (h0 : 0 ≤ o) (h1 : o ≤ 1000) : 0 ≤ lfT ps w h i v o n ∧ lfT ps w h i v o n ≤ 1000 := by
  induction n with
  | zero => exact ⟨h0, h1⟩
  | succ n ih =>
    rw [lfT]
    split <;> omega
theorem lfV_b {ps : List Pane} {l : List Int} {w h : Int} {k : Nat} (hl : ∀ u ∈ l, u ≤ 1000) : 0 ≤ lfV ps l w h k ∧ lfV ps l w h k ≤ 1000 := by
  induction k with
  | zero => rw [lfV]; omega
  | succ k ih =>
    refine lfT_b ?_ ih.1 ih.2
    rw [List.getD_eq_getElem?_getD]
    cases e : l[k]? with
    | none => simp
    | some u => exact hl u (List.mem_of_getElem? e)
def mxA (f : Nat → Int) (o : Int) : Nat → Int
  | 0 => o
  | n + 1 => max (mxA f o n) (f (n + 1))
theorem mxA_congr {f g : Nat → Int} {o : Int} {n : Nat} (h : ∀ a, 1 ≤ a → a ≤ n → f a = g a) : mxA f o n = mxA g o n := by
  induction n with
  | zero => rfl
  | succ n ih => rw [mxA, mxA, ih fun a h1 h2 => h a h1 (by omega), h (n + 1) (by omega) (Nat.le_refl _)]
theorem mxA_b {f : Nat → Int} {o b : Int} {n : Nat} (h0 : 0 ≤ o) (h1 : o ≤ b) (h : ∀ a, 1 ≤ a → a ≤ n → f a ≤ b) : 0 ≤ mxA f o n ∧ mxA f o n ≤ b := by
  induction n with
  | zero => exact ⟨h0, h1⟩
  | succ n ih =>
    have i1 := ih fun a h1 h2 => h a h1 (by omega)
    have i2 := h (n + 1) (by omega) (Nat.le_refl _)
    rw [mxA]; omega
def bvF (lf : Nat → Nat → Int) : Nat → Nat → Nat → Int
  | 0, _, _ => 0
  | n + 1, w, h => mxA (fun a => bvF lf n w a + bvF lf n w (h - a)) (mxA (fun a => bvF lf n a h + bvF lf n (w - a) h) (lf w h) (w / 2)) (h / 2)
theorem bvF_irr (lf : Nat → Nat → Int) : ∀ (n m w h : Nat), 1 ≤ w → 1 ≤ h → w + h ≤ n → w + h ≤ m → bvF lf n w h = bvF lf m w h
  | 0, _, _, _, _, _, _, _ => by omega
  | _ + 1, 0, _, _, _, _, _, _ => by omega
  | n + 1, m + 1, w, h, hw, hh, h1, h2 => by
    rw [bvF, bvF, mxA_congr (f := fun a => bvF lf n a h + bvF lf n (w - a) h) (g := fun a => bvF lf m a h + bvF lf m (w - a) h) fun a q1 q2 => by
      show bvF lf n a h + bvF lf n (w - a) h = _
      rw [bvF_irr lf n m a h (by omega) hh (by omega) (by omega), bvF_irr lf n m (w - a) h (by omega) hh (by omega) (by omega)]]
    exact mxA_congr fun a q1 q2 => by
      show bvF lf n w a + bvF lf n w (h - a) = _
      rw [bvF_irr lf n m w a hw (by omega) (by omega) (by omega), bvF_irr lf n m w (h - a) hw (by omega) (by omega) (by omega)]
def bv (lf : Nat → Nat → Int) (w h : Nat) : Int := bvF lf (w + h) w h
theorem bv_eq {lf : Nat → Nat → Int} {w h : Nat} (hw : 1 ≤ w) (hh : 1 ≤ h) : bv lf w h = mxA (fun a => bv lf w a + bv lf w (h - a)) (mxA (fun a => bv lf a h + bv lf (w - a) h) (lf w h) (w / 2)) (h / 2) := by
  obtain ⟨n, hn⟩ : ∃ n, w + h = n + 1 := ⟨w + h - 1, by omega⟩
  unfold bv
  rw [hn, bvF, mxA_congr (f := fun a => bvF lf n a h + bvF lf n (w - a) h) (g := fun a => bvF lf (a + h) a h + bvF lf (w - a + h) (w - a) h) fun a q1 q2 => by
      show bvF lf n a h + bvF lf n (w - a) h = _
      rw [bvF_irr lf n (a + h) a h (by omega) hh (by omega) (by omega), bvF_irr lf n (w - a + h) (w - a) h (by omega) hh (by omega) (by omega)]]
  exact mxA_congr fun a q1 q2 => by
      show bvF lf n w a + bvF lf n w (h - a) = _
      rw [bvF_irr lf n (w + a) w a hw (by omega) (by omega) (by omega), bvF_irr lf n (w + (h - a)) w (h - a) hw (by omega) (by omega) (by omega)]
theorem cut_area (a w h : Nat) (ha : a ≤ w) : (1000 * (a * h) : Int) + 1000 * ((w - a : Nat) * h) = 1000 * (w * h) := by
  obtain ⟨d, rfl⟩ := Nat.exists_eq_add_of_le ha
  rw [Nat.add_sub_cancel_left]
  push_cast
  rw [Int.add_mul]; omega
theorem bvF_b {lf : Nat → Nat → Int} (hl : ∀ w h, 0 ≤ lf w h ∧ lf w h ≤ 1000) : ∀ (n w h : Nat), 1 ≤ w → 1 ≤ h → 0 ≤ bvF lf n w h ∧ bvF lf n w h ≤ 1000 * (w * h : Int)
  | 0, w, h, hw, hh => by
    have : (0 : Int) ≤ (w : Int) * h := Int.mul_nonneg (by omega) (by omega)
    rw [bvF]; omega
  | n + 1, w, h, hw, hh => by
    have h1 : (1 : Int) ≤ (w : Int) * h := by
      have := Int.mul_le_mul (a := 1) (b := 1) (c := w) (d := h) (by omega) (by omega) (by omega) (by omega)
      omega
    obtain ⟨h2, h3⟩ := hl w h
    obtain ⟨i1, i2⟩ := mxA_b (f := fun a => bvF lf n a h + bvF lf n (w - a) h) (o := lf w h) (b := 1000 * ((w : Int) * h)) (n := w / 2) h2 (by omega) fun a q1 q2 => by
      have e1 := bvF_b hl n a h (by omega) hh
      have e2 := bvF_b hl n (w - a) h (by omega) hh
      have := cut_area a w h (by omega)
      show bvF lf n a h + bvF lf n (w - a) h ≤ _
      omega
    exact mxA_b i1 i2 fun a q1 q2 => by
      have e1 := bvF_b hl n w a hw (by omega)
      have e2 := bvF_b hl n w (h - a) hw (by omega)
      have := cut_area a h w (by omega)
      rw [Int.mul_comm (a : Int), Int.mul_comm ((h - a : Nat) : Int), Int.mul_comm (h : Int)] at this
      show bvF lf n w a + bvF lf n w (h - a) ≤ _
      omega
theorem bv_b {lf : Nat → Nat → Int} (hl : ∀ w h, 0 ≤ lf w h ∧ lf w h ≤ 1000) {w h : Nat} (hw : 1 ≤ w) (hh : 1 ≤ h) (hw2 : w ≤ 16) (hh2 : h ≤ 16) : 0 ≤ bv lf w h ∧ bv lf w h ≤ 256000 := by
  obtain ⟨h1, h2⟩ := bvF_b hl (w + h) w h hw hh
  have := Int.mul_le_mul (a := w) (b := h) (c := 16) (d := 16) (by omega) (by omega) (by omega) (by omega)
  unfold bv; omega
end Go.Proofs.Ytkojheinklgdeaa
