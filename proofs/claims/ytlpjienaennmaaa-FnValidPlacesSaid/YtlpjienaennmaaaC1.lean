/-
  Clear boxes, plainly: the largest one lies between edges of flaws.
-/
import Derived.Test.YtlpjienaennmaaaD1
namespace Go.Proofs.Ytlpjienaennmaaa
open Go

/-! ## lines -/
def isLn (I : List (Int × Int)) (side n : Int) : Prop := 0 ≤ n ∧ n ≤ side ∧ (n = 0 ∨ n = side ∨ ∃ f ∈ I, n = f.1 ∨ n = f.2)
def FlIn (I : List (Int × Int)) (side : Int) : Prop := ∀ f ∈ I, 0 ≤ f.1 ∧ f.1 < f.2 ∧ f.2 ≤ side
theorem ln_floor {P : Int → Prop} (h0 : P 0) : ∀ n : Nat, ∃ m : Int, 0 ≤ m ∧ m ≤ n ∧ P m ∧ ∀ k : Int, P k → k ≤ n → k ≤ m
  | 0 => ⟨0, by omega, by omega, h0, fun k _ h => by omega⟩
  | n + 1 => by
    by_cases h : P ((n + 1 : Nat) : Int)
    · exact ⟨((n + 1 : Nat) : Int), by omega, by omega, h, fun k _ h => h⟩
    · obtain ⟨m, h1, h2, h3, h4⟩ := ln_floor h0 n
      refine ⟨m, h1, by omega, h3, fun k hk hk2 => h4 k hk ?_⟩
      by_cases e : k = ((n + 1 : Nat) : Int)
      · subst e; exact absurd hk h
      · omega
theorem ln_ceil {P : Int → Prop} {s : Int} (hs : P s) : ∀ j : Nat, ∃ m : Int, s - j ≤ m ∧ m ≤ s ∧ P m ∧ ∀ k : Int, P k → s - j ≤ k → m ≤ k ∨ s < k
  | 0 => ⟨s, by omega, by omega, hs, fun k _ h => by omega⟩
  | j + 1 => by
    by_cases h : P (s - (j + 1 : Nat))
    · exact ⟨s - (j + 1 : Nat), by omega, by omega, h, fun k _ h => by omega⟩
    · obtain ⟨m, h1, h2, h3, h4⟩ := ln_ceil hs j
      refine ⟨m, by omega, h2, h3, fun k hk hk2 => h4 k hk ?_⟩
      by_cases e : k = s - (j + 1 : Nat)
      · subst e; exact absurd hk h
      · omega
section
variable {I : List (Int × Int)} {side : Int}
theorem isLn_zero (h : 0 ≤ side) : isLn I side 0 := ⟨by omega, h, .inl rfl⟩
theorem isLn_side (h : 0 ≤ side) : isLn I side side := ⟨h, by omega, .inr (.inl rfl)⟩
theorem FlIn.ln1 (h : FlIn I side) {f : Int × Int} (hf : f ∈ I) : isLn I side f.1 := by have := h f hf; exact ⟨by omega, by omega, .inr (.inr ⟨f, hf, .inl rfl⟩)⟩
theorem FlIn.ln2 (h : FlIn I side) {f : Int × Int} (hf : f ∈ I) : isLn I side f.2 := by have := h f hf; exact ⟨by omega, by omega, .inr (.inr ⟨f, hf, .inr rfl⟩)⟩
/-- what is clear can be made as large as from line to line -/
theorem grow1 (hI : FlIn I side) {c d : Int} (h0 : 0 ≤ c) (hcd : c < d) (hd : d ≤ side) :
    ∃ c0 d0, isLn I side c0 ∧ isLn I side d0 ∧ c0 ≤ c ∧ d ≤ d0 ∧ ∀ f ∈ I, f.1 < d0 → c0 < f.2 → f.1 < d ∧ c < f.2 := by
  obtain ⟨c0, _, h2, h3, h4⟩ := ln_floor (P := isLn I side) (isLn_zero (by omega)) c.toNat
  obtain ⟨d0, k1, k2, k3, k4⟩ := ln_ceil (P := isLn I side) (isLn_side (by omega)) (side - d).toNat
  refine ⟨c0, d0, h3, k3, by omega, by omega, fun f hf h5 h6 => ⟨?_, ?_⟩⟩
  · have := k4 f.1 (hI.ln1 hf)
    have := hI f hf
    omega
  · have := h4 f.2 (hI.ln2 hf)
    omega
theorem lower1 (hI : FlIn I side) {x x' : Int} (hx : isLn I side x) (hlt : x < x') (hx' : x' ≤ side) (hb : x ≠ 0) (hb2 : ∀ f ∈ I, x ≠ f.2) :
    ∃ x0, isLn I side x0 ∧ x0 < x ∧ ∀ f ∈ I, f.1 < x' → x0 < f.2 → x < f.2 := by
  have h0 := hx.1
  obtain ⟨c0, _, h2, h3, h4⟩ := ln_floor (P := isLn I side) (isLn_zero (by omega)) (x - 1).toNat
  refine ⟨c0, h3, by omega, fun f hf h5 h6 => ?_⟩
  have := h4 f.2 (hI.ln2 hf)
  have := hb2 f hf
  omega
theorem upper1 (hI : FlIn I side) {x x' : Int} (hx' : isLn I side x') (hlt : x < x') (h0 : 0 ≤ x) (hb : x' ≠ side) (hb2 : ∀ f ∈ I, x' ≠ f.1) :
    ∃ x1, isLn I side x1 ∧ x' < x1 ∧ ∀ f ∈ I, f.1 < x1 → x < f.2 → f.1 < x' := by
  have h1 := hx'.2.1
  obtain ⟨d0, k1, k2, k3, k4⟩ := ln_ceil (P := isLn I side) (isLn_side (by omega)) (side - x' - 1).toNat
  refine ⟨d0, k3, by omega, fun f hf h5 h6 => ?_⟩
  have := k4 f.1 (hI.ln1 hf)
  have := hb2 f hf
  have := hI f hf
  omega
end
/-! ## clear boxes -/
def ovl (f b : Box) : Bool := decide (max f.X b.X < min (f.X + f.W) (b.X + b.W) ∧ max f.Y b.Y < min (f.Y + f.H) (b.Y + b.H))
def clr (fl : List Box) (b : Box) : Bool := fl.all fun f => !ovl f b
def IX (fl : List Box) : List (Int × Int) := fl.map fun f => (f.X, f.X + f.W)
def IY (fl : List Box) : List (Int × Int) := fl.map fun f => (f.Y, f.Y + f.H)
/-- inside of glass of these sides -/
def Box.inG (W H : Int) (b : Box) : Prop := 0 ≤ b.X ∧ 0 ≤ b.Y ∧ 1 ≤ b.W ∧ 1 ≤ b.H ∧ b.X + b.W ≤ W ∧ b.Y + b.H ≤ H
def FlG (W H : Int) (fl : List Box) : Prop := ∀ f ∈ fl, f.inG W H
theorem FlG.x {W H : Int} {fl : List Box} (h : FlG W H fl) : FlIn (IX fl) W := fun g hg => by
  obtain ⟨f, hf, rfl⟩ := List.mem_map.1 hg
  obtain ⟨_, _, _, _, _, _⟩ := h f hf
  simp only; omega
theorem FlG.y {W H : Int} {fl : List Box} (h : FlG W H fl) : FlIn (IY fl) H := fun g hg => by
  obtain ⟨f, hf, rfl⟩ := List.mem_map.1 hg
  obtain ⟨_, _, _, _, _, _⟩ := h f hf
  simp only; omega
theorem ovl_iff {f b : Box} (h1 : 1 ≤ f.W) (h2 : 1 ≤ f.H) (h3 : 1 ≤ b.W) (h4 : 1 ≤ b.H) : ovl f b = true ↔ (f.X < b.X + b.W ∧ b.X < f.X + f.W) ∧ f.Y < b.Y + b.H ∧ b.Y < f.Y + f.H := by
  simp only [ovl, decide_eq_true_eq]; omega
theorem clr_iff {fl : List Box} {b : Box} : clr fl b = true ↔ ∀ f ∈ fl, ovl f b = false := by
  simp [clr]
/-- a box that is clear where another one is -/
theorem clr_of {W H : Int} {fl : List Box} (hf : FlG W H fl) {b c : Box} (hb1 : 1 ≤ b.W) (hb2 : 1 ≤ b.H) (hc1 : 1 ≤ c.W) (hc2 : 1 ≤ c.H)
    (hx : ∀ g ∈ IX fl, g.1 < c.X + c.W → c.X < g.2 → g.1 < b.X + b.W ∧ b.X < g.2) (hy : ∀ g ∈ IY fl, g.1 < c.Y + c.H → c.Y < g.2 → g.1 < b.Y + b.H ∧ b.Y < g.2) (h : clr fl b = true) : clr fl c = true := by
  rw [clr_iff] at h ⊢
  intro f hm
  obtain ⟨_, _, hw, hh, _, _⟩ := hf f hm
  refine Bool.eq_false_iff.2 fun ho => ?_
  rw [ovl_iff hw hh hc1 hc2] at ho
  have h1 := hx _ (List.mem_map_of_mem (f := fun f : Box => (f.X, f.X + f.W)) hm) ho.1.1 ho.1.2
  have h2 := hy _ (List.mem_map_of_mem (f := fun f : Box => (f.Y, f.Y + f.H)) hm) ho.2.1 ho.2.2
  have := h f hm
  rw [(ovl_iff hw hh hb1 hb2).2 ⟨h1, h2⟩] at this
  cases this
/-! ## the best box of a list -/
def bt (a b : Box) : Bool :=
  if a.W * a.H ≠ b.W * b.H then decide (b.W * b.H < a.W * a.H) else if a.Y ≠ b.Y then decide (a.Y < b.Y) else if a.X ≠ b.X then decide (a.X < b.X) else decide (a.W < b.W)
theorem bt_trans {a b c : Box} (h1 : bt a b = true) (h2 : bt b c = true) : bt a c = true := by
  unfold bt at *
  generalize a.W * a.H = p at *
  generalize b.W * b.H = q at *
  generalize c.W * c.H = r at *
  split at h1 <;> split at h2 <;> (try split at h1) <;> (try split at h2) <;> (try split at h1) <;> (try split at h2) <;> simp only [decide_eq_true_eq] at h1 h2 <;> split <;> (try split) <;> (try split) <;> simp only [decide_eq_true_eq] <;> omega
theorem bt_eq {a b : Box} (h1 : bt a b = false) (h2 : bt b a = false) (hw : 1 ≤ a.W) : a = b := by
  unfold bt at *
  by_cases e : a.W * a.H = b.W * b.H
  · rw [if_neg (by simpa using e)] at h1
    rw [if_neg (by simpa using e.symm)] at h2
    split at h1 <;> split at h2 <;> (try split at h1) <;> (try split at h2) <;> simp only [decide_eq_false_iff_not] at h1 h2 <;> try omega
    have e1 : a.W = b.W := by omega
    have e2 : a.H = b.H := by
      rw [← e1] at e
      exact Int.eq_of_mul_eq_mul_left (by omega) e
    cases a; cases b
    simp only [Box.mk.injEq] at *
    omega
  · rw [if_pos (by simpa using e)] at h1
    rw [if_pos (fun h => e h.symm)] at h2
    simp only [decide_eq_false_iff_not] at h1 h2
    omega
theorem bt_area {a b : Box} (h : b.W * b.H < a.W * a.H) : bt a b = true := by
  unfold bt; rw [if_pos (by omega)]; exact decide_eq_true h
theorem bt_ge {a b : Box} (h : bt a b = false) : a.W * a.H ≤ b.W * b.H := by
  refine Int.not_lt.1 fun h2 => ?_
  rw [bt_area h2] at h; cases h
def stp (q : Box → Bool) (o b : Box) : Box := if q b = true ∧ bt b o = true then b else o
theorem fold_best (q : Box → Bool) : ∀ (L : List Box) (o : Box), (L.foldl (stp q) o = o ∨ (L.foldl (stp q) o ∈ L ∧ q (L.foldl (stp q) o) = true ∧ bt (L.foldl (stp q) o) o = true)) ∧ (∀ b ∈ L, q b = true → bt b (L.foldl (stp q) o) = false)
  | [], o => by simp
  | x :: r, o => by
    obtain ⟨h1, h2⟩ := fold_best q r (stp q o x)
    rw [List.foldl_cons]
    have key : stp q o x = o ∨ (stp q o x = x ∧ q x = true ∧ bt x o = true) := by
      unfold stp; split
      · rename_i h; exact .inr ⟨rfl, h⟩
      · exact .inl rfl
    generalize hz : r.foldl (stp q) (stp q o x) = z at *
    constructor
    · rcases h1 with h1 | ⟨h1, h3, h4⟩
      · rcases key with k | ⟨k, k2, k3⟩
        · left; rw [h1, k]
        · right; rw [h1, k]; exact ⟨List.mem_cons_self, k2, k3⟩
      · right
        refine ⟨List.mem_cons_of_mem _ h1, h3, ?_⟩
        rcases key with k | ⟨k, k2, k3⟩
        · rw [k] at h4; exact h4
        · rw [k] at h4; exact bt_trans h4 k3
    · intro b hb hq
      rcases List.mem_cons.1 hb with rfl | hb
      · refine Bool.eq_false_iff.2 fun h => ?_
        have hx : bt b (stp q o b) = false := by
          unfold stp; split
          · unfold bt; simp
          · rename_i h; exact Bool.eq_false_iff.2 fun h2 => h ⟨hq, h2⟩
        rcases h1 with h1 | ⟨_, _, h4⟩
        · rw [h1, hx] at h; cases h
        · rw [bt_trans h h4] at hx; cases hx
      · exact h2 b hb hq
theorem foldl_flat {α β γ : Type} (f : γ → β → γ) (g : α → List β) : ∀ (l : List α) (o : γ), (l.flatMap g).foldl f o = l.foldl (fun o a => (g a).foldl f o) o
  | [], _ => rfl
  | x :: r, o => by rw [List.flatMap_cons, List.foldl_append, foldl_flat f g r]; rfl
/-! ## the candidates -/
/-- pairs of a list, in order -/
def prs : List Int → List (Int × Int)
  | [] => []
  | x :: r => r.map (fun y => (x, y)) ++ prs r
theorem prs_mem : ∀ {l : List Int}, l.Pairwise (· < ·) → ∀ {a b : Int}, (a, b) ∈ prs l ↔ a ∈ l ∧ b ∈ l ∧ a < b
  | [], _, a, b => by simp [prs]
  | x :: r, h, a, b => by
    rw [List.pairwise_cons] at h
    simp only [prs, List.mem_append, List.mem_map, Prod.mk.injEq, prs_mem h.2, List.mem_cons]
    constructor
    · rintro (⟨y, hy, rfl, rfl⟩ | ⟨h1, h2, h3⟩)
      · exact ⟨.inl rfl, .inr hy, h.1 _ hy⟩
      · exact ⟨.inr h1, .inr h2, h3⟩
    · rintro ⟨rfl | h1, rfl | h2, h3⟩
      · omega
      · exact .inl ⟨b, h2, rfl, rfl⟩
      · have := h.1 _ h1; omega
      · exact .inr ⟨h1, h2, h3⟩
def boxS (yy xx : Int × Int) : Box := ⟨xx.1, yy.1, xx.2 - xx.1, yy.2 - yy.1⟩
def L2 (xs ys : List Int) : List Box := (prs ys).flatMap fun yy => (prs xs).map fun xx => boxS yy xx
def L1 (xb xe yb ye : List Int) : List Box := yb.flatMap fun y => ye.flatMap fun t => xb.flatMap fun x => xe.map fun r => (⟨x, y, r - x, t - y⟩ : Box)
theorem L2_mem {xs ys : List Int} (hx : xs.Pairwise (· < ·)) (hy : ys.Pairwise (· < ·)) {b : Box} : b ∈ L2 xs ys ↔ (b.X ∈ xs ∧ b.X + b.W ∈ xs ∧ 1 ≤ b.W) ∧ b.Y ∈ ys ∧ b.Y + b.H ∈ ys ∧ 1 ≤ b.H := by
  simp only [L2, List.mem_flatMap, List.mem_map]
  constructor
  · rintro ⟨⟨y, t⟩, h1, ⟨x, r⟩, h2, rfl⟩
    rw [prs_mem hy] at h1
    rw [prs_mem hx] at h2
    simp only [boxS]
    rw [show x + (r - x) = r by omega, show y + (t - y) = t by omega]
    exact ⟨⟨h2.1, h2.2.1, by omega⟩, h1.1, h1.2.1, by omega⟩
  · rintro ⟨⟨h1, h2, h3⟩, h4, h5, h6⟩
    refine ⟨(b.Y, b.Y + b.H), (prs_mem hy).2 ⟨h4, h5, by omega⟩, (b.X, b.X + b.W), (prs_mem hx).2 ⟨h1, h2, by omega⟩, ?_⟩
    cases b
    simp only [boxS, Box.mk.injEq, true_and]
    omega
theorem L1_mem {xb xe yb ye : List Int} {b : Box} : b ∈ L1 xb xe yb ye ↔ (b.X ∈ xb ∧ b.X + b.W ∈ xe) ∧ b.Y ∈ yb ∧ b.Y + b.H ∈ ye := by
  simp only [L1, List.mem_flatMap, List.mem_map]
  constructor
  · rintro ⟨y, h1, t, h2, x, h3, r, h4, rfl⟩
    simp only
    rw [show x + (r - x) = r by omega, show y + (t - y) = t by omega]
    exact ⟨⟨h3, h4⟩, h1, h2⟩
  · rintro ⟨⟨h3, h4⟩, h1, h2⟩
    refine ⟨_, h1, _, h2, _, h3, _, h4, ?_⟩
    cases b
    simp only [Box.mk.injEq, true_and]
    omega
def zeroB : Box := ⟨0, 0, 0, 0⟩
/-- the largest clear box, found between lines -/
def lgS (fl : List Box) (xs ys : List Int) : Box := (L2 xs ys).foldl (stp (clr fl)) zeroB
def begX (fl : List Box) : List Int := 0 :: fl.map fun f => f.X + f.W
def begY (fl : List Box) : List Int := 0 :: fl.map fun f => f.Y + f.H
def endX (W : Int) (fl : List Box) : List Int := W :: fl.map Box.X
def endY (H : Int) (fl : List Box) : List Int := H :: fl.map Box.Y
instance Box.decG (W H : Int) (b : Box) : Decidable (b.inG W H) := inferInstanceAs (Decidable (_ ∧ _))
/-- clear, and inside of the glass -/
def clrG (W H : Int) (fl : List Box) (b : Box) : Bool := decide (b.inG W H) && clr fl b
theorem clrG_iff {W H : Int} {fl : List Box} {b : Box} : clrG W H fl b = true ↔ b.inG W H ∧ clr fl b = true := by simp [clrG]
section
variable {W H : Int} {fl : List Box} {xs ys : List Int}
theorem L2_inG (hxs : ∀ n, n ∈ xs ↔ isLn (IX fl) W n) (hys : ∀ n, n ∈ ys ↔ isLn (IY fl) H n) (hx : xs.Pairwise (· < ·)) (hy : ys.Pairwise (· < ·)) {b : Box} (hb : b ∈ L2 xs ys) : b.inG W H := by
  obtain ⟨⟨h1, h2, h3⟩, h4, h5, h6⟩ := (L2_mem hx hy).1 hb
  have a1 := (hxs _).1 h1
  have a2 := (hxs _).1 h2
  have a3 := (hys _).1 h4
  have a4 := (hys _).1 h5
  exact ⟨a1.1, a3.1, h3, h6, a2.2.1, a4.2.1⟩
/-- each clear box is in one between lines -/
theorem grow (hf : FlG W H fl) (hxs : ∀ n, n ∈ xs ↔ isLn (IX fl) W n) (hys : ∀ n, n ∈ ys ↔ isLn (IY fl) H n) (hx : xs.Pairwise (· < ·)) (hy : ys.Pairwise (· < ·)) {b : Box} (hb : b.inG W H) (hc : clr fl b = true) :
    ∃ c ∈ L2 xs ys, clr fl c = true ∧ b.W ≤ c.W ∧ b.H ≤ c.H := by
  obtain ⟨b1, b2, b3, b4, b5, b6⟩ := hb
  obtain ⟨c0, d0, h1, h2, h3, h4, h5⟩ := grow1 hf.x (c := b.X) (d := b.X + b.W) b1 (by omega) b5
  obtain ⟨e0, f0, k1, k2, k3, k4, k5⟩ := grow1 hf.y (c := b.Y) (d := b.Y + b.H) b2 (by omega) b6
  refine ⟨⟨c0, e0, d0 - c0, f0 - e0⟩, (L2_mem hx hy).2 ?_, ?_, ?_, ?_⟩
  · simp only
    rw [show c0 + (d0 - c0) = d0 by omega, show e0 + (f0 - e0) = f0 by omega]
    exact ⟨⟨(hxs _).2 h1, (hxs _).2 h2, by omega⟩, (hys _).2 k1, (hys _).2 k2, by omega⟩
  · refine clr_of hf (b := b) b3 b4 (by simp only; omega) (by simp only; omega) ?_ ?_ hc
    · simp only
      rw [show c0 + (d0 - c0) = d0 by omega]; exact h5
    · simp only
      rw [show e0 + (f0 - e0) = f0 by omega]; exact k5
  · simp only; omega
  · simp only; omega
theorem area_lt {a b c d : Int} (h1 : 1 ≤ a) (h2 : 1 ≤ b) (h3 : a ≤ c) (h4 : b ≤ d) (h : a < c ∨ b < d) : a * b < c * d := by
  rcases h with h | h
  · have e1 : a * b < c * b := Int.mul_lt_mul_of_pos_right h (by omega)
    have e2 : c * b ≤ c * d := Int.mul_le_mul_of_nonneg_left h4 (by omega)
    omega
  · have e1 : a * b ≤ c * b := Int.mul_le_mul_of_nonneg_right h3 (by omega)
    have e2 : c * b < c * d := Int.mul_lt_mul_of_pos_left h (by omega)
    omega
/-- the best box between lines lies between edges -/
theorem best_edges (hf : FlG W H fl) (hxs : ∀ n, n ∈ xs ↔ isLn (IX fl) W n) (hys : ∀ n, n ∈ ys ↔ isLn (IY fl) H n) (hx : xs.Pairwise (· < ·)) (hy : ys.Pairwise (· < ·)) {b : Box} (hb : b ∈ L2 xs ys) (hc : clr fl b = true)
    (hm : ∀ c ∈ L2 xs ys, clr fl c = true → c.W * c.H ≤ b.W * b.H) : b ∈ L1 (begX fl) (endX W fl) (begY fl) (endY H fl) := by
  obtain ⟨⟨h1, h2, h3⟩, h4, h5, h6⟩ := (L2_mem hx hy).1 hb
  have a1 := (hxs _).1 h1
  have a2 := (hxs _).1 h2
  have a3 := (hys _).1 h4
  have a4 := (hys _).1 h5
  have nope : ∀ c : Box, c.X ∈ xs → c.X + c.W ∈ xs → c.Y ∈ ys → c.Y + c.H ∈ ys → b.W ≤ c.W → b.H ≤ c.H → (b.W < c.W ∨ b.H < c.H) →
      (∀ g ∈ IX fl, g.1 < c.X + c.W → c.X < g.2 → g.1 < b.X + b.W ∧ b.X < g.2) → (∀ g ∈ IY fl, g.1 < c.Y + c.H → c.Y < g.2 → g.1 < b.Y + b.H ∧ b.Y < g.2) → False := by
    intro c c1 c2 c3 c4 c5 c6 c7 cx cy
    have := hm c ((L2_mem hx hy).2 ⟨⟨c1, c2, by omega⟩, c3, c4, by omega⟩) (clr_of hf h3 h6 (by omega) (by omega) cx cy hc)
    have := area_lt h3 h6 c5 c6 c7
    omega
  rw [L1_mem]
  refine ⟨⟨?_, ?_⟩, ?_, ?_⟩
  · refine Classical.byContradiction fun hn => ?_
    have n1 : b.X ≠ 0 := fun e => hn (by rw [e]; exact List.mem_cons_self)
    have n2 : ∀ g ∈ IX fl, b.X ≠ g.2 := fun g hg e => by
      obtain ⟨f, hf, rfl⟩ := List.mem_map.1 hg
      exact hn (List.mem_cons_of_mem _ (by rw [e]; exact List.mem_map_of_mem (f := fun f : Box => f.X + f.W) hf))
    obtain ⟨x0, p1, p2, p3⟩ := lower1 hf.x (x' := b.X + b.W) a1 (by omega) a2.2.1 n1 n2
    refine nope ⟨x0, b.Y, b.X + b.W - x0, b.H⟩ ((hxs _).2 p1) ?_ h4 h5 (by simp only; omega) (by simp only; omega) (.inl (by simp only; omega)) ?_ (fun g hg k1 k2 => ⟨k1, k2⟩)
    · simp only; rw [show x0 + (b.X + b.W - x0) = b.X + b.W by omega]; exact h2
    · simp only; rw [show x0 + (b.X + b.W - x0) = b.X + b.W by omega]
      exact fun g hg k1 k2 => ⟨k1, p3 g hg k1 k2⟩
  · refine Classical.byContradiction fun hn => ?_
    have n1 : b.X + b.W ≠ W := fun e => hn (by rw [e]; exact List.mem_cons_self)
    have n2 : ∀ g ∈ IX fl, b.X + b.W ≠ g.1 := fun g hg e => by
      obtain ⟨f, hf, rfl⟩ := List.mem_map.1 hg
      exact hn (List.mem_cons_of_mem _ (by rw [e]; exact List.mem_map_of_mem (f := Box.X) hf))
    obtain ⟨x1, p1, p2, p3⟩ := upper1 hf.x (x := b.X) a2 (by omega) a1.1 n1 n2
    refine nope ⟨b.X, b.Y, x1 - b.X, b.H⟩ h1 ?_ h4 h5 (by simp only; omega) (by simp only; omega) (.inl (by simp only; omega)) ?_ (fun g hg k1 k2 => ⟨k1, k2⟩)
    · simp only; rw [show b.X + (x1 - b.X) = x1 by omega]; exact (hxs _).2 p1
    · simp only; rw [show b.X + (x1 - b.X) = x1 by omega]
      exact fun g hg k1 k2 => ⟨p3 g hg k1 k2, k2⟩
  · refine Classical.byContradiction fun hn => ?_
    have n1 : b.Y ≠ 0 := fun e => hn (by rw [e]; exact List.mem_cons_self)
    have n2 : ∀ g ∈ IY fl, b.Y ≠ g.2 := fun g hg e => by
      obtain ⟨f, hf, rfl⟩ := List.mem_map.1 hg
      exact hn (List.mem_cons_of_mem _ (by rw [e]; exact List.mem_map_of_mem (f := fun f : Box => f.Y + f.H) hf))
    obtain ⟨x0, p1, p2, p3⟩ := lower1 hf.y (x' := b.Y + b.H) a3 (by omega) a4.2.1 n1 n2
    refine nope ⟨b.X, x0, b.W, b.Y + b.H - x0⟩ h1 h2 ((hys _).2 p1) ?_ (by simp only; omega) (by simp only; omega) (.inr (by simp only; omega)) (fun g hg k1 k2 => ⟨k1, k2⟩) ?_
    · simp only; rw [show x0 + (b.Y + b.H - x0) = b.Y + b.H by omega]; exact h5
    · simp only; rw [show x0 + (b.Y + b.H - x0) = b.Y + b.H by omega]
      exact fun g hg k1 k2 => ⟨k1, p3 g hg k1 k2⟩
  · refine Classical.byContradiction fun hn => ?_
    have n1 : b.Y + b.H ≠ H := fun e => hn (by rw [e]; exact List.mem_cons_self)
    have n2 : ∀ g ∈ IY fl, b.Y + b.H ≠ g.1 := fun g hg e => by
      obtain ⟨f, hf, rfl⟩ := List.mem_map.1 hg
      exact hn (List.mem_cons_of_mem _ (by rw [e]; exact List.mem_map_of_mem (f := Box.Y) hf))
    obtain ⟨x1, p1, p2, p3⟩ := upper1 hf.y (x := b.Y) a4 (by omega) a3.1 n1 n2
    refine nope ⟨b.X, b.Y, b.W, x1 - b.Y⟩ h1 h2 h4 ?_ (by simp only; omega) (by simp only; omega) (.inr (by simp only; omega)) (fun g hg k1 k2 => ⟨k1, k2⟩) ?_
    · simp only; rw [show b.Y + (x1 - b.Y) = x1 by omega]; exact (hys _).2 p1
    · simp only; rw [show b.Y + (x1 - b.Y) = x1 by omega]
      exact fun g hg k1 k2 => ⟨p3 g hg k1 k2, k2⟩
theorem edge_lines (hf : FlG W H fl) (hW : 1 ≤ W) (hH : 1 ≤ H) (hxs : ∀ n, n ∈ xs ↔ isLn (IX fl) W n) (hys : ∀ n, n ∈ ys ↔ isLn (IY fl) H n) (hx : xs.Pairwise (· < ·)) (hy : ys.Pairwise (· < ·)) {b : Box}
    (hb : b ∈ L1 (begX fl) (endX W fl) (begY fl) (endY H fl)) (hi : b.inG W H) : b ∈ L2 xs ys := by
  obtain ⟨⟨h1, h2⟩, h3, h4⟩ := L1_mem.1 hb
  obtain ⟨_, _, i1, i2, _, _⟩ := hi
  refine (L2_mem hx hy).2 ⟨⟨(hxs _).2 ?_, (hxs _).2 ?_, i1⟩, (hys _).2 ?_, (hys _).2 ?_, i2⟩
  · rcases List.mem_cons.1 h1 with e | h
    · rw [e]; exact isLn_zero (by omega)
    · obtain ⟨f, hm, e⟩ := List.mem_map.1 h
      rw [← e]; exact hf.x.ln2 (f := (f.X, f.X + f.W)) (List.mem_map_of_mem (f := fun f : Box => (f.X, f.X + f.W)) hm)
  · rcases List.mem_cons.1 h2 with e | h
    · rw [e]; exact isLn_side (by omega)
    · obtain ⟨f, hm, e⟩ := List.mem_map.1 h
      rw [← e]; exact hf.x.ln1 (f := (f.X, f.X + f.W)) (List.mem_map_of_mem (f := fun f : Box => (f.X, f.X + f.W)) hm)
  · rcases List.mem_cons.1 h3 with e | h
    · rw [e]; exact isLn_zero (by omega)
    · obtain ⟨f, hm, e⟩ := List.mem_map.1 h
      rw [← e]; exact hf.y.ln2 (f := (f.Y, f.Y + f.H)) (List.mem_map_of_mem (f := fun f : Box => (f.Y, f.Y + f.H)) hm)
  · rcases List.mem_cons.1 h4 with e | h
    · rw [e]; exact isLn_side (by omega)
    · obtain ⟨f, hm, e⟩ := List.mem_map.1 h
      rw [← e]; exact hf.y.ln1 (f := (f.Y, f.Y + f.H)) (List.mem_map_of_mem (f := fun f : Box => (f.Y, f.Y + f.H)) hm)
theorem bt_zero {b : Box} (hi : b.inG W H) : bt b zeroB = true := by
  obtain ⟨_, _, i1, i2, _, _⟩ := hi
  refine bt_area ?_
  have : 1 * 1 ≤ b.W * b.H := Int.mul_le_mul i1 i2 (by omega) (by omega)
  simp only [zeroB]; omega
/-- what is found between lines -/
theorem lg_facts (hf : FlG W H fl) (hxs : ∀ n, n ∈ xs ↔ isLn (IX fl) W n) (hys : ∀ n, n ∈ ys ↔ isLn (IY fl) H n) (hx : xs.Pairwise (· < ·)) (hy : ys.Pairwise (· < ·)) :
    (lgS fl xs ys = zeroB ∧ ∀ b : Box, b.inG W H → clr fl b = false) ∨ ((lgS fl xs ys).inG W H ∧ clr fl (lgS fl xs ys) = true ∧ ∀ b : Box, b.inG W H → clr fl b = true → b.W * b.H ≤ (lgS fl xs ys).W * (lgS fl xs ys).H) := by
  obtain ⟨h1, h2⟩ := fold_best (clr fl) (L2 xs ys) zeroB
  unfold lgS
  generalize (L2 xs ys).foldl (stp (clr fl)) zeroB = r at *
  rcases h1 with h1 | ⟨h1, h3, h4⟩
  · left
    refine ⟨h1, fun b hb => Bool.eq_false_iff.2 fun hc => ?_⟩
    obtain ⟨c, c1, c2, c3, c4⟩ := grow hf hxs hys hx hy hb hc
    have := h2 c c1 c2
    rw [h1, bt_zero (L2_inG hxs hys hx hy c1)] at this
    cases this
  · right
    refine ⟨L2_inG hxs hys hx hy h1, h3, fun b hb hc => ?_⟩
    obtain ⟨c, c1, c2, c3, c4⟩ := grow hf hxs hys hx hy hb hc
    have h5 := bt_ge (h2 c c1 c2)
    obtain ⟨_, _, b3, b4, _, _⟩ := hb
    have e1 : b.W * b.H ≤ c.W * b.H := Int.mul_le_mul_of_nonneg_right c3 (by omega)
    have e2 : c.W * b.H ≤ c.W * c.H := Int.mul_le_mul_of_nonneg_left c4 (by omega)
    omega
/-- what is found between edges is what is found between lines -/
theorem lg_same (hf : FlG W H fl) (hW : 1 ≤ W) (hH : 1 ≤ H) (hxs : ∀ n, n ∈ xs ↔ isLn (IX fl) W n) (hys : ∀ n, n ∈ ys ↔ isLn (IY fl) H n) (hx : xs.Pairwise (· < ·)) (hy : ys.Pairwise (· < ·)) :
    (L1 (begX fl) (endX W fl) (begY fl) (endY H fl)).foldl (stp (clrG W H fl)) zeroB = lgS fl xs ys := by
  obtain ⟨h1, h2⟩ := fold_best (clr fl) (L2 xs ys) zeroB
  obtain ⟨k1, k2⟩ := fold_best (clrG W H fl) (L1 (begX fl) (endX W fl) (begY fl) (endY H fl)) zeroB
  unfold lgS
  generalize (L2 xs ys).foldl (stp (clr fl)) zeroB = r at *
  generalize (L1 (begX fl) (endX W fl) (begY fl) (endY H fl)).foldl (stp (clrG W H fl)) zeroB = z at *
  have hz : z ≠ zeroB → z ∈ L2 xs ys ∧ clr fl z = true := fun hn => by
    obtain ⟨k3, k4, _⟩ := k1.resolve_left hn
    rw [clrG_iff] at k4
    exact ⟨edge_lines hf hW hH hxs hys hx hy k3 k4.1, k4.2⟩
  have hr : r ≠ zeroB → r ∈ L1 (begX fl) (endX W fl) (begY fl) (endY H fl) ∧ clrG W H fl r = true := fun hn => by
    obtain ⟨h3, h4, _⟩ := h1.resolve_left hn
    exact ⟨best_edges hf hxs hys hx hy h3 h4 fun c hc hcl => bt_ge (h2 c hc hcl), clrG_iff.2 ⟨L2_inG hxs hys hx hy h3, h4⟩⟩
  by_cases e1 : z = zeroB
  · by_cases e2 : r = zeroB
    · rw [e1, e2]
    · obtain ⟨a1, a2⟩ := hr e2
      have := k2 r a1 a2
      rw [e1, bt_zero (clrG_iff.1 a2).1] at this
      cases this
  · obtain ⟨a1, a2⟩ := hz e1
    have a3 := h2 z a1 a2
    by_cases e2 : r = zeroB
    · rw [e2, bt_zero (L2_inG hxs hys hx hy a1)] at a3
      cases a3
    · obtain ⟨b1, b2⟩ := hr e2
      exact bt_eq a3 (k2 r b1 b2) (L2_inG hxs hys hx hy a1).2.2.1
end
end Go.Proofs.Ytlpjienaennmaaa
