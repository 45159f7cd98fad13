/-
  Sets told as numbers: parts of them, sums over them, and the least number of groups that they are divided into.
-/
import Derived.Test.YtkojheinklgdeaaB0
namespace Go.Proofs.Ytkojheinklgdeaa
open Go

def Sub (a b : Nat) : Prop := a &&& b = a
instance (a b : Nat) : Decidable (Sub a b) := inferInstanceAs (Decidable (a &&& b = a))
theorem sub_iff {a b : Nat} : Sub a b ↔ a % 2 ≤ b % 2 ∧ Sub (a / 2) (b / 2) := by
  have hd : (a &&& b) / 2 = a / 2 &&& b / 2 := Nat.and_div_two
  have hm : (a &&& b) % 2 = 1 ↔ a % 2 = 1 ∧ b % 2 = 1 := Nat.and_mod_two_eq_one
  unfold Sub
  constructor
  · intro h
    rw [h] at hd hm
    exact ⟨by omega, hd.symm⟩
  · rintro ⟨h1, h2⟩
    rw [h2] at hd
    omega
theorem Sub.le {a b : Nat} (h : Sub a b) : a ≤ b := by
  rw [← h]; exact Nat.and_le_right
theorem Sub.refl (a : Nat) : Sub a a := Nat.and_self a
theorem Sub.zero (a : Nat) : Sub 0 a := by simp [Sub]
theorem Sub.half {a b : Nat} (h : Sub a b) : Sub (a / 2) (b / 2) := (sub_iff.1 h).2
theorem Sub.odd {a b : Nat} (h : Sub a b) : a % 2 ≤ b % 2 := (sub_iff.1 h).1
theorem Sub.minus {a b : Nat} (h : Sub a b) : (b - a) / 2 = b / 2 - a / 2 ∧ (b - a) % 2 = b % 2 - a % 2 := by
  have := h.odd
  have := h.le
  have := h.half.le
  omega
theorem Sub.diff : ∀ {b a : Nat}, Sub a b → Sub (b - a) b := by
  intro b
  induction b using Nat.strongRecOn with
  | _ b ih =>
    intro a h
    by_cases hb : b = 0
    · subst hb; have := h.le; obtain rfl : a = 0 := by omega
      exact Sub.zero _
    · have hm := h.minus
      exact sub_iff.2 ⟨by omega, by rw [hm.1]; exact ih (b / 2) (by omega) h.half⟩
/-- the next smaller part of a set -/
theorem sub_next : ∀ (s g : Nat), Sub g s → 0 < g → Sub ((g - 1) &&& s) s ∧ (g - 1) &&& s < g ∧ ∀ h, Sub h s → h < g → h ≤ (g - 1) &&& s := by
  intro s
  induction s using Nat.strongRecOn with
  | _ s ih =>
    intro g hg h0
    have hs : 0 < s := Nat.lt_of_lt_of_le h0 hg.le
    have hd : ((g - 1) &&& s) / 2 = (g - 1) / 2 &&& s / 2 := Nat.and_div_two
    have hm : ((g - 1) &&& s) % 2 = 1 ↔ (g - 1) % 2 = 1 ∧ s % 2 = 1 := Nat.and_mod_two_eq_one
    have hl : (g - 1) &&& s ≤ g - 1 := Nat.and_le_left
    have hsub : Sub ((g - 1) &&& s) s := by
      show ((g - 1) &&& s) &&& s = (g - 1) &&& s
      rw [Nat.and_assoc, Nat.and_self]
    refine ⟨hsub, by omega, fun h hh hlt => ?_⟩
    have ho := hg.odd
    have hho := hh.odd
    by_cases hodd : g % 2 = 1
    · have e1 : (g - 1) / 2 = g / 2 := by omega
      rw [e1, hg.half] at hd
      omega
    · have e1 : (g - 1) / 2 = g / 2 - 1 := by omega
      rw [e1] at hd
      obtain ⟨_, _, h3⟩ := ih (s / 2) (by omega) (g / 2) hg.half (by omega)
      have := h3 (h / 2) hh.half (by omega)
      omega
/-! ## sums -/
def smk : List Int → Nat → Int
  | [], _ => 0
  | x :: r, s => (if s % 2 = 1 then x else 0) + smk r (s / 2)
theorem smk_zero : ∀ l : List Int, smk l 0 = 0
  | [] => rfl
  | x :: r => by simp [smk, smk_zero r]
theorem smk_minus : ∀ (l : List Int) {s g : Nat}, Sub g s → smk l s = smk l g + smk l (s - g)
  | [], _, _, _ => rfl
  | x :: r, s, g, h => by
    have hm := h.minus
    have ho := h.odd
    simp only [smk, hm.1, smk_minus r h.half]
    split <;> split <;> split <;> omega
theorem smk_nonneg : ∀ {l : List Int} (s : Nat), (∀ x ∈ l, 0 ≤ x) → 0 ≤ smk l s
  | [], _, _ => by simp [smk]
  | x :: r, s, h => by
    have h1 := smk_nonneg (l := r) (s / 2) (fun y hy => h y (List.mem_cons_of_mem _ hy))
    have h2 := h x List.mem_cons_self
    simp only [smk]; split <;> omega
theorem smk_full : ∀ l : List Int, smk l (2 ^ l.length - 1) = l.foldr (· + ·) 0
  | [] => rfl
  | x :: r => by
    have h1 : (2 ^ (r.length + 1) - 1) / 2 = 2 ^ r.length - 1 := by
      have : 0 < 2 ^ r.length := Nat.pow_pos (by omega)
      rw [Nat.pow_succ]; omega
    have h2 : (2 ^ (r.length + 1) - 1) % 2 = 1 := by
      have : 0 < 2 ^ r.length := Nat.pow_pos (by omega)
      rw [Nat.pow_succ]; omega
    simp only [smk, List.length_cons, h1, h2, if_true, smk_full r, List.foldr_cons]
/-- how many are in a set -/
def cnt : Nat → Nat → Int := fun n s => smk (List.replicate n 1) s
theorem cnt_pos : ∀ (n s : Nat), s < 2 ^ n → s ≠ 0 → 1 ≤ cnt n s
  | 0, s, h, h0 => by simp at h; omega
  | n + 1, s, h, h0 => by
    have h1 : 0 ≤ cnt n (s / 2) := smk_nonneg _ fun x hx => by rw [List.eq_of_mem_replicate hx]; omega
    simp only [cnt, List.replicate_succ, smk]
    simp only [cnt] at h1
    split
    · omega
    · have := cnt_pos n (s / 2) (by rw [Nat.pow_succ] at h; omega) (by omega)
      simp only [cnt] at this; omega
theorem cnt_le : ∀ (n s : Nat), cnt n s ≤ n
  | 0, s => by simp [cnt, smk]
  | n + 1, s => by
    have := cnt_le n (s / 2)
    simp only [cnt, List.replicate_succ, smk] at this ⊢
    split <;> omega
/-! ## groups -/
inductive Part (ok : Nat → Bool) : Nat → Nat → Prop
  | nil : Part ok 0 0
  | cons {s g k : Nat} : Sub g s → g ≠ 0 → ok g = true → Part ok (s - g) k → Part ok s (k + 1)
theorem Part.weigh {ok : Nat → Bool} {l : List Int} {c : Int} (hc : ∀ g, ok g = true → smk l g ≤ c) {s k : Nat} (h : Part ok s k) : smk l s ≤ k * c := by
  induction h with
  | nil => rw [smk_zero]; simp
  | cons h1 _ h3 _ ih =>
    have := hc _ h3
    rw [smk_minus l h1]
    simp only [Int.natCast_add, Int.natCast_one, Int.add_mul, Int.one_mul]; omega
theorem Part.cnt_ge {ok : Nat → Bool} {n s k : Nat} (h : Part ok s k) (hs : s < 2 ^ n) : (k : Int) ≤ cnt n s := by
  induction h with
  | nil => simp [cnt, smk_zero]
  | cons h1 h2 _ _ ih =>
    have e := smk_minus (List.replicate n 1) h1
    have := ih (by omega)
    have := cnt_pos n _ (Nat.lt_of_le_of_lt h1.le hs) h2
    simp only [cnt] at *; omega
theorem one_bit : ∀ (n s : Nat), s < 2 ^ n → s ≠ 0 → ∃ i, i < n ∧ Sub (2 ^ i) s
  | 0, s, h, h0 => by simp at h; omega
  | n + 1, s, h, h0 => by
    by_cases ho : s % 2 = 1
    · exact ⟨0, by omega, sub_iff.2 ⟨by simp; omega, by simp [Sub]⟩⟩
    · obtain ⟨i, hi, hs⟩ := one_bit n (s / 2) (by rw [Nat.pow_succ] at h; omega) (by omega)
      exact ⟨i + 1, by omega, sub_iff.2 ⟨by rw [Nat.pow_succ]; omega, by rw [Nat.pow_succ, Nat.mul_div_cancel _ (by omega)]; exact hs⟩⟩
theorem part_ex {ok : Nat → Bool} {n : Nat} (h1 : ∀ i, i < n → ok (2 ^ i) = true) : ∀ s, s < 2 ^ n → ∃ k, Part ok s k := by
  intro s
  induction s using Nat.strongRecOn with
  | _ s ih =>
    intro hs
    by_cases h0 : s = 0
    · subst h0; exact ⟨0, .nil⟩
    · obtain ⟨i, hi, hb⟩ := one_bit n s hs h0
      have : 0 < 2 ^ i := Nat.pow_pos (by omega)
      have := hb.le
      obtain ⟨k, hk⟩ := ih (s - 2 ^ i) (by omega) (by omega)
      exact ⟨k + 1, .cons hb (by omega) (h1 i hi) hk⟩
/-- the least number of groups, -1 if there is none -/
def Few (ok : Nat → Bool) (s : Nat) (v : Int) : Prop := (v = -1 ∧ ∀ k, ¬ Part ok s k) ∨ ∃ m : Nat, v = m ∧ Part ok s m ∧ ∀ k, Part ok s k → m ≤ k
theorem Few.uniq {ok : Nat → Bool} {s : Nat} {v w : Int} (h : Few ok s v) (h2 : Few ok s w) : v = w := by
  rcases h with ⟨rfl, h⟩ | ⟨m, rfl, h, hm⟩ <;> rcases h2 with ⟨rfl, h2⟩ | ⟨m2, rfl, h2, hm2⟩
  · rfl
  · exact absurd h2 (h _)
  · exact absurd h (h2 _)
  · have := hm _ h2; have := hm2 _ h; omega
theorem Few.zero {ok : Nat → Bool} : Few ok 0 0 := .inr ⟨0, rfl, .nil, fun k _ => Nat.zero_le k⟩
/-- the least number of groups, of which the first one is of some kind -/
def Acc (ok : Nat → Bool) (s : Nat) (P : Nat → Prop) (v : Int) : Prop :=
  (v = -1 ∧ ∀ g k, P g → Sub g s → g ≠ 0 → ok g = true → ¬ Part ok (s - g) k) ∨
  ∃ m : Nat, v = m + 1 ∧ (∃ g, P g ∧ Sub g s ∧ g ≠ 0 ∧ ok g = true ∧ Part ok (s - g) m) ∧ ∀ g k, P g → Sub g s → g ≠ 0 → ok g = true → Part ok (s - g) k → m ≤ k
theorem Acc.none {ok : Nat → Bool} {s : Nat} {P : Nat → Prop} (h : ∀ g, P g → Sub g s → g ≠ 0 → False) : Acc ok s P (-1) := .inl ⟨rfl, fun g k h1 h2 h3 => (h g h1 h2 h3).elim⟩
theorem Acc.done {ok : Nat → Bool} {s : Nat} {P : Nat → Prop} {v : Int} (h : Acc ok s P v) (h0 : s ≠ 0) (hP : ∀ g, Sub g s → g ≠ 0 → P g) : Few ok s v := by
  rcases h with ⟨rfl, h⟩ | ⟨m, rfl, ⟨g, h1, h2, h3, h4, h5⟩, h⟩
  · refine .inl ⟨rfl, fun k hk => ?_⟩
    cases hk with
    | nil => exact h0 rfl
    | cons h2 h3 h4 h5 => exact h _ _ (hP _ h2 h3) h2 h3 h4 h5
  · refine .inr ⟨m + 1, by omega, .cons h2 h3 h4 h5, fun k hk => ?_⟩
    cases hk with
    | nil => exact absurd rfl h0
    | cons h2 h3 h4 h5 => have := h _ _ (hP _ h2 h3) h2 h3 h4 h5; omega
theorem Acc.cong {ok : Nat → Bool} {s : Nat} {P Q : Nat → Prop} {v : Int} (h : Acc ok s P v) (hq : ∀ g, Sub g s → g ≠ 0 → (P g ↔ Q g)) : Acc ok s Q v := by
  rcases h with ⟨rfl, h⟩ | ⟨m, rfl, ⟨g, h1, h2, h3, h4, h5⟩, h⟩
  · exact .inl ⟨rfl, fun g k h1 h2 h3 => h g k ((hq g h2 h3).2 h1) h2 h3⟩
  · exact .inr ⟨m, rfl, ⟨g, (hq g h2 h3).1 h1, h2, h3, h4, h5⟩, fun g k h1 h2 h3 => h g k ((hq g h2 h3).2 h1) h2 h3⟩
/-- one more first group that is of no use -/
theorem Acc.skip {ok : Nat → Bool} {s : Nat} {P : Nat → Prop} {v : Int} {g : Nat} (h : Acc ok s P v) (hn : ok g = true → ∀ k, ¬ Part ok (s - g) k) : Acc ok s (fun x => x = g ∨ P x) v := by
  rcases h with ⟨rfl, h⟩ | ⟨m, rfl, ⟨g', h1, h2, h3, h4, h5⟩, h⟩
  · refine .inl ⟨rfl, fun x k h1 h2 h3 h4 => ?_⟩
    rcases h1 with rfl | h1
    · exact hn h4 k
    · exact h x k h1 h2 h3 h4
  · refine .inr ⟨m, rfl, ⟨g', .inr h1, h2, h3, h4, h5⟩, fun x k h1 h2 h3 h4 h5 => ?_⟩
    rcases h1 with rfl | h1
    · exact absurd h5 (hn h4 k)
    · exact h x k h1 h2 h3 h4 h5
theorem Acc.add {ok : Nat → Bool} {s : Nat} {P : Nat → Prop} {v r : Int} {g : Nat} (h : Acc ok s P v) (hs : Sub g s) (h0 : g ≠ 0) (hok : ok g = true) (hr : Few ok (s - g) r) (h1 : ¬ r < 0) :
    Acc ok s (fun x => x = g ∨ P x) (if v < 0 ∨ r + 1 < v then r + 1 else v) := by
  obtain ⟨q, rfl, hq, hqm⟩ : ∃ q : Nat, r = q ∧ Part ok (s - g) q ∧ ∀ k, Part ok (s - g) k → q ≤ k := by
    rcases hr with ⟨rfl, _⟩ | h
    · omega
    · exact h
  rcases h with ⟨rfl, h⟩ | ⟨m, rfl, ⟨g', h1, h2, h3, h4, h5⟩, h⟩
  · rw [if_pos (by omega)]
    refine .inr ⟨q, rfl, ⟨g, .inl rfl, hs, h0, hok, hq⟩, fun x k h1 h2 h3 h4 h5 => ?_⟩
    rcases h1 with rfl | h1
    · exact hqm k h5
    · exact absurd h5 (h x k h1 h2 h3 h4)
  · split
    · refine .inr ⟨q, rfl, ⟨g, .inl rfl, hs, h0, hok, hq⟩, fun x k h1 h2 h3 h4 h5 => ?_⟩
      rcases h1 with rfl | h1
      · exact hqm k h5
      · have := h x k h1 h2 h3 h4 h5; omega
    · refine .inr ⟨m, rfl, ⟨g', .inr h1, h2, h3, h4, h5⟩, fun x k h1 h2 h3 h4 h5 => ?_⟩
      rcases h1 with rfl | h1
      · have := hqm k h5; omega
      · exact h x k h1 h2 h3 h4 h5
/-- a number that begins high and is lowered -/
def Low (ok : Nat → Bool) (s : Nat) (P : Nat → Prop) (B v : Int) : Prop := ∃ a, Acc ok s P a ∧ v = if a < 0 then B else min B a
theorem Low.init {ok : Nat → Bool} {s : Nat} {P : Nat → Prop} {B : Int} (h : ∀ g, P g → Sub g s → g ≠ 0 → False) : Low ok s P B B := ⟨-1, Acc.none h, by simp⟩
theorem Low.skip {ok : Nat → Bool} {s : Nat} {P : Nat → Prop} {B v : Int} {g : Nat} (h : Low ok s P B v) (hn : Sub g s → g ≠ 0 → ok g = true → False) : Low ok s (fun x => x = g ∨ P x) B v := by
  obtain ⟨a, ha, hv⟩ := h
  by_cases hb : Sub g s ∧ g ≠ 0 ∧ ok g = true
  · exact (hn hb.1 hb.2.1 hb.2.2).elim
  · by_cases h2 : ok g = true
    · exact ⟨a, ha.cong fun x h3 h4 => ⟨.inr, fun h5 => h5.resolve_left fun e => by subst e; exact hb ⟨h3, h4, h2⟩⟩, hv⟩
    · exact ⟨a, ha.skip fun h => absurd h h2, hv⟩
theorem Low.add {ok : Nat → Bool} {s : Nat} {P : Nat → Prop} {B v r : Int} {g : Nat} (h : Low ok s P B v) (hs : Sub g s) (h0 : g ≠ 0) (hok : ok g = true) (hr : Few ok (s - g) r) (h1 : ¬ r < 0) :
    Low ok s (fun x => x = g ∨ P x) B (min v (1 + r)) := by
  obtain ⟨a, ha, hv⟩ := h
  refine ⟨_, ha.add hs h0 hok hr h1, ?_⟩
  have : -1 ≤ a := by rcases ha with ⟨rfl, _⟩ | ⟨m, rfl, _⟩ <;> omega
  split at hv <;> split <;> (try split) <;> omega
theorem Low.done {ok : Nat → Bool} {n s : Nat} {P : Nat → Prop} {B v : Int} (h : Low ok s P B v) (hn : ∀ i, i < n → ok (2 ^ i) = true) (hB : n ≤ B) (hs : s < 2 ^ n) (h0 : s ≠ 0) (hP : ∀ g, Sub g s → g ≠ 0 → P g) : Few ok s v ∧ 0 ≤ v := by
  obtain ⟨a, ha, hv⟩ := h
  have hf := ha.done h0 hP
  obtain ⟨k, hk⟩ := part_ex hn s hs
  rcases hf with ⟨rfl, h⟩ | ⟨m, rfl, h, hm⟩
  · exact absurd hk (h k)
  · have h1 := h.cnt_ge hs
    have h2 := cnt_le n s
    rw [if_neg (by omega)] at hv
    obtain rfl : v = m := by omega
    exact ⟨.inr ⟨m, rfl, h, hm⟩, by omega⟩
end Go.Proofs.Ytkojheinklgdeaa
