/-
  Panes cut from glass, plainly: lists of panes, sets of them told as numbers.
-/
import Derived.Test.YtkojheinklgdeaaFT
import Derived.Test.YtkojheinklgdeaaB1
namespace Go.Proofs.Ytkojheinklgdeaa
open Go

/-- a pane lies on glass in some way -/
def wf (p : Pane) (w h : Nat) : Prop := (p.W ≤ w ∧ p.H ≤ h) ∨ (p.Turns = true ∧ p.W ≠ p.H ∧ p.H ≤ w ∧ p.W ≤ h)
instance (p : Pane) (w h : Nat) : Decidable (wf p w h) := inferInstanceAs (Decidable (_ ∨ _))
theorem wf.mono {p : Pane} {w h w' h' : Nat} (a : wf p w h) (h1 : w ≤ w') (h2 : h ≤ h') : wf p w' h' := by
  unfold wf at *
  rcases a with a | a
  · exact .inl (by omega)
  · exact .inr ⟨a.1, a.2.1, by omega, by omega⟩
inductive Can : List Pane → Nat → Nat → Prop
  | nil {w h : Nat} : Can [] w h
  | one {p : Pane} {w h : Nat} : wf p w h → Can [p] w h
  | dn {A B L : List Pane} {x w h : Nat} : Can A x h → Can B (w - x) h → 0 < x → x < w → A ≠ [] → B ≠ [] → (A ++ B).Perm L → Can L w h
  | ac {A B L : List Pane} {y w h : Nat} : Can A w y → Can B w (h - y) → 0 < y → y < h → A ≠ [] → B ≠ [] → (A ++ B).Perm L → Can L w h
theorem Can.mono {L : List Pane} {w h : Nat} (c : Can L w h) : ∀ {w' h' : Nat}, w ≤ w' → h ≤ h' → Can L w' h' := by
  induction c with
  | nil => intros; exact .nil
  | one a => intro w' h' h1 h2; exact .one (a.mono h1 h2)
  | dn _ _ h1 h2 h3 h4 h5 i1 i2 =>
    intro w' h' q1 q2
    exact .dn (i1 (Nat.le_refl _) q2) (i2 (by omega) q2) h1 (by omega) h3 h4 h5
  | ac _ _ h1 h2 h3 h4 h5 i1 i2 =>
    intro w' h' q1 q2
    exact .ac (i1 q1 (Nat.le_refl _)) (i2 q1 (by omega)) h1 (by omega) h3 h4 h5
theorem Can.perm {L M : List Pane} {w h : Nat} (c : Can L w h) (p : L.Perm M) : Can M w h := by
  cases c with
  | nil => rw [List.nil_perm.1 p]; exact .nil
  | one a => rw [← List.singleton_perm.1 p]; exact .one a
  | dn c1 c2 h1 h2 h3 h4 h5 => exact .dn c1 c2 h1 h2 h3 h4 (h5.trans p)
  | ac c1 c2 h1 h2 h3 h4 h5 => exact .ac c1 c2 h1 h2 h3 h4 (h5.trans p)
theorem Can.single {p : Pane} {w h : Nat} (c : Can [p] w h) : wf p w h := by
  generalize hL : [p] = L at c
  cases c with
  | nil => cases hL
  | one a => cases hL; exact a
  | dn c1 c2 h1 h2 h3 h4 h5 =>
    have := h5.length_eq
    rw [← hL, List.length_append, List.length_singleton] at this
    have q1 := List.length_pos_iff.2 h3
    have q2 := List.length_pos_iff.2 h4
    omega
  | ac c1 c2 h1 h2 h3 h4 h5 =>
    have := h5.length_eq
    rw [← hL, List.length_append, List.length_singleton] at this
    have q1 := List.length_pos_iff.2 h3
    have q2 := List.length_pos_iff.2 h4
    omega
theorem mem_perm {α : Type} {p : α} {A : List α} (h : p ∈ A) : ∃ A', A.Perm (p :: A') := by
  obtain ⟨a, b, rfl⟩ := List.append_of_mem h
  exact ⟨a ++ b, List.perm_middle⟩
theorem split_perm {α : Type} {p : α} {A B M : List α} (h : (A ++ B).Perm (p :: M)) : (∃ A', A.Perm (p :: A') ∧ (A' ++ B).Perm M) ∨ (∃ B', B.Perm (p :: B') ∧ (A ++ B').Perm M) := by
  have hm : p ∈ A ++ B := h.mem_iff.2 (by simp)
  rcases List.mem_append.1 hm with hm | hm
  · obtain ⟨A', hA⟩ := mem_perm hm
    exact .inl ⟨A', hA, (((hA.append_right B).symm.trans h) : (p :: (A' ++ B)).Perm (p :: M)).cons_inv⟩
  · obtain ⟨B', hB⟩ := mem_perm hm
    refine .inr ⟨B', hB, List.Perm.cons_inv (a := p) ?_⟩
    exact (List.perm_middle.symm.trans (hB.append_left A).symm).trans h
/-- one pane less -/
theorem Can.less {L : List Pane} {w h : Nat} (c : Can L w h) : ∀ {p : Pane} {M : List Pane}, L.Perm (p :: M) → Can M w h := by
  induction c with
  | nil => intro p M q; have := q.length_eq; simp at this
  | one a =>
    intro p M q
    have := q.length_eq
    simp at this
    rw [this]; exact .nil
  | dn c1 c2 h1 h2 h3 h4 h5 i1 i2 =>
    intro p M q
    rcases split_perm (h5.trans q) with ⟨A', e1, e2⟩ | ⟨B', e1, e2⟩
    · by_cases hA : A' = []
      · subst hA
        exact (c2.mono (by omega) (Nat.le_refl _)).perm e2
      · exact .dn (i1 e1) c2 h1 h2 hA h4 e2
    · by_cases hB : B' = []
      · subst hB
        rw [List.append_nil] at e2
        exact (c1.mono (by omega) (Nat.le_refl _)).perm e2
      · exact .dn c1 (i2 e1) h1 h2 h3 hB e2
  | ac c1 c2 h1 h2 h3 h4 h5 i1 i2 =>
    intro p M q
    rcases split_perm (h5.trans q) with ⟨A', e1, e2⟩ | ⟨B', e1, e2⟩
    · by_cases hA : A' = []
      · subst hA
        exact (c2.mono (Nat.le_refl _) (by omega)).perm e2
      · exact .ac (i1 e1) c2 h1 h2 hA h4 e2
    · by_cases hB : B' = []
      · subst hB
        rw [List.append_nil] at e2
        exact (c1.mono (Nat.le_refl _) (by omega)).perm e2
      · exact .ac c1 (i2 e1) h1 h2 h3 hB e2
theorem Can.map {L : List Pane} {w h : Nat} {f : Pane → Pane} (hf : ∀ p w h, wf p w h → wf (f p) w h) (c : Can L w h) : Can (L.map f) w h := by
  induction c with
  | nil => exact .nil
  | one a => exact .one (hf _ _ _ a)
  | dn _ _ h1 h2 h3 h4 h5 i1 i2 => exact .dn i1 i2 h1 h2 (by simpa using h3) (by simpa using h4) (by rw [← List.map_append]; exact h5.map f)
  | ac _ _ h1 h2 h3 h4 h5 i1 i2 => exact .ac i1 i2 h1 h2 (by simpa using h3) (by simpa using h4) (by rw [← List.map_append]; exact h5.map f)
theorem Can.turn {L : List Pane} {w h : Nat} {f : Pane → Pane} (hf : ∀ p w h, wf p w h → wf (f p) h w) (c : Can L w h) : Can (L.map f) h w := by
  induction c with
  | nil => exact .nil
  | one a => exact .one (hf _ _ _ a)
  | dn _ _ h1 h2 h3 h4 h5 i1 i2 => exact .ac i1 i2 h1 h2 (by simpa using h3) (by simpa using h4) (by rw [← List.map_append]; exact h5.map f)
  | ac _ _ h1 h2 h3 h4 h5 i1 i2 => exact .dn i1 i2 h1 h2 (by simpa using h3) (by simpa using h4) (by rw [← List.map_append]; exact h5.map f)
def arP : List Pane → Int
  | [] => 0
  | p :: r => p.W * p.H + arP r
theorem arP_append (A B : List Pane) : arP (A ++ B) = arP A + arP B := by
  induction A with
  | nil => simp [arP]
  | cons p r ih => simp only [List.cons_append, arP, ih]; omega
theorem arP_perm {A B : List Pane} (p : A.Perm B) : arP A = arP B := by
  induction p with
  | nil => rfl
  | cons x _ ih => simp only [arP, ih]
  | swap x y l => simp only [arP]; omega
  | trans _ _ i j => exact i.trans j
theorem Can.area {L : List Pane} {w h : Nat} (c : Can L w h) : (∀ p ∈ L, 1 ≤ p.W ∧ 1 ≤ p.H) → arP L ≤ (w : Int) * h := by
  induction c with
  | @nil w h => intro _; exact Int.mul_nonneg (by omega) (by omega)
  | @one p w h a =>
    intro hp
    have := hp p (by simp)
    simp only [arP, Int.add_zero]
    unfold wf at a
    rcases a with a | a
    · exact Int.mul_le_mul a.1 a.2 (by omega) (by omega)
    · rw [Int.mul_comm]
      exact Int.mul_le_mul a.2.2.1 a.2.2.2 (by omega) (by omega)
  | @dn A B L x w h _ _ h1 h2 h3 h4 h5 i1 i2 =>
    intro hp
    have e1 := i1 fun p q => hp p (h5.mem_iff.1 (by simp [q]))
    have e2 := i2 fun p q => hp p (h5.mem_iff.1 (by simp [q]))
    rw [← arP_perm h5, arP_append]
    obtain ⟨d, rfl⟩ := Nat.exists_eq_add_of_le (Nat.le_of_lt h2)
    rw [Nat.add_sub_cancel_left] at e2
    have : ((x + d : Nat) : Int) * h = x * h + d * h := by push_cast; rw [Int.add_mul]
    omega
  | @ac A B L x w h _ _ h1 h2 h3 h4 h5 i1 i2 =>
    intro hp
    have e1 := i1 fun p q => hp p (h5.mem_iff.1 (by simp [q]))
    have e2 := i2 fun p q => hp p (h5.mem_iff.1 (by simp [q]))
    rw [← arP_perm h5, arP_append]
    obtain ⟨d, rfl⟩ := Nat.exists_eq_add_of_le (Nat.le_of_lt h2)
    rw [Nat.add_sub_cancel_left] at e2
    have : (w : Int) * ((x + d : Nat) : Int) = w * x + w * d := by push_cast; rw [Int.mul_add]
    omega
/-! ## sets told as numbers -/
def sel : List Pane → Nat → List Pane
  | [], _ => []
  | p :: r, s => if s % 2 = 1 then p :: sel r (s / 2) else sel r (s / 2)
theorem sel_zero : ∀ ps : List Pane, sel ps 0 = []
  | [] => rfl
  | p :: r => by rw [sel, if_neg (by decide), Nat.zero_div, sel_zero r]
theorem sel_all : ∀ ps : List Pane, sel ps (2 ^ ps.length - 1) = ps
  | [] => rfl
  | p :: r => by
    have h : 0 < 2 ^ r.length := Nat.pow_pos (by omega)
    have e : 2 ^ (p :: r).length = 2 * 2 ^ r.length := by rw [List.length_cons, Nat.pow_succ]; omega
    rw [sel, e, if_pos (by omega), show (2 * 2 ^ r.length - 1) / 2 = 2 ^ r.length - 1 by omega, sel_all r]
theorem sel_nil : ∀ {ps : List Pane} {s : Nat}, s < 2 ^ ps.length → sel ps s = [] → s = 0
  | [], s, h, _ => by simp at h; exact h
  | p :: r, s, h, e => by
    have e2 : 2 ^ (p :: r).length = 2 * 2 ^ r.length := by rw [List.length_cons, Nat.pow_succ]; omega
    rw [sel] at e
    split at e
    · cases e
    · have := sel_nil (s := s / 2) (by omega) e
      omega
theorem sel_bit : ∀ {ps : List Pane} {i : Nat} {p : Pane}, ps[i]? = some p → sel ps (2 ^ i) = [p]
  | x :: r, 0, p, h => by
    simp at h; subst h
    simp [sel, sel_zero]
  | x :: r, i + 1, p, h => by
    rw [sel, if_neg (by rw [Nat.pow_succ]; omega), show 2 ^ (i + 1) / 2 = 2 ^ i by rw [Nat.pow_succ]; omega]
    exact sel_bit (by simpa using h)
theorem sel_one : ∀ {ps : List Pane} {s : Nat}, s < 2 ^ ps.length → (sel ps s).length = 1 → ∃ i, i < ps.length ∧ s = 2 ^ i
  | [], s, h, e => by simp [sel] at e
  | p :: r, s, h, e => by
    have e2 : 2 ^ (p :: r).length = 2 * 2 ^ r.length := by rw [List.length_cons, Nat.pow_succ]; omega
    rw [sel] at e
    split at e
    · rw [List.length_cons] at e
      have h0 : sel r (s / 2) = [] := List.eq_nil_of_length_eq_zero (by omega)
      have := sel_nil (by omega) h0
      exact ⟨0, by simp, by simp; omega⟩
    · obtain ⟨i, h1, h2⟩ := sel_one (s := s / 2) (by omega) e
      exact ⟨i + 1, by simpa using h1, by rw [Nat.pow_succ]; omega⟩
theorem sel_minus : ∀ (ps : List Pane) {s g : Nat}, Sub g s → (sel ps g ++ sel ps (s - g)).Perm (sel ps s)
  | [], _, _, _ => .refl _
  | p :: r, s, g, h => by
    have hm := h.minus
    have ho := h.odd
    have ih := sel_minus r h.half
    simp only [sel, hm.1]
    by_cases h1 : g % 2 = 1
    · rw [if_pos h1, if_neg (by omega), if_pos (by omega), List.cons_append]
      exact ih.cons p
    · rw [if_neg h1]
      by_cases h2 : s % 2 = 1
      · rw [if_pos (by omega), if_pos h2]
        exact List.perm_middle.trans (ih.cons p)
      · rw [if_neg (by omega), if_neg h2]
        exact ih
theorem sel_split : ∀ (ps : List Pane) (s : Nat) {A B : List Pane}, (A ++ B).Perm (sel ps s) → ∃ g, Sub g s ∧ (sel ps g).Perm A ∧ (sel ps (s - g)).Perm B
  | [], s, A, B, h => by
    have h1 := List.append_eq_nil_iff.1 (List.perm_nil.1 h)
    rw [h1.1, h1.2]
    exact ⟨0, Sub.zero _, .refl _, .refl _⟩
  | p :: r, s, A, B, h => by
    by_cases h2 : s % 2 = 1
    · rw [sel, if_pos h2] at h
      rcases split_perm h with ⟨A', e1, e2⟩ | ⟨B', e1, e2⟩
      · obtain ⟨g, g1, g2, g3⟩ := sel_split r (s / 2) e2
        have hs : Sub (2 * g + 1) s := sub_iff.2 ⟨by omega, by rw [show (2 * g + 1) / 2 = g by omega]; exact g1⟩
        have hm := hs.minus
        refine ⟨2 * g + 1, hs, ?_, ?_⟩
        · rw [sel, if_pos (by omega), show (2 * g + 1) / 2 = g by omega]
          exact (g2.cons p).trans e1.symm
        · rw [sel, if_neg (by omega), hm.1, show (2 * g + 1) / 2 = g by omega]
          exact g3
      · obtain ⟨g, g1, g2, g3⟩ := sel_split r (s / 2) e2
        have hs : Sub (2 * g) s := sub_iff.2 ⟨by omega, by rw [show (2 * g) / 2 = g by omega]; exact g1⟩
        have hm := hs.minus
        refine ⟨2 * g, hs, ?_, ?_⟩
        · rw [sel, if_neg (by omega), show (2 * g) / 2 = g by omega]
          exact g2
        · rw [sel, if_pos (by omega), hm.1, show (2 * g) / 2 = g by omega]
          exact (g3.cons p).trans e1.symm
    · rw [sel, if_neg h2] at h
      obtain ⟨g, g1, g2, g3⟩ := sel_split r (s / 2) h
      have hs : Sub (2 * g) s := sub_iff.2 ⟨by omega, by rw [show (2 * g) / 2 = g by omega]; exact g1⟩
      have hm := hs.minus
      refine ⟨2 * g, hs, ?_, ?_⟩
      · rw [sel, if_neg (by omega), show (2 * g) / 2 = g by omega]; exact g2
      · rw [sel, if_neg (by omega), hm.1, show (2 * g) / 2 = g by omega]; exact g3
/-- what a cut in two does -/
def Two (ps : List Pane) (s w h g : Nat) : Prop := (∃ x, 0 < x ∧ x < w ∧ Can (sel ps g) x h ∧ Can (sel ps (s - g)) (w - x) h) ∨ (∃ y, 0 < y ∧ y < h ∧ Can (sel ps g) w y ∧ Can (sel ps (s - g)) w (h - y))
theorem Can.two {ps : List Pane} {s w h : Nat} (hs : s < 2 ^ ps.length) (h1 : s ≠ 0) (h2 : ∀ i, i < ps.length → s ≠ 2 ^ i) (c : Can (sel ps s) w h) : ∃ g, Sub g s ∧ 0 < g ∧ g < s ∧ Two ps s w h g := by
  generalize hL : sel ps s = L at c
  have key : ∀ {A B : List Pane}, A ≠ [] → B ≠ [] → (A ++ B).Perm L → ∃ g, Sub g s ∧ 0 < g ∧ g < s ∧ (sel ps g).Perm A ∧ (sel ps (s - g)).Perm B := by
    intro A B hA hB hp
    obtain ⟨g, g1, g2, g3⟩ := sel_split ps s (hL ▸ hp)
    refine ⟨g, g1, Nat.pos_of_ne_zero fun e => ?_, Nat.lt_of_le_of_ne g1.le fun e => ?_, g2, g3⟩
    · subst e; rw [sel_zero] at g2; exact hA (List.nil_perm.1 g2)
    · subst e; rw [Nat.sub_self, sel_zero] at g3; exact hB (List.nil_perm.1 g3)
  cases c with
  | nil => exact absurd (sel_nil hs hL) h1
  | one a =>
    obtain ⟨i, hi, e⟩ := sel_one hs (by rw [hL]; rfl)
    exact absurd e (h2 i hi)
  | dn c1 c2 h3 h4 hA hB hp =>
    obtain ⟨g, g1, g2, g3, g4, g5⟩ := key hA hB hp
    exact ⟨g, g1, g2, g3, .inl ⟨_, h3, h4, c1.perm g4.symm, c2.perm g5.symm⟩⟩
  | ac c1 c2 h3 h4 hA hB hp =>
    obtain ⟨g, g1, g2, g3, g4, g5⟩ := key hA hB hp
    exact ⟨g, g1, g2, g3, .inr ⟨_, h3, h4, c1.perm g4.symm, c2.perm g5.symm⟩⟩
theorem Two.can {ps : List Pane} {s w h g : Nat} (hs : s < 2 ^ ps.length) (hg : Sub g s) (h0 : 0 < g) (h1 : g < s) (t : Two ps s w h g) : Can (sel ps s) w h := by
  have q1 : sel ps g ≠ [] := fun e => by have := sel_nil (by omega) e; omega
  have q2 : sel ps (s - g) ≠ [] := fun e => by have := sel_nil (by omega) e; omega
  rcases t with ⟨x, x1, x2, c1, c2⟩ | ⟨y, y1, y2, c1, c2⟩
  · exact .dn c1 c2 x1 x2 q1 q2 (sel_minus ps hg)
  · exact .ac c1 c2 y1 y2 q1 q2 (sel_minus ps hg)
noncomputable def canB (ps : List Pane) (w h s : Nat) : Bool := @decide (Can (sel ps s) w h) (Classical.propDecidable _)
theorem canB_iff {ps : List Pane} {s w h : Nat} : canB ps w h s = true ↔ Can (sel ps s) w h := @decide_eq_true_iff _ (Classical.propDecidable _)
theorem canB_zero {ps : List Pane} {w h : Nat} : canB ps w h 0 = true := canB_iff.2 (by rw [sel_zero]; exact .nil)
theorem canB_one {ps : List Pane} {i w h : Nat} {p : Pane} (hp : ps[i]? = some p) : canB ps w h (2 ^ i) = true ↔ wf p w h := by
  rw [canB_iff, sel_bit hp]; exact ⟨Can.single, .one⟩
/-! ## groups -/
inductive PartL (C : List Pane → Prop) : List Pane → Nat → Prop
  | nil : PartL C [] 0
  | cons {G R L : List Pane} {k : Nat} : G ≠ [] → C G → PartL C R k → (G ++ R).Perm L → PartL C L (k + 1)
theorem PartL.perm {C : List Pane → Prop} {L M : List Pane} {k : Nat} (p : PartL C L k) (h : L.Perm M) : PartL C M k := by
  cases p with
  | nil => rw [List.nil_perm.1 h]; exact .nil
  | cons h1 h2 h3 h4 => exact .cons h1 h2 h3 (h4.trans h)
theorem PartL.less {C : List Pane → Prop} (hC : ∀ {G G' : List Pane} {p : Pane}, C G → G.Perm (p :: G') → C G') {L : List Pane} {k : Nat} (q : PartL C L k) : ∀ {p : Pane} {M : List Pane}, L.Perm (p :: M) → ∃ j, j ≤ k ∧ PartL C M j := by
  induction q with
  | nil => intro p M e; have := e.length_eq; simp at this
  | @cons G R L k h1 h2 h3 h4 ih =>
    intro p M e
    rcases split_perm (h4.trans e) with ⟨G', e1, e2⟩ | ⟨R', e1, e2⟩
    · by_cases hG : G' = []
      · subst hG
        exact ⟨k, by omega, h3.perm e2⟩
      · exact ⟨k + 1, Nat.le_refl _, .cons hG (hC h2 e1) h3 e2⟩
    · obtain ⟨j, j1, j2⟩ := ih e1
      exact ⟨j + 1, by omega, .cons h1 h2 j2 e2⟩
theorem PartL.map {C : List Pane → Prop} {f : Pane → Pane} (hC : ∀ {G : List Pane}, C G → C (G.map f)) {L : List Pane} {k : Nat} (q : PartL C L k) : PartL C (L.map f) k := by
  induction q with
  | nil => exact .nil
  | cons h1 h2 _ h4 ih => exact .cons (by simpa using h1) (hC h2) ih (by rw [← List.map_append]; exact h4.map f)
theorem Part.toL {C : List Pane → Prop} {ok : Nat → Bool} {ps : List Pane} (hok : ∀ g, ok g = true ↔ C (sel ps g)) {s k : Nat} (q : Part ok s k) : s < 2 ^ ps.length → PartL C (sel ps s) k := by
  induction q with
  | nil => intro _; rw [sel_zero]; exact .nil
  | @cons s g k h1 h2 h3 h4 ih =>
    intro hs
    have := h1.le
    exact .cons (fun e => h2 (sel_nil (by omega) e)) ((hok g).1 h3) (ih (by omega)) (sel_minus ps h1)
theorem PartL.toP {C : List Pane → Prop} (hC : ∀ {G G' : List Pane}, C G → G.Perm G' → C G') {ok : Nat → Bool} {ps : List Pane} (hok : ∀ g, ok g = true ↔ C (sel ps g)) {L : List Pane} {k : Nat} (q : PartL C L k) : ∀ s, s < 2 ^ ps.length → L.Perm (sel ps s) → Part ok s k := by
  induction q with
  | nil =>
    intro s hs e
    rw [sel_nil hs (List.nil_perm.1 e)]
    exact .nil
  | @cons G R L k h1 h2 h3 h4 ih =>
    intro s hs e
    obtain ⟨g, g1, g2, g3⟩ := sel_split ps s (h4.trans e)
    have := g1.le
    exact .cons g1 (fun e0 => h1 (by subst e0; rw [sel_zero] at g2; exact List.nil_perm.1 g2)) ((hok g).2 (hC h2 g2.symm)) (ih _ (by omega) g3.symm)
end Go.Proofs.Ytkojheinklgdeaa
