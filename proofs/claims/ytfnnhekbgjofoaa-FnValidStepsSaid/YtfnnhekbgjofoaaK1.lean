/-
  The cuts of a tree, with the cut above each; orders of cuts.
-/
import Derived.Test.YtfnnhekbgjofoaaD2
namespace Go.Proofs.Ytfnnhekbgjofoaa
open Go

def BT.knots : BT → Int → Int → List (Int × Int)
  | .c _ _ l r, n, ab => (n, ab) :: (l.knots (n + 1) n ++ r.knots (n + 1 + l.sz) n)
  | .w, _, _ => []
  | .p _ _, _, _ => []
theorem BT.knots_len : ∀ (b : BT) (n ab : Int), ((b.knots n ab).length : Int) = b.cuts
  | .w, _, _ => rfl
  | .p _ _, _, _ => rfl
  | .c d a l r, n, ab => by
    have h1 := l.knots_len (n + 1) n
    have h2 := r.knots_len (n + 1 + l.sz) n
    simp only [BT.knots, BT.cuts, List.length_cons, List.length_append]; omega
theorem BT.knots_rng : ∀ (b : BT) (n ab : Int), ∀ q ∈ b.knots n ab, n ≤ q.1 ∧ q.1 < n + b.sz ∧ ((q.1 = n ∧ q.2 = ab) ∨ (n ≤ q.2 ∧ q.2 < q.1 ∧ q.2 ∈ (b.knots n ab).map Prod.fst))
  | .w, _, _, q, h => by cases h
  | .p _ _, _, _, q, h => by cases h
  | .c d a l r, n, ab, q, h => by
    have p1 := l.sz_pos
    have p2 := r.sz_pos
    simp only [BT.knots, List.mem_cons, List.mem_append] at h
    simp only [BT.knots, BT.sz, List.map_cons, List.map_append, List.mem_cons, List.mem_append]
    rcases h with h | h | h
    · subst h; exact ⟨by simp, by simp; omega, .inl ⟨rfl, rfl⟩⟩
    · obtain ⟨h1, h2, h3⟩ := l.knots_rng _ _ q h
      refine ⟨by omega, by omega, .inr ?_⟩
      rcases h3 with ⟨h3, h4⟩ | ⟨h3, h4, h5⟩
      · exact ⟨by omega, by omega, .inl h4⟩
      · exact ⟨by omega, h4, .inr (.inl h5)⟩
    · obtain ⟨h1, h2, h3⟩ := r.knots_rng _ _ q h
      refine ⟨by omega, by omega, .inr ?_⟩
      rcases h3 with ⟨h3, h4⟩ | ⟨h3, h4, h5⟩
      · exact ⟨by omega, by omega, .inl h4⟩
      · exact ⟨by omega, h4, .inr (.inr h5)⟩
theorem BT.knots_asc : ∀ (b : BT) (n ab : Int), (b.knots n ab).Pairwise (fun p q => p.1 < q.1)
  | .w, _, _ => .nil
  | .p _ _, _, _ => .nil
  | .c d a l r, n, ab => by
    simp only [BT.knots, List.pairwise_cons, List.pairwise_append]
    have p1 := l.sz_pos
    refine ⟨fun q hq => ?_, l.knots_asc _ _, r.knots_asc _ _, fun p hp q hq => ?_⟩
    · rcases List.mem_append.1 hq with h | h
      · have := (l.knots_rng _ _ q h).1; show n < q.1; omega
      · have := (r.knots_rng _ _ q h).1; show n < q.1; omega
    · have := (l.knots_rng _ _ p hp).2.1
      have := (r.knots_rng _ _ q hq).1
      omega
/-- the first place of a number, from i on -/
def plc (x : Int) : List Int → Nat → Int
  | [], _ => -1
  | u :: r, i => if u = x then i else plc x r (i + 1)
theorem plc_cases (x : Int) : ∀ (l : List Int) (i : Nat), (plc x l i = -1 ∧ x ∉ l) ∨ ∃ j : Nat, plc x l i = ((i + j : Nat) : Int) ∧ l[j]? = some x ∧ x ∈ l
  | [], i => .inl ⟨rfl, by simp⟩
  | u :: r, i => by
    simp only [plc]
    split
    · rename_i h; exact .inr ⟨0, rfl, by simp [h], by simp [h]⟩
    · rename_i h
      rcases plc_cases x r (i + 1) with ⟨h1, h2⟩ | ⟨j, h1, h2, h3⟩
      · exact .inl ⟨h1, by simp [h2, Ne.symm h]⟩
      · exact .inr ⟨j + 1, by rw [h1]; congr 1; omega, by simpa using h2, by simp [h3]⟩
theorem plc_mem {x : Int} {l : List Int} : plc x l 0 < 0 ↔ x ∉ l := by
  rcases plc_cases x l 0 with ⟨h1, h2⟩ | ⟨j, h1, h2, h3⟩
  · rw [h1]; simp [h2]
  · rw [h1]; simp [h3]
theorem plc_le {x : Int} {l : List Int} : -1 ≤ plc x l 0 ∧ plc x l 0 < l.length := by
  rcases plc_cases x l 0 with ⟨h1, h2⟩ | ⟨j, h1, h2, h3⟩
  · omega
  · have := (List.getElem?_eq_some_iff.1 h2).1; omega
/-- the cut above a cut; -2 if there is no such cut -/
def abv : List (Int × Int) → Int → Int
  | [], _ => -2
  | q :: r, n => if q.1 = n then q.2 else abv r n
theorem abv_plc (n : Int) : ∀ (K : List (Int × Int)) (i : Nat), (plc n (K.map Prod.fst) i = -1 ∧ abv K n = -2 ∧ n ∉ K.map Prod.fst) ∨ ∃ j : Nat, plc n (K.map Prod.fst) i = ((i + j : Nat) : Int) ∧ K[j]? = some (n, abv K n)
  | [], i => .inl ⟨rfl, rfl, by simp⟩
  | q :: r, i => by
    simp only [List.map_cons, plc, abv]
    split
    · rename_i h; exact .inr ⟨0, rfl, by simp [← h]⟩
    · rename_i h
      rcases abv_plc n r (i + 1) with ⟨h1, h2, h3⟩ | ⟨j, h1, h2⟩
      · exact .inl ⟨h1, h2, by simp only [List.mem_cons, not_or]; exact ⟨Ne.symm h, h3⟩⟩
      · exact .inr ⟨j + 1, by rw [h1]; congr 1; omega, by simpa using h2⟩
theorem abv_mem {K : List (Int × Int)} {q : Int × Int} (ha : K.Pairwise (fun p q => p.1 < q.1)) (hq : q ∈ K) : abv K q.1 = q.2 := by
  induction K with
  | nil => cases hq
  | cons p r ih =>
    rw [List.pairwise_cons] at ha
    simp only [abv]
    rcases List.mem_cons.1 hq with h | h
    · subst h; rw [if_pos rfl]
    · have := ha.1 q h
      rw [if_neg (by omega)]; exact ih ha.2 h
def okStep (K : List (Int × Int)) (done : List Int) (n : Int) : Bool := decide (n ∈ K.map Prod.fst) && (!decide (n ∈ done) && (decide (abv K n < 0) || decide (abv K n ∈ done)))
def begOk (K : List (Int × Int)) : List Int → List Int → Bool
  | _, [] => true
  | done, n :: r => okStep K done n && begOk K (done ++ [n]) r
theorem okStep_iff {K : List (Int × Int)} {done : List Int} {n : Int} : okStep K done n = true ↔ n ∈ K.map Prod.fst ∧ n ∉ done ∧ (abv K n < 0 ∨ abv K n ∈ done) := by
  simp [okStep]
theorem begOk_append (K : List (Int × Int)) : ∀ (a d b : List Int), begOk K d (a ++ b) = (begOk K d a && begOk K (d ++ a) b)
  | [], d, b => by simp [begOk]
  | n :: r, d, b => by simp only [List.cons_append, begOk, begOk_append K r (d ++ [n]) b, Bool.and_assoc, List.append_assoc, List.cons_append, List.nil_append]
/-- the cuts of a tree, as a set with their aboves -/
structure KOk (K : List (Int × Int)) : Prop where
  asc : K.Pairwise (fun p q => p.1 < q.1)
  up : ∀ q ∈ K, 0 ≤ q.1 ∧ q.1 < 255 ∧ ((q.1 = 0 ∧ q.2 = -1) ∨ (0 ≤ q.2 ∧ q.2 < q.1 ∧ q.2 ∈ K.map Prod.fst))
theorem BT.kok {b : BT} (h : b.sz ≤ 255) : KOk (b.knots 0 (-1)) := ⟨b.knots_asc _ _, fun q hq => by
  have := b.knots_rng _ _ q hq
  refine ⟨by omega, by omega, this.2.2⟩⟩
theorem KOk.nil : KOk [] := ⟨.nil, by simp⟩
theorem KOk.len {K : List (Int × Int)} (h : KOk K) : K.length ≤ 255 := by
  have key : ∀ (K : List (Int × Int)) (m : Int), K.Pairwise (fun p q => p.1 < q.1) → (∀ q ∈ K, m ≤ q.1 ∧ q.1 < 255) → (K.length : Int) ≤ max 0 (255 - m) := by
    intro K
    induction K with
    | nil => intro m _ _; simp; omega
    | cons q r ih =>
      intro m hp hm
      rw [List.pairwise_cons] at hp
      have h1 := hm q List.mem_cons_self
      have h2 := ih (q.1 + 1) hp.2 (fun z hz => by have := hp.1 z hz; have := hm z (List.mem_cons_of_mem _ hz); omega)
      simp only [List.length_cons]; omega
  have := key K 0 h.asc (fun q hq => by have := h.up q hq; omega)
  omega
theorem KOk.begAll {K : List (Int × Int)} (h : KOk K) : begOk K [] (K.map Prod.fst) = true := by
  have key : ∀ (B A : List (Int × Int)), K = A ++ B → begOk K (A.map Prod.fst) (B.map Prod.fst) = true := by
    intro B
    induction B with
    | nil => intro A _; rfl
    | cons q r ih =>
      intro A e
      have hq : q ∈ K := by rw [e]; simp
      have hi := ih (A ++ [q]) (by rw [e]; simp)
      rw [List.map_append] at hi
      simp only [List.map_cons, begOk, Bool.and_eq_true]
      refine ⟨okStep_iff.2 ⟨List.mem_map_of_mem hq, fun hm => ?_, ?_⟩, hi⟩
      · obtain ⟨z, hz, e2⟩ := List.mem_map.1 hm
        have := h.asc
        rw [e, List.pairwise_append] at this
        have := this.2.2 z hz q List.mem_cons_self
        omega
      · rw [abv_mem h.asc hq]
        rcases (h.up q hq).2.2 with ⟨_, h2⟩ | ⟨h1, h2, h3⟩
        · left; omega
        · right
          rw [e, List.map_append, List.mem_append] at h3
          rcases h3 with h3 | h3
          · exact h3
          · exfalso
            obtain ⟨z, hz, e2⟩ := List.mem_map.1 h3
            have hp := h.asc
            rw [e, List.pairwise_append, List.pairwise_cons] at hp
            rcases List.mem_cons.1 hz with rfl | hz
            · omega
            · have := hp.2.1.1 z hz; omega
  exact key K [] rfl
/-! ## waiting -/
def cntA (n : Int) : List (Int × Int) → Int
  | [] => 0
  | q :: r => (if q.2 = n then 1 else 0) + cntA n r
theorem cntA_append (n : Int) : ∀ A B : List (Int × Int), cntA n (A ++ B) = cntA n A + cntA n B
  | [], B => by simp [cntA]
  | q :: r, B => by simp only [List.cons_append, cntA, cntA_append n r B]; omega
theorem cntA_zero {n : Int} : ∀ {A : List (Int × Int)}, (∀ q ∈ A, q.2 ≠ n) → cntA n A = 0
  | [], _ => rfl
  | q :: r, h => by rw [cntA, if_neg (h q List.mem_cons_self), cntA_zero (fun z hz => h z (List.mem_cons_of_mem _ hz))]; rfl
theorem cntA_le (n : Int) : ∀ A : List (Int × Int), 0 ≤ cntA n A ∧ cntA n A ≤ A.length
  | [] => by simp [cntA]
  | q :: r => by have := cntA_le n r; simp only [cntA, List.length_cons]; split <;> omega
def waitI (K : List (Int × Int)) : Int → List Int → List Int
  | _, [] => []
  | now, n :: r => now :: waitI K (now - 1 + cntA n K) r
theorem waitI_len (K : List (Int × Int)) : ∀ (s : List Int) (now : Int), (waitI K now s).length = s.length
  | [], _ => rfl
  | n :: r, now => by simp [waitI, waitI_len K r]
/-- cuts that are free -/
def freeC (done : List Int) : List (Int × Int) → Int
  | [] => 0
  | q :: r => (if (q.2 < 0 ∨ q.2 ∈ done) ∧ q.1 ∉ done then 1 else 0) + freeC done r
theorem freeC_append (done : List Int) : ∀ A B : List (Int × Int), freeC done (A ++ B) = freeC done A + freeC done B
  | [], B => by simp [freeC]
  | q :: r, B => by simp only [List.cons_append, freeC, freeC_append done r B]; omega
theorem freeC_le (done : List Int) : ∀ A : List (Int × Int), 0 ≤ freeC done A ∧ freeC done A ≤ A.length
  | [] => by simp [freeC]
  | q :: r => by have := freeC_le done r; simp only [freeC, List.length_cons]; split <;> omega
def waitS (K : List (Int × Int)) : List Int → List Int → List Int
  | _, [] => []
  | done, n :: r => freeC done K :: waitS K (done ++ [n]) r
/-- what was made is closed upwards -/
def Closed (K : List (Int × Int)) (done : List Int) : Prop := ∀ q ∈ K, q.1 ∈ done → q.2 < 0 ∨ q.2 ∈ done
theorem freeC_step {K : List (Int × Int)} (hK : KOk K) {done : List Int} {n : Int} (hc : Closed K done) (hs : okStep K done n = true) (h0 : 0 ≤ n) : freeC (done ++ [n]) K = freeC done K - 1 + cntA n K := by
  obtain ⟨h1, h2, h3⟩ := okStep_iff.1 hs
  have key : ∀ A : List (Int × Int), A.Pairwise (fun p q => p.1 < q.1) → (∀ q ∈ A, q ∈ K) → freeC (done ++ [n]) A = freeC done A - (if n ∈ A.map Prod.fst then 1 else 0) + cntA n A := by
    intro A
    induction A with
    | nil => intro _ _; simp [freeC, cntA]
    | cons q r ih =>
      intro hp hm
      rw [List.pairwise_cons] at hp
      have hi := ih hp.2 (fun z hz => hm z (List.mem_cons_of_mem _ hz))
      have hq := hm q List.mem_cons_self
      have hu := hK.up q hq
      have hcq := hc q hq
      have hab := abv_mem hK.asc hq
      simp only [freeC, cntA, hi, List.map_cons, List.mem_cons, List.mem_append, List.not_mem_nil, or_false]
      by_cases e : q.1 = n
      · have e2 : n ∉ r.map Prod.fst := fun hx => by
          obtain ⟨z, hz, e3⟩ := List.mem_map.1 hx
          have := hp.1 z hz; omega
        have e4 : q.2 ≠ n := by omega
        rw [e] at hab
        rw [hab] at h3
        have c0 : ¬ ((q.2 < 0 ∨ q.2 ∈ done ∨ q.2 = n) ∧ ¬(q.1 ∈ done ∨ q.1 = n)) := by rw [e]; simp
        have c1 : (q.2 < 0 ∨ q.2 ∈ done) ∧ q.1 ∉ done := ⟨h3, by rw [e]; exact h2⟩
        have c2 : n = q.1 ∨ n ∈ r.map Prod.fst := .inl e.symm
        rw [if_neg c0, if_pos c1, if_neg e2, if_pos c2, if_neg e4]
        omega
      · by_cases e2 : q.2 = n
        · have e3 : q.1 ∉ done := fun hx => by
            rcases hcq hx with h | h
            · omega
            · rw [e2] at h; exact h2 h
          have c0 : (q.2 < 0 ∨ q.2 ∈ done ∨ q.2 = n) ∧ ¬(q.1 ∈ done ∨ q.1 = n) := ⟨.inr (.inr e2), fun h => h.elim e3 e⟩
          have c1 : ¬ ((q.2 < 0 ∨ q.2 ∈ done) ∧ q.1 ∉ done) := by
            rw [e2]; rintro ⟨h | h, _⟩
            · omega
            · exact h2 h
          rw [if_pos c0, if_neg c1, if_pos e2]
          simp only [Ne.symm e, false_or]; omega
        · have e4 : ((q.2 < 0 ∨ q.2 ∈ done ∨ q.2 = n) ∧ ¬(q.1 ∈ done ∨ q.1 = n)) ↔ ((q.2 < 0 ∨ q.2 ∈ done) ∧ q.1 ∉ done) := by
            simp only [e, e2, or_false]
          have e5 : (n = q.1 ∨ n ∈ r.map Prod.fst) ↔ n ∈ r.map Prod.fst := by simp [Ne.symm e]
          rw [if_neg e2]
          simp only [e4, e5]; omega
  have := key K hK.asc (fun q hq => hq)
  rw [if_pos h1] at this; exact this
theorem Closed.step {K : List (Int × Int)} (hK : KOk K) {done : List Int} {n : Int} (hc : Closed K done) (hs : okStep K done n = true) : Closed K (done ++ [n]) := by
  obtain ⟨h1, h2, h3⟩ := okStep_iff.1 hs
  intro q hq hm
  simp only [List.mem_append, List.mem_singleton] at hm ⊢
  rcases hm with hm | hm
  · rcases hc q hq hm with h | h
    · exact .inl h
    · exact .inr (.inl h)
  · rw [← hm, abv_mem hK.asc hq] at h3
    rcases h3 with h | h
    · exact .inl h
    · exact .inr (.inl h)
theorem okStep_nonneg {K : List (Int × Int)} (hK : KOk K) {done : List Int} {n : Int} (hs : okStep K done n = true) : 0 ≤ n ∧ n < 255 := by
  obtain ⟨h1, _⟩ := okStep_iff.1 hs
  obtain ⟨q, hq, rfl⟩ := List.mem_map.1 h1
  have := hK.up q hq; omega
theorem wait_eq {K : List (Int × Int)} (hK : KOk K) : ∀ (s done : List Int), Closed K done → begOk K done s = true → waitI K (freeC done K) s = waitS K done s
  | [], _, _, _ => rfl
  | n :: r, done, hc, hb => by
    simp only [begOk, Bool.and_eq_true] at hb
    have h0 := okStep_nonneg hK hb.1
    rw [waitI, waitS, ← freeC_step hK hc hb.1 h0.1, wait_eq hK r _ (hc.step hK hb.1) hb.2]
def BT.dl : BT → Int
  | .c _ _ _ _ => 1
  | .w => 0
  | .p _ _ => 0
theorem freeC_nil {b : BT} : freeC [] (b.knots 0 (-1)) = b.dl := by
  have key : ∀ (b : BT) (n ab : Int), 0 ≤ n → 0 ≤ ab → freeC [] (b.knots n ab) = 0 := by
    intro b
    induction b with
    | w => intros; rfl
    | p => intros; rfl
    | c d a l r ihl ihr =>
      intro n ab hn ha
      have := l.sz_pos
      simp only [BT.knots, freeC, freeC_append, ihl (n + 1) n (by omega) hn, ihr (n + 1 + l.sz) n (by omega) hn]
      rw [if_neg (by simp; omega)]; rfl
  cases b with
  | w => rfl
  | p => rfl
  | c d a l r =>
    have := l.sz_pos
    simp only [BT.knots, freeC, freeC_append, key l (0 + 1) 0 (by omega) (by omega), key r (0 + 1 + l.sz) 0 (by omega) (by omega)]
    rw [if_pos (by simp)]; rfl
/-! ## best orders -/
def BT.least : BT → Int
  | .c _ _ l r => if l.least = r.least then l.least + 1 else max l.least r.least
  | .w => 0
  | .p _ _ => 0
def BT.best : BT → Int → List Int
  | .c _ _ l r, n => if r.least < l.least then n :: (r.best (n + 1 + l.sz) ++ l.best (n + 1)) else n :: (l.best (n + 1) ++ r.best (n + 1 + l.sz))
  | .w, _ => []
  | .p _ _, _ => []
theorem BT.least_le : ∀ b : BT, 0 ≤ b.least ∧ b.least ≤ b.cuts
  | .w => by simp [BT.least, BT.cuts]
  | .p _ _ => by simp [BT.least, BT.cuts]
  | .c d a l r => by
    have h1 := l.least_le
    have h2 := r.least_le
    have h3 := l.cuts_nonneg
    have h4 := r.cuts_nonneg
    simp only [BT.least, BT.cuts]
    split <;> omega
theorem BT.best_len : ∀ (b : BT) (n : Int), ((b.best n).length : Int) = b.cuts
  | .w, _ => rfl
  | .p _ _, _ => rfl
  | .c d a l r, n => by
    have h1 := l.best_len (n + 1)
    have h2 := r.best_len (n + 1 + l.sz)
    simp only [BT.best, BT.cuts]
    split <;> simp only [List.length_cons, List.length_append] <;> omega
theorem BT.best_rng : ∀ (b : BT) (n : Int), ∀ x ∈ b.best n, n ≤ x ∧ x < n + b.sz
  | .w, _, x, h => by cases h
  | .p _ _, _, x, h => by cases h
  | .c d a l r, n, x, h => by
    have p1 := l.sz_pos
    have p2 := r.sz_pos
    have h : x = n ∨ x ∈ l.best (n + 1) ∨ x ∈ r.best (n + 1 + l.sz) := by
      simp only [BT.best] at h
      split at h
      · rcases List.mem_cons.1 h with h | h
        · exact .inl h
        · rcases List.mem_append.1 h with h | h
          · exact .inr (.inr h)
          · exact .inr (.inl h)
      · rcases List.mem_cons.1 h with h | h
        · exact .inl h
        · exact .inr (List.mem_append.1 h)
    simp only [BT.sz]
    rcases h with h | h | h
    · omega
    · have := l.best_rng _ x h; omega
    · have := r.best_rng _ x h; omega
theorem BT.best_beg {K : List (Int × Int)} (hK : KOk K) : ∀ (b : BT) (n ab : Int) (done : List Int), (∀ q ∈ b.knots n ab, q ∈ K) → (∀ x ∈ done, x < n ∨ n + b.sz ≤ x) → (ab < 0 ∨ ab ∈ done) → begOk K done (b.best n) = true
  | .w, _, _, _, _, _, _ => rfl
  | .p _ _, _, _, _, _, _, _ => rfl
  | .c d a l r, n, ab, done, hk, hd, ha => by
    have p1 := l.sz_pos
    have p2 := r.sz_pos
    simp only [BT.sz] at hd
    have hn : (n, ab) ∈ K := hk _ (by simp [BT.knots])
    have hab := abv_mem hK.asc hn
    have hl : ∀ q ∈ l.knots (n + 1) n, q ∈ K := fun q hq => hk q (by simp [BT.knots, hq])
    have hr : ∀ q ∈ r.knots (n + 1 + l.sz) n, q ∈ K := fun q hq => hk q (by simp [BT.knots, hq])
    have h1 : okStep K done n = true := okStep_iff.2 ⟨List.mem_map_of_mem (f := Prod.fst) hn, fun h => by have := hd n h; omega, by rw [hab]; exact ha⟩
    have mn : ∀ z : List Int, n < 0 ∨ n ∈ done ++ [n] ++ z := fun z => .inr (by simp)
    simp only [BT.best]
    split
    · simp only [begOk, begOk_append, h1, Bool.true_and, Bool.and_eq_true]
      refine ⟨BT.best_beg hK r _ n _ hr (fun x hx => ?_) (.inr (by simp)), BT.best_beg hK l _ n _ hl (fun x hx => ?_) (mn _)⟩
      · simp only [List.mem_append, List.mem_singleton] at hx
        rcases hx with hx | hx
        · have := hd x hx; omega
        · omega
      · simp only [List.mem_append, List.mem_singleton] at hx
        rcases hx with (hx | hx) | hx
        · have := hd x hx; omega
        · omega
        · have := r.best_rng _ x hx; omega
    · simp only [begOk, begOk_append, h1, Bool.true_and, Bool.and_eq_true]
      refine ⟨BT.best_beg hK l _ n _ hl (fun x hx => ?_) (.inr (by simp)), BT.best_beg hK r _ n _ hr (fun x hx => ?_) (mn _)⟩
      · simp only [List.mem_append, List.mem_singleton] at hx
        rcases hx with hx | hx
        · have := hd x hx; omega
        · omega
      · simp only [List.mem_append, List.mem_singleton] at hx
        rcases hx with (hx | hx) | hx
        · have := hd x hx; omega
        · omega
        · have := l.best_rng _ x hx; omega
def BT.wq : BT → List Int
  | .c _ _ l r => if r.least < l.least then 1 :: (r.wq.map (· + l.dl) ++ l.wq) else 1 :: (l.wq.map (· + r.dl) ++ r.wq)
  | .w => []
  | .p _ _ => []
def Good (K : List (Int × Int)) : BT → Int → Prop
  | .c _ _ l r, n => cntA n K = l.dl + r.dl ∧ Good K l (n + 1) ∧ Good K r (n + 1 + l.sz)
  | .w, _ => True
  | .p _ _, _ => True
theorem cntA_root : ∀ (b : BT) (n ab : Int), ab < n → cntA ab (b.knots n ab) = b.dl
  | .w, _, _, _ => rfl
  | .p _ _, _, _, _ => rfl
  | .c d a l r, n, ab, h => by
    have := l.sz_pos
    simp only [BT.knots, cntA, cntA_append, BT.dl, if_true]
    rw [cntA_zero, cntA_zero]
    · rfl
    · intro q hq; rcases (r.knots_rng _ _ q hq).2.2 with h1 | h1 <;> omega
    · intro q hq; rcases (l.knots_rng _ _ q hq).2.2 with h1 | h1 <;> omega
theorem good_of : ∀ (b : BT) (n ab : Int) (A B : List (Int × Int)), ab < n → (∀ q ∈ A ++ B, q.2 < n ∨ n + b.sz ≤ q.2) → Good (A ++ (b.knots n ab ++ B)) b n
  | .w, _, _, _, _, _, _ => trivial
  | .p _ _, _, _, _, _, _, _ => trivial
  | .c d a l r, n, ab, A, B, hab, h => by
    have p1 := l.sz_pos
    have p2 := r.sz_pos
    simp only [BT.sz] at h
    have hl : ∀ q ∈ l.knots (n + 1) n, n ≤ q.2 ∧ q.2 < n + 1 + l.sz := fun q hq => by
      have := l.knots_rng _ _ q hq; omega
    have hr : ∀ q ∈ r.knots (n + 1 + l.sz) n, q.2 = n ∨ (n + 1 + l.sz ≤ q.2 ∧ q.2 < n + 1 + l.sz + r.sz) := fun q hq => by
      have := r.knots_rng _ _ q hq; omega
    refine ⟨?_, ?_, ?_⟩
    · simp only [BT.knots, cntA_append, cntA, if_neg (show ¬ ab = n by omega), cntA_root l (n + 1) n (by omega), cntA_root r (n + 1 + l.sz) n (by omega)]
      rw [cntA_zero (A := A) (fun q hq => by have := h q (by simp [hq]); omega), cntA_zero (A := B) (fun q hq => by have := h q (by simp [hq]); omega)]
      omega
    · have := good_of l (n + 1) n (A ++ [(n, ab)]) (r.knots (n + 1 + l.sz) n ++ B) (by omega) (fun q hq => by
        simp only [List.mem_append, List.mem_singleton] at hq
        rcases hq with (hq | hq) | hq | hq
        · have := h q (by simp [hq]); omega
        · subst hq; simp only; omega
        · have := hr q hq; omega
        · have := h q (by simp [hq]); omega)
      simpa [BT.knots] using this
    · have := good_of r (n + 1 + l.sz) n (A ++ (n, ab) :: l.knots (n + 1) n) B (by omega) (fun q hq => by
        simp only [List.mem_append, List.mem_cons] at hq
        rcases hq with (hq | hq | hq) | hq
        · have := h q (by simp [hq]); omega
        · subst hq; simp only; omega
        · have := hl q hq; omega
        · have := h q (by simp [hq]); omega)
      simpa [BT.knots] using this
theorem wait_best {K : List (Int × Int)} : ∀ (b : BT) (n e : Int) (rest : List Int), Good K b n → waitI K (b.dl + e) (b.best n ++ rest) = b.wq.map (· + e) ++ waitI K e rest
  | .w, _, e, rest, _ => by simp [BT.dl, BT.best, BT.wq]
  | .p _ _, _, e, rest, _ => by simp [BT.dl, BT.best, BT.wq]
  | .c d a l r, n, e, rest, hg => by
    obtain ⟨h1, h2, h3⟩ := hg
    have hd : (BT.c d a l r).dl = 1 := rfl
    rw [hd]
    simp only [BT.best, BT.wq]
    split
    · simp only [List.cons_append, List.append_assoc, waitI, List.map_cons, List.map_append, List.map_map]
      rw [show (1 : Int) + e - 1 + cntA n K = r.dl + (l.dl + e) by omega, wait_best r _ (l.dl + e) _ h3, wait_best l _ e _ h2]
      simp only [List.cons.injEq, true_and]
      congr 1
      apply List.map_congr_left
      intro x _; simp only [Function.comp]; omega
    · simp only [List.cons_append, List.append_assoc, waitI, List.map_cons, List.map_append, List.map_map]
      rw [show (1 : Int) + e - 1 + cntA n K = l.dl + (r.dl + e) by omega, wait_best l _ (r.dl + e) _ h2, wait_best r _ e _ h3]
      simp only [List.cons.injEq, true_and]
      congr 1
      apply List.map_congr_left
      intro x _; simp only [Function.comp]; omega
theorem BT.dl_least : ∀ b : BT, (b.dl = 0 ∧ b.least = 0 ∧ b.wq = []) ∨ (b.dl = 1 ∧ 1 ≤ b.least)
  | .w => .inl ⟨rfl, rfl, rfl⟩
  | .p _ _ => .inl ⟨rfl, rfl, rfl⟩
  | .c d a l r => .inr ⟨rfl, by
    have h1 := l.least_le
    have h2 := r.least_le
    simp only [BT.least]; split <;> omega⟩
theorem BT.wq_max : ∀ b : BT, (∀ x ∈ b.wq, 1 ≤ x ∧ x ≤ b.least) ∧ (b.least = 0 ∨ b.least ∈ b.wq)
  | .w => ⟨by simp [BT.wq], .inl rfl⟩
  | .p _ _ => ⟨by simp [BT.wq], .inl rfl⟩
  | .c d a l r => by
    have h1 := l.wq_max
    have h2 := r.wq_max
    have d1 := l.dl_least
    have d2 := r.dl_least
    have e1 := l.least_le
    have e2 := r.least_le
    simp only [BT.wq, BT.least]
    by_cases hc : r.least < l.least
    · rw [if_pos hc, if_neg (by omega)]
      refine ⟨fun x hx => ?_, .inr ?_⟩
      · simp only [List.mem_cons, List.mem_append, List.mem_map] at hx
        rcases hx with hx | ⟨y, hy, hx⟩ | hx
        · omega
        · have := h2.1 y hy; omega
        · have := h1.1 x hx; omega
      · simp only [List.mem_cons, List.mem_append, List.mem_map]
        rcases h1.2 with h | h
        · omega
        · right; right; rw [show max l.least r.least = l.least by omega]; exact h
    · rw [if_neg hc]
      refine ⟨fun x hx => ?_, .inr ?_⟩
      · simp only [List.mem_cons, List.mem_append, List.mem_map] at hx
        rcases hx with hx | ⟨y, hy, hx⟩ | hx
        · split <;> omega
        · have := h1.1 y hy; split <;> omega
        · have := h2.1 x hx; split <;> omega
      · simp only [List.mem_cons, List.mem_append, List.mem_map]
        by_cases he : l.least = r.least
        · rw [if_pos he]
          rcases h1.2 with h | h
          · left; omega
          · have := h1.1 _ h; right; left; exact ⟨l.least, h, by omega⟩
        · have hle : l.least ≤ r.least := by omega
          rw [if_neg he, Int.max_eq_right hle]
          rcases h2.2 with h | h
          · omega
          · right; right; exact h
theorem foldl_max {m : Int} (hm : 0 ≤ m) : ∀ {l : List Int} {z : Int}, (∀ x ∈ l, x ≤ m) → z ≤ m → (z = m ∨ m ∈ l) → l.foldl max z = m
  | [], z, _, hz, h => h.elim id (fun h => by cases h)
  | y :: r, z, h1, hz, h => by
    rw [List.foldl_cons]
    have hy := h1 y List.mem_cons_self
    refine foldl_max hm (fun x hx => h1 x (List.mem_cons_of_mem _ hx)) (by omega) ?_
    rcases h with h | h
    · left; omega
    · rcases List.mem_cons.1 h with h | h
      · left; omega
      · exact .inr h
theorem best_highest (b : BT) : (waitI (b.knots 0 (-1)) b.dl (b.best 0)).foldl max 0 = b.least := by
  have hg := good_of b 0 (-1) [] [] (by omega) (by simp)
  simp only [List.nil_append, List.append_nil] at hg
  have := wait_best b 0 0 [] hg
  simp only [List.append_nil, Int.add_zero, waitI, List.map_id'] at this
  rw [this]
  have h1 := b.wq_max
  have h2 := b.least_le
  refine foldl_max h2.1 (fun x hx => (h1.1 x hx).2) h2.1 ?_
  rcases h1.2 with h | h
  · left; omega
  · exact .inr h
end Go.Proofs.Ytfnnhekbgjofoaa
