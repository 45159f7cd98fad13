/-
  First fit against the least number of bars.
-/
import Derived.Test.YtkojheinklgdeaaB1
namespace Go.Proofs.Ytkojheinklgdeaa
open Go

/-! ## bars as groups -/
def msk : List Bool → Nat
  | [] => 0
  | b :: r => (if b then 1 else 0) + 2 * msk r
theorem msk_sub (f g : Int → Bool) : ∀ o : List Int, (∀ x ∈ o, f x = true → g x = true) → Sub (msk (o.map f)) (msk (o.map g)) ∧ msk (o.map g) - msk (o.map f) = msk (o.map fun x => g x && !f x)
  | [], _ => ⟨Sub.zero _, rfl⟩
  | x :: r, h => by
    obtain ⟨h1, h2⟩ := msk_sub f g r (fun y hy => h y (List.mem_cons_of_mem _ hy))
    have h3 := h x List.mem_cons_self
    have h4 := h1.le
    simp only [List.map_cons, msk]
    cases hf : f x <;> cases hg : g x
    · simp only [Bool.false_and, Bool.false_eq_true, if_false]
      exact ⟨sub_iff.2 ⟨by omega, by rw [show (0 + 2 * msk (r.map f)) / 2 = msk (r.map f) by omega, show (0 + 2 * msk (r.map g)) / 2 = msk (r.map g) by omega]; exact h1⟩, by omega⟩
    · simp only [Bool.true_and, Bool.not_false, Bool.false_eq_true, if_false, if_true]
      exact ⟨sub_iff.2 ⟨by omega, by rw [show (0 + 2 * msk (r.map f)) / 2 = msk (r.map f) by omega, show (1 + 2 * msk (r.map g)) / 2 = msk (r.map g) by omega]; exact h1⟩, by omega⟩
    · rw [hf, hg] at h3; simp at h3
    · simp only [Bool.true_and, Bool.not_true, Bool.false_eq_true, if_false, if_true]
      exact ⟨sub_iff.2 ⟨by omega, by rw [show (1 + 2 * msk (r.map f)) / 2 = msk (r.map f) by omega, show (1 + 2 * msk (r.map g)) / 2 = msk (r.map g) by omega]; exact h1⟩, by omega⟩
theorem msk_cong {f g : Int → Bool} {o : List Int} (h : ∀ x ∈ o, f x = g x) : msk (o.map f) = msk (o.map g) := by
  rw [List.map_congr_left h]
theorem msk_none {f : Int → Bool} : ∀ {o : List Int}, (∀ x ∈ o, f x = false) → msk (o.map f) = 0
  | [], _ => rfl
  | x :: r, h => by
    simp only [List.map_cons, msk, h x List.mem_cons_self, msk_none (o := r) fun y hy => h y (List.mem_cons_of_mem _ hy)]; rfl
theorem msk_all {f : Int → Bool} : ∀ {o : List Int}, (∀ x ∈ o, f x = true) → msk (o.map f) = 2 ^ o.length - 1
  | [], _ => rfl
  | x :: r, h => by
    have : 0 < 2 ^ r.length := Nat.pow_pos (by omega)
    simp only [List.map_cons, msk, h x List.mem_cons_self, msk_all (o := r) fun y hy => h y (List.mem_cons_of_mem _ hy), List.length_cons, Nat.pow_succ, if_true]; omega
def zs (f : Int → Bool) : List Int → List Int → Int
  | x :: o, y :: l => (if f x then y else 0) + zs f o l
  | _, _ => 0
theorem smk_msk (f : Int → Bool) : ∀ (o l : List Int), o.length = l.length → smk l (msk (o.map f)) = zs f o l
  | [], [], _ => rfl
  | x :: o, y :: l, h => by
    have := smk_msk f o l (by simpa using h)
    simp only [List.map_cons, msk, smk, zs]
    cases f x
    · have e1 : ¬ ((if false = true then 1 else 0) + 2 * msk (o.map f)) % 2 = 1 := by simp
      have e2 : ((if false = true then 1 else 0) + 2 * msk (o.map f)) / 2 = msk (o.map f) := by simp
      rw [if_neg e1, e2, this]; simp
    · have e1 : ((if true = true then 1 else 0) + 2 * msk (o.map f)) % 2 = 1 := by simp <;> omega
      have e2 : ((if true = true then 1 else 0) + 2 * msk (o.map f)) / 2 = msk (o.map f) := by simp <;> omega
      rw [if_pos e1, e2, this]; simp
theorem zs_snoc (f : Int → Bool) : ∀ (o l : List Int) (x y : Int), o.length = l.length → zs f (o ++ [x]) (l ++ [y]) = zs f o l + if f x then y else 0
  | [], [], x, y, _ => by simp [zs]
  | a :: o, b :: l, x, y, h => by
    have := zs_snoc f o l x y (by simpa using h)
    simp only [List.cons_append, zs, this]; omega
theorem ld_zs {o l : List Int} (h : o.length = l.length) (b : Int) : ∀ k, k ≤ l.length → ld o l (upN k) b = zs (fun x => decide (x = b)) (o.take k) (l.take k)
  | 0, _ => by simp [ld, sumf, upN, zs]
  | k + 1, hk => by
    obtain ⟨u, hu⟩ := someC (l := o) (j := k) (by omega)
    obtain ⟨w, hw⟩ := someC (l := l) (j := k) (by omega)
    rw [takeC hu, takeC hw, zs_snoc _ _ _ _ _ (by simp; omega), ← ld_zs h b k (by omega), ld_succ, gtC' hu, gtC' hw]
    simp
def okB (l : List Int) (bar : Int) (g : Nat) : Bool := decide (smk l g ≤ bar)
theorem bars_part {l o : List Int} {bar : Int} {B : Nat} (hlen : o.length = l.length) (ho : ∀ x ∈ o, 0 ≤ x ∧ x < B) (hld : ∀ b : Nat, b < B → 1 ≤ ld o l (upN l.length) b ∧ ld o l (upN l.length) b ≤ bar) :
    Part (okB l bar) (2 ^ l.length - 1) B := by
  have key : ∀ b : Nat, b ≤ B → Part (okB l bar) (msk (o.map fun x => decide (x < (b : Int)))) b := by
    intro b
    induction b with
    | zero => intro _; rw [msk_none fun x hx => decide_eq_false (by have := ho x hx; omega)]; exact .nil
    | succ b ih =>
      intro hb
      obtain ⟨h1, h2⟩ := msk_sub (fun x => decide (x = b)) (fun x => decide (x < (b + 1 : Nat))) o (fun x _ h => by simp at h ⊢; omega)
      have h3 := hld b (by omega)
      have h4 := ld_zs hlen b l.length (Nat.le_refl _)
      rw [List.take_length, List.take_of_length_le (by omega), ← smk_msk _ o l hlen] at h4
      rw [h4] at h3
      refine .cons h1 (fun e => ?_) (decide_eq_true h3.2) ?_
      · rw [e, smk_zero] at h3; omega
      · rw [h2, msk_cong (g := fun x => decide (x < (b : Int))) fun x hx => by rw [Bool.eq_iff_iff]; simp; omega]
        exact ih (by omega)
  have := key B (Nat.le_refl _)
  rw [msk_all fun x hx => decide_eq_true (ho x hx).2, hlen] at this
  exact this
theorem Few.le {ok : Nat → Bool} {s k : Nat} {v : Int} (h : Few ok s v) (hp : Part ok s k) : v ≤ k := by
  rcases h with ⟨rfl, h⟩ | ⟨m, rfl, _, h⟩
  · omega
  · have := h k hp; omega
theorem ff_few {l : List Int} {bar v : Int} {order : List Int} (hm : ∀ u ∈ l, 1 ≤ u ∧ u ≤ bar) (hp : order.Perm (upN l.length)) (h : Few (okB l bar) (2 ^ l.length - 1) v) : v ≤ (ffS l bar order).length :=
  h.le (bars_part (ffit_len l bar order) (fun x hx => ffit_lt hm hp x hx) fun b hb => ff_ld hm hp (by omega) (by omega))
/-! ## sums of loads -/
def sumL : List Int → Int := List.foldr (· + ·) 0
theorem sumL_perm {a b : List Int} (p : a.Perm b) : sumL a = sumL b := by
  induction p with
  | nil => rfl
  | cons x _ ih => simp only [sumL, List.foldr_cons] at *; omega
  | swap x y l => simp only [sumL, List.foldr_cons]; omega
  | trans _ _ i j => exact i.trans j
theorem sumL_append (a b : List Int) : sumL (a ++ b) = sumL a + sumL b := by
  induction a with
  | nil => simp [sumL]
  | cons x r ih => simp only [sumL, List.cons_append, List.foldr_cons] at *; omega
theorem fS_sum (x bar : Int) : ∀ s : List Int, sumL (fS x bar s) = sumL s + x
  | [] => by simp [fS, sumL]
  | u :: r => by
    have := fS_sum x bar r
    simp only [fS]
    split
    · simp only [sumL, List.foldr_cons] at *; omega
    · simp only [sumL, List.foldr_cons] at *; omega
theorem ffV_sum (bar : Int) : ∀ r s : List Int, sumL (ffV bar r s) = sumL s + sumL r
  | [], s => by simp [ffV, sumL]
  | x :: r, s => by
    rw [ffV, ffV_sum bar r, fS_sum]; simp only [sumL, List.foldr_cons]; omega
theorem ffV_len (bar : Int) : ∀ r s : List Int, (ffV bar r s).length ≤ s.length + r.length ∧ ((ffV bar r s).length = s.length + r.length → ffV bar r s = s ++ r)
  | [], s => by simp [ffV]
  | x :: r, s => by
    obtain ⟨h1, h2⟩ := ffV_len bar r (fS x bar s)
    have h3 := fS_len x bar s
    rw [ffV]
    split at h3
    · rename_i e
      refine ⟨by simp only [List.length_cons]; omega, fun h => ?_⟩
      rw [h2 (by simp only [List.length_cons] at h; omega), fS_new e]; simp
    · exact ⟨by simp only [List.length_cons]; omega, fun h => by simp only [List.length_cons] at h; omega⟩
theorem pairs_sum {bar : Int} : ∀ (k : Nat) (s : List Int), (∀ u ∈ s, 0 ≤ u) → s.Pairwise (fun x y => bar < x + y) → 2 * k ≤ s.length → 0 < k → k * bar < sumL s
  | 0, _, _, _, _, h => by omega
  | k + 1, [], _, _, h, _ => by simp at h
  | k + 1, [x], _, _, h, _ => by simp at h; omega
  | k + 1, x :: y :: r, hn, hp, h, _ => by
    rw [List.pairwise_cons, List.pairwise_cons] at hp
    have h1 := hp.1 y List.mem_cons_self
    have hr : ∀ u ∈ r, 0 ≤ u := fun u hu => hn u (List.mem_cons_of_mem _ (List.mem_cons_of_mem _ hu))
    have h3 : ∀ r : List Int, (∀ u ∈ r, 0 ≤ u) → 0 ≤ sumL r := by
      intro r; induction r with
      | nil => intro _; simp [sumL]
      | cons z r ih =>
        intro h
        have := ih fun u hu => h u (List.mem_cons_of_mem _ hu)
        have := h z List.mem_cons_self
        simp only [sumL, List.foldr_cons] at *; omega
    have h4 := h3 r hr
    have e : sumL (x :: y :: r) = x + (y + sumL r) := rfl
    rw [e, Int.natCast_add, Int.add_mul]
    simp only [List.length_cons] at h
    by_cases hk : k = 0
    · subst hk; simp only [Int.natCast_zero, Int.zero_mul, Int.natCast_one, Int.one_mul]; omega
    · have := pairs_sum k r hr hp.2.2 (by omega) (by omega)
      simp only [Int.natCast_one, Int.one_mul]; omega
/-- things of which no two fit on one bar -/
theorem alone {bar : Int} : ∀ {l : List Int} (s : Nat), (∀ u ∈ l, 0 ≤ u) → l.Pairwise (fun x y => bar < x + y) → smk l s ≤ bar → 0 ≤ bar → cnt l.length s ≤ 1
  | [], s, _, _, _, _ => by simp [cnt, smk]
  | x :: r, s, hn, hp, h, hb => by
    rw [List.pairwise_cons] at hp
    have hr : ∀ u ∈ r, 0 ≤ u := fun u hu => hn u (List.mem_cons_of_mem _ hu)
    have h0 := smk_nonneg (s / 2) hr
    have hx := hn x List.mem_cons_self
    have key : ∀ {r : List Int} (t : Nat), (∀ u ∈ r, 0 ≤ u) → (∀ u ∈ r, bar < x + u) → cnt r.length t ≤ 0 ∨ bar < x + smk r t := by
      intro r
      induction r with
      | nil => intro t _ _; left; simp [cnt, smk]
      | cons y r ih =>
        intro t h1 h2
        have h3 := smk_nonneg (t / 2) fun u hu => h1 u (List.mem_cons_of_mem _ hu)
        have h4 := ih (t / 2) (fun u hu => h1 u (List.mem_cons_of_mem _ hu)) (fun u hu => h2 u (List.mem_cons_of_mem _ hu))
        have h5 := h2 y List.mem_cons_self
        simp only [cnt, List.length_cons, List.replicate_succ, smk] at *
        split
        · right; omega
        · rcases h4 with h4 | h4
          · left; omega
          · right; omega
    have h2 := key (s / 2) hr hp.1
    have h3 := fun hle => alone (s / 2) hr hp.2 hle hb
    simp only [cnt, List.length_cons, List.replicate_succ, smk] at *
    split at h
    · rw [if_pos ‹_›]; rcases h2 with h2 | h2 <;> omega
    · rw [if_neg ‹_›]; have := h3 (by omega); omega
theorem cnt_full (n : Nat) : cnt n (2 ^ n - 1) = n := by
  have := smk_full (List.replicate n 1)
  rw [List.length_replicate] at this
  unfold cnt
  rw [this]
  induction n with
  | zero => rfl
  | succ n ih => rw [List.replicate_succ, List.foldr_cons, ih (by simpa using smk_full (List.replicate n 1))]; omega
theorem ff_two {l : List Int} {bar : Int} {order : List Int} (hm : ∀ u ∈ l, 1 ≤ u ∧ u ≤ bar) (hp : order.Perm (upN l.length)) : (ffS l bar order).Pairwise (fun x y => bar < x + y) ∧ (∀ u ∈ ffS l bar order, 1 ≤ u ∧ u ≤ bar) := by
  have F := ff_final hm hp
  refine ⟨List.pairwise_iff_getElem.2 fun i j hi hj hij => ?_, F.mem⟩
  have := F.two i j hij hj
  rwa [List.getD_eq_getElem?_getD, List.getD_eq_getElem?_getD, List.getElem?_eq_getElem hi, List.getElem?_eq_getElem hj] at this
theorem ffS_V (l : List Int) (bar : Int) (order : List Int) : ffS l bar order = ffV bar (order.map (gt l)) [] := by rw [ffS, ffGo_V]
theorem vals_perm {l order : List Int} (hp : order.Perm (upN l.length)) : (order.map (gt l)).Perm l := by
  have := hp.map (gt l)
  rwa [map_gt] at this
theorem few_sum {l : List Int} {bar : Int} {m : Nat} (h : Part (okB l bar) (2 ^ l.length - 1) m) : sumL l ≤ m * bar := by
  have := h.weigh (l := l) (c := bar) (fun g hg => of_decide_eq_true hg)
  rwa [smk_full] at this
/-- first fit needs at most 1.7 times as many bars as there must be, for up to seven lengths -/
theorem ff_ratio {l : List Int} {bar v : Int} {order : List Int} (hm : ∀ u ∈ l, 1 ≤ u ∧ u ≤ bar) (hp : order.Perm (upN l.length)) (hn : l.length ≤ 7) (h : Few (okB l bar) (2 ^ l.length - 1) v) (h1 : 1 ≤ v) :
    10 * ((ffS l bar order).length : Int) ≤ 17 * v := by
  obtain ⟨m, rfl, hpt, _⟩ := h.resolve_left fun h => by omega
  obtain ⟨h2, h3⟩ := ff_two hm hp
  have h4 := few_sum hpt
  have hv := vals_perm hp
  have hsum : sumL (ffS l bar order) = sumL l := by rw [ffS_V, ffV_sum, sumL_perm hv]; simp [sumL]
  have hlen := ffV_len bar (order.map (gt l)) []
  rw [← ffS_V, hv.length_eq] at hlen
  simp only [List.length_nil, Nat.zero_add, List.nil_append] at hlen
  have h5 : ¬ 2 * m ≤ (ffS l bar order).length := fun h => by
    have := pairs_sum m _ (fun u hu => by have := h3 u hu; omega) h2 h (by omega)
    omega
  by_cases h7 : m = 4 ∧ (ffS l bar order).length = 7
  · have e := hlen.2 (by omega)
    have hpw : l.Pairwise (fun x y => bar < x + y) := by
      rw [e] at h2
      exact (hv.pairwise_iff (fun {a b} h => by omega)).1 h2
    have hb : 0 ≤ bar := by
      obtain ⟨u, hu⟩ := someC (l := l) (j := 0) (by omega)
      have := hm u (List.mem_of_getElem? hu); omega
    have := hpt.weigh (l := List.replicate l.length 1) (c := 1) (fun g hg => alone g (fun u hu => by have := hm u hu; omega) hpw (of_decide_eq_true hg) hb)
    have h8 := cnt_full l.length
    simp only [cnt] at h8
    omega
  · omega
/-! ## long lengths first -/
def put (bar x : Int) : List (List Int) → List (List Int)
  | [] => [[x]]
  | b :: r => if sumL b + x > bar then b :: put bar x r else (x :: b) :: r
theorem put_sum (bar x : Int) : ∀ B : List (List Int), (put bar x B).map sumL = fS x bar (B.map sumL)
  | [] => by simp [put, fS, sumL]
  | b :: r => by
    have := put_sum bar x r
    simp only [put, List.map_cons, fS]
    split
    · simp [this]
    · have e : sumL (x :: b) = sumL b + x := by simp only [sumL, List.foldr_cons]; omega
      simp [e]
theorem put_perm (bar x : Int) : ∀ B : List (List Int), (put bar x B).flatten.Perm (x :: B.flatten)
  | [] => by simp [put]
  | b :: r => by
    have := put_perm bar x r
    simp only [put]
    split
    · simp only [List.flatten_cons]
      exact (this.append_left b).trans List.perm_middle
    · simp
theorem put_len (bar x : Int) : ∀ B : List (List Int), (put bar x B).length = B.length ∨ ((put bar x B).length = B.length + 1 ∧ ∀ b ∈ B, bar < sumL b + x)
  | [] => .inr ⟨rfl, by simp⟩
  | b :: r => by
    have := put_len bar x r
    simp only [put]
    split
    · rename_i hb
      rcases this with h | ⟨h, h2⟩
      · left; simp [h]
      · right
        refine ⟨by simp [h], fun c hc => ?_⟩
        rcases List.mem_cons.1 hc with rfl | hc
        · exact hb
        · exact h2 c hc
    · left; simp
def ffL (bar : Int) : List Int → List (List Int) → List (List Int)
  | [], B => B
  | x :: r, B => ffL bar r (put bar x B)
theorem ffL_sum (bar : Int) : ∀ (r : List Int) (B : List (List Int)), (ffL bar r B).map sumL = ffV bar r (B.map sumL)
  | [], _ => rfl
  | x :: r, B => by rw [ffL, ffL_sum bar r, put_sum]; rfl
theorem ffL_perm (bar : Int) : ∀ (r : List Int) (B : List (List Int)), (ffL bar r B).flatten.Perm (B.flatten ++ r)
  | [], B => by simp [ffL]
  | x :: r, B => by
    refine (ffL_perm bar r (put bar x B)).trans ?_
    exact ((put_perm bar x B).append_right r).trans (by simpa using List.perm_middle.symm)
/-- the length that opens the last bar -/
theorem last_open (bar : Int) : ∀ (r : List Int) (B : List (List Int)), (ffL bar r B).length = B.length ∨ ∃ pre c post, r = pre ++ c :: post ∧ (ffL bar pre B).length + 1 = (ffL bar r B).length ∧ ∀ b ∈ ffL bar pre B, bar < sumL b + c
  | [], _ => .inl rfl
  | x :: r, B => by
    rcases last_open bar r (put bar x B) with h | ⟨pre, c, post, h1, h2, h3⟩
    · rw [ffL, h]
      rcases put_len bar x B with h4 | ⟨h4, h5⟩
      · exact .inl h4
      · exact .inr ⟨[], x, r, rfl, by rw [h4]; rfl, h5⟩
    · exact .inr ⟨x :: pre, c, post, by rw [h1]; rfl, h2, h3⟩
theorem put_ne (bar x : Int) : ∀ {B : List (List Int)}, (∀ b ∈ B, b ≠ []) → ∀ b ∈ put bar x B, b ≠ []
  | [], _, b, hb => by simp [put] at hb; subst hb; simp
  | c :: r, h, b, hb => by
    simp only [put] at hb
    split at hb
    · rcases List.mem_cons.1 hb with rfl | hb
      · exact h _ List.mem_cons_self
      · exact put_ne bar x (fun d hd => h d (List.mem_cons_of_mem _ hd)) b hb
    · rcases List.mem_cons.1 hb with rfl | hb
      · simp
      · exact h b (List.mem_cons_of_mem _ hb)
/-- how much of a bar a length takes, by thirds of the last one -/
def wt (bar c x : Int) : Int := if x < c then 0 else if bar < x + c then 2 else 1
theorem wt_group {bar c : Int} (hc : 1 ≤ c) (h3 : bar < 3 * c) : ∀ (l : List Int) (s : Nat), (∀ u ∈ l, 0 ≤ u) → let W := smk (l.map (wt bar c)) s; let S := smk l s
    0 ≤ W ∧ 0 ≤ S ∧ (1 ≤ W → c ≤ S) ∧ (2 ≤ W → 2 * c ≤ S ∨ bar < S + c) ∧ (3 ≤ W → bar < S)
  | [], s, _ => by simp [smk]
  | x :: r, s, h => by
    obtain ⟨h1, h2, h4, h5, h6⟩ := wt_group hc h3 r (s / 2) (fun u hu => h u (List.mem_cons_of_mem _ hu))
    have hx := h x List.mem_cons_self
    simp only [List.map_cons, smk]
    generalize smk (r.map (wt bar c)) (s / 2) = W at *
    generalize smk r (s / 2) = S at *
    by_cases ho : s % 2 = 1
    · rw [if_pos ho, if_pos ho]
      unfold wt
      split
      · refine ⟨by omega, by omega, fun h => ?_, fun h => ?_, fun h => ?_⟩
        · have := h4 (by omega); omega
        · have := h5 (by omega); omega
        · have := h6 (by omega); omega
      · split
        · refine ⟨by omega, by omega, fun h => by omega, fun h => by omega, fun h => ?_⟩
          have := h4 (by omega); omega
        · refine ⟨by omega, by omega, fun h => by omega, fun h => ?_, fun h => ?_⟩
          · have := h4 (by omega); omega
          · have := h5 (by omega); omega
    · rw [if_neg ho, if_neg ho]
      refine ⟨by omega, by omega, fun h => ?_, fun h => ?_, fun h => ?_⟩
      · have := h4 (by omega); omega
      · have := h5 (by omega); omega
      · have := h6 (by omega); omega
theorem wt_bins {bar c : Int} : ∀ B : List (List Int), (∀ b ∈ B, b ≠ []) → (∀ b ∈ B, bar < sumL b + c) → (∀ b ∈ B, ∀ x ∈ b, c ≤ x) → 2 * (B.length : Int) ≤ sumL (B.flatten.map (wt bar c))
  | [], _, _, _ => by simp [sumL]
  | b :: r, h1, h2, h3 => by
    have ih := wt_bins r (fun d hd => h1 d (List.mem_cons_of_mem _ hd)) (fun d hd => h2 d (List.mem_cons_of_mem _ hd)) (fun d hd => h3 d (List.mem_cons_of_mem _ hd))
    have hb : 2 ≤ sumL (b.map (wt bar c)) := by
      have e1 := h1 b List.mem_cons_self
      have e2 := h2 b List.mem_cons_self
      have e3 := h3 b List.mem_cons_self
      have pos : ∀ t : List Int, (∀ x ∈ t, c ≤ x) → 0 ≤ sumL (t.map (wt bar c)) := by
        intro t; induction t with
        | nil => intro _; simp [sumL]
        | cons y t ih =>
          intro h
          have h4 := ih fun x hx => h x (List.mem_cons_of_mem _ hx)
          have h5 : 1 ≤ wt bar c y := by unfold wt; have := h y List.mem_cons_self; split <;> (try split) <;> omega
          simp only [sumL, List.map_cons, List.foldr_cons] at *; omega
      have one : ∀ y, c ≤ y → 1 ≤ wt bar c y := fun y hy => by unfold wt; split <;> (try split) <;> omega
      cases b with
      | nil => exact absurd rfl e1
      | cons x t =>
        cases t with
        | nil =>
          have : bar < x + c := by simpa [sumL] using e2
          have hx := e3 x List.mem_cons_self
          simp only [sumL, List.map_cons, List.foldr_cons, List.map_nil, List.foldr_nil]
          unfold wt
          rw [if_neg (by omega), if_pos this]; omega
        | cons y t =>
          have h4 := pos t fun x hx => e3 x (List.mem_cons_of_mem _ (List.mem_cons_of_mem _ hx))
          have h5 := one x (e3 x List.mem_cons_self)
          have h6 := one y (e3 y (List.mem_cons_of_mem _ List.mem_cons_self))
          simp only [sumL, List.map_cons, List.foldr_cons] at *; omega
    rw [List.flatten_cons, List.map_append, sumL_append]
    simp only [List.length_cons]; omega
theorem sum_bins {bar c : Int} : ∀ B : List (List Int), (∀ b ∈ B, bar < sumL b + c) → (B.length : Int) * (bar - c + 1) ≤ sumL B.flatten
  | [], _ => by simp [sumL]
  | b :: r, h => by
    have ih := sum_bins r fun d hd => h d (List.mem_cons_of_mem _ hd)
    have := h b List.mem_cons_self
    rw [List.flatten_cons, sumL_append]
    simp only [List.length_cons, Int.natCast_add, Int.natCast_one, Int.add_mul, Int.one_mul]; omega
theorem sumL_nonneg : ∀ {l : List Int}, (∀ u ∈ l, 0 ≤ u) → 0 ≤ sumL l
  | [], _ => by simp [sumL]
  | x :: r, h => by
    have := sumL_nonneg (l := r) fun u hu => h u (List.mem_cons_of_mem _ hu)
    have := h x List.mem_cons_self
    simp only [sumL, List.foldr_cons] at *; omega
/-- first fit with the longest ones first needs at most one and a half times as many bars as there must be -/
theorem ffd_ratio {l d : List Int} {bar v : Int} (hm : ∀ u ∈ l, 1 ≤ u ∧ u ≤ bar) (hd : d.Pairwise Dn) (hp : d.Perm l) (h : Few (okB l bar) (2 ^ l.length - 1) v) (h1 : 1 ≤ v) :
    2 * ((ffV bar d []).length : Int) ≤ 3 * v := by
  obtain ⟨m, rfl, hpt, _⟩ := h.resolve_left fun h => by omega
  have e : (ffV bar d []).length = (ffL bar d []).length := by
    have := ffL_sum bar d []
    rw [List.map_nil] at this
    rw [← this, List.length_map]
  have hsum : sumL d ≤ m * bar := by rw [sumL_perm hp]; exact few_sum hpt
  have hdm : ∀ u ∈ d, 1 ≤ u ∧ u ≤ bar := fun u hu => hm u (hp.mem_iff.1 hu)
  rw [e]
  rcases last_open bar d [] with h2 | ⟨pre, c, post, h2, h3, h4⟩
  · rw [h2]; simp; omega
  · have hc := hdm c (by rw [h2]; simp)
    have hpre : ∀ u ∈ pre, c ≤ u := fun u hu => by
      rw [h2, List.pairwise_append] at hd
      exact hd.2.2 u hu c List.mem_cons_self
    have hfl := ffL_perm bar pre []
    rw [List.flatten_nil, List.nil_append] at hfl
    have hge : ∀ b ∈ ffL bar pre [], ∀ x ∈ b, c ≤ x := fun b hb x hx => hpre x (hfl.mem_iff.1 (List.mem_flatten.2 ⟨b, hb, hx⟩))
    have hne : ∀ b ∈ ffL bar pre [], b ≠ [] := fun b hb => by
      have := h4 b hb
      intro e; subst e
      simp [sumL] at this; omega
    have hpost : 0 ≤ sumL post := sumL_nonneg fun u hu => by have := hdm u (by rw [h2]; simp [hu]); omega
    have hs : sumL d = sumL pre + (c + sumL post) := by rw [h2, sumL_append]; rfl
    by_cases h3c : bar < 3 * c
    · have hw := wt_bins _ hne h4 hge
      rw [sumL_perm (hfl.map _)] at hw
      have hg := hpt.weigh (l := l.map (wt bar c)) (c := 2) (fun g hg => by
        obtain ⟨g1, g2, g3, g4, g5⟩ := wt_group (bar := bar) hc.1 h3c l g (fun u hu => by have := hm u hu; omega)
        have : smk l g ≤ bar := of_decide_eq_true hg
        omega)
      have hf := smk_full (l.map (wt bar c))
      rw [List.length_map] at hf
      rw [hf] at hg
      have hq : sumL (l.map (wt bar c)) = sumL (pre.map (wt bar c)) + (wt bar c c + sumL (post.map (wt bar c))) := by
        rw [← sumL_perm (hp.map _), h2, List.map_append, sumL_append]; rfl
      have hp2 : 0 ≤ sumL (post.map (wt bar c)) := sumL_nonneg fun u hu => by
        obtain ⟨y, _, rfl⟩ := List.mem_map.1 hu
        unfold wt; split <;> (try split) <;> omega
      have hcc : 1 ≤ wt bar c c := by unfold wt; split <;> (try split) <;> omega
      simp only [sumL] at hq hw hp2 hg
      omega
    · have hb := sum_bins _ h4
      rw [sumL_perm hfl] at hb
      generalize (ffL bar d []).length = K at *
      generalize (ffL bar pre []).length = J at *
      obtain rfl : K = J + 1 := by omega
      refine Classical.byContradiction fun hn => ?_
      have h6 : 3 * (m : Int) ≤ 2 * J + 1 := by omega
      have h7 : (J : Int) * (bar - c + 1) + c ≤ m * bar := by omega
      have h8 : 3 * ((m : Int) * bar) ≤ (2 * J + 1) * bar := by
        have := Int.mul_le_mul_of_nonneg_right h6 (show 0 ≤ bar by omega)
        rwa [Int.mul_assoc] at this
      have h9 : 0 ≤ (J : Int) * (bar - 3 * c) := Int.mul_nonneg (by omega) (by omega)
      have hJ : 1 ≤ J ∨ J = 0 := by omega
      have e1 : (J : Int) * (bar - c + 1) = J * bar - J * c + J := by rw [Int.mul_add, Int.mul_sub, Int.mul_one]
      have e2 : (2 * (J : Int) + 1) * bar = 2 * (J * bar) + bar := by rw [Int.add_mul, Int.mul_assoc, Int.one_mul]
      have e3 : (J : Int) * (bar - 3 * c) = J * bar - 3 * (J * c) := by rw [Int.mul_sub, Int.mul_left_comm]
      rcases hJ with hJ | hJ
      · have h10 : 0 ≤ ((J : Int) - 1) * (bar - 3 * c) := Int.mul_nonneg (by omega) (by omega)
        have e4 : ((J : Int) - 1) * (bar - 3 * c) = J * bar - 3 * (J * c) - (bar - 3 * c) := by rw [Int.sub_mul, e3, Int.one_mul]
        omega
      · subst hJ; omega
end Go.Proofs.Ytkojheinklgdeaa
