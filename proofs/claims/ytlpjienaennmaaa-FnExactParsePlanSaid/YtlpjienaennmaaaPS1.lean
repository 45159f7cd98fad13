/-
  Texts of plans, plainly.
-/
import Derived.Test.YtlpjienaennmaaaPS0
import Derived.Test.YtlpjienaennmaaaP1
namespace Go.Proofs.Ytlpjienaennmaaa
open Go
set_option maxRecDepth 20000
set_option maxHeartbeats 1000000

def isD (u : UInt8) : Bool := decide (48 ≤ u.toNat) && decide (u.toNat ≤ 57)
theorem isD_iff {u : UInt8} : isD u = true ↔ 48 ≤ u.toNat ∧ u.toNat ≤ 57 := by simp [isD]
/-- the number of a digit -/
def dg (d : UInt8) : Nat := d.toNat - 48
/-- the number of digits behind a number -/
def vA (n : Nat) (l : List UInt8) : Nat := l.foldl (fun m d => 10 * m + dg d) n
theorem vA_nil {n : Nat} : vA n [] = n := rfl
theorem vA_cons {d : UInt8} {r : List UInt8} {n : Nat} : vA n (d :: r) = vA (10 * n + dg d) r := by unfold vA; rw [List.foldl_cons]
theorem vA_append (a b : List UInt8) (n : Nat) : vA n (a ++ b) = vA (vA n a) b := by unfold vA; rw [List.foldl_append]
theorem vA_snoc (a : List UInt8) (d : UInt8) (n : Nat) : vA n (a ++ [d]) = 10 * vA n a + dg d := by rw [vA_append, vA_cons, vA_nil]
theorem bT {b : Bool} (h : ¬ b = false) : b = true := by cases b <;> simp_all
theorem vA_ge {a : List UInt8} {n : Nat} : n ≤ vA n a := by
  induction a generalizing n with
  | nil => rw [vA_nil]; exact Nat.le_refl _
  | cons d r ih => have := ih (n := 10 * n + dg d); rw [vA_cons]; omega
theorem vA_lo {a : List UInt8} {n : Nat} : n * 10 ^ a.length ≤ vA n a := by
  induction a generalizing n with
  | nil => simp [vA_nil]
  | cons d r ih =>
    have h := ih (n := 10 * n + dg d)
    have h2 : 10 * n * 10 ^ r.length ≤ (10 * n + dg d) * 10 ^ r.length := Nat.mul_le_mul_right _ (by omega)
    rw [vA_cons, List.length_cons, Nat.pow_succ]
    rw [show n * (10 ^ r.length * 10) = 10 * n * 10 ^ r.length by rw [Nat.mul_comm (10 ^ r.length) 10, ← Nat.mul_assoc, Nat.mul_comm n 10]]
    exact Nat.le_trans h2 h
theorem vA_hi {a : List UInt8} {n : Nat} (h : a.all isD = true) : vA n a < (n + 1) * 10 ^ a.length := by
  induction a generalizing n with
  | nil => simp [vA_nil]
  | cons d r ih =>
    simp only [List.all_cons, Bool.and_eq_true] at h
    have hd := isD_iff.1 h.1
    have hd2 : dg d ≤ 9 := by unfold dg; omega
    have h1 := ih (n := 10 * n + dg d) h.2
    have h2 : (10 * n + dg d + 1) * 10 ^ r.length ≤ (n + 1) * 10 * 10 ^ r.length := Nat.mul_le_mul_right _ (by omega)
    rw [vA_cons, List.length_cons, Nat.pow_succ]
    rw [show (n + 1) * (10 ^ r.length * 10) = (n + 1) * 10 * 10 ^ r.length by rw [Nat.mul_comm (10 ^ r.length) 10, ← Nat.mul_assoc]]
    exact Nat.lt_of_lt_of_le h1 h2
def numOk (ds : List UInt8) : Bool := ds.all isD && (decide (ds ≠ []) && (decide (ds.length ≤ 6) && decide (¬ (1 < ds.length ∧ ds[0]? = some 48))))
theorem numOk_iff {ds : List UInt8} : numOk ds = true ↔ ds.all isD = true ∧ ds ≠ [] ∧ ds.length ≤ 6 ∧ ¬ (1 < ds.length ∧ ds[0]? = some 48) := by
  simp only [numOk, Bool.and_eq_true, decide_eq_true_eq]
theorem val_lt {ds : List UInt8} (h : numOk ds = true) : vA 0 ds < 1000000 := by
  obtain ⟨h1, _, h3, _⟩ := numOk_iff.1 h
  have h4 := vA_hi (n := 0) h1
  have h5 : 10 ^ ds.length ≤ 10 ^ 6 := Nat.pow_le_pow_right (by omega) h3
  omega
/-- decimals -/
def numL (n : Nat) : List UInt8 := if n < 10 then [UInt8.ofNat (48 + n)] else numL (n / 10) ++ [UInt8.ofNat (48 + n % 10)]
termination_by n
decreasing_by omega
theorem numL_lt {n : Nat} (h : n < 10) : numL n = [UInt8.ofNat (48 + n)] := by rw [numL, if_pos h]
theorem numL_ge {n : Nat} (h : ¬ n < 10) : numL n = numL (n / 10) ++ [UInt8.ofNat (48 + n % 10)] := by rw [numL, if_neg h]
theorem ofNat_D {u : UInt8} (h : isD u = true) : UInt8.ofNat (48 + dg u) = u := by
  have := isD_iff.1 h
  rw [show 48 + dg u = u.toNat by unfold dg; omega]
  exact UInt8.ofNat_toNat
theorem numL_len (k : Nat) : ∀ n : Nat, n < 10 ^ (k + 1) → (numL n).length ≤ k + 1 := by
  induction k with
  | zero => intro n h; rw [numL_lt (by omega)]; simp
  | succ k ih =>
    intro n h
    by_cases h1 : n < 10
    · rw [numL_lt h1]; simp
    · rw [numL_ge h1]
      have := ih (n / 10) (by rw [Nat.pow_succ] at h; omega)
      simp; omega
theorem numL_head (N : Nat) : ∀ n : Nat, n < N → 1 ≤ n → ∃ d r, numL n = d :: r ∧ d ≠ 48 := by
  induction N with
  | zero => intro n h; omega
  | succ N ih =>
    intro n h h0
    by_cases h1 : n < 10
    · refine ⟨_, [], numL_lt h1, fun e => ?_⟩
      have := congrArg UInt8.toNat e
      rw [UInt8.toNat_ofNat'] at this
      simp at this; omega
    · obtain ⟨d, r, e, hd⟩ := ih (n / 10) (by omega) (by omega)
      exact ⟨d, r ++ [UInt8.ofNat (48 + n % 10)], by rw [numL_ge h1, e]; rfl, hd⟩
theorem numL_val (N : Nat) : ∀ ds : List UInt8, ds.length < N → ds.all isD = true → ds ≠ [] → ¬ (1 < ds.length ∧ ds[0]? = some 48) → numL (vA 0 ds) = ds := by
  induction N with
  | zero => intro ds h; omega
  | succ N ih =>
    intro ds hl ha hn h0
    obtain ⟨e, d, rfl⟩ : ∃ e d, ds = e ++ [d] := ⟨ds.dropLast, ds.getLast hn, (List.dropLast_concat_getLast hn).symm⟩
    rw [List.all_append, Bool.and_eq_true] at ha
    have hd : isD d = true := by simpa using ha.2
    have hd2 := isD_iff.1 hd
    have hd3 : dg d ≤ 9 := by unfold dg; omega
    have hdd : UInt8.ofNat (48 + dg d) = d := ofNat_D hd
    rw [vA_snoc]
    cases e with
    | nil => rw [vA_nil, numL_lt (by omega), Nat.mul_zero, Nat.zero_add, hdd]; rfl
    | cons x r =>
      have hx : x ≠ 48 := fun e => h0 ⟨by simp, by simp [e]⟩
      have hxd : isD x = true := by
        have := ha.1; simp only [List.all_cons, Bool.and_eq_true] at this; exact this.1
      have hx2 := isD_iff.1 hxd
      have hx3 : x.toNat ≠ 48 := fun e => hx (UInt8.toNat_inj.1 (by simpa using e))
      have hv : 1 ≤ vA 0 (x :: r) := by
        have := vA_ge (a := r) (n := dg x)
        have h7 : 1 ≤ dg x := by unfold dg; omega
        rw [vA_cons, Nat.mul_zero, Nat.zero_add]; omega
      have h5 := ih (x :: r) (by simp at hl ⊢; omega) ha.1 (by simp) (fun h => by
        have h2 := h.2; simp at h2; exact hx h2)
      generalize vA 0 (x :: r) = y at *
      rw [numL_ge (by omega), show (10 * y + dg d) / 10 = y by omega, show (10 * y + dg d) % 10 = dg d by omega, h5, hdd]
/-- numbers read the spec's way -/
theorem numOk_show {ds : List UInt8} (ha : ds.all isD = true) (hv : vA 0 ds ≤ 999999) : numOk ds = true ↔ ds ≠ [] ∧ ds = numL (vA 0 ds) := by
  rw [numOk_iff]
  constructor
  · rintro ⟨h1, h2, h3, h4⟩
    exact ⟨h2, (numL_val _ ds (Nat.lt_succ_self _) h1 h2 h4).symm⟩
  · rintro ⟨h1, h2⟩
    refine ⟨ha, h1, ?_, ?_⟩
    · rw [h2]; exact numL_len 5 _ (by omega)
    · rintro ⟨h3, h4⟩
      by_cases h0 : 1 ≤ vA 0 ds
      · obtain ⟨d, r, e, hd⟩ := numL_head _ (vA 0 ds) (Nat.lt_succ_self _) h0
        rw [h2, e] at h4
        exact hd (by simpa using h4)
      · rw [h2, numL_lt (by omega)] at h3; simp at h3
theorem numOk_big {ds : List UInt8} {k : Nat} (h : ¬ vA 0 (ds.take k) ≤ 999999) : numOk ds = false := by
  refine Bool.eq_false_iff.2 fun hn => ?_
  have h1 := val_lt hn
  have h2 : vA 0 ds = vA (vA 0 (ds.take k)) (ds.drop k) := by rw [← vA_append, List.take_append_drop]
  have h3 := vA_ge (a := ds.drop k) (n := vA 0 (ds.take k))
  omega
/-- a byte at the head of a text is taken off -/
def cut (c : UInt8) : List UInt8 → List UInt8 × Bool
  | [] => ([], false)
  | d :: r => if d = c then (r, true) else (d :: r, false)
theorem cut_len (c : UInt8) (s : List UInt8) : (cut c s).1.length ≤ s.length := by
  cases s with
  | nil => simp [cut]
  | cons d r => simp only [cut]; split <;> simp
theorem cut_T {c : UInt8} {s : List UInt8} (h : (cut c s).2 = true) : s = c :: (cut c s).1 := by
  cases s with
  | nil => simp [cut] at h
  | cons d r =>
    simp only [cut] at h ⊢
    split at h
    · rename_i e; subst e; simp
    · cases h
/-- the plan at the head of a text -/
def tkP : Nat → List UInt8 → Option (BT × List UInt8)
  | 0, _ => none
  | _ + 1, [] => none
  | n + 1, c :: s =>
    if c = 119 then some (.w, s) else
    if numOk (s.takeWhile isD) = false then none else
    if c = 112 ∨ c = 116 then some (.p (vA 0 (s.takeWhile isD)) (decide (c = 116)), s.dropWhile isD) else
    if ¬ (c = 100 ∨ c = 97) then none else
    if (cut 40 (s.dropWhile isD)).2 = false then none else
    match tkP n (cut 40 (s.dropWhile isD)).1 with
    | none => none
    | some (b1, r2) => if (cut 44 r2).2 = false then none else
      match tkP n (cut 44 r2).1 with
      | none => none
      | some (b2, r3) => if (cut 41 r3).2 = false then none else some (.c (decide (c = 100)) (vA 0 (s.takeWhile isD)) b1 b2, (cut 41 r3).1)
def BT.shw : BT → List UInt8
  | .w => [119]
  | .p i t => (if t = true then 116 else 112) :: numL i.toNat
  | .c d a l r => (if d = true then 100 else 97) :: (numL a.toNat ++ 40 :: (l.shw ++ 44 :: (r.shw ++ [41])))
theorem digs_show {s : List UInt8} (h : numOk (s.takeWhile isD) = true) : s = numL (vA 0 (s.takeWhile isD)) ++ s.dropWhile isD := by
  obtain ⟨h1, h2, _, h4⟩ := numOk_iff.1 h
  rw [numL_val _ _ (Nat.lt_succ_self _) h1 h2 h4, List.takeWhile_append_dropWhile]
theorem tkP_show : ∀ (n : Nat) (s : List UInt8) (b : BT) (r : List UInt8), tkP n s = some (b, r) → s = b.shw ++ r := by
  intro n
  induction n with
  | zero => intro s b r h; simp [tkP] at h
  | succ n ih =>
    intro s b r h
    cases s with
    | nil => simp [tkP] at h
    | cons c s =>
      simp only [tkP] at h
      split at h
      · rename_i hc; subst hc
        injection h with h; injection h with h1 h2; subst h1 h2; rfl
      split at h
      · cases h
      rename_i hw hno
      have hds := digs_show (bT hno)
      split at h
      · rename_i hc
        injection h with h; injection h with h1 h2; subst h1 h2
        simp only [BT.shw, Int.toNat_natCast, List.cons_append]
        rw [← hds]
        rcases hc with rfl | rfl <;> rfl
      split at h
      · cases h
      rename_i hpt hda
      have hda : c = 100 ∨ c = 97 := Classical.not_not.1 hda
      split at h
      · cases h
      rename_i h40
      split at h
      · cases h
      rename_i b1 r2 e1
      split at h
      · cases h
      rename_i h44
      split at h
      · cases h
      rename_i b2 r3 e2
      split at h
      · cases h
      rename_i h41
      injection h with h; injection h with h1 h2; subst h1 h2
      have c1 := cut_T (bT h40)
      have c2 := cut_T (bT h44)
      have c3 := cut_T (bT h41)
      have i1 := ih _ _ _ e1
      have i2 := ih _ _ _ e2
      have key : s = numL (vA 0 (s.takeWhile isD)) ++ 40 :: (b1.shw ++ 44 :: (b2.shw ++ 41 :: (cut 41 r3).1)) := by
        rw [← c3, ← i2, ← c2, ← i1, ← c1]; exact hds
      simp only [BT.shw, Int.toNat_natCast, List.cons_append, List.append_assoc, List.nil_append]
      rw [← key]
      rcases hda with rfl | rfl <;> rfl
def BT.cntb : BT → Bool
  | .w => true
  | .p i _ => decide (0 ≤ i) && decide (i ≤ 24)
  | .c _ a l r => (decide (0 ≤ a) && decide (a ≤ 200)) && (l.cntb && r.cntb)
/-- the plan of a text -/
def ppB (s : List UInt8) : Option BT := if 1600 < s.length then none else
  match tkP (s.length + 1) s with
  | some (b, []) => if b.sz ≤ 255 ∧ b.cntb = true then some b else none
  | _ => none
def ppP (s : List UInt8) : BT := (ppB s).getD .w
/-! ## the parser's steps -/
theorem u8_eq {c : UInt8} {k : Nat} (hk : k < 256) : ((c.toNat : Int) = (k : Int)) ↔ c = UInt8.ofNat k := by
  constructor
  · intro h
    refine UInt8.toNat_inj.1 ?_
    rw [UInt8.toNat_ofNat', Nat.mod_eq_of_lt hk]; omega
  · rintro rfl
    rw [UInt8.toNat_ofNat', Nat.mod_eq_of_lt hk]
theorem tk_w {n : Nat} {z : List UInt8} : tkP (n + 1) (119 :: z) = some (.w, z) := by simp [tkP]
theorem tk_no {n : Nat} {c : UInt8} {z : List UInt8} (hc : c ≠ 119) (h : numOk (z.takeWhile isD) = false) : tkP (n + 1) (c :: z) = none := by simp [tkP, hc, h]
theorem tk_p {n : Nat} {c : UInt8} {z : List UInt8} (h : numOk (z.takeWhile isD) = true) (hc : c = 112 ∨ c = 116) : tkP (n + 1) (c :: z) = some (.p (vA 0 (z.takeWhile isD)) (decide (c = 116)), z.dropWhile isD) := by
  have h1 : c ≠ 119 := by rcases hc with rfl | rfl <;> decide
  simp only [tkP]
  rw [if_neg h1, if_neg (by rw [h]; simp), if_pos hc]
theorem tk_x {n : Nat} {c : UInt8} {z : List UInt8} (h0 : c ≠ 119) (h1 : c ≠ 112) (h2 : c ≠ 116) (h3 : c ≠ 100) (h4 : c ≠ 97) : tkP (n + 1) (c :: z) = none := by
  simp [tkP, h0, h1, h2, h3, h4]
theorem tk_c {n : Nat} {c : UInt8} {z : List UInt8} (h : numOk (z.takeWhile isD) = true) (hc : c = 100 ∨ c = 97) : tkP (n + 1) (c :: z) =
    if (cut 40 (z.dropWhile isD)).2 = false then none else
    match tkP n (cut 40 (z.dropWhile isD)).1 with
    | none => none
    | some (b1, r2) => if (cut 44 r2).2 = false then none else
      match tkP n (cut 44 r2).1 with
      | none => none
      | some (b2, r3) => if (cut 41 r3).2 = false then none else some (.c (decide (c = 100)) (vA 0 (z.takeWhile isD)) b1 b2, (cut 41 r3).1) := by
  have h1 : c ≠ 119 := by rcases hc with rfl | rfl <;> decide
  have h2 : ¬ (c = 112 ∨ c = 116) := by rcases hc with rfl | rfl <;> decide
  simp only [tkP]
  rw [if_neg h1, if_neg (by rw [h]; simp), if_neg h2, if_neg (fun h => h hc)]
section
variable {n : Nat} {c : UInt8} {z r2 r3 : List UInt8} {b1 b2 : BT} (h : numOk (z.takeWhile isD) = true) (hc : c = 100 ∨ c = 97)
include h hc
theorem tk_c1 (h1 : (cut 40 (z.dropWhile isD)).2 = false) : tkP (n + 1) (c :: z) = none := by rw [tk_c h hc, if_pos h1]
theorem tk_c2 (h1 : tkP n (cut 40 (z.dropWhile isD)).1 = none) : tkP (n + 1) (c :: z) = none := by
  rw [tk_c h hc, h1]; split <;> rfl
theorem tk_c3 (h1 : tkP n (cut 40 (z.dropWhile isD)).1 = some (b1, r2)) (h2 : (cut 44 r2).2 = false) : tkP (n + 1) (c :: z) = none := by
  rw [tk_c h hc, h1]; simp only [h2, if_true, ite_self]
theorem tk_c4 (h1 : tkP n (cut 40 (z.dropWhile isD)).1 = some (b1, r2)) (h2 : tkP n (cut 44 r2).1 = none) : tkP (n + 1) (c :: z) = none := by
  rw [tk_c h hc, h1]; simp only [h2, ite_self]
theorem tk_c5 (h1 : tkP n (cut 40 (z.dropWhile isD)).1 = some (b1, r2)) (h2 : tkP n (cut 44 r2).1 = some (b2, r3)) (h3 : (cut 41 r3).2 = false) : tkP (n + 1) (c :: z) = none := by
  rw [tk_c h hc, h1]; simp only [h2, h3, if_true, ite_self]
theorem tk_c6 (h0 : (cut 40 (z.dropWhile isD)).2 = true) (h1 : tkP n (cut 40 (z.dropWhile isD)).1 = some (b1, r2)) (h4 : (cut 44 r2).2 = true) (h2 : tkP n (cut 44 r2).1 = some (b2, r3)) (h3 : (cut 41 r3).2 = true) :
    tkP (n + 1) (c :: z) = some (.c (decide (c = 100)) (vA 0 (z.takeWhile isD)) b1 b2, (cut 41 r3).1) := by
  rw [tk_c h hc, if_neg (by rw [h0]; simp), h1]
  simp only []
  rw [if_neg (by rw [h4]; simp), h2]
  simp only []
  rw [if_neg (by rw [h3]; simp)]
end
end Go.Proofs.Ytlpjienaennmaaa
