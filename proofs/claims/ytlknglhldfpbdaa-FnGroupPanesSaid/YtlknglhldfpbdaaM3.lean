/-
  Furnaces, plainly: groups by falling times are best.
-/
import Derived.Test.YtlknglhldfpbdaaA13
namespace Go.Proofs.Ytlknglhldfpbdaa
open Go

def sumN (f : Nat → Int) : Nat → Int
  | 0 => 0
  | n + 1 => sumN f n + f n
theorem sumN_congr {f g : Nat → Int} : ∀ {n : Nat}, (∀ i, i < n → f i = g i) → sumN f n = sumN g n
  | 0, _ => rfl
  | n + 1, h => by rw [sumN, sumN, sumN_congr fun i hi => h i (by omega), h n (by omega)]
theorem sumN_le {f g : Nat → Int} : ∀ {n : Nat}, (∀ i, i < n → f i ≤ g i) → sumN f n ≤ sumN g n
  | 0, _ => Int.le_refl _
  | n + 1, h => by
    have h1 := sumN_le (f := f) (g := g) (n := n) fun i hi => h i (by omega)
    have h2 := h n (by omega)
    simp only [sumN]; omega
theorem sumN_zero : ∀ n : Nat, sumN (fun _ => 0) n = 0
  | 0 => rfl
  | n + 1 => by rw [sumN, sumN_zero n]; omega
theorem sumN_add (f g : Nat → Int) : ∀ n : Nat, sumN (fun i => f i + g i) n = sumN f n + sumN g n
  | 0 => rfl
  | n + 1 => by simp only [sumN, sumN_add f g n]; omega
theorem sumN_swap (f : Nat → Nat → Int) (m : Nat) : ∀ n : Nat, sumN (fun i => sumN (f i) m) n = sumN (fun j => sumN (fun i => f i j) n) m
  | 0 => by simp only [sumN]; exact (sumN_zero m).symm
  | n + 1 => by
    rw [sumN, sumN_swap f m n, ← sumN_add]
    exact sumN_congr fun j _ => rfl
/-- a number as a sum of steps -/
theorem steps {x : Int} (h0 : 0 ≤ x) : ∀ (n : Nat), sumN (fun v => if (v : Int) < x then 1 else 0) n = min x n
  | 0 => by simp only [sumN]; omega
  | n + 1 => by rw [sumN, steps h0 n]; split <;> omega
theorem steps500 {x : Int} (h0 : 0 ≤ x) (h1 : x ≤ 500) : sumN (fun v => if (v : Int) < x then 1 else 0) 500 = x := by rw [steps h0 500]; omega
/-- how many groups last longer than v -/
def nG (t r : List Int) (v : Int) : Int := sumN (fun g => if v < gm t r g then 1 else 0) 16
/-- how many times are longer than v -/
def cT : List Int → Int → Int
  | [], _ => 0
  | u :: t, v => (if v < u then 1 else 0) + cT t v
/-- how many times of a group are longer than v -/
def c2 : List Int → List Int → Int → Int → Int
  | u :: t, x :: r, v, g => (if x = g ∧ v < u then 1 else 0) + c2 t r v g
  | _, _, _, _ => 0
theorem fs_layers {t r : List Int} (ht : ∀ u ∈ t, u ≤ 500) : fsN t r 16 = sumN (fun v => nG t r v) 500 := by
  have e : ∀ n, fsN t r n = sumN (fun g => gm t r g) n := fun n => by
    induction n with
    | zero => rfl
    | succ n ih => rw [fsN, sumN, ih]
  have h1 : sumN (fun g => gm t r g) 16 = sumN (fun g => sumN (fun v => if (v : Int) < gm t r g then 1 else 0) 500) 16 :=
    sumN_congr fun g _ => (steps500 (gm_nn t r g) (gm_le (by omega) ht)).symm
  rw [e, h1, sumN_swap]
  exact sumN_congr fun v _ => rfl
def totI : List Int → Int
  | [] => 0
  | u :: t => u + totI t
theorem tot_layers : ∀ {t : List Int}, (∀ u ∈ t, 0 ≤ u ∧ u ≤ 500) → totI t = sumN (fun v => cT t v) 500
  | [], _ => (sumN_zero 500).symm
  | u :: t, h => by
    have hu := h u List.mem_cons_self
    have e1 := steps500 hu.1 hu.2
    have e2 := sumN_add (fun v => if (v : Int) < u then 1 else 0) (fun v => cT t v) 500
    rw [e1, ← tot_layers fun z hz => h z (List.mem_cons_of_mem _ hz)] at e2
    rw [totI, ← e2]
    exact sumN_congr fun v _ => rfl
theorem c2_nn : ∀ (t r : List Int) (v g : Int), 0 ≤ c2 t r v g
  | [], _, _, _ => by simp [c2]
  | _ :: _, [], _, _ => by simp [c2]
  | u :: t, x :: r, v, g => by have := c2_nn t r v g; simp only [c2]; split <;> omega
theorem gm_c2 {v : Int} (hv : 0 ≤ v) : ∀ {t r : List Int} {g : Int}, v < gm t r g ↔ 1 ≤ c2 t r v g
  | [], _, g => by simp [gm, c2]; exact hv
  | _ :: _, [], g => by simp [gm, c2]; exact hv
  | u :: t, x :: r, g => by
    have h := gm_c2 hv (t := t) (r := r) (g := g)
    have h0 := c2_nn t r v g
    simp only [gm, c2]
    by_cases hx : x = g
    · by_cases hu : v < u
      · simp only [hx, hu, and_self, if_true]; omega
      · simp only [hx, hu, and_false, if_true, if_false]; omega
    · simp only [hx, false_and, if_false]; omega
theorem c2_cnt : ∀ (t r : List Int) (v g : Int), c2 t r v g ≤ cntI g r
  | [], r, v, g => by have := cntI_le g r; simp only [c2]; omega
  | _ :: _, [], v, g => by simp [c2, cntI]
  | u :: t, x :: r, v, g => by
    have := c2_cnt t r v g
    simp only [c2, cntI]
    by_cases hx : x = g
    · by_cases hu : v < u <;> simp [hx, hu] <;> omega
    · simp [hx]; omega
theorem one_of (x : Int) : ∀ {n : Nat}, 0 ≤ x → x < n → sumN (fun g => if x = (g : Int) then (1 : Int) else 0) n = 1
  | 0, h0, h1 => by omega
  | n + 1, h0, h1 => by
    have hz : ∀ m : Nat, (m : Int) ≤ x → sumN (fun g => if x = (g : Int) then (1 : Int) else 0) m = 0 := fun m => by
      induction m with
      | zero => intro _; rfl
      | succ m ih => intro hm; rw [sumN, ih (by omega), if_neg (by omega)]; rfl
    rw [sumN]
    by_cases h : x = (n : Int)
    · rw [if_pos h, hz n (by omega)]; rfl
    · rw [if_neg h, one_of x (n := n) h0 (by omega)]; rfl
theorem cT_c2 {v : Int} : ∀ {t r : List Int}, r.length = t.length → (∀ g ∈ r, 0 ≤ g ∧ g ≤ 15) → cT t v = sumN (fun g => c2 t r v g) 16
  | [], r, _, _ => by simp only [cT, c2]; exact (sumN_zero 16).symm
  | _ :: _, [], h, _ => by simp at h
  | u :: t, x :: r, h, hr => by
    have ih := cT_c2 (v := v) (t := t) (r := r) (by simpa using h) fun g hg => hr g (List.mem_cons_of_mem _ hg)
    have hx := hr x List.mem_cons_self
    rw [cT, ih]
    have e : sumN (fun g => c2 (u :: t) (x :: r) v g) 16 = sumN (fun g => if x = (g : Int) ∧ v < u then 1 else 0) 16 + sumN (fun g => c2 t r v g) 16 := by
      rw [← sumN_add]; rfl
    rw [e]
    by_cases hu : v < u
    · have := one_of x (n := 16) hx.1 (by omega)
      simp only [hu, and_true, if_true]; omega
    · simp only [hu, and_false, if_false]; rw [sumN_zero]
theorem nG_le {t r : List Int} {v : Int} (hv : 0 ≤ v) (hl : r.length = t.length) (hr : ∀ g ∈ r, 0 ≤ g ∧ g ≤ 15) : nG t r v ≤ cT t v := by
  rw [cT_c2 hl hr]
  refine sumN_le fun g _ => ?_
  have := c2_nn t r v g
  split
  · rename_i h; exact (gm_c2 hv).1 h
  · exact this
theorem sumN_mul (f : Nat → Int) (k : Int) : ∀ n : Nat, sumN (fun i => k * f i) n = k * sumN f n
  | 0 => by simp [sumN]
  | n + 1 => by rw [sumN, sumN, sumN_mul f k n, Int.mul_add]
theorem cT_le {t r : List Int} {v room : Int} (hv : 0 ≤ v) (hl : r.length = t.length) (hr : ∀ g ∈ r, 0 ≤ g ∧ g ≤ 15 ∧ cntI g r ≤ room) (h0 : 0 ≤ room) : cT t v ≤ room * nG t r v := by
  rw [cT_c2 hl (fun g hg => ⟨(hr g hg).1, (hr g hg).2.1⟩), nG, ← sumN_mul]
  refine sumN_le fun g _ => ?_
  by_cases h : v < gm t r g
  · rw [if_pos h, Int.mul_one]
    have h1 := c2_cnt t r v g
    by_cases hg : (g : Int) ∈ r
    · have := (hr _ hg).2.2; omega
    · have : ∀ r : List Int, (g : Int) ∉ r → cntI g r = 0 := by
        intro r; induction r with
        | nil => intro _; rfl
        | cons x r ih => intro h; rw [cntI, if_neg (fun e => h (by rw [e]; exact List.mem_cons_self)), ih fun e => h (List.mem_cons_of_mem _ e)]; rfl
      rw [this r hg] at h1; omega
  · rw [if_neg h, Int.mul_zero]
    have h1 : ¬ 1 ≤ c2 t r v g := fun e => h ((gm_c2 hv).2 e)
    omega
/-- counting what is below a bound -/
theorem cnt_bound {p : Nat → Prop} [DecidablePred p] : ∀ {n : Nat} {m : Int}, (∀ q, q < n → p q → (q : Int) < m) → 0 ≤ m → sumN (fun q => if p q then 1 else 0) n ≤ m
  | 0, m, _, h => h
  | n + 1, m, h, h0 => by
    have bound : ∀ k : Nat, sumN (fun q => if p q then 1 else 0) k ≤ k := fun k => by
      induction k with
      | zero => simp [sumN]
      | succ k ih => rw [sumN]; split <;> omega
    rw [sumN]
    by_cases hp : p n
    · have h1 := h n (by omega) hp
      have h2 := bound n
      rw [if_pos hp]; omega
    · have := cnt_bound (p := p) (n := n) (m := m) (fun q hq => h q (by omega)) h0
      rw [if_neg hp]; omega
/-! ## groups in falling order -/
theorem gpGo_at {room : Int} : ∀ (r : List Int) (i : Nat) (o : List Int), r.Nodup → (∀ x ∈ r, 0 ≤ x ∧ x < o.length) → ∀ (q : Nat) (x : Int), r[q]? = some x → (gpGo room i r o)[x.toNat]? = some (((i + q : Nat) : Int) / room)
  | [], _, _, _, _, q, x, h => by cases h
  | y :: r, i, o, hn, hr, q, x, h => by
    rw [List.nodup_cons] at hn
    have hy := hr y List.mem_cons_self
    have stay : ∀ (r : List Int) (i : Nat) (o : List Int), (∀ z ∈ r, z.toNat ≠ y.toNat) → (gpGo room i r o)[y.toNat]? = o[y.toNat]? := by
      intro r
      induction r with
      | nil => intro i o _; rfl
      | cons z r ih =>
        intro i o hz
        rw [gpGo, ih (i + 1) _ fun w hw => hz w (List.mem_cons_of_mem _ hw), List.getElem?_set, if_neg (hz z List.mem_cons_self)]
    rw [gpGo]
    cases q with
    | zero =>
      cases h
      rw [stay r (i + 1) _ fun z hz e => hn.1 (by have := hr z (List.mem_cons_of_mem _ hz); rwa [show y = z by omega]), List.getElem?_set, if_pos rfl, if_pos (by omega)]
      rfl
    | succ q =>
      have := gpGo_at (room := room) r (i + 1) (o.set y.toNat ((i : Int) / room)) hn.2 (fun z hz => by rw [List.length_set]; exact hr z (List.mem_cons_of_mem _ hz)) q x (by simpa using h)
      rw [this, show i + 1 + q = i + (q + 1) by omega]
theorem insAll_nodup (lt : Int → Int → Bool) (n : Nat) : (idxBy lt n).Nodup := by
  have hp : ∀ p : List Int, ∀ x, (ins lt x p).Perm (x :: p) := by
    intro p
    induction p with
    | nil => intro x; exact .refl _
    | cons y r ih =>
      intro x
      simp only [ins]
      split
      · exact ((ih x).cons y).trans (.swap _ _ _)
      · exact .refl _
  induction n with
  | zero => simp [idxBy, insAll, upN]
  | succ n ih =>
    rw [idxBy_succ, (List.reverse_perm _).nodup_iff, (hp _ _).nodup_iff, List.nodup_cons, (List.reverse_perm _).nodup_iff]
    exact ⟨fun h => by have := (idxBy_mem.1 (List.mem_reverse.1 h)).2; omega, ih⟩
theorem gp_at {l : List Int} {room : Int} {q : Nat} {x : Int} (h : (idxBy (ltF l) l.length)[q]? = some x) : (gpOf l room)[x.toNat]? = some ((q : Int) / room) := by
  have := gpGo_at (room := room) (idxBy (ltF l) l.length) 0 (List.replicate l.length 0) (insAll_nodup _ _) (fun x hx => by rw [List.length_replicate]; exact idxBy_mem.1 hx) q x h
  rwa [Nat.zero_add] at this
/-- each place is somewhere in the order -/
theorem gp_place {l : List Int} {room : Int} {i : Nat} (h : i < l.length) : ∃ q : Nat, (idxBy (ltF l) l.length)[q]? = some (i : Int) ∧ (gpOf l room)[i]? = some ((q : Int) / room) := by
  obtain ⟨q, hq⟩ := List.mem_iff_getElem?.1 (idxBy_mem (lt := ltF l) (n := l.length) (x := (i : Int)).2 ⟨by omega, by omega⟩)
  exact ⟨q, hq, by simpa using gp_at (room := room) hq⟩
end Go.Proofs.Ytlknglhldfpbdaa
