/-
  First fit, plainly: what is on the bars.
-/
import Derived.Test.YtkojheinklgdeaaA5
namespace Go.Proofs.Ytkojheinklgdeaa
open Go

def sumf (f : Int → Int) : List Int → Int
  | [] => 0
  | i :: r => f i + sumf f r
theorem sumf_perm {f : Int → Int} {a b : List Int} (p : a.Perm b) : sumf f a = sumf f b := by
  induction p with
  | nil => rfl
  | cons x _ ih => simp only [sumf, ih]
  | swap x y l => simp only [sumf]; omega
  | trans _ _ i j => exact i.trans j
theorem sumf_append (f : Int → Int) : ∀ a b : List Int, sumf f (a ++ b) = sumf f a + sumf f b
  | [], b => by simp [sumf]
  | x :: r, b => by simp only [List.cons_append, sumf, sumf_append f r b]; omega
theorem sumf_congr {f g : Int → Int} : ∀ {l : List Int}, (∀ i ∈ l, f i = g i) → sumf f l = sumf g l
  | [], _ => rfl
  | x :: r, h => by simp only [sumf, h x List.mem_cons_self, sumf_congr fun i hi => h i (List.mem_cons_of_mem _ hi)]
theorem ins_perm (lt : Int → Int → Bool) (x : Int) : ∀ p : List Int, (ins lt x p).Perm (x :: p)
  | [] => .refl _
  | y :: r => by
    simp only [ins]
    split
    · exact ((ins_perm lt x r).cons y).trans (.swap _ _ _)
    · exact .refl _
theorem insAll_perm (lt : Int → Int → Bool) : ∀ r p : List Int, (insAll lt p r).Perm (p ++ r)
  | [], p => by simp [insAll]
  | x :: r, p => by
    rw [insAll]
    refine (insAll_perm lt r _).trans ?_
    have h1 : ((ins lt x p.reverse).reverse).Perm (x :: p) := (List.reverse_perm _).trans ((ins_perm lt x _).trans ((List.reverse_perm p).cons x))
    exact (h1.append_right r).trans List.perm_middle.symm
theorem idxBy_perm (lt : Int → Int → Bool) (n : Nat) : (idxBy lt n).Perm (upN n) := by
  have := insAll_perm lt (upN n) []
  simpa [idxBy] using this
theorem upN_nodup (n : Nat) : (upN n).Nodup := by
  induction n with
  | zero => simp [upN]
  | succ n ih =>
    rw [upN_succ, List.nodup_append]
    refine ⟨ih, by simp, fun a ha b hb => ?_⟩
    have := (upN_mem.1 ha).2
    rw [List.mem_singleton.1 hb]; omega
theorem gt_set_ne {o : List Int} {i j b : Int} (hi : 0 ≤ i) (hj : 0 ≤ j) (h : j ≠ i) : gt (o.set i.toNat b) j = gt o j := by
  simp only [gt, List.getD_eq_getElem?_getD, List.getElem?_set]
  rw [if_neg (by omega)]
theorem gt_set_eq {o : List Int} {i b : Int} (hi : i.toNat < o.length) : gt (o.set i.toNat b) i = b := by
  simp [gt, List.getD_eq_getElem?_getD, List.getElem?_set, hi]
theorem gt_mem {o : List Int} {i : Int} (h : i.toNat < o.length) : gt o i ∈ o := by
  obtain ⟨u, hu⟩ := someC h
  rw [gtC hu]; exact List.mem_of_getElem? hu
/-- what is on a bar -/
def ld (o l : List Int) (r : List Int) (b : Int) : Int := sumf (fun i => if gt o i = b then gt l i else 0) r
theorem ld_pos {o l r : List Int} {b : Int} (h : ld o l r b ≠ 0) : ∃ i ∈ r, gt o i = b := by
  induction r with
  | nil => exact absurd rfl h
  | cons i r ih =>
    by_cases hb : gt o i = b
    · exact ⟨i, List.mem_cons_self, hb⟩
    · simp only [ld, sumf, if_neg hb] at h
      obtain ⟨j, hj, e⟩ := ih (by simp only [ld]; omega)
      exact ⟨j, List.mem_cons_of_mem _ hj, e⟩
theorem getD_mem {s : List Int} {c : Nat} (h : c < s.length) : s.getD c 0 ∈ s := by
  rw [List.getD_eq_getElem?_getD, List.getElem?_eq_getElem h]; exact List.getElem_mem h
theorem fS_getD (x bar : Int) : ∀ (s : List Int) (c : Nat), (fS x bar s).getD c 0 = s.getD c 0 + if c = fB x bar s then x else 0
  | [], c => by cases c <;> simp [fS, fB]
  | u :: r, c => by
    simp only [fS, fB]
    split
    · cases c with
      | zero => simp
      | succ c =>
        have := fS_getD x bar r c
        simp only [List.getD_cons_succ, this]
        by_cases h : c = fB x bar r
        · rw [if_pos h, if_pos (by omega)]
        · rw [if_neg h, if_neg (by omega)]
    · cases c <;> simp
theorem fB_before {x bar : Int} : ∀ {s : List Int} {b : Nat}, b < fB x bar s → bar < s.getD b 0 + x
  | [], b, h => by simp [fB] at h
  | u :: r, b, h => by
    simp only [fB] at h
    split at h
    · rename_i hu
      cases b with
      | zero => simpa using hu
      | succ b => have := fB_before (x := x) (bar := bar) (s := r) (b := b) (by omega); simpa using this
    · omega
structure FFI (l : List Int) (bar : Int) (done s o : List Int) : Prop where
  lt : ∀ i ∈ done, 0 ≤ gt o i ∧ gt o i < s.length
  ld : ∀ c : Nat, s.getD c 0 = ld o l done c
  mem : ∀ u ∈ s, 1 ≤ u ∧ u ≤ bar
  two : ∀ b c : Nat, b < c → c < s.length → bar < s.getD b 0 + s.getD c 0
theorem ffGo_inv {l : List Int} {bar : Int} (hm : ∀ u ∈ l, 1 ≤ u ∧ u ≤ bar) : ∀ (r done s o : List Int), (done ++ r).Nodup → (∀ i ∈ done, 0 ≤ i) → (∀ i ∈ r, 0 ≤ i ∧ i < l.length) → o.length = l.length → FFI l bar done s o →
    FFI l bar (done ++ r) (ffGo l bar r s o).1 (ffGo l bar r s o).2
  | [], done, s, o, _, _, _, _, h => by simpa [ffGo] using h
  | i :: r, done, s, o, hnd, hd, hr, hol, h => by
    have hi := hr i List.mem_cons_self
    have hx := hm (gt l i) (gt_mem (by omega))
    have hne : ∀ j ∈ done, j ≠ i := fun j hj e => by
      subst e
      have := (List.nodup_append.1 hnd).2.2 j hj j List.mem_cons_self
      exact this rfl
    have hb := fB_le (gt l i) bar s
    have hlen := fS_len (gt l i) bar s
    have key : FFI l bar (done ++ [i]) (fS (gt l i) bar s) (o.set i.toNat (fB (gt l i) bar s)) := by
      refine ⟨fun j hj => ?_, fun c => ?_, fS_mem (by omega) (by omega) h.mem, fun b c hbc hc => ?_⟩
      · rcases List.mem_append.1 hj with hj | hj
        · rw [gt_set_ne hi.1 (hd j hj) (hne j hj)]
          have := h.lt j hj
          split at hlen <;> omega
        · rw [List.mem_singleton.1 hj, gt_set_eq (by omega)]
          split at hlen <;> omega
      · rw [fS_getD, h.ld c, ld, ld, sumf_append, sumf, sumf, gt_set_eq (by omega)]
        have e : sumf (fun j => if gt (o.set i.toNat (fB (gt l i) bar s)) j = (c : Int) then gt l j else 0) done = sumf (fun j => if gt o j = (c : Int) then gt l j else 0) done :=
          sumf_congr fun j hj => by rw [gt_set_ne hi.1 (hd j hj) (hne j hj)]
        rw [e]
        by_cases hc : c = fB (gt l i) bar s
        · rw [if_pos hc, if_pos (by omega)]; omega
        · rw [if_neg hc, if_neg (by omega)]; omega
      · rw [fS_getD, fS_getD]
        have hx0 : (0 : Int) ≤ gt l i := by omega
        by_cases hc2 : c < s.length
        · have := h.two b c hbc hc2
          split <;> split <;> omega
        · have e1 : fB (gt l i) bar s = s.length := by split at hlen <;> omega
          have e2 : c = s.length := by split at hlen <;> omega
          have := fB_before (x := gt l i) (bar := bar) (s := s) (b := b) (by omega)
          rw [if_neg (by omega), if_pos (by omega), List.getD_eq_getElem?_getD (l := s) (i := c), List.getElem?_eq_none (by omega)]
          simp only [Option.getD_none]; omega
    rw [ffGo]
    have := ffGo_inv hm r (done ++ [i]) (fS (gt l i) bar s) (o.set i.toNat (fB (gt l i) bar s)) (by simpa using hnd) (fun j hj => by
      rcases List.mem_append.1 hj with hj | hj
      · exact hd j hj
      · rw [List.mem_singleton.1 hj]; exact hi.1) (fun j hj => hr j (List.mem_cons_of_mem _ hj)) (by simp [hol]) key
    simpa using this
/-- the loads that first fit ends with -/
def ffS (l : List Int) (bar : Int) (order : List Int) : List Int := (ffGo l bar order [] (List.replicate l.length 0)).1
theorem mx_ge : ∀ {o : List Int} {a x : Int}, x ∈ o → x ≤ o.foldl max a
  | y :: r, a, x, h => by
    have mono : ∀ (r : List Int) (a : Int), a ≤ r.foldl max a := by
      intro r; induction r with
      | nil => intro a; exact Int.le_refl _
      | cons z r ih => intro a; have := ih (max a z); simp only [List.foldl_cons]; omega
    rcases List.mem_cons.1 h with rfl | h
    · have := mono r (max a x); simp only [List.foldl_cons]; omega
    · exact mx_ge (o := r) (a := max a y) h
theorem mx_le : ∀ {o : List Int} {a B : Int}, a ≤ B → (∀ x ∈ o, x ≤ B) → o.foldl max a ≤ B
  | [], a, B, h, _ => h
  | y :: r, a, B, h, hx => by
    have := hx y List.mem_cons_self
    exact mx_le (o := r) (a := max a y) (by omega) fun x hx' => hx x (List.mem_cons_of_mem _ hx')
theorem ff_final {l : List Int} {bar : Int} {order : List Int} (hm : ∀ u ∈ l, 1 ≤ u ∧ u ≤ bar) (hp : order.Perm (upN l.length)) : FFI l bar (upN l.length) (ffS l bar order) (ffit l bar order) := by
  have h := ffGo_inv hm order [] [] (List.replicate l.length 0) (by simpa using hp.nodup_iff.2 (upN_nodup _)) (by simp) (fun i hi => upN_mem.1 (hp.mem_iff.1 hi)) (by simp) ⟨by simp, fun c => by simp [ld, sumf], by simp, fun b c _ h => by simp at h⟩
  rw [List.nil_append] at h
  exact ⟨fun i hi => h.lt i (hp.mem_iff.2 hi), fun c => (h.ld c).trans (sumf_perm hp), h.mem, h.two⟩
theorem ffit_len (l : List Int) (bar : Int) (order : List Int) : (ffit l bar order).length = l.length := by
  have key : ∀ (r s o : List Int), (ffGo l bar r s o).2.length = o.length := by
    intro r; induction r with
    | nil => intro s o; rfl
    | cons i r ih => intro s o; rw [ffGo, ih, List.length_set]
  rw [ffit, key, List.length_replicate]
theorem ffit_lt {l : List Int} {bar : Int} {order : List Int} (hm : ∀ u ∈ l, 1 ≤ u ∧ u ≤ bar) (hp : order.Perm (upN l.length)) : ∀ x ∈ ffit l bar order, 0 ≤ x ∧ x < (ffS l bar order).length := by
  intro x hx
  obtain ⟨i, hi⟩ := List.mem_iff_getElem?.1 hx
  have hlt := ltC hi
  rw [ffit_len] at hlt
  have := (ff_final hm hp).lt (i : Int) (upN_mem.2 ⟨by omega, by omega⟩)
  rwa [gtC' hi] at this
/-- the greatest number of a bar -/
theorem ff_mx {l : List Int} {bar : Int} {order : List Int} (hm : ∀ u ∈ l, 1 ≤ u ∧ u ≤ bar) (hp : order.Perm (upN l.length)) (h0 : 0 < l.length) (a : Int) (ha : a ≤ 0) : (ffit l bar order).foldl max a = (ffS l bar order).length - 1 := by
  have F := ff_final hm hp
  have hne : 0 < (ffS l bar order).length := by
    have := F.lt 0 (upN_mem.2 ⟨by omega, by omega⟩); omega
  have h1 : (ffit l bar order).foldl max a ≤ (ffS l bar order).length - 1 := mx_le (by omega) fun x hx => by have := ffit_lt hm hp x hx; omega
  have h2 := F.ld ((ffS l bar order).length - 1)
  have h3 := F.mem _ (getD_mem (s := ffS l bar order) (c := (ffS l bar order).length - 1) (by omega))
  obtain ⟨i, hi, e⟩ := ld_pos (o := ffit l bar order) (l := l) (r := upN l.length) (b := ((ffS l bar order).length - 1 : Nat)) (by omega)
  have h4 := upN_mem.1 hi
  have h5 := mx_ge (a := a) (gt_mem (o := ffit l bar order) (i := i) (by rw [ffit_len]; omega))
  omega
theorem ff_ld {l : List Int} {bar : Int} {order : List Int} (hm : ∀ u ∈ l, 1 ≤ u ∧ u ≤ bar) (hp : order.Perm (upN l.length)) {b : Int} (h0 : 0 ≤ b) (h1 : b < (ffS l bar order).length) : 1 ≤ ld (ffit l bar order) l (upN l.length) b ∧ ld (ffit l bar order) l (upN l.length) b ≤ bar := by
  have F := ff_final hm hp
  have h2 := F.ld b.toNat
  have h3 := F.mem _ (getD_mem (s := ffS l bar order) (c := b.toNat) (by omega))
  rw [show ((b.toNat : Nat) : Int) = b by omega] at h2
  omega
theorem ffS_le (l : List Int) (bar : Int) (order : List Int) : (ffS l bar order).length ≤ order.length := by
  have key : ∀ (r s o : List Int), (ffGo l bar r s o).1.length ≤ s.length + r.length := by
    intro r; induction r with
    | nil => intro s o; simp [ffGo]
    | cons i r ih =>
      intro s o
      have h1 := ih (fS (gt l i) bar s) (o.set i.toNat (fB (gt l i) bar s))
      have h2 := fS_len (gt l i) bar s
      rw [ffGo, List.length_cons]
      split at h2 <;> omega
  have := key order [] (List.replicate l.length 0)
  simpa [ffS] using this
theorem mx_from : ∀ (o : List Int) (a : Int), a ≤ o.foldl max a
  | [], a => Int.le_refl _
  | x :: r, a => by have := mx_from r (max a x); simp only [List.foldl_cons]; omega
end Go.Proofs.Ytkojheinklgdeaa
