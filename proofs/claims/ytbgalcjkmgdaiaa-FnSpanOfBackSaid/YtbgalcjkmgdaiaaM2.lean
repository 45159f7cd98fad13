/-
  Spans of jobs, plainly: best orders are best.
-/
import Derived.Test.YtbgalcjkmgdaiaaJ2
namespace Go.Proofs.Ytbgalcjkmgdaiaa
open Go

/-- when the last job is done, from times c and h on -/
def spn (c h : Int) : List Job → Int
  | [] => h
  | j :: r => spn (c + j.Cut) (max (c + j.Cut) h + j.Heat) r
def jle (a b : Job) : Prop := ¬ cmpJ b a < 0
def JN (j : Job) : Prop := 0 ≤ j.Cut ∧ 0 ≤ j.Heat
theorem spn_mono : ∀ (r : List Job) {c h c' h' : Int}, c ≤ c' → h ≤ h' → spn c h r ≤ spn c' h' r
  | [], _, _, _, _, _, h2 => h2
  | j :: r, c, h, c', h', h1, h2 => spn_mono r (by omega) (by omega)
theorem spn_shift : ∀ (r : List Job) (c h d : Int), spn (c + d) (h + d) r = spn c h r + d
  | [], _, _, _ => rfl
  | j :: r, c, h, d => by
    rw [spn, spn, ← spn_shift r]
    congr 1 <;> omega
theorem swap_le {a b : Job} (hab : jle a b) (ha : JN a) (hb : JN b) (c h : Int) (r : List Job) : spn c h (a :: b :: r) ≤ spn c h (b :: a :: r) := by
  simp only [spn]
  refine spn_mono r (by omega) ?_
  unfold jle cmpJ at hab
  unfold JN at ha hb
  split at hab <;> (try split at hab) <;> (try split at hab) <;> omega
theorem front_le {a : Job} : ∀ {u v : List Job} (c h : Int), (∀ y ∈ u, jle a y) → JN a → (∀ y ∈ u, JN y) → spn c h (a :: (u ++ v)) ≤ spn c h (u ++ a :: v)
  | [], v, c, h, _, _, _ => Int.le_refl _
  | y :: u, v, c, h, h1, h2, h3 => by
    have e1 := swap_le (h1 y List.mem_cons_self) h2 (h3 y List.mem_cons_self) c h (u ++ v)
    refine Int.le_trans e1 ?_
    rw [List.cons_append, spn, spn]
    exact front_le _ _ (fun z hz => h1 z (List.mem_cons_of_mem _ hz)) h2 fun z hz => h3 z (List.mem_cons_of_mem _ hz)
/-- what is in order is best -/
theorem best_le : ∀ {S B : List Job} (c h : Int), S.Pairwise jle → S.Perm B → (∀ y ∈ S, JN y) → spn c h S ≤ spn c h B
  | [], B, c, h, _, hp, _ => by rw [hp.symm.eq_nil]; exact Int.le_refl _
  | a :: S, B, c, h, hs, hp, hn => by
    rw [List.pairwise_cons] at hs
    obtain ⟨u, v, rfl⟩ := List.append_of_mem (hp.mem_iff.1 List.mem_cons_self)
    have hp2 : S.Perm (u ++ v) := (hp.trans List.perm_middle).cons_inv
    have hu : ∀ y ∈ u, y ∈ S := fun y hy => hp2.mem_iff.2 (List.mem_append_left _ hy)
    refine Int.le_trans ?_ (front_le c h (fun y hy => hs.1 y (hu y hy)) (hn a List.mem_cons_self) fun y hy => hn y (List.mem_cons_of_mem _ (hu y hy)))
    rw [spn, spn]
    exact best_le _ _ hs.2 hp2 fun y hy => hn y (List.mem_cons_of_mem _ hy)
theorem jle_trans {a b c : Job} (h1 : jle a b) (h2 : jle b c) : jle a c := by
  unfold jle cmpJ at *
  split at h1 <;> (try split at h1) <;> (try split at h1) <;> split at h2 <;> (try split at h2) <;> (try split at h2) <;> split <;> (try split) <;> (try split) <;> omega
theorem jle_of_lt {a b : Job} (h : cmpJ a b < 0) : jle a b := by
  unfold jle cmpJ at *
  split at h <;> (try split at h) <;> (try split at h) <;> split <;> (try split) <;> (try split) <;> omega
/-- insertion keeps order -/
theorem ins_sorted {l : List Job} {x : Int} : ∀ {p : List Int}, p.Pairwise (fun y z => jle (gj l z) (gj l y)) → (ins (ltJ l) x p).Pairwise (fun y z => jle (gj l z) (gj l y))
  | [], _ => by simp [ins]
  | y :: r, h => by
    rw [List.pairwise_cons] at h
    simp only [ins]
    split
    · rename_i hxy
      rw [List.pairwise_cons]
      refine ⟨fun z hz => ?_, ins_sorted h.2⟩
      rcases ins_mem.1 hz with rfl | hz
      · exact jle_of_lt (by simpa [ltJ] using hxy)
      · exact h.1 z hz
    · rename_i hxy
      rw [List.pairwise_cons, List.pairwise_cons]
      have hyx : jle (gj l y) (gj l x) := by unfold jle; simpa [ltJ] using hxy
      refine ⟨fun z hz => ?_, h⟩
      rcases List.mem_cons.1 hz with rfl | hz
      · exact hyx
      · exact jle_trans (h.1 z hz) hyx
theorem insAll_sorted {l : List Job} : ∀ {r p : List Int}, p.reverse.Pairwise (fun y z => jle (gj l z) (gj l y)) → (insAll (ltJ l) p r).reverse.Pairwise (fun y z => jle (gj l z) (gj l y))
  | [], _, h => h
  | x :: r, p, h => by
    rw [insAll]
    refine insAll_sorted ?_
    rw [List.reverse_reverse]
    exact ins_sorted h
theorem ins_permJ (lt : Int → Int → Bool) (x : Int) : ∀ p : List Int, (ins lt x p).Perm (x :: p)
  | [] => .refl _
  | y :: r => by
    simp only [ins]
    split
    · exact ((ins_permJ lt x r).cons y).trans (.swap _ _ _)
    · exact .refl _
theorem insAll_permJ (lt : Int → Int → Bool) : ∀ r p : List Int, (insAll lt p r).Perm (p ++ r)
  | [], p => by simp [insAll]
  | x :: r, p => by
    rw [insAll]
    refine (insAll_permJ lt r _).trans ?_
    have h1 : ((ins lt x p.reverse).reverse).Perm (x :: p) := (List.reverse_perm _).trans ((ins_permJ lt x _).trans ((List.reverse_perm p).cons x))
    exact (h1.append_right r).trans List.perm_middle.symm
theorem idxBy_permJ (lt : Int → Int → Bool) (n : Nat) : (idxBy lt n).Perm (upN n) := by
  have := insAll_permJ lt (upN n) []
  simpa [idxBy] using this
theorem upN_nodupJ (n : Nat) : (upN n).Nodup := by
  induction n with
  | zero => simp [upN]
  | succ n ih =>
    rw [upN_succ, List.nodup_append]
    refine ⟨ih, by simp, fun a ha b hb => ?_⟩
    have := (upN_mem.1 ha).2
    rw [List.mem_singleton.1 hb]; omega
theorem map_gj (l : List Job) : (upN l.length).map (gj l) = l := by
  apply List.ext_getElem?
  intro i
  by_cases h : i < l.length
  · obtain ⟨u, hu⟩ := someC h
    rw [hu, List.getElem?_map]
    simp [upN, h, gj, List.getD_eq_getElem?_getD, hu]
    exact (List.getElem?_eq_some_iff.1 hu).2
  · rw [List.getElem?_eq_none (by simp [upN_len]; omega), List.getElem?_eq_none (by omega)]
/-- the jobs in their best order -/
def bj (l : List Job) : List Job := (idxBy (ltJ l) l.length).map (gj l)
theorem bj_sorted (l : List Job) : (bj l).Pairwise jle := by
  have h := insAll_sorted (l := l) (r := upN l.length) (p := []) (by simp)
  rw [List.pairwise_reverse] at h
  rw [bj, List.pairwise_map]
  exact h
theorem bj_perm (l : List Job) : (bj l).Perm l := by
  have := (idxBy_permJ (ltJ l) l.length).map (gj l)
  rwa [map_gj] at this
theorem bj_le {l B : List Job} (hp : B.Perm l) (hn : ∀ y ∈ l, JN y) : spn 0 0 (bj l) ≤ spn 0 0 B :=
  best_le 0 0 (bj_sorted l) ((bj_perm l).trans hp.symm) fun y hy => hn y ((bj_perm l).mem_iff.1 hy)
/-- one more job -/
theorem spn_more {x : Job} (hx : JN x) (r : List Job) : spn 0 0 (x :: r) ≤ spn 0 0 r + (x.Cut + x.Heat) := by
  unfold JN at hx
  rw [spn, ← spn_shift r]
  exact spn_mono r (by omega) (by omega)
theorem spn_less {x : Job} (hx : JN x) : ∀ (u v : List Job) (c h : Int), spn c h (u ++ v) ≤ spn c h (u ++ x :: v)
  | [], v, c, h => by unfold JN at hx; rw [List.nil_append, List.nil_append, spn]; exact spn_mono v (by omega) (by omega)
  | y :: u, v, c, h => by rw [List.cons_append, List.cons_append, spn, spn]; exact spn_less hx u v _ _
/-- without one job -/
theorem bj_without {u v : List Job} {x : Job} (hn : ∀ y ∈ u ++ x :: v, JN y) : spn 0 0 (bj (u ++ v)) ≤ spn 0 0 (bj (u ++ x :: v)) ∧ spn 0 0 (bj (u ++ x :: v)) ≤ spn 0 0 (bj (u ++ v)) + (x.Cut + x.Heat) := by
  have hx := hn x (by simp)
  have hn2 : ∀ y ∈ u ++ v, JN y := fun y hy => hn y (by simp only [List.mem_append, List.mem_cons] at hy ⊢; rcases hy with h | h; exact .inl h; exact .inr (.inr h))
  constructor
  · obtain ⟨a, b, e⟩ := List.append_of_mem ((bj_perm (u ++ x :: v)).mem_iff.2 (show x ∈ u ++ x :: v by simp))
    rw [e]
    refine Int.le_trans (bj_le (B := a ++ b) ?_ hn2) (spn_less hx a b 0 0)
    have h1 : (a ++ x :: b).Perm (u ++ x :: v) := e ▸ bj_perm (u ++ x :: v)
    exact ((List.perm_middle.symm.trans h1).trans List.perm_middle).cons_inv
  · refine Int.le_trans (bj_le (B := x :: bj (u ++ v)) ?_ hn) (spn_more hx _)
    exact ((bj_perm (u ++ v)).cons x).trans List.perm_middle.symm
/-! ## the longest way -/
def sC : List Job → Int
  | [] => 0
  | j :: r => j.Cut + sC r
def sH : List Job → Int
  | [] => 0
  | j :: r => j.Heat + sH r
def wayM : List Job → Int
  | [] => 0
  | j :: r => max (j.Cut + j.Heat + sH r) (j.Cut + wayM r)
theorem sH_nn : ∀ {r : List Job}, (∀ y ∈ r, JN y) → 0 ≤ sH r ∧ 0 ≤ sC r ∧ 0 ≤ wayM r
  | [], _ => by simp [sH, sC, wayM]
  | j :: r, h => by
    have h1 := h j List.mem_cons_self
    have h2 := sH_nn (r := r) fun y hy => h y (List.mem_cons_of_mem _ hy)
    unfold JN at h1
    simp only [sH, sC, wayM]; omega
theorem spn_way : ∀ (r : List Job) (c h : Int), c ≤ h → (∀ y ∈ r, JN y) → spn c h r = max (c + wayM r) (h + sH r)
  | [], c, h, hc, _ => by simp only [spn, wayM, sH]; omega
  | j :: r, c, h, hc, hn => by
    have h1 := hn j List.mem_cons_self
    unfold JN at h1
    rw [spn, spn_way r _ _ (by omega) fun y hy => hn y (List.mem_cons_of_mem _ hy), wayM, sH]; omega
theorem sH_le_way : ∀ {r : List Job}, (∀ y ∈ r, JN y) → sH r ≤ wayM r
  | [], _ => Int.le_refl _
  | j :: r, h => by
    have h1 := h j List.mem_cons_self
    unfold JN at h1
    simp only [sH, wayM]; omega
theorem spn_way0 {r : List Job} (hn : ∀ y ∈ r, JN y) : spn 0 0 r = wayM r := by
  rw [spn_way r 0 0 (Int.le_refl _) hn]
  have := sH_le_way hn; omega
theorem sH_append : ∀ a b : List Job, sH (a ++ b) = sH a + sH b
  | [], b => by simp [sH]
  | j :: a, b => by simp only [List.cons_append, sH, sH_append a b]; omega
theorem way_append : ∀ (a b : List Job), (∀ y ∈ a, JN y) → (∀ y ∈ b, JN y) → wayM (a ++ b) = max (wayM a + sH b) (sC a + wayM b)
  | [], b, _, hb => by have := sH_le_way hb; simp only [List.nil_append, wayM, sC]; omega
  | j :: a, b, ha, hb => by
    rw [List.cons_append, wayM, wayM, sC, way_append a b (fun y hy => ha y (List.mem_cons_of_mem _ hy)) hb, sH_append]; omega
def flip (j : Job) : Job := ⟨j.Heat, j.Cut⟩
theorem sC_flip : ∀ r : List Job, sC (r.map flip) = sH r
  | [] => rfl
  | j :: r => by simp only [List.map_cons, sC, sH, sC_flip r, flip]
theorem sC_append : ∀ a b : List Job, sC (a ++ b) = sC a + sC b
  | [], b => by simp [sC]
  | j :: a, b => by simp only [List.cons_append, sC, sC_append a b]; omega
theorem sC_rev : ∀ a : List Job, sC a.reverse = sC a
  | [] => rfl
  | j :: a => by rw [List.reverse_cons, sC_append, sC_rev a]; simp only [sC]; omega
theorem way_rev : ∀ (r : List Job), (∀ y ∈ r, JN y) → wayM (r.map flip).reverse = wayM r
  | [], _ => rfl
  | j :: r, hn => by
    have h1 := hn j List.mem_cons_self
    have h2 : ∀ y ∈ r, JN y := fun y hy => hn y (List.mem_cons_of_mem _ hy)
    have h3 : ∀ y ∈ (r.map flip).reverse, JN y := fun y hy => by
      obtain ⟨z, hz, rfl⟩ := List.mem_map.1 (List.mem_reverse.1 hy)
      have := h2 z hz; exact ⟨this.2, this.1⟩
    rw [List.map_cons, List.reverse_cons, way_append _ _ h3 (fun y hy => by rw [List.mem_singleton.1 hy]; exact ⟨h1.2, h1.1⟩), way_rev r h2, sC_rev, sC_flip]
    unfold JN at h1
    simp only [wayM, sH, flip]; omega
theorem spn_rev {r : List Job} (hn : ∀ y ∈ r, JN y) : spn 0 0 (r.map flip).reverse = spn 0 0 r := by
  have h3 : ∀ y ∈ (r.map flip).reverse, JN y := fun y hy => by
    obtain ⟨z, hz, rfl⟩ := List.mem_map.1 (List.mem_reverse.1 hy)
    have := hn z hz; exact ⟨this.2, this.1⟩
  rw [spn_way0 h3, spn_way0 hn, way_rev r hn]
theorem flip_flip (r : List Job) : (r.map flip).map flip = r := by
  rw [List.map_map]; exact List.map_id'' (fun j => rfl) r
theorem bj_flip {l : List Job} (hn : ∀ y ∈ l, JN y) : spn 0 0 (bj (l.map flip)) = spn 0 0 (bj l) := by
  have hf : ∀ (r : List Job), (∀ y ∈ r, JN y) → ∀ y ∈ r.map flip, JN y := fun r h y hy => by
    obtain ⟨z, hz, rfl⟩ := List.mem_map.1 hy
    have := h z hz; exact ⟨this.2, this.1⟩
  have half : ∀ (r : List Job), (∀ y ∈ r, JN y) → spn 0 0 (bj (r.map flip)) ≤ spn 0 0 (bj r) := fun r h => by
    have h1 : ∀ y ∈ bj r, JN y := fun y hy => h y ((bj_perm r).mem_iff.1 hy)
    rw [← spn_rev h1]
    exact bj_le ((List.reverse_perm _).trans ((bj_perm r).map flip)) (hf r h)
  have h1 := half l hn
  have h2 := half (l.map flip) (hf l hn)
  rw [flip_flip] at h2
  omega
/-! ## a bound -/
def mnC : List Job → Int
  | [] => 500
  | j :: r => min j.Cut (mnC r)
def mnH : List Job → Int
  | [] => 500
  | j :: r => min j.Heat (mnH r)
theorem bound_way : ∀ {r : List Job}, r ≠ [] → (∀ y ∈ r, JN y) → sC r + mnH r ≤ wayM r ∧ sH r + mnC r ≤ wayM r
  | [], h, _ => absurd rfl h
  | [j], _, hn => by
    have h1 := hn j List.mem_cons_self
    unfold JN at h1
    simp only [sC, sH, mnC, mnH, wayM]; omega
  | j :: k :: r, _, hn => by
    have h1 := hn j List.mem_cons_self
    have h2 := bound_way (r := k :: r) (by simp) fun y hy => hn y (List.mem_cons_of_mem _ hy)
    unfold JN at h1
    rw [sC, sH, mnC, mnH, wayM]; omega
theorem s_perm {a b : List Job} (p : a.Perm b) : sC a = sC b ∧ sH a = sH b ∧ mnC a = mnC b ∧ mnH a = mnH b := by
  induction p with
  | nil => exact ⟨rfl, rfl, rfl, rfl⟩
  | cons x _ ih => simp only [sC, sH, mnC, mnH]; omega
  | swap x y l => simp only [sC, sH, mnC, mnH]; omega
  | trans _ _ i j => exact ⟨i.1.trans j.1, i.2.1.trans j.2.1, i.2.2.1.trans j.2.2.1, i.2.2.2.trans j.2.2.2⟩
end Go.Proofs.Ytbgalcjkmgdaiaa
