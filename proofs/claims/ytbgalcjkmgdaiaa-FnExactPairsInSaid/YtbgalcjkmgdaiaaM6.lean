/-
  How many partners: plain law.
-/
import Derived.Test.YtbgalcjkmgdaiaaM5
namespace Go.Proofs.Ytbgalcjkmgdaiaa
open Go
set_option maxRecDepth 20000
set_option maxHeartbeats 400000

/-- how many pairs rising numbers make -/
def gP (s : Int) : List Int → List Int → Nat
  | [], _ => 0
  | _ :: _, [] => 0
  | x :: xs, y :: ys => if y < x - s then gP s (x :: xs) ys else if y ≤ x + s then gP s xs ys + 1 else gP s xs (y :: ys)
termination_by a b => a.length + b.length
theorem gP_nil (s : Int) (b : List Int) : gP s [] b = 0 := by rw [gP]
theorem gP_nil2 (s : Int) (a : List Int) : gP s a [] = 0 := by cases a <;> rw [gP]
theorem gP_lo {s x y : Int} {xs ys : List Int} (h : y < x - s) : gP s (x :: xs) (y :: ys) = gP s (x :: xs) ys := by rw [gP, if_pos h]
theorem gP_hit {s x y : Int} {xs ys : List Int} (h1 : x - s ≤ y) (h2 : y ≤ x + s) : gP s (x :: xs) (y :: ys) = gP s xs ys + 1 := by rw [gP, if_neg (by omega), if_pos h2]
theorem gP_hi {s x y : Int} {xs ys : List Int} (hs : 0 ≤ s) (h : x + s < y) : gP s (x :: xs) (y :: ys) = gP s xs (y :: ys) := by rw [gP, if_neg (by omega), if_neg (by omega)]
theorem gP_symm {s : Int} (hs : 0 ≤ s) : ∀ (n : Nat) (a b : List Int), a.length + b.length ≤ n → gP s a b = gP s b a
  | _, [], b, _ => by rw [gP_nil, gP_nil2]
  | _, x :: xs, [], _ => by rw [gP_nil, gP_nil2]
  | 0, x :: xs, y :: ys, h => by simp at h
  | n + 1, x :: xs, y :: ys, h => by
    simp only [List.length_cons] at h
    by_cases h1 : y < x - s
    · rw [gP_lo h1, gP_hi hs (by omega)]; exact gP_symm hs n _ _ (by simp only [List.length_cons]; omega)
    · by_cases h2 : y ≤ x + s
      · rw [gP_hit (by omega) h2, gP_hit (by omega) (by omega), gP_symm hs n xs ys (by omega)]
      · rw [gP_hi hs (by omega), gP_lo (by omega)]; exact gP_symm hs n _ _ (by simp only [List.length_cons]; omega)
abbrev Up (l : List Int) : Prop := l.Pairwise (· ≤ ·)
theorem gP_head {s : Int} (hs : 0 ≤ s) : ∀ (n : Nat) (x : Int) (v w : List Int), v.length + w.length ≤ n → Up (x :: v) → Up w → gP s v w ≤ gP s (x :: v) w ∧ gP s (x :: v) w ≤ gP s v w + 1
  | _, x, v, [], _, _, _ => by rw [gP_nil2, gP_nil2]; omega
  | 0, x, v, y :: ys, h, _, _ => by simp at h
  | n + 1, x, v, y :: ys, h, hv, hw => by
    simp only [List.length_cons] at h
    have hv2 := List.pairwise_cons.1 hv
    have hw2 := List.pairwise_cons.1 hw
    by_cases h1 : y < x - s
    · have e : gP s v (y :: ys) = gP s v ys := by
        cases v with
        | nil => rw [gP_nil, gP_nil]
        | cons z v => exact gP_lo (by have := hv2.1 z List.mem_cons_self; omega)
      rw [gP_lo h1, e]
      exact gP_head hs n x v ys (by omega) hv hw2.2
    · by_cases h2 : y ≤ x + s
      · rw [gP_hit (by omega) h2]
        have := gP_head hs n y ys v (by omega) hw hv2.2
        rw [gP_symm hs _ ys v (Nat.le_refl _), gP_symm hs _ (y :: ys) v (Nat.le_refl _)] at this
        omega
      · rw [gP_hi hs (by omega)]; omega
theorem gP_head2 {s : Int} (hs : 0 ≤ s) {y : Int} {v w : List Int} (hv : Up v) (hw : Up (y :: w)) : gP s v w ≤ gP s v (y :: w) ∧ gP s v (y :: w) ≤ gP s v w + 1 := by
  have := gP_head hs _ y w v (Nat.le_refl _) hw hv
  rwa [gP_symm hs _ w v (Nat.le_refl _), gP_symm hs _ (y :: w) v (Nat.le_refl _)] at this
theorem gP_mono {s t : Int} (hs : 0 ≤ s) (hst : s ≤ t) : ∀ (n : Nat) (a b : List Int), a.length + b.length ≤ n → Up a → Up b → gP s a b ≤ gP t a b
  | _, [], b, _, _, _ => by rw [gP_nil]; omega
  | _, x :: xs, [], _, _, _ => by rw [gP_nil2]; omega
  | 0, x :: xs, y :: ys, h, _, _ => by simp at h
  | n + 1, x :: xs, y :: ys, h, ha, hb => by
    simp only [List.length_cons] at h
    have ha2 := List.pairwise_cons.1 ha
    have hb2 := List.pairwise_cons.1 hb
    by_cases h1 : y < x - s
    · rw [gP_lo h1]
      have q1 := gP_mono hs hst n (x :: xs) ys (by simp only [List.length_cons]; omega) ha hb2.2
      have q2 := (gP_head2 (s := t) (by omega) ha hb).1
      omega
    · by_cases h2 : y ≤ x + s
      · rw [gP_hit (by omega) h2, gP_hit (by omega) (by omega)]
        have := gP_mono hs hst n xs ys (by omega) ha2.2 hb2.2
        omega
      · rw [gP_hi hs (by omega)]
        have q1 := gP_mono hs hst n xs (y :: ys) (by simp only [List.length_cons]; omega) ha2.2 hb
        have q2 := (gP_head (s := t) (by omega) _ x xs (y :: ys) (Nat.le_refl _) ha hb).1
        omega
theorem gP_mid {s : Int} (hs : 0 ≤ s) {x : Int} {v : List Int} : ∀ (n : Nat) (u w : List Int), u.length + w.length ≤ n → Up (u ++ x :: v) → Up w → gP s (u ++ v) w ≤ gP s (u ++ x :: v) w ∧ gP s (u ++ x :: v) w ≤ gP s (u ++ v) w + 1
  | _, [], w, _, hu, hw => gP_head hs _ x v w (Nat.le_refl _) hu hw
  | _, z :: u, [], _, _, _ => by rw [gP_nil2, gP_nil2]; omega
  | 0, z :: u, y :: w, h, _, _ => by simp at h
  | n + 1, z :: u, y :: w, h, hu, hw => by
    simp only [List.length_cons] at h
    have hu2 : Up (u ++ x :: v) := (List.pairwise_cons.1 hu).2
    have hw2 := List.pairwise_cons.1 hw
    simp only [List.cons_append]
    by_cases h1 : y < z - s
    · rw [gP_lo h1, gP_lo h1]
      exact gP_mid hs n (z :: u) w (by simp only [List.length_cons]; omega) hu hw2.2
    · by_cases h2 : y ≤ z + s
      · rw [gP_hit (by omega) h2, gP_hit (by omega) h2]
        have := gP_mid hs n u w (by omega) hu2 hw2.2
        omega
      · rw [gP_hi hs (by omega), gP_hi hs (by omega)]
        exact gP_mid hs n u (y :: w) (by simp only [List.length_cons]; omega) hu2 hw
theorem gP_diag : ∀ a : List Int, gP 0 a a = a.length
  | [] => gP_nil _ _
  | x :: xs => by rw [gP_hit (by omega) (by omega), gP_diag xs, List.length_cons]
theorem gP_le {s : Int} (hs : 0 ≤ s) : ∀ (n : Nat) (a b : List Int), a.length + b.length ≤ n → gP s a b ≤ a.length
  | _, [], b, _ => by rw [gP_nil]; omega
  | _, x :: xs, [], _ => by rw [gP_nil2]; omega
  | 0, x :: xs, y :: ys, h => by simp at h
  | n + 1, x :: xs, y :: ys, h => by
    simp only [List.length_cons] at h
    by_cases h1 : y < x - s
    · rw [gP_lo h1]; exact gP_le hs n _ _ (by simp only [List.length_cons]; omega)
    · by_cases h2 : y ≤ x + s
      · rw [gP_hit (by omega) h2]
        have := gP_le hs n xs ys (by omega)
        simp only [List.length_cons]; omega
      · rw [gP_hi hs (by omega)]
        have := gP_le hs n xs (y :: ys) (by simp only [List.length_cons]; omega)
        simp only [List.length_cons]; omega
/-- rising numbers of a list -/
def srt (l : List Int) : List Int := (idxBy (ltR l) l.length).map (gt l)
theorem srt_up (l : List Int) : Up (srt l) := by
  unfold srt Up
  rw [List.pairwise_map]
  exact (idx_lex l l.length).imp fun {u v} h => by unfold LeX at h; omega
theorem ins_permR (lt : Int → Int → Bool) (x : Int) : ∀ p : List Int, (ins lt x p).Perm (x :: p)
  | [] => .refl _
  | y :: r => by
    simp only [ins]
    split
    · exact ((ins_permR lt x r).cons y).trans (.swap _ _ _)
    · exact .refl _
theorem idxBy_permR (lt : Int → Int → Bool) : ∀ n : Nat, (idxBy lt n).Perm (upN n)
  | 0 => .refl _
  | n + 1 => by
    rw [idxBy_succ, upN_succ]
    refine (List.reverse_perm _).trans ((ins_permR lt n _).trans ?_)
    have := ((List.reverse_perm _).trans (idxBy_permR lt n)).cons (n : Int)
    exact this.trans (List.perm_append_comm (l₁ := [(n : Int)]) (l₂ := upN n))
theorem map_gtR (l : List Int) : (upN l.length).map (gt l) = l := by
  apply List.ext_getElem?
  intro i
  by_cases h : i < l.length
  · obtain ⟨u, hu⟩ := someC h
    have : (upN l.length)[i]? = some (i : Int) := by simp [upN, h]
    rw [List.getElem?_map, this, hu]
    exact congrArg some (gtC' hu)
  · rw [List.getElem?_eq_none (by simp [upN_len]; omega), List.getElem?_eq_none (by omega)]
theorem srt_perm (l : List Int) : (srt l).Perm l := by
  have := (idxBy_permR (ltR l) l.length).map (gt l)
  rwa [map_gtR] at this
theorem srt_len (l : List Int) : (srt l).length = l.length := (srt_perm l).length_eq
theorem srt_eq {l d : List Int} (hd : Up d) (hp : d.Perm l) : srt l = d :=
  List.Perm.eq_of_pairwise (le := fun x y => x ≤ y) (fun a b _ _ h1 h2 => by omega) (srt_up l) hd ((srt_perm l).trans hp.symm)
def cntP (prs : Prs) : Nat := prs.countP fun q => decide (0 ≤ q.2)
theorem skipP {a b Y : List Int} {s : Int} {prs : Prs} {w : Int} : ∀ (n d : Nat), Y.length ≤ d + n → (∀ z ∈ Y.take d, (∃ q ∈ prs, q.2 = z) ∨ gt b z < gt a w - s) →
    ∃ e, d ≤ e ∧ (∀ z ∈ Y.take e, (∃ q ∈ prs, q.2 = z) ∨ gt b z < gt a w - s) ∧ (Y.length ≤ e ∨ ∃ v, Y[e]? = some v ∧ gt a w - s ≤ gt b v) ∧ ∀ r, gP s (gt a w :: r) ((Y.drop d).map (gt b)) = gP s (gt a w :: r) ((Y.drop e).map (gt b))
  | 0, d, h, hd => ⟨d, Nat.le_refl _, hd, .inl (by omega), fun _ => rfl⟩
  | n + 1, d, h, hd => by
    by_cases hl : Y.length ≤ d
    · exact ⟨d, Nat.le_refl _, hd, .inl hl, fun _ => rfl⟩
    · obtain ⟨v, hv⟩ := someC (l := Y) (j := d) (by omega)
      by_cases hlo : gt a w - s ≤ gt b v
      · exact ⟨d, Nat.le_refl _, hd, .inr ⟨v, hv, hlo⟩, fun _ => rfl⟩
      · obtain ⟨e, h1, h2, h3, h4⟩ := skipP (a := a) (b := b) (Y := Y) (s := s) (prs := prs) (w := w) n (d + 1) (by omega) (fun z hz => by
          rw [takeC hv, List.mem_append, List.mem_singleton] at hz
          rcases hz with hz | rfl
          · exact hd z hz
          · exact .inr (by omega))
        refine ⟨e, by omega, h2, h3, fun r => ?_⟩
        rw [← h4 r, dropC hv, List.map_cons, gP_lo (by omega)]
theorem cnt_run {a b X Y : List Int} {s : Int} (hs : 0 ≤ s) (hX : X.Pairwise (LeX a)) (hY : Y.Pairwise (LeX b)) (hm : ∀ z, z ∈ Y ↔ 0 ≤ z ∧ z < b.length) : ∀ (n k c : Nat) (prs : Prs), X.length ≤ k + n → PtI a b s X Y k c prs →
    cntP ((X.drop k).foldl (fun prs i => (i, nextF b prs (gt a i - s) (gt a i + s)) :: prs) prs) = cntP prs + gP s ((X.drop k).map (gt a)) ((Y.drop c).map (gt b)) := by
  intro n
  induction n with
  | zero => intro k c prs h I; rw [List.drop_of_length_le (by omega)]; simp only [List.foldl_nil, List.map_nil, gP_nil, Nat.add_zero]
  | succ n ih =>
    intro k c prs h I
    by_cases hl : X.length ≤ k
    · rw [List.drop_of_length_le (by omega)]; simp only [List.foldl_nil, List.map_nil, gP_nil, Nat.add_zero]
    · obtain ⟨w, hw⟩ := someC (l := X) (j := k) (by omega)
      obtain ⟨e, h1, h2, h3, h4⟩ := skipP (a := a) (b := b) (Y := Y) (s := s) (prs := prs) (w := w) (Y.length) c (by omega) (fun z hz => (I.h2 z hz).imp id fun h => h w (by rw [dropC hw]; exact List.mem_cons_self))
      rw [dropC hw, List.foldl_cons, List.map_cons, h4]
      rcases h3 with h3 | ⟨v, hv, hlo⟩
      · have hx := ptI_miss hX hY hm I h1 h2 hw (.inl h3)
        rw [hx.1, ih (k + 1) e _ (by omega) hx.2, List.drop_of_length_le h3, List.map_nil, gP_nil2, gP_nil2]
        simp [cntP]
      · by_cases hhi : gt b v ≤ gt a w + s
        · have hx := ptI_hit hX hY hm I h1 h2 hw hv hlo hhi
          have hv0 := (hm v).1 (List.mem_of_getElem? hv)
          rw [hx.1, ih (k + 1) (e + 1) _ (by omega) hx.2, dropC hv, List.map_cons, gP_hit hlo hhi]
          have : cntP ((w, v) :: prs) = cntP prs + 1 := by simp [cntP, hv0.1]
          omega
        · have hx := ptI_miss hX hY hm I h1 h2 hw (.inr ⟨v, hv, hlo, by omega⟩)
          rw [hx.1, ih (k + 1) e _ (by omega) hx.2, dropC hv, List.map_cons, gP_hi hs (by omega)]
          simp [cntP]
/-- how many pairs -/
def nP (a b : List Int) (s : Int) : Nat := gP s (srt a) (srt b)
theorem ptI0 (a b : List Int) (s : Int) (X Y : List Int) : PtI a b s X Y 0 0 [] := ⟨fun z _ q hq => (nomatch hq), fun z hz => (nomatch (show z ∈ ([] : List Int) from hz))⟩
theorem cnt_gr (a b : List Int) {s : Int} (hs : 0 ≤ s) : cntP (grP a b s (idxBy (ltR a) a.length)) = nP a b s := by
  have := cnt_run hs (idx_lex a a.length) (idx_lex b b.length) (fun z => idxBy_mem) (idxBy (ltR a) a.length).length 0 0 [] (by omega) (ptI0 _ _ _ _ _)
  rw [List.drop_zero, List.drop_zero] at this
  rw [show cntP [] = 0 from rfl, Nat.zero_add] at this
  exact this
theorem cnt_pair (a b : List Int) {s : Int} (hs : 0 ≤ s) : (pairR a b s).countP (fun u => decide (0 ≤ u)) = nP a b s := by
  rw [← cnt_gr a b hs]
  have hf := (grOk a b s (idxBy (ltR a) a.length)).fst
  have e1 : (grP a b s (idxBy (ltR a) a.length)).map Prod.snd = (idxBy (ltR a) a.length).reverse.map (gt (pairR a b s)) := by
    rw [← hf, List.map_map]
    refine List.map_congr_left fun q hq => ?_
    have hq1 : q.1 ∈ idxBy (ltR a) a.length := by rw [← List.mem_reverse, ← hf]; exact List.mem_map.2 ⟨q, hq, rfl⟩
    have := outP_get (n := a.length) (z := 0) (prs := grP a b s (idxBy (ltR a) a.length)) (by rw [hf]; exact (List.reverse_perm _).nodup_iff.2 (lex_nodup (idx_lex a a.length))) (fun p hp => idxBy_mem.1 (by
      rw [← List.mem_reverse, ← hf]; exact List.mem_map.2 ⟨p, hp, rfl⟩)) hq
    exact (gtC (l := pairR a b s) this).symm
  have e2 : cntP (grP a b s (idxBy (ltR a) a.length)) = ((grP a b s (idxBy (ltR a) a.length)).map Prod.snd).countP (fun u => decide (0 ≤ u)) := by
    rw [List.countP_map]; rfl
  rw [e2, e1]
  have hp := ((List.reverse_perm (idxBy (ltR a) a.length)).trans (idxBy_permR (ltR a) a.length)).map (gt (pairR a b s))
  rw [hp.countP_eq]
  have := map_gtR (pairR a b s)
  rw [pairR_len] at this
  rw [this]
theorem nP_symm (a b : List Int) {s : Int} (hs : 0 ≤ s) : nP a b s = nP b a s := gP_symm hs _ _ _ (Nat.le_refl _)
theorem nP_mono (a b : List Int) {s t : Int} (hs : 0 ≤ s) (h : s ≤ t) : nP a b s ≤ nP a b t := gP_mono hs h _ _ _ (Nat.le_refl _) (srt_up a) (srt_up b)
theorem nP_diag (a : List Int) : nP a a 0 = a.length := by rw [nP, gP_diag, srt_len]
theorem nP_le (a b : List Int) {s : Int} (hs : 0 ≤ s) : nP a b s ≤ a.length := by rw [← srt_len a]; exact gP_le hs _ _ _ (Nat.le_refl _)
theorem nP_le2 (a b : List Int) {s : Int} (hs : 0 ≤ s) : nP a b s ≤ b.length := by rw [nP_symm a b hs]; exact nP_le b a hs
theorem nP_less {u v : List Int} {x : Int} (b : List Int) {s : Int} (hs : 0 ≤ s) : nP (u ++ v) b s ≤ nP (u ++ x :: v) b s ∧ nP (u ++ x :: v) b s ≤ nP (u ++ v) b s + 1 := by
  have hx : x ∈ srt (u ++ x :: v) := (srt_perm _).mem_iff.2 (by simp)
  obtain ⟨p, q, hpq⟩ := List.append_of_mem hx
  have hup := srt_up (u ++ x :: v)
  rw [hpq] at hup
  have hperm : (p ++ q).Perm (u ++ v) := by
    have h1 := srt_perm (u ++ x :: v)
    rw [hpq] at h1
    have h2 : (x :: (p ++ q)).Perm (x :: (u ++ v)) := (List.perm_middle.symm.trans h1).trans List.perm_middle
    exact h2.cons_inv
  have hup2 : Up (p ++ q) := hup.sublist (List.Sublist.append (List.Sublist.refl p) (List.sublist_cons_self x q))
  have := gP_mid hs (x := x) (v := q) _ p (srt b) (Nat.le_refl _) hup (srt_up b)
  unfold nP
  rw [hpq, srt_eq hup2 hperm]
  exact this
end Go.Proofs.Ytbgalcjkmgdaiaa
