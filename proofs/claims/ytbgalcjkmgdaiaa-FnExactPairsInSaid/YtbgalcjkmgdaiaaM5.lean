/-
  Partners: plain law.
-/
import Derived.Test.YtbgalcjkmgdaiaaA4
namespace Go.Proofs.Ytbgalcjkmgdaiaa
open Go
set_option maxRecDepth 20000
set_option maxHeartbeats 400000

/-- a number is less than another one of a list -/
def ltR (l : List Int) (x y : Int) : Bool := decide (gt l x < gt l y)
def LeX (b : List Int) (u v : Int) : Prop := gt b u < gt b v ∨ gt b u = gt b v ∧ u < v
theorem ins_lex {b : List Int} {x : Int} : ∀ {r : List Int}, (∀ y ∈ r, y < x) → r.Pairwise (fun u v => LeX b v u) → (ins (ltR b) x r).Pairwise (fun u v => LeX b v u)
  | [], _, _ => by simp [ins]
  | y :: r, hx, h => by
    rw [List.pairwise_cons] at h
    have hy := hx y List.mem_cons_self
    simp only [ins]
    split
    · rename_i hxy
      simp only [ltR, decide_eq_true_eq] at hxy
      rw [List.pairwise_cons]
      refine ⟨fun z hz => ?_, ins_lex (fun z hz => hx z (List.mem_cons_of_mem _ hz)) h.2⟩
      rcases ins_mem.1 hz with rfl | hz
      · exact .inl hxy
      · exact h.1 z hz
    · rename_i hxy
      simp only [ltR, decide_eq_true_eq] at hxy
      rw [List.pairwise_cons, List.pairwise_cons]
      refine ⟨fun z hz => ?_, h⟩
      rcases List.mem_cons.1 hz with rfl | hz
      · unfold LeX; omega
      · have := h.1 z hz; have := hx z (List.mem_cons_of_mem _ hz); unfold LeX at *; omega
theorem idx_lex (b : List Int) : ∀ n : Nat, (idxBy (ltR b) n).Pairwise (LeX b)
  | 0 => by simp [idxBy, upN, insAll]
  | n + 1 => by
    rw [idxBy_succ, List.pairwise_reverse]
    refine ins_lex (fun y hy => ?_) ?_
    · rw [List.mem_reverse] at hy; exact (idxBy_mem.1 hy).2
    · rw [List.pairwise_reverse]; exact idx_lex b n
theorem lex_nodup {b l : List Int} (h : l.Pairwise (LeX b)) : l.Nodup := h.imp fun {u v} huv e => by subst e; unfold LeX at huv; omega
theorem pw_mem {α : Type} {R : α → α → Prop} : ∀ {l : List α} {x y : α}, l.Pairwise R → x ∈ l → y ∈ l → x = y ∨ R x y ∨ R y x
  | [], _, _, _, hx, _ => by cases hx
  | z :: r, x, y, h, hx, hy => by
    rw [List.pairwise_cons] at h
    rcases List.mem_cons.1 hx with e | hx2
    · rcases List.mem_cons.1 hy with e2 | hy2
      · exact .inl (e.trans e2.symm)
      · exact .inr (.inl (e ▸ h.1 y hy2))
    · rcases List.mem_cons.1 hy with e2 | hy2
      · exact .inr (.inr (e2 ▸ h.1 x hx2))
      · exact pw_mem h.2 hx2 hy2
abbrev Prs := List (Int × Int)
def tkn (prs : Prs) (z : Int) : Bool := prs.any fun q => decide (q.2 = z)
theorem tkn_iff {prs : Prs} {z : Int} : tkn prs z = true ↔ ∃ q ∈ prs, q.2 = z := by simp [tkn]
theorem tkn_not {prs : Prs} {z : Int} : tkn prs z = false ↔ ∀ q ∈ prs, q.2 ≠ z := by simp [tkn]
/-- the first least one that is not taken and not less than a bound -/
def scanF (b : List Int) (tk : Int → Bool) (lo : Int) : Nat → Int
  | 0 => -1
  | j + 1 => if tk j = true ∨ gt b j < lo then scanF b tk lo j else if scanF b tk lo j < 0 ∨ gt b j < gt b (scanF b tk lo j) then j else scanF b tk lo j
theorem scan_spec (b : List Int) (tk : Int → Bool) (lo : Int) : ∀ j : Nat, (scanF b tk lo j = -1 ∧ ∀ z : Int, 0 ≤ z → z < j → tk z = false → gt b z < lo) ∨
    (0 ≤ scanF b tk lo j ∧ scanF b tk lo j < j ∧ tk (scanF b tk lo j) = false ∧ lo ≤ gt b (scanF b tk lo j) ∧ ∀ z : Int, 0 ≤ z → z < j → tk z = false → lo ≤ gt b z → gt b (scanF b tk lo j) < gt b z ∨ gt b (scanF b tk lo j) = gt b z ∧ scanF b tk lo j ≤ z)
  | 0 => .inl ⟨rfl, fun z h0 h1 => by omega⟩
  | j + 1 => by
    have ih := scan_spec b tk lo j
    generalize hp : scanF b tk lo j = p at ih
    simp only [scanF, hp]
    split
    · rename_i hc
      rcases ih with ⟨h1, h2⟩ | ⟨h1, h2, h3, h4, h5⟩
      · refine .inl ⟨h1, fun z h0 hz ht => ?_⟩
        by_cases e : z = j
        · subst e; rcases hc with hc | hc
          · rw [hc] at ht; cases ht
          · exact hc
        · exact h2 z h0 (by omega) ht
      · refine .inr ⟨h1, by omega, h3, h4, fun z h0 hz ht hl => ?_⟩
        by_cases e : z = j
        · subst e; rcases hc with hc | hc
          · rw [hc] at ht; cases ht
          · omega
        · exact h5 z h0 (by omega) ht hl
    · rename_i hc
      have hc1 : tk j = false := by cases h : tk j with | true => exact absurd (.inl h) hc | false => rfl
      have hc2 : lo ≤ gt b j := by have := fun h => hc (.inr h); omega
      split
      · rename_i hd
        refine .inr ⟨by omega, by omega, hc1, hc2, fun z h0 hz ht hl => ?_⟩
        by_cases e : z = j
        · subst e; exact .inr ⟨rfl, by omega⟩
        · rcases ih with ⟨h1, h2⟩ | ⟨h1, h2, h3, h4, h5⟩
          · have := h2 z h0 (by omega) ht; omega
          · have := h5 z h0 (by omega) ht hl; omega
      · rename_i hd
        rcases ih with ⟨h1, h2⟩ | ⟨h1, h2, h3, h4, h5⟩
        · omega
        · refine .inr ⟨h1, by omega, h3, h4, fun z h0 hz ht hl => ?_⟩
          by_cases e : z = j
          · subst e; omega
          · exact h5 z h0 (by omega) ht hl
theorem scan_lt (b : List Int) (tk : Int → Bool) (lo : Int) (j : Nat) : -1 ≤ scanF b tk lo j ∧ scanF b tk lo j < j := by
  rcases scan_spec b tk lo j with ⟨h, _⟩ | ⟨h1, h2, _⟩ <;> omega
theorem scan_skip {b : List Int} {tk : Int → Bool} {lo : Int} {j : Nat} (h : tk j = true ∨ gt b j < lo) : scanF b tk lo (j + 1) = scanF b tk lo j := by rw [scanF, if_pos h]
theorem scan_take {b : List Int} {tk : Int → Bool} {lo : Int} {j : Nat} (h1 : false = tk j) (h2 : lo ≤ gt b j) (h3 : scanF b tk lo j < 0 ∨ gt b j < gt b (scanF b tk lo j)) : scanF b tk lo (j + 1) = j := by
  rw [scanF, if_neg (fun h => by rcases h with h | h; rw [← h1] at h; cases h; omega), if_pos h3]
theorem scan_keep {b : List Int} {tk : Int → Bool} {lo : Int} {j : Nat} (h1 : false = tk j) (h2 : lo ≤ gt b j) (h3 : 0 ≤ scanF b tk lo j) (h4 : gt b (scanF b tk lo j) ≤ gt b j) : scanF b tk lo (j + 1) = scanF b tk lo j := by
  rw [scanF, if_neg (fun h => by rcases h with h | h; rw [← h1] at h; cases h; omega), if_neg (by omega)]
theorem tkn_cons (q : Int × Int) (prs : Prs) (z : Int) : tkn (q :: prs) z = (decide (q.2 = z) || tkn prs z) := by simp [tkn]
theorem tk_none {L : List Bool} {prs : Prs} {i x : Int} (h : ∀ (j : Nat) (t : Bool), L[j]? = some t → t = tkn prs j) (hx : x < 0) : ∀ (j : Nat) (t : Bool), L[j]? = some t → t = tkn ((i, x) :: prs) j := fun j t ht => by
  rw [tkn_cons, decide_eq_false (by show ¬ x = (j : Int); omega), Bool.false_or]; exact h j t ht
theorem tk_some {L : List Bool} {prs : Prs} {i x : Int} (h : ∀ (j : Nat) (t : Bool), L[j]? = some t → t = tkn prs j) (hx : 0 ≤ x) : ∀ (j : Nat) (t : Bool), (L.set x.toNat true)[j]? = some t → t = tkn ((i, x) :: prs) j := fun j t ht => by
  rw [List.getElem?_set] at ht
  rw [tkn_cons]
  split at ht
  · rename_i e
    split at ht
    · cases ht; rw [decide_eq_true (by show x = (j : Int); omega)]; rfl
    · cases ht
  · rename_i e
    rw [decide_eq_false (by show ¬ x = (j : Int); omega), Bool.false_or]; exact h j t ht
def nextF (b : List Int) (prs : Prs) (lo hi : Int) : Int := if 0 ≤ scanF b (tkn prs) lo b.length ∧ hi < gt b (scanF b (tkn prs) lo b.length) then -1 else scanF b (tkn prs) lo b.length
/-- it can be a partner -/
def Cand (b : List Int) (prs : Prs) (lo z : Int) : Prop := 0 ≤ z ∧ z < b.length ∧ (∀ q ∈ prs, q.2 ≠ z) ∧ lo ≤ gt b z
theorem next_spec (b : List Int) (prs : Prs) (lo hi : Int) : (nextF b prs lo hi = -1 ∧ ∀ z, Cand b prs lo z → hi < gt b z) ∨
    (Cand b prs lo (nextF b prs lo hi) ∧ gt b (nextF b prs lo hi) ≤ hi ∧ ∀ z, Cand b prs lo z → gt b (nextF b prs lo hi) < gt b z ∨ gt b (nextF b prs lo hi) = gt b z ∧ nextF b prs lo hi ≤ z) := by
  have h := scan_spec b (tkn prs) lo b.length
  generalize hp : scanF b (tkn prs) lo b.length = p at h
  unfold nextF
  rw [hp]
  rcases h with ⟨h1, h2⟩ | ⟨h1, h2, h3, h4, h5⟩
  · refine .inl ⟨by rw [if_neg (by omega)]; exact h1, fun z hz => ?_⟩
    have := h2 z hz.1 hz.2.1 (tkn_not.2 hz.2.2.1)
    have := hz.2.2.2; omega
  · by_cases hc : hi < gt b p
    · rw [if_pos ⟨h1, hc⟩]
      refine .inl ⟨rfl, fun z hz => ?_⟩
      have := h5 z hz.1 hz.2.1 (tkn_not.2 hz.2.2.1) hz.2.2.2; omega
    · rw [if_neg (by omega)]
      exact .inr ⟨⟨h1, h2, tkn_not.1 h3, h4⟩, by omega, fun z hz => h5 z hz.1 hz.2.1 (tkn_not.2 hz.2.2.1) hz.2.2.2⟩
/-- what is next in rising order is the partner -/
theorem ptr {b y : List Int} {prs : Prs} {lo hi : Int} {c : Nat} (hy : y.Pairwise (LeX b)) (hm : ∀ z, z ∈ y ↔ 0 ≤ z ∧ z < b.length) (h1 : ∀ z ∈ y.drop c, ∀ q ∈ prs, q.2 ≠ z)
    (h2 : ∀ z ∈ y.take c, (∃ q ∈ prs, q.2 = z) ∨ gt b z < lo) : (y.length ≤ c → nextF b prs lo hi = -1) ∧ ∀ v, y[c]? = some v → lo ≤ gt b v → (gt b v ≤ hi → nextF b prs lo hi = v) ∧ (hi < gt b v → nextF b prs lo hi = -1) := by
  have hcand : ∀ z, Cand b prs lo z → z ∈ y.drop c := fun z hz => by
    have hzy := (hm z).2 ⟨hz.1, hz.2.1⟩
    rw [← List.take_append_drop c y, List.mem_append] at hzy
    rcases hzy with h | h
    · rcases h2 z h with ⟨q, hq, e⟩ | h
      · exact absurd e (hz.2.2.1 q hq)
      · have := hz.2.2.2; omega
    · exact h
  have hs := next_spec b prs lo hi
  refine ⟨fun hc => ?_, fun v hv hlo => ?_⟩
  · rcases hs with h | h
    · exact h.1
    · have := hcand _ h.1; rw [List.drop_of_length_le hc] at this; cases this
  · have hvd : y.drop c = v :: y.drop (c + 1) := dropC hv
    have hvm := (hm v).1 (List.mem_of_getElem? hv)
    have hvc : Cand b prs lo v := ⟨hvm.1, hvm.2, h1 v (by rw [hvd]; exact List.mem_cons_self), hlo⟩
    have hpw : (v :: y.drop (c + 1)).Pairwise (LeX b) := by rw [← hvd]; exact hy.sublist (List.drop_sublist _ _)
    rw [List.pairwise_cons] at hpw
    have hmin : ∀ z, Cand b prs lo z → z = v ∨ LeX b v z := fun z hz => by
      have := hcand z hz
      rw [hvd] at this
      rcases List.mem_cons.1 this with h | h
      · exact .inl h
      · exact .inr (hpw.1 z h)
    rcases hs with ⟨e, h⟩ | ⟨h3, h4, h5⟩
    · have := h v hvc
      exact ⟨fun _ => by omega, fun _ => e⟩
    · have g1 := h5 v hvc
      have g2 := hmin _ h3
      generalize nextF b prs lo hi = p at *
      unfold LeX at g2
      constructor
      · intro _; omega
      · intro h
        exfalso
        rcases g2 with rfl | g2 <;> omega
/-- the pairs, the last one first -/
def grP (a b : List Int) (s : Int) (xs : List Int) : Prs := xs.foldl (fun prs i => (i, nextF b prs (gt a i - s) (gt a i + s)) :: prs) []
theorem grP_snoc (a b : List Int) (s : Int) (xs : List Int) (i : Int) : grP a b s (xs ++ [i]) = (i, nextF b (grP a b s xs) (gt a i - s) (gt a i + s)) :: grP a b s xs := by simp [grP, List.foldl_append]
structure GrOk (a b : List Int) (s : Int) (xs : List Int) (prs : Prs) : Prop where
  fst : prs.map Prod.fst = xs.reverse
  near : ∀ q ∈ prs, q.2 = -1 ∨ (0 ≤ q.2 ∧ q.2 < b.length ∧ gt a q.1 - s ≤ gt b q.2 ∧ gt b q.2 ≤ gt a q.1 + s)
  dist : prs.Pairwise fun q r => q.2 = -1 ∨ q.2 ≠ r.2
  left : ∀ q ∈ prs, q.2 = -1 → ∀ z : Int, 0 ≤ z → z < b.length → (∃ r ∈ prs, r.2 = z) ∨ gt b z < gt a q.1 - s ∨ gt a q.1 + s < gt b z
theorem grOk_snoc {a b : List Int} {s : Int} {xs : List Int} {prs : Prs} (h : GrOk a b s xs prs) (i : Int) : GrOk a b s (xs ++ [i]) ((i, nextF b prs (gt a i - s) (gt a i + s)) :: prs) := by
  have hs := next_spec b prs (gt a i - s) (gt a i + s)
  refine ⟨by simp [h.fst], fun q hq => ?_, ?_, fun q hq e z h0 h1 => ?_⟩
  · rcases List.mem_cons.1 hq with rfl | hq
    · rcases hs with ⟨e, _⟩ | ⟨h3, h4, _⟩
      · exact .inl e
      · exact .inr ⟨h3.1, h3.2.1, h3.2.2.2, h4⟩
    · exact h.near q hq
  · rw [List.pairwise_cons]
    refine ⟨fun r hr => ?_, h.dist⟩
    rcases hs with ⟨e, _⟩ | ⟨h3, _, _⟩
    · exact .inl e
    · exact .inr fun e => h3.2.2.1 r hr e.symm
  · rcases List.mem_cons.1 hq with rfl | hq
    · rcases hs with ⟨_, h3⟩ | ⟨h3, _, _⟩
      · by_cases ht : ∃ r ∈ prs, r.2 = z
        · obtain ⟨r, hr, e⟩ := ht; exact .inl ⟨r, List.mem_cons_of_mem _ hr, e⟩
        · by_cases hl : gt b z < gt a i - s
          · exact .inr (.inl hl)
          · exact .inr (.inr (h3 z ⟨h0, h1, fun r hr e => ht ⟨r, hr, e⟩, by omega⟩))
      · have := h3.1; simp only at e; omega
    · rcases h.left q hq e z h0 h1 with ⟨r, hr, e⟩ | h
      · exact .inl ⟨r, List.mem_cons_of_mem _ hr, e⟩
      · exact .inr h
theorem grOk_foldl {a b : List Int} {s : Int} : ∀ (r xs : List Int) (prs : Prs), GrOk a b s xs prs → GrOk a b s (xs ++ r) (r.foldl (fun prs i => (i, nextF b prs (gt a i - s) (gt a i + s)) :: prs) prs)
  | [], xs, prs, h => by simpa using h
  | i :: r, xs, prs, h => by
    have := grOk_foldl r _ _ (grOk_snoc h i)
    simpa using this
theorem grOk (a b : List Int) (s : Int) (xs : List Int) : GrOk a b s xs (grP a b s xs) := by
  have := grOk_foldl (a := a) (b := b) (s := s) xs [] [] ⟨rfl, by simp, by simp, by simp⟩
  exact this
/-- a list of the second ones, each at the place of the first one -/
def outP (n : Nat) (z : Int) (prs : Prs) : List Int := prs.foldr (fun q r => r.set q.1.toNat q.2) (List.replicate n z)
theorem outP_len (n : Nat) (z : Int) : ∀ prs : Prs, (outP n z prs).length = n
  | [] => by simp [outP]
  | q :: r => by simpa [outP] using outP_len n z r
theorem outP_cons (n : Nat) (z : Int) (q : Int × Int) (r : Prs) : outP n z (q :: r) = (outP n z r).set q.1.toNat q.2 := rfl
theorem outP_none {n : Nat} {z : Int} {m : Nat} (hm : m < n) : ∀ {prs : Prs}, (∀ q ∈ prs, q.1.toNat ≠ m) → (outP n z prs)[m]? = some z
  | [], _ => by simp [outP, hm]
  | q :: r, h => by
    rw [outP_cons, List.getElem?_set, if_neg (h q List.mem_cons_self)]
    exact outP_none hm fun p hp => h p (List.mem_cons_of_mem _ hp)
theorem outP_get {n : Nat} {z : Int} : ∀ {prs : Prs} {q : Int × Int}, (prs.map Prod.fst).Nodup → (∀ p ∈ prs, 0 ≤ p.1 ∧ p.1 < n) → q ∈ prs → (outP n z prs)[q.1.toNat]? = some q.2
  | [], _, _, _, hq => by cases hq
  | p :: r, q, hd, hb, hq => by
    rw [List.map_cons, List.nodup_cons] at hd
    have hp := hb p List.mem_cons_self
    rw [outP_cons, List.getElem?_set, outP_len]
    rcases List.mem_cons.1 hq with rfl | hq
    · rw [if_pos rfl, if_pos (by omega)]
    · have hq2 := hb q (List.mem_cons_of_mem _ hq)
      have : p.1 ≠ q.1 := fun e => hd.1 (by rw [e]; exact List.mem_map.2 ⟨q, hq, rfl⟩)
      rw [if_neg (by omega)]
      exact outP_get hd.2 (fun p hp => hb p (List.mem_cons_of_mem _ hp)) hq
theorem outP_same {n : Nat} {y z : Int} {m : Nat} : ∀ {prs : Prs}, (∃ q ∈ prs, q.1.toNat = m) → (outP n y prs)[m]? = (outP n z prs)[m]?
  | [], h => by obtain ⟨q, hq, _⟩ := h; cases hq
  | p :: r, h => by
    rw [outP_cons, outP_cons, List.getElem?_set, List.getElem?_set, outP_len, outP_len]
    split
    · rfl
    · rename_i hne
      obtain ⟨q, hq, e⟩ := h
      rcases List.mem_cons.1 hq with rfl | hq
      · exact absurd e hne
      · exact outP_same ⟨q, hq, e⟩
/-- the partners -/
def pairR (a b : List Int) (s : Int) : List Int := outP a.length 0 (grP a b s (idxBy (ltR a) a.length))
theorem pairR_len (a b : List Int) (s : Int) : (pairR a b s).length = a.length := outP_len _ _ _
theorem grP_mem {a b : List Int} {s : Int} {m : Nat} (h : m < a.length) : ∃ q ∈ grP a b s (idxBy (ltR a) a.length), q.1 = m := by
  have hf := (grOk a b s (idxBy (ltR a) a.length)).fst
  have : (m : Int) ∈ (grP a b s (idxBy (ltR a) a.length)).map Prod.fst := by rw [hf, List.mem_reverse]; exact idxBy_mem.2 ⟨by omega, by omega⟩
  obtain ⟨q, hq, e⟩ := List.mem_map.1 this
  exact ⟨q, hq, e⟩
theorem pairR_m1 (a b : List Int) (s : Int) : outP a.length (-1) (grP a b s (idxBy (ltR a) a.length)) = pairR a b s := by
  apply List.ext_getElem?
  intro m
  by_cases h : m < a.length
  · obtain ⟨q, hq, e⟩ := grP_mem (b := b) (s := s) h
    exact outP_same ⟨q, hq, by omega⟩
  · rw [List.getElem?_eq_none (by rw [outP_len]; omega), List.getElem?_eq_none (by rw [pairR_len]; omega)]
theorem grP_dom {a b : List Int} {s : Int} {k : Nat} : ∀ q ∈ grP a b s ((idxBy (ltR a) a.length).take k), q.1 ∈ (idxBy (ltR a) a.length).take k := fun q hq => by
  rw [← List.mem_reverse, ← (grOk a b s _).fst]; exact List.mem_map.2 ⟨q, hq, rfl⟩
theorem pairR_get {a b : List Int} {s : Int} {m : Nat} {u : Int} (hu : (pairR a b s)[m]? = some u) : ((m : Int), u) ∈ grP a b s (idxBy (ltR a) a.length) := by
  have hm : m < a.length := by
    rw [← pairR_len a b s]; exact (List.getElem?_eq_some_iff.1 hu).1
  obtain ⟨q, hq, e⟩ := grP_mem (b := b) (s := s) hm
  have hf := (grOk a b s (idxBy (ltR a) a.length)).fst
  have hd := lex_nodup (idx_lex a a.length)
  have := outP_get (n := a.length) (z := 0) (prs := grP a b s (idxBy (ltR a) a.length)) (by rw [hf]; exact (List.reverse_perm _).nodup_iff.2 hd) (fun p hp => idxBy_mem.1 (by
    rw [← List.mem_reverse, ← hf]; exact List.mem_map.2 ⟨p, hp, rfl⟩)) hq
  rw [e, show ((m : Int)).toNat = m by omega] at this
  have hu2 : (outP a.length 0 (grP a b s (idxBy (ltR a) a.length)))[m]? = some u := hu
  rw [hu2] at this
  rw [Option.some.inj this, ← e]; exact hq
theorem pairR_near {a b : List Int} {s : Int} {m : Nat} {u : Int} (hu : (pairR a b s)[m]? = some u) : u = -1 ∨ (0 ≤ u ∧ u < b.length ∧ gt a m - s ≤ gt b u ∧ gt b u ≤ gt a m + s) := (grOk a b s _).near _ (pairR_get hu)
theorem pairR_ne {a b : List Int} {s : Int} {m i : Nat} {u w : Int} (hu : (pairR a b s)[m]? = some u) (hw : (pairR a b s)[i]? = some w) (h0 : 0 ≤ u) (hne : m ≠ i) : u ≠ w := fun e => by
  subst e
  rcases pw_mem (grOk a b s _).dist (pairR_get hu) (pairR_get hw) with h | h | h
  · have := congrArg Prod.fst h; simp only at this; omega
  · simp only at h; omega
  · simp only at h; omega
theorem pairR_left {a b : List Int} {s : Int} {m : Nat} {z : Int} (hu : (pairR a b s)[m]? = some (-1)) (h0 : 0 ≤ z) (h1 : z < b.length) : z ∈ pairR a b s ∨ gt b z < gt a m - s ∨ gt a m + s < gt b z := by
  rcases (grOk a b s _).left _ (pairR_get hu) rfl z h0 h1 with ⟨q, hq, e⟩ | h
  · left
    have hf := (grOk a b s (idxBy (ltR a) a.length)).fst
    have := outP_get (n := a.length) (z := 0) (prs := grP a b s (idxBy (ltR a) a.length)) (by rw [hf]; exact (List.reverse_perm _).nodup_iff.2 (lex_nodup (idx_lex a a.length))) (fun p hp => idxBy_mem.1 (by
      rw [← List.mem_reverse, ← hf]; exact List.mem_map.2 ⟨p, hp, rfl⟩)) hq
    rw [e] at this
    exact List.mem_of_getElem? this
  · exact .inr h
/-- where the pointer is -/
structure PtI (a b : List Int) (s : Int) (X Y : List Int) (k c : Nat) (prs : Prs) : Prop where
  h1 : ∀ z ∈ Y.drop c, ∀ q ∈ prs, q.2 ≠ z
  h2 : ∀ z ∈ Y.take c, (∃ q ∈ prs, q.2 = z) ∨ ∀ w ∈ X.drop k, gt b z < gt a w - s
theorem lex_next {a X : List Int} {k : Nat} {w : Int} (hX : X.Pairwise (LeX a)) (hw : X[k]? = some w) : ∀ z ∈ X.drop (k + 1), gt a w ≤ gt a z := fun z hz => by
  have h := hX.sublist (List.drop_sublist k X)
  rw [dropC hw, List.pairwise_cons] at h
  have := h.1 z hz
  unfold LeX at this; omega
theorem ptI_hit {a b X Y : List Int} {s : Int} {k c d : Nat} {prs : Prs} {w v : Int} (hX : X.Pairwise (LeX a)) (hY : Y.Pairwise (LeX b)) (hm : ∀ z, z ∈ Y ↔ 0 ≤ z ∧ z < b.length) (I : PtI a b s X Y k c prs) (hcd : c ≤ d)
    (hd : ∀ z ∈ Y.take d, (∃ q ∈ prs, q.2 = z) ∨ gt b z < gt a w - s) (hw : X[k]? = some w) (hv : Y[d]? = some v) (h1 : gt a w - s ≤ gt b v) (h2 : gt b v ≤ gt a w + s) : nextF b prs (gt a w - s) (gt a w + s) = v ∧ PtI a b s X Y (k + 1) (d + 1) ((w, v) :: prs) := by
  have hs : ∀ z ∈ Y.drop d, z ∈ Y.drop c := fun z hz => by
    obtain ⟨m, rfl⟩ : ∃ m, d = c + m := ⟨d - c, by omega⟩
    rw [← List.drop_drop] at hz; exact List.mem_of_mem_drop hz
  have hI : ∀ z ∈ Y.drop d, ∀ q ∈ prs, q.2 ≠ z := fun z hz => I.h1 z (hs z hz)
  have hvd : Y.drop d = v :: Y.drop (d + 1) := dropC hv
  have hp := (hY.sublist (List.drop_sublist d Y))
  rw [hvd, List.pairwise_cons] at hp
  refine ⟨((ptr hY hm hI hd).2 v hv h1).1 h2, fun z hz q hq e => ?_, fun z hz => ?_⟩
  · rcases List.mem_cons.1 hq with rfl | hq
    · have := hp.1 z hz
      simp only at e; subst e
      unfold LeX at this; omega
    · exact hI z (by rw [hvd]; exact List.mem_cons_of_mem _ hz) q hq e
  · rw [takeC hv, List.mem_append, List.mem_singleton] at hz
    rcases hz with hz | rfl
    · rcases hd z hz with ⟨q, hq, e⟩ | h
      · exact .inl ⟨q, List.mem_cons_of_mem _ hq, e⟩
      · exact .inr fun u hu => by have := lex_next hX hw u hu; omega
    · exact .inl ⟨(w, z), List.mem_cons_self, rfl⟩
theorem ptI_miss {a b X Y : List Int} {s : Int} {k c d : Nat} {prs : Prs} {w : Int} (hX : X.Pairwise (LeX a)) (hY : Y.Pairwise (LeX b)) (hm : ∀ z, z ∈ Y ↔ 0 ≤ z ∧ z < b.length) (I : PtI a b s X Y k c prs) (hcd : c ≤ d)
    (hd : ∀ z ∈ Y.take d, (∃ q ∈ prs, q.2 = z) ∨ gt b z < gt a w - s) (hw : X[k]? = some w) (h : Y.length ≤ d ∨ ∃ v, Y[d]? = some v ∧ gt a w - s ≤ gt b v ∧ gt a w + s < gt b v) : nextF b prs (gt a w - s) (gt a w + s) = -1 ∧ PtI a b s X Y (k + 1) d ((w, -1) :: prs) := by
  have hs : ∀ z ∈ Y.drop d, z ∈ Y.drop c := fun z hz => by
    obtain ⟨m, rfl⟩ : ∃ m, d = c + m := ⟨d - c, by omega⟩
    rw [← List.drop_drop] at hz; exact List.mem_of_mem_drop hz
  have hI : ∀ z ∈ Y.drop d, ∀ q ∈ prs, q.2 ≠ z := fun z hz => I.h1 z (hs z hz)
  have hp := ptr (lo := gt a w - s) (hi := gt a w + s) hY hm hI hd
  refine ⟨?_, fun z hz q hq e => ?_, fun z hz => ?_⟩
  · rcases h with h | ⟨v, hv, h1, h2⟩
    · exact hp.1 h
    · exact (hp.2 v hv h1).2 h2
  · rcases List.mem_cons.1 hq with rfl | hq
    · have := (hm z).1 (List.mem_of_mem_drop hz)
      simp only at e; omega
    · exact hI z hz q hq e
  · rcases hd z hz with ⟨q, hq, e⟩ | h
    · exact .inl ⟨q, List.mem_cons_of_mem _ hq, e⟩
    · exact .inr fun u hu => by have := lex_next hX hw u hu; omega
theorem outP_m1 {n : Nat} {prs : Prs} {w : Int} (h : ∀ q ∈ prs, q.1.toNat ≠ w.toNat) : outP n (-1) ((w, -1) :: prs) = outP n (-1) prs := by
  rw [outP_cons]
  apply List.ext_getElem?
  intro i
  rw [List.getElem?_set, outP_len]
  split
  · rename_i e
    split
    · subst e; exact (outP_none (by omega) h).symm
    · rw [List.getElem?_eq_none (by rw [outP_len]; omega)]
  · rfl
theorem take_ne {X : List Int} {k : Nat} {w : Int} (hX : X.Nodup) (hw : X[k]? = some w) : w ∉ X.take k := by
  have : (X.take (k + 1)).Nodup := hX.sublist (List.take_sublist _ _)
  rw [takeC hw, List.nodup_append] at this
  intro hm
  exact this.2.2 w hm w (by simp) rfl
end Go.Proofs.Ytbgalcjkmgdaiaa
