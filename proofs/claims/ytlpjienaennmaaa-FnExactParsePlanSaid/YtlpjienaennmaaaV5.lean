/-
  A program logic of heaplets: regions whose order is drawn.
-/
import Derived.Test.YtlpjienaennmaaaV4
namespace Go.Proofs.Ytlpjienaennmaaa
open Go

/-- entries by their places -/
def pickF (fs : List HProp) : List Nat → List HProp
  | [] => []
  | i :: r => match fs[i]? with
    | some F => F :: pickF fs r
    | none => pickF fs r
theorem pickF_append (fs : List HProp) (a b : List Nat) : pickF fs (a ++ b) = pickF fs a ++ pickF fs b := by
  induction a with
  | nil => rfl
  | cons i r ih => simp only [List.cons_append, pickF]; split <;> simp [ih]
theorem pickF_perm (fs : List HProp) {a b : List Nat} (p : a.Perm b) : (pickF fs a).Perm (pickF fs b) := by
  induction p with
  | nil => exact .nil
  | cons x _ ih => simp only [pickF]; split <;> first | exact ih.cons _ | exact ih
  | swap x y l => simp only [pickF]; repeat' split
                  all_goals first | exact .swap _ _ _ | exact .refl _
  | trans _ _ i j => exact i.trans j
theorem pickF_range (fs : List HProp) : ∀ k, pickF fs (List.range' k (fs.length - k)) = fs.drop k := by
  intro k
  generalize hm : fs.length - k = m
  induction m generalizing k with
  | zero => simp [pickF]; omega
  | succ m ih =>
    have hk : k < fs.length := by omega
    simp only [List.range'_succ, pickF, List.getElem?_eq_getElem hk]
    rw [ih (k + 1) (by omega), ← List.drop_eq_getElem_cons hk]
/-- a check that one list of numbers has those of another one; strict, so that it is cheap to reckon -/
def rmN (i : Nat) : List Nat → Option (List Nat)
  | [] => none
  | y :: r => bif Nat.beq y i then some r else match rmN i r with
    | none => none
    | some q => some (y :: q)
def permN : List Nat → List Nat → Bool
  | [], [] => true
  | [], _ :: _ => false
  | i :: r, m => match rmN i m with
    | none => false
    | some q => permN r q
def idxF : List HProp → Nat → List Nat
  | [], _ => []
  | _ :: r, k => k :: idxF r (k + 1)
def permF (l : List Nat) (fs : List HProp) : Bool := permN l (idxF fs 0)
theorem rmN_perm {i : Nat} : ∀ {m q : List Nat}, rmN i m = some q → m.Perm (i :: q)
  | [], q, h => by cases h
  | y :: r, q, h => by
    unfold rmN at h
    cases e : Nat.beq y i with
    | true => rw [e] at h; cases h; rw [Nat.eq_of_beq_eq_true e]
    | false =>
      rw [e] at h
      cases e' : rmN i r with
      | none => rw [e'] at h; cases h
      | some q' => rw [e'] at h; cases h; exact ((rmN_perm e').cons y).trans (.swap _ _ _)
theorem permN_perm : ∀ {l m : List Nat}, permN l m = true → l.Perm m
  | [], [], _ => .refl _
  | [], _ :: _, h => by cases h
  | i :: r, m, h => by
    unfold permN at h
    cases e : rmN i m with
    | none => rw [e] at h; cases h
    | some q => rw [e] at h; exact ((permN_perm h).cons i).trans (rmN_perm e).symm
theorem idxF_eq : ∀ (fs : List HProp) (k : Nat), idxF fs k = List.range' k fs.length
  | [], _ => rfl
  | _ :: r, k => by simp [idxF, idxF_eq r (k + 1), List.range'_succ]
theorem permF_perm {l : List Nat} {fs : List HProp} (h : permF l fs = true) : l.Perm (List.range fs.length) := by
  have := permN_perm h
  rwa [idxF_eq, ← List.range_eq_range'] at this
theorem perm_pickF (fs : List HProp) (a b : List Nat) (h : permF (a ++ b) fs = true) : fs.Perm (pickF fs a ++ pickF fs b) := by
  have e : pickF fs (List.range fs.length) = fs := by
    have := pickF_range fs 0
    simpa [List.range_eq_range'] using this
  rw [← pickF_append]
  have p := pickF_perm fs (permF_perm h)
  rw [e] at p
  exact p.symm

section
variable {P : Program} {ops : Array Oper} {Q : Exit → Act → World → Prop} {md : Region.Mode} {C : World → Prop}
def wpAnyC (P : Program) (md : Region.Mode) (ops : Array Oper) (C : World → Prop) (Q : Exit → Act → World → Prop) : Nat → Array Bool → Act → World → Prop
  | 0, listed, a, w => Region.ready md ops listed = [] ∧ Q .normal a w
  | fuel + 1, listed, a, w => (Region.ready md ops listed = [] → Q .normal a w) ∧
    ∀ i ∈ Region.ready md ops listed, wpOp P ops Q i (fun a' w' => C w' ∧ wpAnyC P md ops C Q fuel (listed.setIfInBounds i true) a' w') a w
theorem wpAny_of_C : ∀ (fuel : Nat) (listed : Array Bool) (a : Act) (w : World), wpAnyC P md ops C Q fuel listed a w → wpAny P md ops Q fuel listed a w
  | 0, _, _, _, h => h
  | fuel + 1, _, _, _, h => ⟨h.1, fun i hi => wpOp_mono (fun a' w' h' => wpAny_of_C fuel _ a' w' h'.2) (h.2 i hi)⟩
def YieldsC (P : Program) (ops : Array Oper) (C : World → Prop) (o : Oper) (v : Value) (a : Act) : Prop :=
  (Region.wanted o (yielded ops a.tmps) = true ∧ ∀ w, C w → (execOp a.eval o).run P w = .ok (.value v) w) ∨
  (Region.wanted o (yielded ops a.tmps) = false ∧ v = undef)
theorem YieldsC.wpOp {i : Nat} {o : Oper} {v : Value} {a : Act} (hi : ops[i]? = some o) (hy : YieldsC P ops C o v a)
    {K : Act → World → Prop} {w : World} (hC : C w) (h : K (a.put o.dst v) w) : wpOp P ops Q i K a w := by
  unfold Go.wpOp
  simp only [hi]
  rcases hy with ⟨hw, hv⟩ | ⟨hw, rfl⟩
  · simp only [hw, if_true, Oper.wp, hv w hC, Oper.upon]; exact .inl h
  · simp only [hw, Bool.false_eq_true, if_false]; exact h
theorem YieldsC.of_same {o : Oper} {v : Value} {a a' : Act} (hy : YieldsC P ops C o v a) (he : execOp a'.eval o = execOp a.eval o)
    (hw : Region.wanted o (yielded ops a'.tmps) = Region.wanted o (yielded ops a.tmps)) : YieldsC P ops C o v a' := by
  unfold YieldsC at *
  rw [he, hw]
  exact hy
theorem wpOp_putC {j : Nat} {oi oj : Oper} {v : Value} (hj : ops[j]? = some oj) (hap : oi.apart ops oj = true)
    (hsi : ∀ cs b, oi.op ≠ .select cs b) (hsj : ∀ cs b, oj.op ≠ .select cs b)
    (hQ : ∀ c a w, ¬ Q (.panic c) a w) {K : Act → World → Prop} {a : Act} {w : World}
    (hy : YieldsC P ops C oi v a) (h : wpOp P ops Q j K (a.put oi.dst v) w) :
    wpOp P ops Q j (fun a' w' => YieldsC P ops C oi v a' ∧ K (a'.put oi.dst v) w') a w := by
  obtain ⟨h1, h2, h3⟩ := Oper.apart_spec hap
  have keep : ∀ (a : Act), YieldsC P ops C oi v a → ∀ u, YieldsC P ops C oi v (a.put oj.dst u) := fun a hy u =>
    hy.of_same (execOp_put oi hsi a oj.dst u h3) (wanted_put oi a oj.dst u h3)
  have keepD : ∀ d, YieldsC P ops C oi v { a with defers := d :: a.defers } := fun d => hy.of_same rfl rfl
  unfold wpOp at *
  simp only [hj] at *
  rw [wanted_put oj a oi.dst v h1] at h
  split
  · rename_i hw
    simp only [hw, if_true] at h
    rcases h with h | ⟨hasks, hlets⟩
    case inr => exact .inr ⟨by unfold Oper.asks at *; rw [execOp_put oj hsj a oi.dst v h1] at hasks; exact hasks, hlets⟩
    refine .inl ?_
    unfold Oper.wp at *
    rw [execOp_put oj hsj a oi.dst v h1] at h
    generalize (execOp a.eval oj).run P w = r at *
    cases r with
    | ok n w' =>
      cases n <;> simp only [Oper.upon] at h ⊢
      case value u => exact ⟨keep a hy u, by rw [← Act.put_comm a v u h2]; exact h⟩
      case skip => exact ⟨keep a hy _, by rw [← Act.put_comm a v undef h2]; exact h⟩
      case defer d =>
        refine ⟨keep _ (keepD d) _, ?_⟩
        rw [← Act.put_comm _ v undef h2, ← Act.put_defers]
        exact h
      case enter f args =>
        refine Calls.mono h fun e w'' he => ?_
        cases e with
        | returned u => exact ⟨keep a hy u, by rw [← Act.put_comm a v u h2]; exact he⟩
        | panicked c => exact absurd he (hQ _ _ _)
        | outgrown => exact he
      case row row args => exact Rows.mono h fun u w'' he => ⟨keep a hy u, by rw [← Act.put_comm a v u h2]; exact he⟩
    | halt x w' =>
      cases x <;> simp only [Oper.upon] at h ⊢
      case panic u => exact absurd h (hQ _ _ _)
  · rename_i hw
    simp only [hw] at h
    exact ⟨keep a hy _, by rw [← Act.put_comm a v undef h2]; exact h⟩
theorem wpAnyC_first {i : Nat} {oi : Oper} {v : Value} (hi : ops[i]? = some oi) (hsel : ∀ (j : Nat) (o : Oper) cs b, ops[j]? = some o → o.op ≠ .select cs b)
    (hQ : ∀ c a w, ¬ Q (.panic c) a w) :
    ∀ (fuel : Nat) (listed : Array Bool) (a : Act) (w : World), C w →
      (∀ j oj, ops[j]? = some oj → j ≠ i → listed.getD j true = false → (∀ e ∈ oj.after, Region.binds md e = true → e.on ≠ i) → oi.apart ops oj = true) →
      i ∈ Region.ready md ops listed → YieldsC P ops C oi v a →
      wpAnyC P md ops C Q fuel (listed.setIfInBounds i true) (a.put oi.dst v) w → wpAnyC P md ops C Q (fuel + 1) listed a w := by
  intro fuel
  induction fuel with
  | zero =>
    intro listed a w hC _ hr hy H
    refine ⟨fun h => (by rw [h] at hr; cases hr), fun j hj => ?_⟩
    by_cases hji : j = i
    · subst hji; exact hy.wpOp hi hC ⟨hC, H⟩
    · have := ready_mono hj hji
      rw [H.1] at this
      cases this
  | succ fuel ih =>
    intro listed a w hC hfree hr hy H
    refine ⟨fun h => (by rw [h] at hr; cases hr), fun j hj => ?_⟩
    by_cases hji : j = i
    · subst hji; exact hy.wpOp hi hC ⟨hC, H⟩
    · have h1 := H.2 j (ready_mono hj hji)
      obtain ⟨hjun, oj, hoj, hall⟩ := mem_ready.1 hj
      have hnot : ∀ e ∈ oj.after, Region.binds md e = true → e.on ≠ i := fun e he hb heq => by
        have h1 := hall e he hb
        have h0 := (mem_ready.1 hr).1
        rw [heq] at h1
        rcases Nat.lt_or_ge i listed.size with h' | h'
        · simp [h'] at h0 h1; rw [h0] at h1; cases h1
        · simp [Array.getElem?_eq_none h'] at h1
      have h2 := wpOp_putC hoj (hfree j oj hoj hji hjun hnot) (fun cs b => hsel i oi cs b hi) (fun cs b => hsel j oj cs b hoj) hQ hy h1
      have hfree' : ∀ k ok, ops[k]? = some ok → k ≠ i → (listed.setIfInBounds j true).getD k true = false →
          (∀ e ∈ ok.after, Region.binds md e = true → e.on ≠ i) → oi.apart ops ok = true := fun k ok hk hki hun hno => by
        refine hfree k ok hk hki ?_ hno
        by_cases hjk : j = k
        · subst hjk; exact hjun
        · rw [getD_set_ne true hjk] at hun; exact hun
      refine wpOp_mono (fun a' w' h3 => ⟨h3.2.1, ih (listed.setIfInBounds j true) a' w' h3.2.1 hfree' (ready_mono hr (Ne.symm hji)) h3.1 ?_⟩) h2
      rw [Array.setIfInBounds_comm _ _ hji]
      exact h3.2.2
end

structure DJ (P : Program) (n : Nat) (ops : Array Oper) (ρ : Env) (A : Amb) (fix fs : List HProp) (listed : Array Bool) (fuel : Nat) (Q : NPost) : Prop where
  go : ∀ k, Sts fix k → A.h.Dj k → ∀ a w, Rep n a ρ → St (A.ext k) w fs → wpAnyC P .any ops (A.ext k).Ok (lift n (onlyN Q)) fuel listed a w
/-- the operation i now, whatever else might be -/
structure DO (P : Program) (n : Nat) (ops : Array Oper) (ρ : Env) (A : Amb) (fix fs : List HProp) (listed : Array Bool) (fuel : Nat) (Q : NPost) (i : Nat) : Prop where
  go : ∀ k, Sts fix k → A.h.Dj k → ∀ a w, Rep n a ρ → St (A.ext k) w fs →
    wpOp P ops (lift n (onlyN Q)) i (fun a' w' => (A.ext k).Ok w' ∧ wpAnyC P .any ops (A.ext k).Ok (lift n (onlyN Q)) fuel (listed.setIfInBounds i true) a' w') a w
section
variable {P : Program} {n : Nat} {ops : Array Oper} {ρ : Env} {A : Amb} {fix fs : List HProp} {listed : Array Bool} {fuel : Nat} {Q : NPost}
theorem CJ.regionD {id : Nat} {Q : EPost} (fi mi : List Nat) (hm : P.follows .mixedOrders = true) (hp : permF (fi ++ mi) fs = true)
    (h : DJ P n ops ρ A (pickF fs fi) (pickF fs mi) (Array.replicate ops.size false) ops.size (fun ρ A fs => Q .normal ρ A fs)) : CJ P n (.region id ops true) ρ A fs Q := ⟨fun a w r s => by
  obtain ⟨k, hk, dk, s'⟩ := (s.perm (perm_pickF fs fi mi hp)).open
  have := wpAny_of_C _ _ _ _ (h.go k hk dk a { w with drawn := w.drawn + 1 } r s'.drew)
  refine wp_mono (wp_region_any hm this) fun e a' w' ⟨ρ', A', fs', r', s', q⟩ => ?_
  cases e <;> simp only [onlyN] at q
  exact ⟨ρ', A', fs', r', s', q⟩⟩
theorem DJ.done (hr : Region.ready .any ops listed = []) (q : Q ρ A (fix ++ fs)) : DJ P n ops ρ A fix fs listed fuel Q := ⟨fun k hk dk a w r s => by
  have : lift n (onlyN Q) .normal a w := ⟨ρ, A, fix ++ fs, r, St.shut hk dk s, q⟩
  cases fuel with
  | zero => exact ⟨hr, this⟩
  | succ f => exact ⟨fun _ => this, by rw [hr]; simp⟩⟩
theorem St.fixed {w : World} {k : Hp} (hk : Sts fix k) (dk : A.h.Dj k) (h : (A.ext k).Ok w) : St A w fix := by
  have := St.shut hk dk (St.nil h)
  simpa using this
theorem DJ.yd {d : Nat} {op : Op} {T : TypeId} {pos : String} {af : Array Edge} {g : Option (Nat × Bool)} {v : Value} (i : Nat) (hi : ops[i]? = some ⟨some d, op, T, pos, af, g⟩)
    (hs : Region.noSelect ops = true) (hf : Region.free .any ops listed i = true) (hr : (Region.ready .any ops listed).contains i = true) (hg : wantE ops ρ g = true) (hd : Nat.blt d n = true)
    (h : Yd P op T ρ A fix v) (kk : DJ P n ops (upd ρ d v) A fix fs (listed.setIfInBounds i true) fuel Q) : DJ P n ops ρ A fix fs listed (fuel + 1) Q := ⟨fun k hk dk a w r s => by
  refine wpAnyC_first hi (Region.noSelect_spec hs) (fun c a w ⟨_, _, _, _, _, q⟩ => q) fuel listed a w s.1 (Region.free_spec hi hf) (by simpa using hr) (.inl ⟨?_, fun w' hC => ?_⟩) (kk.go k hk dk _ w (r.put (d := some d) hd v) s)
  · rw [wanted_eq r]; exact hg
  · rw [r.eval]; exact h w' (St.fixed hk dk hC)⟩
theorem DJ.skip {d : Option Nat} {op : Op} {T : TypeId} {pos : String} {af : Array Edge} {g : Option (Nat × Bool)} (i : Nat) (hi : ops[i]? = some ⟨d, op, T, pos, af, g⟩)
    (hs : Region.noSelect ops = true) (hf : Region.free .any ops listed i = true) (hr : (Region.ready .any ops listed).contains i = true) (hg : wantE ops ρ g = false) (hd : okD n d = true)
    (kk : DJ P n ops (updO ρ d undef) A fix fs (listed.setIfInBounds i true) fuel Q) : DJ P n ops ρ A fix fs listed (fuel + 1) Q := ⟨fun k hk dk a w r s => by
  refine wpAnyC_first hi (Region.noSelect_spec hs) (fun c a w ⟨_, _, _, _, _, q⟩ => q) fuel listed a w s.1 (Region.free_spec hi hf) (by simpa using hr) (.inr ⟨?_, rfl⟩) (kk.go k hk dk _ w (r.put hd undef) s)
  rw [wanted_eq r]; exact hg⟩
theorem DJ.all {rs : List Nat} (hr : Region.ready .any ops listed = rs) (hne : rs.isEmpty = false) (h : ∀ i ∈ rs, DO P n ops ρ A fix fs listed fuel Q i) : DJ P n ops ρ A fix fs listed (fuel + 1) Q := ⟨fun k hk dk a w r s =>
  ⟨fun h0 => (by rw [hr] at h0; subst h0; cases hne), fun i hi => (h i (hr ▸ hi)).go k hk dk a w r s⟩⟩
theorem DJ.one {i : Nat} (hr : Region.ready .any ops listed = [i]) (h : DO P n ops ρ A fix fs listed fuel Q i) : DJ P n ops ρ A fix fs listed (fuel + 1) Q :=
  DJ.all hr rfl fun j hj => by simp at hj; subst hj; exact h
theorem DJ.two {i j : Nat} (hr : Region.ready .any ops listed = [i, j]) (h1 : DO P n ops ρ A fix fs listed fuel Q i) (h2 : DO P n ops ρ A fix fs listed fuel Q j) : DJ P n ops ρ A fix fs listed (fuel + 1) Q :=
  DJ.all hr rfl fun m hm => by
    simp at hm
    rcases hm with rfl | rfl
    · exact h1
    · exact h2
theorem DJ.three {i j m : Nat} (hr : Region.ready .any ops listed = [i, j, m]) (h1 : DO P n ops ρ A fix fs listed fuel Q i) (h2 : DO P n ops ρ A fix fs listed fuel Q j) (h3 : DO P n ops ρ A fix fs listed fuel Q m) : DJ P n ops ρ A fix fs listed (fuel + 1) Q :=
  DJ.all hr rfl fun q hq => by
    simp at hq
    rcases hq with rfl | rfl | rfl
    · exact h1
    · exact h2
    · exact h3
theorem DJ.four {i j m o : Nat} (hr : Region.ready .any ops listed = [i, j, m, o]) (h1 : DO P n ops ρ A fix fs listed fuel Q i) (h2 : DO P n ops ρ A fix fs listed fuel Q j) (h3 : DO P n ops ρ A fix fs listed fuel Q m) (h4 : DO P n ops ρ A fix fs listed fuel Q o) : DJ P n ops ρ A fix fs listed (fuel + 1) Q :=
  DJ.all hr rfl fun q hq => by
    simp at hq
    rcases hq with rfl | rfl | rfl | rfl
    · exact h1
    · exact h2
    · exact h3
    · exact h4
theorem DO.op {d : Option Nat} {op : Op} {T : TypeId} {pos : String} {af : Array Edge} {g : Option (Nat × Bool)} {i : Nat} {R : Value → List HProp → Prop} (hi : ops[i]? = some ⟨d, op, T, pos, af, g⟩) (hg : wantE ops ρ g = true) (hd : okD n d = true)
    (h : ∀ k, Sts fix k → A.h.Dj k → OpR P op T ρ (A.ext k) fs R) (kk : ∀ v fs', R v fs' → DJ P n ops (updO ρ d v) A fix fs' (listed.setIfInBounds i true) fuel Q) : DO P n ops ρ A fix fs listed fuel Q i := ⟨fun k hk dk a w r s => by
  unfold wpOp
  simp only [hi]
  have hw : Region.wanted ⟨d, op, T, pos, af, g⟩ (yielded ops a.tmps) = true := by rw [wanted_eq r]; exact hg
  rw [if_pos hw]
  exact .inl (wp_op (h k hk dk) r s fun v fs' w' hr hs => ⟨hs.1, (kk v fs' hr).go k hk dk _ _ (r.put hd v) hs⟩)⟩
theorem DO.yd {d : Nat} {op : Op} {T : TypeId} {pos : String} {af : Array Edge} {g : Option (Nat × Bool)} {i : Nat} {v : Value} (hi : ops[i]? = some ⟨some d, op, T, pos, af, g⟩) (hg : wantE ops ρ g = true) (hd : Nat.blt d n = true)
    (h : ∀ k, Sts fix k → A.h.Dj k → Yd P op T ρ (A.ext k) fs v) (kk : DJ P n ops (upd ρ d v) A fix fs (listed.setIfInBounds i true) fuel Q) : DO P n ops ρ A fix fs listed fuel Q i :=
  DO.op (d := some d) hi hg hd (fun k hk dk => (h k hk dk).op) fun _ _ ⟨e1, e2⟩ => by subst e1; subst e2; exact kk
theorem DO.skip {d : Option Nat} {op : Op} {T : TypeId} {pos : String} {af : Array Edge} {g : Option (Nat × Bool)} {i : Nat} (hi : ops[i]? = some ⟨d, op, T, pos, af, g⟩) (hg : wantE ops ρ g = false) (hd : okD n d = true)
    (kk : DJ P n ops (updO ρ d undef) A fix fs (listed.setIfInBounds i true) fuel Q) : DO P n ops ρ A fix fs listed fuel Q i := ⟨fun k hk dk a w r s => by
  unfold wpOp
  simp only [hi]
  have hw : Region.wanted ⟨d, op, T, pos, af, g⟩ (yielded ops a.tmps) = false := by rw [wanted_eq r]; exact hg
  rw [if_neg (by rw [hw]; simp)]
  exact ⟨s.1, kk.go k hk dk _ _ (r.put hd undef) s⟩⟩
theorem DJ.split {d : Nat} {op : Op} {T : TypeId} {pos : String} {af : Array Edge} {g : Option (Nat × Bool)} {t : Bool} (i : Nat) (hi : ops[i]? = some ⟨some d, op, T, pos, af, g⟩)
    (hs : Region.noSelect ops = true) (hf : Region.free .any ops listed i = true) (hr : (Region.ready .any ops listed).contains i = true) (hg : wantE ops ρ g = true) (hd : Nat.blt d n = true)
    (h : Yd P op T ρ A fix (.bool t)) (k1 : t = true → DJ P n ops (upd ρ d (.bool true)) A fix fs (listed.setIfInBounds i true) fuel Q) (k2 : t = false → DJ P n ops (upd ρ d (.bool false)) A fix fs (listed.setIfInBounds i true) fuel Q) :
    DJ P n ops ρ A fix fs listed (fuel + 1) Q := by
  cases t with
  | true => exact DJ.yd i hi hs hf hr hg hd h (k1 rfl)
  | false => exact DJ.yd i hi hs hf hr hg hd h (k2 rfl)
theorem DJ.splitD {d : Nat} {op : Op} {T : TypeId} {pos : String} {af : Array Edge} {g : Option (Nat × Bool)} {p : Prop} [Decidable p] (i : Nat) (hi : ops[i]? = some ⟨some d, op, T, pos, af, g⟩)
    (hs : Region.noSelect ops = true) (hf : Region.free .any ops listed i = true) (hr : (Region.ready .any ops listed).contains i = true) (hg : wantE ops ρ g = true) (hd : Nat.blt d n = true)
    (h : Yd P op T ρ A fix (.bool (decide p))) (k1 : p → DJ P n ops (upd ρ d (.bool true)) A fix fs (listed.setIfInBounds i true) fuel Q) (k2 : ¬ p → DJ P n ops (upd ρ d (.bool false)) A fix fs (listed.setIfInBounds i true) fuel Q) :
    DJ P n ops ρ A fix fs listed (fuel + 1) Q :=
  DJ.split i hi hs hf hr hg hd h (fun e => k1 (of_decide_eq_true e)) (fun e => k2 (of_decide_eq_false e))
theorem DJ.splitN {d : Nat} {op : Op} {T : TypeId} {pos : String} {af : Array Edge} {g : Option (Nat × Bool)} {p : Prop} [Decidable p] (i : Nat) (hi : ops[i]? = some ⟨some d, op, T, pos, af, g⟩)
    (hs : Region.noSelect ops = true) (hf : Region.free .any ops listed i = true) (hr : (Region.ready .any ops listed).contains i = true) (hg : wantE ops ρ g = true) (hd : Nat.blt d n = true)
    (h : Yd P op T ρ A fix (.bool (!decide p))) (k1 : ¬ p → DJ P n ops (upd ρ d (.bool true)) A fix fs (listed.setIfInBounds i true) fuel Q) (k2 : p → DJ P n ops (upd ρ d (.bool false)) A fix fs (listed.setIfInBounds i true) fuel Q) :
    DJ P n ops ρ A fix fs listed (fuel + 1) Q :=
  DJ.split i hi hs hf hr hg hd h (fun e => k1 (by simpa using e)) (fun e => k2 (by simpa using e))
theorem DO.call {d : Option Nat} {F : FuncId} {as : List Operand} {ts : Array TypeId} {T : TypeId} {pos : String} {af : Array Edge} {g : Option (Nat × Bool)} {i : Nat} [TyFn P F] (fr pre : List HProp) {R : Value → List HProp → Prop}
    (hi : ops[i]? = some ⟨d, .call { callee := .value (.func F), args := as.toArray, argTypes := ts }, T, pos, af, g⟩) (hg : wantE ops ρ g = true) (hd : okD n d = true) (hp : fs.Perm (fr ++ pre))
    (hc : ∀ k0, Sts fix k0 → A.h.Dj k0 → ∀ k, Sts fr k → (A.ext k0).h.Dj k → Ctr P F (as.map (ev ρ)).toArray ((A.ext k0).ext k) pre R)
    (kk : ∀ v gs, R v gs → DJ P n ops (updO ρ d v) A fix (fr ++ gs) (listed.setIfInBounds i true) fuel Q) : DO P n ops ρ A fix fs listed fuel Q i :=
  DO.op hi hg hd (fun k0 h0 d0 => OpR.call fr pre hp (hc k0 h0 d0)) fun v _ ⟨gs, hr, e⟩ => by subst e; exact kk v gs hr
theorem DO.call0 {d : Option Nat} {F : FuncId} {as : List Operand} {ts : Array TypeId} {T : TypeId} {pos : String} {af : Array Edge} {g : Option (Nat × Bool)} {i : Nat} [TyFn P F] {R : Value → List HProp → Prop}
    (hi : ops[i]? = some ⟨d, .call { callee := .value (.func F), args := as.toArray, argTypes := ts }, T, pos, af, g⟩) (hg : wantE ops ρ g = true) (hd : okD n d = true)
    (hc : ∀ k0, Sts fix k0 → A.h.Dj k0 → ∀ k, Sts fs k → (A.ext k0).h.Dj k → Ctr P F (as.map (ev ρ)).toArray ((A.ext k0).ext k) [] R)
    (kk : ∀ v gs, R v gs → DJ P n ops (updO ρ d v) A fix (fs ++ gs) (listed.setIfInBounds i true) fuel Q) : DO P n ops ρ A fix fs listed fuel Q i :=
  DO.call fs [] hi hg hd (by simp) hc kk
theorem DO.callV {d : Nat} {F : FuncId} {as : List Operand} {ts : Array TypeId} {T : TypeId} {pos : String} {af : Array Edge} {g : Option (Nat × Bool)} {i : Nat} [TyFn P F] {x : Value}
    (hi : ops[i]? = some ⟨some d, .call { callee := .value (.func F), args := as.toArray, argTypes := ts }, T, pos, af, g⟩) (hg : wantE ops ρ g = true) (hd : Nat.blt d n = true)
    (hc : ∀ k0, Sts fix k0 → A.h.Dj k0 → ∀ k, Sts fs k → (A.ext k0).h.Dj k → Ctr P F (as.map (ev ρ)).toArray ((A.ext k0).ext k) [] (Val x))
    (kk : DJ P n ops (upd ρ d x) A fix fs (listed.setIfInBounds i true) fuel Q) : DO P n ops ρ A fix fs listed fuel Q i :=
  DO.call0 (d := some d) hi hg hd hc fun v gs ⟨h1, h2⟩ => by subst h1; subst h2; simpa [updO] using kk
theorem DO.callB {d : Nat} {F : FuncId} {as : List Operand} {ts : Array TypeId} {T : TypeId} {pos : String} {af : Array Edge} {g : Option (Nat × Bool)} {i : Nat} [TyFn P F] {t : Bool}
    (hi : ops[i]? = some ⟨some d, .call { callee := .value (.func F), args := as.toArray, argTypes := ts }, T, pos, af, g⟩) (hg : wantE ops ρ g = true) (hd : Nat.blt d n = true)
    (hc : ∀ k0, Sts fix k0 → A.h.Dj k0 → ∀ k, Sts fs k → (A.ext k0).h.Dj k → Ctr P F (as.map (ev ρ)).toArray ((A.ext k0).ext k) [] (Val (.bool t)))
    (k1 : t = true → DJ P n ops (upd ρ d (.bool true)) A fix fs (listed.setIfInBounds i true) fuel Q) (k2 : t = false → DJ P n ops (upd ρ d (.bool false)) A fix fs (listed.setIfInBounds i true) fuel Q) : DO P n ops ρ A fix fs listed fuel Q i := by
  cases t with
  | true => exact DO.callV hi hg hd hc (k1 rfl)
  | false => exact DO.callV hi hg hd hc (k2 rfl)
theorem DO.boxG {d : Nat} {X T : TypeId} {x : Operand} {pos : String} {af : Array Edge} {g : Option (Nat × Bool)} {i : Nat} {vs : List Value} (hi : ops[i]? = some ⟨some d, .box X x, T, pos, af, g⟩) (hg : wantE ops ρ g = true) (hd : Nat.blt d n = true) (hx : ev ρ x = .agg vs.toArray)
    (kk : ∀ b, DJ P n ops (upd ρ d (.pointer (some ⟨b, 0, none⟩))) A fix (fs ++ [Cel b X vs]) (listed.setIfInBounds i true) fuel Q) : DO P n ops ρ A fix fs listed fuel Q i :=
  DO.op (d := some d) hi hg hd (fun _ _ _ => OpR.box) fun _ _ ⟨b, h1, h2⟩ => by subst h1; subst h2; rw [hx]; simpa [Value.cells, updO] using kk b
theorem DO.box1 {d : Nat} {X T : TypeId} {x : Operand} {pos : String} {af : Array Edge} {g : Option (Nat × Bool)} {i : Nat} {v : Value} (hi : ops[i]? = some ⟨some d, .box X x, T, pos, af, g⟩) (hg : wantE ops ρ g = true) (hd : Nat.blt d n = true) (hx : ev ρ x = v) (hv : v.cells = #[v])
    (kk : ∀ b, DJ P n ops (upd ρ d (.pointer (some ⟨b, 0, none⟩))) A fix (fs ++ [Cel b X [v]]) (listed.setIfInBounds i true) fuel Q) : DO P n ops ρ A fix fs listed fuel Q i :=
  DO.op (d := some d) hi hg hd (fun _ _ _ => OpR.box) fun _ _ ⟨b, h1, h2⟩ => by subst h1; subst h2; rw [hx, hv]; exact kk b
theorem DO.alloc {d : Nat} {X T : TypeId} {pos : String} {af : Array Edge} {g : Option (Nat × Bool)} {i : Nat} {z : Value} [h : TyZero P X z] (vs : List Value) (hi : ops[i]? = some ⟨some d, .alloc X, T, pos, af, g⟩) (hg : wantE ops ρ g = true) (hz : z.cells.toList = vs) (hd : Nat.blt d n = true)
    (kk : ∀ b, DJ P n ops (upd ρ d (.pointer (some ⟨b, 0, none⟩))) A fix (fs ++ [Cel b X vs]) (listed.setIfInBounds i true) fuel Q) : DO P n ops ρ A fix fs listed fuel Q i :=
  DO.op (d := some d) hi hg hd (fun _ _ _ => OpR.alloc) fun _ _ ⟨b, h1, h2⟩ => by subst h1; subst h2; rw [hz]; exact kk b
theorem DO.store {d : Option Nat} {X Y T : TypeId} {x y : Operand} {b o k : Nat} {pos : String} {af : Array Edge} {g : Option (Nat × Bool)} {i : Nat} {vs us : List Value} {v : Value} [TySize P Y k] (j : Nat) (hi : ops[i]? = some ⟨d, .store Y x y, T, pos, af, g⟩) (hg : wantE ops ρ g = true) (hd : okD n d = true)
    (hx : ev ρ x = .pointer (some ⟨b, o, none⟩)) (hy : ev ρ y = v) (hj : fs[j]? = some (Cel b X vs)) (hk : v.cells.size = k) (h1 : v.cells.toList.all Value.oneCell' = true) (hl : Nat.ble (o + k) vs.length = true) (hu : vs.take o ++ v.cells.toList ++ vs.drop (o + k) = us)
    (kk : DJ P n ops (updO ρ d undef) A fix (fs.set j (Cel b X us)) (listed.setIfInBounds i true) fuel Q) : DO P n ops ρ A fix fs listed fuel Q i :=
  DO.op hi hg hd (fun _ _ _ => OpR.store j hx hy hj hk (List.all_eq_true.1 h1) (Nat.le_of_ble_eq_true hl)) fun _ _ ⟨e1, e2⟩ => by subst e1; subst e2; rw [hu]; exact kk
end
end Go.Proofs.Ytlpjienaennmaaa
