/-
  A program logic of heaplets: the environment; judgements on code, on lists of operations, on one operation; contracts of functions.
-/
import Derived.Test.YtlpjienaennmaaaV1
import Derived.Orders
import Derived.Deep.LoopGhost
namespace Go.Proofs.Ytlpjienaennmaaa
open Go

abbrev Env := Nat → Value
def ev (ρ : Env) : Operand → Value
  | .tmp t => ρ t
  | .const v => v
  | .global g => .pointer (some ⟨g, 0, none⟩)
  | .func f => .func (.func f) #[] #[]
def upd (ρ : Env) (d : Nat) (v : Value) : Env := fun i => bif Nat.beq i d then v else ρ i
def updO (ρ : Env) : Option Nat → Value → Env
  | some d, v => upd ρ d v
  | none, _ => ρ
/-- slots that are forgotten -/
def hav (M : List Nat) (ρ σ : Env) : Env := fun i => bif M.any (Nat.beq i) then σ i else ρ i
def Rep (n : Nat) (a : Act) (ρ : Env) : Prop := a.tmps.size = n ∧ a.defers = [] ∧ ∀ i, a.tmps.getD i undef = ρ i
def okD (n : Nat) : Option Nat → Bool
  | some d => Nat.blt d n
  | none => true

theorem Rep.eval {n : Nat} {a : Act} {ρ : Env} (r : Rep n a ρ) : a.eval = ev ρ := by
  funext x; cases x <;> first | rfl | exact r.2.2 _
theorem beq_ne {i d : Nat} (h : i ≠ d) : Nat.beq i d = false := by
  cases e : Nat.beq i d with
  | false => rfl
  | true => exact absurd (Nat.eq_of_beq_eq_true e) h
theorem Rep.put {n : Nat} {a : Act} {ρ : Env} (r : Rep n a ρ) {d : Option Nat} (h : okD n d = true) (v : Value) : Rep n (a.put d v) (updO ρ d v) := by
  cases d with
  | none => exact r
  | some d =>
    obtain ⟨h1, h2, h3⟩ := r
    have hd : d < n := by simp [okD, Nat.blt] at h; omega
    refine ⟨by simp [Act.put, h1], h2, fun i => ?_⟩
    simp only [updO, upd, Act.put]
    by_cases hi : i = d
    · subst hi; simp [h1, hd]
    · have hb : Nat.beq i d = false := beq_ne hi
      rw [← h3 i]; simp [hb, Array.getElem?_setIfInBounds_ne (fun e => hi e.symm)]

def wantE (ops : Array Oper) (ρ : Env) : Option (Nat × Bool) → Bool
  | none => true
  | some (j, b) => match (ops[j]?).bind (·.dst) with
    | some t => match ρ t with
      | .bool x => x == b
      | _ => false
    | none => false
theorem wanted_eq {n : Nat} {a : Act} {ρ : Env} (r : Rep n a ρ) (ops : Array Oper) (o : Oper) : Region.wanted o (yielded ops a.tmps) = wantE ops ρ o.guard := by
  unfold Region.wanted wantE
  cases o.guard with
  | none => rfl
  | some g =>
    obtain ⟨j, b⟩ := g
    simp only [yielded]
    cases (ops[j]?).bind (·.dst) with
    | none => rfl
    | some t =>
      have h := r.2.2 t
      simp only [Option.bind_some]
      by_cases ht : t < a.tmps.size
      · have e : a.tmps[t]? = some (ρ t) := by rw [← h]; simp [ht]
        rw [e]
        cases ρ t <;> simp
      · have e : a.tmps[t]? = none := Array.getElem?_eq_none (Nat.le_of_not_lt ht)
        have u : ρ t = undef := by rw [← h]; simp [e]
        rw [e, u]; rfl

/-- what an operation does, whatever its place -/
def dummy (op : Op) (T : TypeId) : Oper := ⟨none, op, T, "", #[], none⟩
def upV (P : Program) (K : Value → World → Prop) : Result Next → Prop
  | .ok (.value v) w => K v w
  | .ok .skip w => K undef w
  | .ok (.enter f args) w => Calls P f args w fun e w' => ∃ v, e = .returned v ∧ K v w'
  | _ => False
/-- an operation that turns the state: its value and what is owned then -/
def OpR (P : Program) (op : Op) (T : TypeId) (ρ : Env) (A : Amb) (fs : List HProp) (R : Value → List HProp → Prop) : Prop :=
  ∀ w, St A w fs → upV P (fun v w' => ∃ fs', R v fs' ∧ St A w' fs') ((execOp (ev ρ) (dummy op T)).run P w)
/-- an operation that only yields a value -/
def Yd (P : Program) (op : Op) (T : TypeId) (ρ : Env) (A : Amb) (fs : List HProp) (v : Value) : Prop :=
  ∀ w, St A w fs → (execOp (ev ρ) (dummy op T)).run P w = .ok (.value v) w
theorem Yd.op {P : Program} {op : Op} {T : TypeId} {ρ : Env} {A : Amb} {fs : List HProp} {v : Value} (h : Yd P op T ρ A fs v) : OpR P op T ρ A fs fun v' fs' => v' = v ∧ fs' = fs := fun w s => by
  rw [h w s]; exact ⟨fs, ⟨rfl, rfl⟩, s⟩

abbrev EPost := Exit → Env → Amb → List HProp → Prop
abbrev NPost := Env → Amb → List HProp → Prop
def lift (n : Nat) (Q : EPost) : Exit → Act → World → Prop := fun e a w => ∃ ρ A fs, Rep n a ρ ∧ St A w fs ∧ Q e ρ A fs
structure CJ (P : Program) (n : Nat) (c : Code) (ρ : Env) (A : Amb) (fs : List HProp) (Q : EPost) : Prop where
  go : ∀ a w, Rep n a ρ → St A w fs → c.wp P (lift n Q) a w
def onlyN (Q : NPost) : EPost
  | .normal, ρ, A, fs => Q ρ A fs
  | _, _, _, _ => False
structure LJ (P : Program) (n : Nat) (ops : Array Oper) (l : List Oper) (ρ : Env) (A : Amb) (fs : List HProp) (Q : NPost) : Prop where
  go : ∀ a w, Rep n a ρ → St A w fs → wpList P ops (lift n (onlyN Q)) l a w

theorem upon_of_upV {P : Program} {o : Oper} {a : Act} {K : Act → World → Prop} {Q : Exit → Act → World → Prop} {K' : Value → World → Prop} {r : Result Next}
    (h : upV P K' r) (k : ∀ v w, K' v w → K (a.put o.dst v) w) : o.upon P a K Q r := by
  cases r with
  | ok n w =>
    cases n <;> simp only [upV] at h <;> simp only [Oper.upon]
    case value v => exact k _ _ h
    case skip => exact k _ _ h
    case enter f args =>
      refine h.mono fun e w' ⟨v, he, hk⟩ => ?_
      subst he; exact k _ _ hk
  | halt x w => simp only [upV] at h

section
variable {P : Program} {n : Nat} {ops : Array Oper} {l : List Oper} {ρ : Env} {A : Amb} {fs : List HProp} {Q : NPost}
theorem LJ.nil (h : Q ρ A fs) : LJ P n ops [] ρ A fs Q := ⟨fun _ _ r s => ⟨ρ, A, fs, r, s, h⟩⟩
theorem LJ.amb {F : HProp} {gs : List HProp} (p : fs.Perm ([F] ++ gs)) (k : ∀ m, F m → A.h.Dj m → LJ P n ops l ρ (A.ext m) gs Q) : LJ P n ops l ρ A fs Q := ⟨fun a w r s => by
  obtain ⟨m, hm, dm, s'⟩ := (s.perm p).open
  obtain ⟨h1, h2, hF, _, _, l1, _⟩ := hm
  obtain ⟨ok, q, sq, lq, dq⟩ := s'
  refine (k h1 hF (dm.mono (Hp.Le.refl _) l1)).go a w r ⟨⟨?_, ok.2⟩, q, sq, lq, ?_⟩
  · exact Hp.un_le ((Hp.le_un_l _ _).trans ok.1) ((l1.trans (Hp.le_un_r dm)).trans ok.1)
  · exact dq.mono (Hp.un_le (Hp.le_un_l _ _) (l1.trans (Hp.le_un_r dm))) (Hp.Le.refl _)⟩
theorem wp_op {d : Option Nat} {op : Op} {T : TypeId} {pos : String} {af : Array Edge} {g : Option (Nat × Bool)} {a : Act} {w : World} {K : Act → World → Prop} {Q' : Exit → Act → World → Prop} {R : Value → List HProp → Prop}
    (h : OpR P op T ρ A fs R) (r : Rep n a ρ) (s : St A w fs)
    (k : ∀ v fs' w', R v fs' → St A w' fs' → K (a.put d v) w') : (⟨d, op, T, pos, af, g⟩ : Oper).wp P a w K Q' := by
  unfold Oper.wp
  have e : execOp a.eval ⟨d, op, T, pos, af, g⟩ = execOp (ev ρ) (dummy op T) := by rw [r.eval]; rfl
  rw [e]
  exact upon_of_upV (h w s) fun v w' ⟨fs', hr, hs⟩ => k v fs' w' hr hs
theorem LJ.op {d : Option Nat} {op : Op} {T : TypeId} {pos : String} {af : Array Edge} {R : Value → List HProp → Prop}
    (hd : okD n d = true) (h : OpR P op T ρ A fs R) (k : ∀ v fs', R v fs' → LJ P n ops l (updO ρ d v) A fs' Q) : LJ P n ops (⟨d, op, T, pos, af, none⟩ :: l) ρ A fs Q := ⟨fun a w r s => by
  refine wpList_plain rfl fun K hK => wp_op h r s fun v fs' w' hr hs => hK _ _ ((k v fs' hr).go _ _ (r.put hd v) hs)⟩
theorem LJ.yd {d : Nat} {op : Op} {T : TypeId} {pos : String} {af : Array Edge} {v : Value}
    (hd : Nat.blt d n = true) (h : Yd P op T ρ A fs v) (k : LJ P n ops l (upd ρ d v) A fs Q) : LJ P n ops (⟨some d, op, T, pos, af, none⟩ :: l) ρ A fs Q :=
  LJ.op (d := some d) hd h.op fun _ _ ⟨h1, h2⟩ => by subst h1; subst h2; exact k
theorem LJ.gT {d : Option Nat} {op : Op} {T : TypeId} {pos : String} {af : Array Edge} {g : Nat × Bool}
    (hb : wantE ops ρ (some g) = true) (h : LJ P n ops (⟨d, op, T, pos, af, none⟩ :: l) ρ A fs Q) : LJ P n ops (⟨d, op, T, pos, af, some g⟩ :: l) ρ A fs Q := ⟨fun a w r s => by
  have e := wanted_eq r ops ⟨d, op, T, pos, af, some g⟩
  simp only [hb] at e
  have := h.go a w r s
  unfold wpList at this ⊢
  rw [if_pos (show Region.wanted (⟨d, op, T, pos, af, none⟩ : Oper) (yielded ops a.tmps) = true from rfl)] at this
  rw [if_pos e]
  rcases this with h | ⟨h, h'⟩
  · exact .inl h
  · exact .inr ⟨h, h'⟩⟩
theorem LJ.gF {d : Option Nat} {op : Op} {T : TypeId} {pos : String} {af : Array Edge} {g : Nat × Bool}
    (hd : okD n d = true) (hb : wantE ops ρ (some g) = false) (h : LJ P n ops l (updO ρ d undef) A fs Q) :
    LJ P n ops (⟨d, op, T, pos, af, some g⟩ :: l) ρ A fs Q := ⟨fun a w r s => by
  have e := wanted_eq r ops ⟨d, op, T, pos, af, some g⟩
  simp only [hb] at e
  unfold wpList
  rw [if_neg (by rw [e]; simp)]
  exact h.go _ _ (r.put hd _) s⟩
/-- a test: both ways -/
theorem LJ.split {d : Nat} {op : Op} {T : TypeId} {pos : String} {af : Array Edge} {t : Bool}
    (hd : Nat.blt d n = true) (h : Yd P op T ρ A fs (.bool t)) (k1 : t = true → LJ P n ops l (upd ρ d (.bool true)) A fs Q) (k2 : t = false → LJ P n ops l (upd ρ d (.bool false)) A fs Q) :
    LJ P n ops (⟨some d, op, T, pos, af, none⟩ :: l) ρ A fs Q := by
  cases t with
  | true => exact LJ.yd hd h (k1 rfl)
  | false => exact LJ.yd hd h (k2 rfl)
theorem LJ.splitD {d : Nat} {op : Op} {T : TypeId} {pos : String} {af : Array Edge} {p : Prop} [Decidable p]
    (hd : Nat.blt d n = true) (h : Yd P op T ρ A fs (.bool (decide p))) (k1 : p → LJ P n ops l (upd ρ d (.bool true)) A fs Q) (k2 : ¬ p → LJ P n ops l (upd ρ d (.bool false)) A fs Q) :
    LJ P n ops (⟨some d, op, T, pos, af, none⟩ :: l) ρ A fs Q :=
  LJ.split hd h (fun e => k1 (of_decide_eq_true e)) (fun e => k2 (of_decide_eq_false e))
theorem LJ.splitN {d : Nat} {op : Op} {T : TypeId} {pos : String} {af : Array Edge} {p : Prop} [Decidable p]
    (hd : Nat.blt d n = true) (h : Yd P op T ρ A fs (.bool (!decide p))) (k1 : ¬ p → LJ P n ops l (upd ρ d (.bool true)) A fs Q) (k2 : p → LJ P n ops l (upd ρ d (.bool false)) A fs Q) :
    LJ P n ops (⟨some d, op, T, pos, af, none⟩ :: l) ρ A fs Q :=
  LJ.split hd h (fun e => k1 (by simpa using e)) (fun e => k2 (by simpa using e))
end

/-! ## code -/
def EPost.seq (next : NPost) (Q : EPost) : EPost
  | .normal, ρ, A, fs => next ρ A fs
  | e, ρ, A, fs => Q e ρ A fs
def EPost.block (id : Nat) (Q : EPost) : EPost
  | .exit id', ρ, A, fs => if id' = id then Q .normal ρ A fs else Q (.exit id') ρ A fs
  | e, ρ, A, fs => Q e ρ A fs
section
variable {P : Program} {n : Nat} {ρ : Env} {A : Amb} {fs : List HProp} {Q : EPost}
theorem CJ.imp {c : Code} {Q' : EPost} (h : CJ P n c ρ A fs Q) (k : ∀ e ρ A fs, Q e ρ A fs → Q' e ρ A fs) : CJ P n c ρ A fs Q' := ⟨fun a w r s =>
  wp_mono (h.go a w r s) fun _ _ _ ⟨ρ', A', fs', r', s', q⟩ => ⟨ρ', A', fs', r', s', k _ _ _ _ q⟩⟩
theorem CJ.perm {c : Code} {gs : List HProp} (p : fs.Perm gs) (h : CJ P n c ρ A gs Q) : CJ P n c ρ A fs Q := ⟨fun a w r s => h.go a w r (s.perm p)⟩
/-- what is owned becomes ambient -/
theorem CJ.amb {c : Code} {F : HProp} {gs : List HProp} (p : fs.Perm ([F] ++ gs)) (k : ∀ m, F m → A.h.Dj m → CJ P n c ρ (A.ext m) gs Q) : CJ P n c ρ A fs Q := ⟨fun a w r s => by
  obtain ⟨m, hm, dm, s'⟩ := (s.perm p).open
  obtain ⟨h1, h2, hF, _, _, l1, _⟩ := hm
  obtain ⟨ok, q, sq, lq, dq⟩ := s'
  refine (k h1 hF (dm.mono (Hp.Le.refl _) l1)).go a w r ⟨⟨?_, ok.2⟩, q, sq, lq, ?_⟩
  · exact Hp.un_le ((Hp.le_un_l _ _).trans ok.1) ((l1.trans (Hp.le_un_r dm)).trans ok.1)
  · exact dq.mono (Hp.un_le (Hp.le_un_l _ _) (l1.trans (Hp.le_un_r dm))) (Hp.Le.refl _)⟩
theorem CJ.skip (h : Q .normal ρ A fs) : CJ P n .skip ρ A fs Q := ⟨fun _ _ r s => wp_skip ⟨ρ, A, fs, r, s, h⟩⟩
theorem CJ.ret (h : Q .ret ρ A fs) : CJ P n .ret ρ A fs Q := ⟨fun _ _ r s => wp_ret ⟨ρ, A, fs, r, s, h⟩⟩
theorem CJ.exit {id : Nat} (h : Q (.exit id) ρ A fs) : CJ P n (.exit id) ρ A fs Q := ⟨fun _ _ r s => wp_exit ⟨ρ, A, fs, r, s, h⟩⟩
theorem CJ.seq {x y : Code} (h : CJ P n x ρ A fs (EPost.seq (fun ρ A fs => CJ P n y ρ A fs Q) Q)) : CJ P n (.seq x y) ρ A fs Q := ⟨fun a w r s =>
  wp_seq (wp_mono (h.go a w r s) fun e a' w' ⟨ρ', A', fs', r', s', q⟩ => by
    cases e <;> simp only [EPost.seq] at q <;> simp only [Exit.then]
    case normal => exact q.go a' w' r' s'
    all_goals exact ⟨ρ', A', fs', r', s', q⟩)⟩
theorem CJ.block {id : Nat} {c : Code} (h : CJ P n c ρ A fs (EPost.block id Q)) : CJ P n (.block id c) ρ A fs Q := ⟨fun a w r s =>
  wp_block (wp_mono (h.go a w r s) fun e a' w' ⟨ρ', A', fs', r', s', q⟩ => by
    cases e <;> simp only [EPost.block] at q <;> simp only [Exit.inBlock]
    case exit id' => split <;> rename_i hid <;> simp only [hid, if_true, if_false] at q <;> exact ⟨ρ', A', fs', r', s', q⟩
    all_goals exact ⟨ρ', A', fs', r', s', q⟩)⟩
theorem CJ.cond {c : Operand} {x y : Code} {t : Bool} (hc : ev ρ c = .bool t) (ht : t = true → CJ P n x ρ A fs Q) (hf : t = false → CJ P n y ρ A fs Q) : CJ P n (.cond c x y) ρ A fs Q := ⟨fun a w r s =>
  wp_cond_split (t := t) (by rw [r.eval]; exact hc) (fun e => (ht e).go a w r s) (fun e => (hf e).go a w r s)⟩
theorem CJ.condT {c : Operand} {x y : Code} (hc : ev ρ c = .bool true) (h : CJ P n x ρ A fs Q) : CJ P n (.cond c x y) ρ A fs Q := CJ.cond hc (fun _ => h) (fun e => nomatch e)
theorem CJ.condF {c : Operand} {x y : Code} (hc : ev ρ c = .bool false) (h : CJ P n y ρ A fs Q) : CJ P n (.cond c x y) ρ A fs Q := CJ.cond hc (fun e => nomatch e) (fun _ => h)
theorem CJ.region {id : Nat} {l : List Oper} (h : LJ P n l.toArray l ρ A fs (fun ρ A fs => Q .normal ρ A fs)) : CJ P n (.region id l.toArray false) ρ A fs Q := ⟨fun a w r s =>
  wp_region_lit (wpList_mono (h.go a w r s))⟩
where
  wpList_mono {ops : Array Oper} {l : List Oper} {a : Act} {w : World} (h : wpList P ops (lift n (onlyN fun ρ A fs => Q .normal ρ A fs)) l a w) : wpList P ops (lift n Q) l a w := by
    have key : ∀ e a w, lift n (onlyN fun ρ A fs => Q .normal ρ A fs) e a w → lift n Q e a w := fun e a w ⟨ρ', A', fs', r', s', q⟩ => by
      cases e <;> simp only [onlyN] at q
      exact ⟨ρ', A', fs', r', s', q⟩
    have none_out : ¬ LetsOut (lift n (onlyN fun ρ A fs => Q .normal ρ A fs)) := fun ⟨_, _, _, _, _, _, _, q⟩ => q
    induction l generalizing a w with
    | nil => exact key _ _ _ h
    | cons o l ih =>
      unfold wpList at h ⊢
      split
      · rename_i hw
        rw [if_pos hw] at h
        rcases h with h | ⟨_, h⟩
        · left
          unfold Oper.wp at h ⊢
          generalize (execOp a.eval o).run P w = r at *
          cases r with
          | ok m w' =>
            cases m <;> simp only [Oper.upon] at h ⊢
            case enter f args =>
              refine Calls.mono h fun e w'' he => ?_
              cases e with
              | returned v => exact ih he
              | panicked c => obtain ⟨_, _, _, _, _, q⟩ := he; exact q.elim
              | outgrown => exact absurd he none_out
            case row rw args => exact Rows.mono h fun v w'' he => ih he
            all_goals exact ih h
          | halt x w' =>
            cases x <;> simp only [Oper.upon] at h ⊢
            case panic v => obtain ⟨_, _, _, _, _, q⟩ := h; exact q.elim
        · exact absurd h none_out
      · rename_i hw
        rw [if_neg hw] at h
        exact ih h
/-- the slots of a list hold the same -/
def Agree (ρ ρ0 : Env) : List Nat → Prop
  | [] => True
  | s :: r => ρ s = ρ0 s ∧ Agree ρ ρ0 r
/-- the slots of a list hold these values -/
def Holds (ρ : Env) : List (Nat × Value) → Prop
  | [] => True
  | p :: r => ρ p.1 = p.2 ∧ Holds ρ r
def upds (ρ : Env) : List (Nat × Value) → Env
  | [] => ρ
  | p :: r => upd (upds ρ r) p.1 p.2
def over (Ks : List Nat) (ρ0 σ : Env) : Env := fun i => bif Ks.any (Nat.beq i) then ρ0 i else σ i
theorem Agree.mem {ρ ρ0 : Env} {l : List Nat} (h : Agree ρ ρ0 l) {s : Nat} (hs : s ∈ l) : ρ s = ρ0 s := by
  induction l with
  | nil => cases hs
  | cons x r ih => cases hs with
    | head => exact h.1
    | tail _ hs => exact ih h.2 hs
theorem upds_of {ρ : Env} {l : List (Nat × Value)} (h : Holds ρ l) : upds ρ l = ρ := by
  induction l with
  | nil => rfl
  | cons p r ih =>
    funext i
    simp only [upds, ih h.2, upd]
    by_cases hi : i = p.1
    · subst hi; simp [h.1]
    · have : Nat.beq i p.1 = false := beq_ne hi
      simp [this]
theorem over_of {ρ ρ0 : Env} {Ks : List Nat} (h : Agree ρ ρ0 Ks) : over Ks ρ0 ρ = ρ := by
  funext i
  simp only [over]
  cases e : Ks.any (Nat.beq i) with
  | false => rfl
  | true =>
    obtain ⟨x, hx, hb⟩ := List.any_eq_true.1 e
    have : i = x := by simpa using hb
    subst this
    exact (h.mem hx).symm
/-- a loop: the state at the head of each round is told by a ghost -/
theorem CJ.loop {c : Code} (Ks : List Nat) (α : Type) (p : α → Prop) (vals : α → List (Nat × Value)) (H : α → List HProp) (μ : α → Nat) (g : α) (h0 : p g) (hv : Holds ρ (vals g)) (h1 : Ent A A fs (H g))
    (round : ∀ g σ, p g → CJ P n c (over Ks ρ (upds σ (vals g))) A (H g)
      (EPost.seq (fun ρ' B fs' => ∃ g', p g' ∧ Agree ρ' ρ Ks ∧ Holds ρ' (vals g') ∧ Ent B A fs' (H g') ∧ μ g' < μ g) Q)) : CJ P n (.loop c) ρ A fs Q := by
  refine ⟨fun a w r s => ?_⟩
  replace s := h1 _ s
  have agree0 : ∀ l, Agree ρ ρ l := fun l => by induction l with
    | nil => trivial
    | cons x r ih => exact ⟨rfl, ih⟩
  refine wp_loop_ghost (fun k a w => ∃ g ρ', μ g = k ∧ p g ∧ Agree ρ' ρ Ks ∧ Holds ρ' (vals g) ∧ Rep n a ρ' ∧ St A w (H g)) (μ g) ⟨g, ρ, rfl, h0, agree0 _, hv, r, s⟩ ?_
  rintro k a w ⟨g, ρ', rfl, hp, ha, hh, r, s⟩
  have e : over Ks ρ (upds ρ' (vals g)) = ρ' := by rw [upds_of hh, over_of ha]
  have := (round g ρ' hp).go a w (by rw [e]; exact r) s
  refine wp_mono this fun e a' w' ⟨ρ'', A', fs', r', s', q⟩ => ?_
  cases e <;> simp only [EPost.seq] at q <;> simp only [Exit.then]
  case normal =>
    obtain ⟨g', hp', ha', hh', hen, hlt⟩ := q
    exact ⟨μ g', hlt, g', ρ'', rfl, hp', ha', hh', r', hen _ s'⟩
  all_goals exact ⟨ρ'', A', fs', r', s', q⟩
/-- a loop whose rounds own what was owned -/
theorem CJ.loopK {c : Code} (Ks : List Nat) (α : Type) (p : α → Prop) (vals : α → List (Nat × Value)) (μ : α → Nat) (g : α) (h0 : p g) (hv : Holds ρ (vals g))
    (round : ∀ g σ, p g → CJ P n c (over Ks ρ (upds σ (vals g))) A fs
      (EPost.seq (fun ρ' B fs' => ∃ g', p g' ∧ Agree ρ' ρ Ks ∧ Holds ρ' (vals g') ∧ Ent B A fs' fs ∧ μ g' < μ g) Q)) : CJ P n (.loop c) ρ A fs Q :=
  CJ.loop Ks α p vals (fun _ => fs) μ g h0 hv (Ent.refl _) round
/-- a cut: what holds here is told anew by a ghost -/
theorem CJ.cut {c : Code} (Ks : List Nat) (α : Type) (p : α → Prop) (vals : α → List (Nat × Value)) (H : α → List HProp) (ρ0 : Env) (ha : Agree ρ ρ0 Ks) (g : α) (h0 : p g) (hv : Holds ρ (vals g)) (h1 : Ent A A fs (H g))
    (rest : ∀ g σ, p g → CJ P n c (over Ks ρ0 (upds σ (vals g))) A (H g) Q) : CJ P n c ρ A fs Q := by
  have e : over Ks ρ0 (upds ρ (vals g)) = ρ := by rw [upds_of hv, over_of ha]
  have := rest g ρ h0
  rw [e] at this
  exact ⟨fun a w r s => this.go a w r (h1 _ s)⟩

/-- a cut behind a statement -/
theorem CJ.seqH {x y : Code} (Ks : List Nat) (α : Type) (p : α → Prop) (vals : α → List (Nat × Value)) (H : α → List HProp)
    (h : CJ P n x ρ A fs (EPost.seq (fun ρ' B fs' => ∃ g, p g ∧ Agree ρ' ρ Ks ∧ Holds ρ' (vals g) ∧ Ent B A fs' (H g)) Q))
    (k : ∀ g σ, p g → CJ P n y (over Ks ρ (upds σ (vals g))) A (H g) Q) : CJ P n (.seq x y) ρ A fs Q := by
  refine CJ.seq (h.imp fun e ρ' B fs' q => ?_)
  cases e <;> simp only [EPost.seq] at q ⊢
  case normal =>
    obtain ⟨g, hp, ha, hh, hen⟩ := q
    have := k g ρ' hp
    rw [upds_of hh, over_of ha] at this
    exact ⟨fun a w r s => this.go a w r (hen _ s)⟩
  all_goals exact q
/-- a cut behind a statement that owns what it owned -/
theorem CJ.seqK {x y : Code} (Ks : List Nat) (α : Type) (p : α → Prop) (vals : α → List (Nat × Value))
    (h : CJ P n x ρ A fs (EPost.seq (fun ρ' B fs' => ∃ g, p g ∧ Agree ρ' ρ Ks ∧ Holds ρ' (vals g) ∧ Ent B A fs' fs) Q))
    (k : ∀ g σ, p g → CJ P n y (over Ks ρ (upds σ (vals g))) A fs Q) : CJ P n (.seq x y) ρ A fs Q :=
  CJ.seqH Ks α p vals (fun _ => fs) h k

/-! ## functions -/
/-- a contract: with this ambient heaplet and this owned, the call returns, and the ambient heaplet stands -/
def Ctr (P : Program) (F : FuncId) (args : Array Value) (A : Amb) (pre : List HProp) (R : Value → List HProp → Prop) : Prop :=
  ∀ w, St A w pre → Calls P F args w fun e w' => ∃ v fs, e = .returned v ∧ R v fs ∧ St A w' fs
def Res (P : Program) (rs : Array ResultVar) (ρ : Env) (A : Amb) (fs : List HProp) (v : Value) : Prop :=
  ∀ w, St A w fs → ∀ fn : Func, fn.results = rs → ∀ tmps : Array Value, (∀ i, tmps.getD i undef = ρ i) → (results fn tmps).run P w = .ok v w
def argE (args : List Value) : Env := fun i => args.getD i undef
def Fin (P : Program) (rs : Array ResultVar) (R : Value → List HProp → Prop) (A : Amb) : EPost := fun e ρ B fs =>
  (e = .ret ∨ e = .normal) ∧ ∃ v gs, Res P rs ρ B fs v ∧ R v gs ∧ Ent B A fs gs
theorem Ctr.body {F : FuncId} {fn : Func} {c : Code} {args : List Value} {pre : List HProp} {R : Value → List HProp → Prop} {rs : Array ResultVar} (hf : P.funcs[F]? = some fn) (hb : fn.body = some c) (hn : fn.ntmps = n) (hr : fn.results = rs)
    (hl : args.length ≤ n)
    (h : CJ P n c (argE args) A pre (Fin P rs R A)) : Ctr P F args.toArray A pre R := fun w s => by
  refine calls_of_wp hf hb (wp_mono (h.go _ w ⟨?_, rfl, fun i => ?_⟩ s) ?_)
  · simp [hn]; omega
  · simp only [argE, Array.getD_eq_getD_getElem?, List.getD_eq_getElem?_getD]
    by_cases hi : i < args.length
    · simp [Array.getElem?_append, hi]
    · have e : args[i]? = none := by simp; omega
      simp [Array.getElem?_append, hi, Array.getElem?_replicate]
      split <;> rfl
  · rintro e a w' ⟨ρ', B, fs', r', s', he, v, gs, hres, hR, hg⟩
    have := hres w' s' fn hr a.tmps r'.2.2
    rcases he with rfl | rfl
    · exact ⟨r'.2.1, v, this, v, gs, rfl, hR, hg _ s'⟩
    · exact ⟨r'.2.1, v, this, v, gs, rfl, hR, hg _ s'⟩
theorem Ctr.imp {F : FuncId} {args : Array Value} {pre : List HProp} {R R' : Value → List HProp → Prop} (h : Ctr P F args A pre R) (k : ∀ v gs, R v gs → R' v gs) : Ctr P F args A pre R' := fun w s =>
  (h w s).mono fun _ _ ⟨v, gs, e, r, s'⟩ => ⟨v, gs, e, k _ _ r, s'⟩
end
end Go.Proofs.Ytlpjienaennmaaa
