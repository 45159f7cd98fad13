/-
  A program logic of heaplets: symbolic slots (an environment), a list of owned assertions, and an ambient heaplet that stays as it is. This text: the definitions and the laws of state.
-/
import Derived.WalkKit
namespace Go.Proofs.Ytlpjienaennmaaa
open Go

/-- a heaplet -/
abbrev Hp := Nat → Option Obj
def Hp.Le (h k : Hp) : Prop := ∀ b o, h b = some o → k b = some o
def Hp.Dj (h k : Hp) : Prop := ∀ b, h b = none ∨ k b = none
def Hp.un (h k : Hp) : Hp := fun b => match h b with | some o => some o | none => k b
def Hp.one (b : Nat) (o : Obj) : Hp := fun c => if c = b then some o else none
def hpOf (w : World) : Hp := fun b => w.heap[b]?
def Hp.cell (h : Hp) (a : Addr) : Option Value :=
  match h a.block with
  | some (.cells c _ _) => if a.spot.isSome then none else c[a.off]?
  | _ => none
theorem Hp.none_le (h : Hp) : Hp.Le (fun _ => none) h := fun _ _ e => nomatch e
theorem Hp.Le.refl (h : Hp) : h.Le h := fun _ _ e => e
theorem Hp.Le.trans {a b c : Hp} (h : a.Le b) (k : b.Le c) : a.Le c := fun x o e => k x o (h x o e)
theorem Hp.le_un_l (h k : Hp) : h.Le (h.un k) := fun b o e => by simp [Hp.un, e]
theorem Hp.Dj.symm {h k : Hp} (d : h.Dj k) : k.Dj h := fun b => (d b).symm
theorem Hp.le_un_r {h k : Hp} (d : h.Dj k) : k.Le (h.un k) := fun b o e => by
  rcases d b with x | x
  · simp [Hp.un, x, e]
  · rw [x] at e; cases e
theorem Hp.Dj.mono {h k h' k' : Hp} (d : h.Dj k) (a : h'.Le h) (b : k'.Le k) : h'.Dj k' := fun x => by
  rcases d x with e | e
  · left
    cases hx : h' x with
    | none => rfl
    | some o => rw [a x o hx] at e; cases e
  · right
    cases hx : k' x with
    | none => rfl
    | some o => rw [b x o hx] at e; cases e
theorem Hp.un_le {h k m : Hp} (a : h.Le m) (b : k.Le m) : (h.un k).Le m := fun x o e => by
  unfold Hp.un at e
  split at e
  · rename_i o' ho; cases e; exact a x _ ho
  · exact b x o e
theorem Hp.Dj.un_l {h k m : Hp} (a : h.Dj m) (b : k.Dj m) : (h.un k).Dj m := fun x => by
  rcases a x with e | e
  · rcases b x with f | f
    · left; simp [Hp.un, e, f]
    · exact .inr f
  · exact .inr e
theorem Hp.Dj.un_r {h k m : Hp} (a : m.Dj h) (b : m.Dj k) : m.Dj (h.un k) := (Hp.Dj.un_l a.symm b.symm).symm
theorem Hp.cell_le {h k : Hp} (l : h.Le k) {a : Addr} {v : Value} (e : h.cell a = some v) : k.cell a = some v := by
  unfold Hp.cell at *
  cases hb : h a.block with
  | none => simp [hb] at e
  | some o => rw [l _ _ hb]; rw [hb] at e; exact e
theorem cell_hpOf (w : World) (a : Addr) : w.cell? a = (hpOf w).cell a := rfl

structure Amb where
  h : Hp
  os : Os
  tape : Nat → Question → Nat
  out : Array (Nat × ByteArray)
def Amb.Ok (A : Amb) (w : World) : Prop := A.h.Le (hpOf w) ∧ w.os = A.os ∧ w.tape = A.tape ∧ w.output = A.out
def Amb.ext (A : Amb) (k : Hp) : Amb := { A with h := A.h.un k }
def Amb.of (w : World) : Amb := ⟨hpOf w, w.os, w.tape, w.output⟩
theorem Amb.of_ok (w : World) : (Amb.of w).Ok w := ⟨Hp.Le.refl _, rfl, rfl, rfl⟩

abbrev HProp := Hp → Prop
/-- owned side by side -/
def Sts : List HProp → Hp → Prop
  | [], _ => True
  | F :: r, h => ∃ h1 h2, F h1 ∧ Sts r h2 ∧ h1.Dj h2 ∧ h1.Le h ∧ h2.Le h
def St (A : Amb) (w : World) (fs : List HProp) : Prop := A.Ok w ∧ ∃ h, Sts fs h ∧ h.Le (hpOf w) ∧ A.h.Dj h

theorem Sts.mono {fs : List HProp} {h k : Hp} (l : h.Le k) (s : Sts fs h) : Sts fs k := by
  cases fs with
  | nil => trivial
  | cons F r => obtain ⟨h1, h2, a, b, c, d, e⟩ := s; exact ⟨h1, h2, a, b, c, d.trans l, e.trans l⟩

theorem Sts.split {fs gs : List HProp} {h : Hp} (s : Sts (fs ++ gs) h) : ∃ h1 h2, Sts fs h1 ∧ Sts gs h2 ∧ h1.Dj h2 ∧ h1.Le h ∧ h2.Le h := by
  induction fs generalizing h with
  | nil => exact ⟨fun _ => none, h, trivial, s, fun _ => .inl rfl, Hp.none_le _, Hp.Le.refl _⟩
  | cons F r ih =>
    obtain ⟨h1, h2, a, b, c, d, e⟩ := s
    obtain ⟨k1, k2, a', b', c', d', e'⟩ := ih b
    exact ⟨h1.un k1, k2, ⟨h1, k1, a, a', c.mono (Hp.Le.refl _) d', Hp.le_un_l _ _, Hp.le_un_r (c.mono (Hp.Le.refl _) d')⟩, b',
      Hp.Dj.un_l (c.mono (Hp.Le.refl _) e') c', Hp.un_le d (d'.trans e), e'.trans e⟩
theorem Sts.join {fs gs : List HProp} {h h1 h2 : Hp} (s : Sts fs h1) (t : Sts gs h2) (c : h1.Dj h2) (d : h1.Le h) (e : h2.Le h) : Sts (fs ++ gs) h := by
  induction fs generalizing h h1 with
  | nil => exact t.mono e
  | cons F r ih =>
    obtain ⟨k1, k2, a, b, c', d', e'⟩ := s
    have dk : k2.Dj h2 := c.mono e' (Hp.Le.refl _)
    refine ⟨k1, k2.un h2, a, ih b dk (Hp.le_un_l _ _) (Hp.le_un_r dk), Hp.Dj.un_r c' (c.mono d' (Hp.Le.refl _)), d'.trans d, Hp.un_le (e'.trans d) e⟩
theorem Sts.swap {F G : HProp} {r : List HProp} {h : Hp} (s : Sts (F :: G :: r) h) : Sts (G :: F :: r) h := by
  obtain ⟨h1, h2, a, ⟨k1, k2, a', b', c', d', e'⟩, c, d, e⟩ := s
  have x : h1.Dj k2 := c.mono (Hp.Le.refl _) e'
  exact ⟨k1, h1.un k2, a', ⟨h1, k2, a, b', x, Hp.le_un_l _ _, Hp.le_un_r x⟩, Hp.Dj.un_r (c.mono (Hp.Le.refl _) d').symm c', d'.trans e, Hp.un_le d (e'.trans e)⟩
theorem Sts.perm {fs gs : List HProp} (p : fs.Perm gs) : ∀ {h : Hp}, Sts fs h → Sts gs h := by
  induction p with
  | nil => exact id
  | cons F _ ih => rintro h ⟨h1, h2, a, b, c⟩; exact ⟨h1, h2, a, ih b, c⟩
  | swap F G r => intro h s; exact s.swap
  | trans _ _ i j => intro h s; exact j (i s)
theorem Sts.get {fs : List HProp} {h : Hp} (s : Sts fs h) {i : Nat} {F : HProp} (hi : fs[i]? = some F) : ∃ k, F k ∧ k.Le h := by
  induction fs generalizing h i with
  | nil => cases hi
  | cons G r ih =>
    obtain ⟨h1, h2, a, b, c, d, e⟩ := s
    cases i with
    | zero => cases hi; exact ⟨h1, a, d⟩
    | succ i => obtain ⟨k, x, y⟩ := ih b (by simpa using hi); exact ⟨k, x, y.trans e⟩
/-- the tail's assertions are weakened -/
theorem Sts.imp {F G : HProp} {r : List HProp} {h : Hp} (s : Sts (F :: r) h) (f : ∀ k, F k → G k) : Sts (G :: r) h := by
  obtain ⟨h1, h2, a, b⟩ := s; exact ⟨h1, h2, f _ a, b⟩

theorem St.perm {A : Amb} {w : World} {fs gs : List HProp} (s : St A w fs) (p : fs.Perm gs) : St A w gs :=
  ⟨s.1, let ⟨h, a, b⟩ := s.2; ⟨h, a.perm p, b⟩⟩
theorem St.nil {A : Amb} {w : World} (h : A.Ok w) : St A w [] := ⟨h, fun _ => none, trivial, Hp.none_le _, fun _ => .inr rfl⟩
/-- a part of what is owned becomes ambient -/
theorem St.open {A : Amb} {w : World} {fs gs : List HProp} (s : St A w (fs ++ gs)) : ∃ k, Sts fs k ∧ A.h.Dj k ∧ St (A.ext k) w gs := by
  obtain ⟨ok, h, s, l, d⟩ := s
  obtain ⟨h1, h2, a, b, c, d1, d2⟩ := s.split
  exact ⟨h1, a, d.mono (Hp.Le.refl _) d1, ⟨Hp.un_le ok.1 (d1.trans l), ok.2⟩, h2, b, d2.trans l, Hp.Dj.un_l (d.mono (Hp.Le.refl _) d2) c⟩
theorem St.shut {A : Amb} {w : World} {fs gs : List HProp} {k : Hp} (a : Sts fs k) (d : A.h.Dj k) (s : St (A.ext k) w gs) : St A w (fs ++ gs) := by
  obtain ⟨ok, h, s, l, d'⟩ := s
  have dk : k.Dj h := d'.mono (Hp.le_un_r d) (Hp.Le.refl _)
  have da : A.h.Dj h := d'.mono (Hp.le_un_l _ _) (Hp.Le.refl _)
  exact ⟨⟨(Hp.le_un_l _ _).trans ok.1, ok.2⟩, k.un h, Sts.join a s dk (Hp.le_un_l _ _) (Hp.le_un_r dk), Hp.un_le ((Hp.le_un_r d).trans ok.1) l, Hp.Dj.un_r d da⟩
theorem St.tail {A : Amb} {w : World} {F : HProp} {fs : List HProp} (s : St A w (F :: fs)) : St A w fs := by
  obtain ⟨ok, h, ⟨h1, h2, a, b, c, d, e⟩, l, dj⟩ := s
  exact ⟨ok, h2, b, e.trans l, dj.mono (Hp.Le.refl _) e⟩
theorem St.drew {A : Amb} {w : World} {fs : List HProp} (s : St A w fs) : St A { w with drawn := w.drawn + 1 } fs := s

/-- a whole block of cells, owned; nothing of it is frozen -/
def Cel (b : Nat) (T : TypeId) (vs : List Value) : HProp := fun h => h b = some (.cells vs.toArray T (0, 0))

theorem hpOf_push (w : World) (o : Obj) : (hpOf w).Le (hpOf { w with heap := w.heap.push o }) := fun b o' e => by
  unfold hpOf at *
  rw [Array.getElem?_push, if_neg]
  · exact e
  · intro hb; subst hb; simp at e
/-- a new block -/
theorem St.alloc {A : Amb} {w : World} {fs : List HProp} (s : St A w fs) (o : Obj) (F : HProp) (hF : F (Hp.one w.heap.size o)) : St A (w.alloc o) (fs ++ [F]) := by
  obtain ⟨ok, h, s, l, d⟩ := s
  have lp : (hpOf w).Le (hpOf (w.alloc o)) := hpOf_push w o
  have out : ∀ k : Hp, k.Le (hpOf w) → k.Dj (Hp.one w.heap.size o) := fun k lk b => by
    by_cases hb : b = w.heap.size
    · left
      cases hk : k b with
      | none => rfl
      | some o' => have := lk b o' hk; unfold hpOf at this; subst hb; simp at this
    · right; simp [Hp.one, hb]
  have l1 : (Hp.one w.heap.size o).Le (hpOf (w.alloc o)) := fun b o' e => by
    unfold Hp.one at e
    split at e
    · rename_i hb; subst hb; cases e; show (w.heap.push o)[w.heap.size]? = _; simp
    · cases e
  refine ⟨⟨ok.1.trans lp, ok.2⟩, h.un (Hp.one w.heap.size o), Sts.join s (gs := [F]) ⟨Hp.one w.heap.size o, fun _ => none, hF, trivial, fun _ => .inr rfl, Hp.Le.refl _, Hp.none_le _⟩ (out h l)
    (Hp.le_un_l _ _) (Hp.le_un_r (out h l)), Hp.un_le (l.trans lp) l1, Hp.Dj.un_r d (out _ ok.1)⟩

/-- one block of the i-th assertion is turned -/
def Hp.put (h : Hp) (b : Nat) (o : Obj) : Hp := fun c => if c = b then some o else h c
theorem Sts.turn {fs : List HProp} {h : Hp} (s : Sts fs h) {i : Nat} {F G : HProp} (hi : fs[i]? = some F) (b : Nat) (o' : Obj)
    (step : ∀ k, F k → k.Le h → (∃ o, k b = some o) ∧ G (k.put b o')) : (∃ o, h b = some o) ∧ Sts (fs.set i G) (h.put b o') := by
  induction fs generalizing h i with
  | nil => cases hi
  | cons H r ih =>
    obtain ⟨h1, h2, x, y, c, d, e⟩ := s
    have away : ∀ {k m : Hp}, k.Dj m → (∃ o, k b = some o) → m.Le h → m.Le (h.put b o') := fun {k m} dj ⟨o, ho⟩ le z o'' hz => by
      have : z ≠ b := fun hzb => by subst hzb; rcases dj z with q | q <;> simp_all
      simp [Hp.put, this, le z o'' hz]
    have up : ∀ {k : Hp}, k.Le h → (k.put b o').Le (h.put b o') := fun {k} le z o'' hz => by
      unfold Hp.put at *
      split
      · rename_i q; simpa [q] using hz
      · rename_i q; rw [if_neg q] at hz; exact le z o'' hz
    have dput : ∀ {k m : Hp}, k.Dj m → (∃ o, k b = some o) → (k.put b o').Dj m := fun {k m} dj ⟨o, ho⟩ z => by
      by_cases q : z = b
      · subst q; rcases dj z with q | q
        · rw [q] at ho; cases ho
        · exact .inr q
      · rcases dj z with p | p
        · left; simp [Hp.put, q, p]
        · exact .inr p
    cases i with
    | zero =>
      cases hi
      obtain ⟨hb, hG⟩ := step h1 x d
      exact ⟨let ⟨o, ho⟩ := hb; ⟨o, d _ _ ho⟩, h1.put b o', h2, hG, y, dput c hb, up d, away c hb e⟩
    | succ i =>
      obtain ⟨hb, hs⟩ := ih y (by simpa using hi) (fun k hk le => step k hk (le.trans e))
      exact ⟨let ⟨o, ho⟩ := hb; ⟨o, e _ _ ho⟩, h1, h2.put b o', x, hs, (dput c.symm hb).symm, away c.symm hb d, up e⟩
theorem St.turn {A : Amb} {w w' : World} {fs : List HProp} (s : St A w fs) {i : Nat} {F G : HProp} (hi : fs[i]? = some F) (b : Nat) (o' : Obj)
    (hw : hpOf w' = (hpOf w).put b o') (h1 : w'.os = w.os) (h2 : w'.tape = w.tape) (h3 : w'.output = w.output)
    (step : ∀ k, F k → k.Le (hpOf w) → (∃ o, k b = some o) ∧ G (k.put b o')) : St A w' (fs.set i G) := by
  obtain ⟨ok, h, s, l, d⟩ := s
  obtain ⟨⟨o, ho⟩, hs⟩ := s.turn hi b o' (fun k hk le => step k hk (le.trans l))
  have nb : ∀ z o'', A.h z = some o'' → z ≠ b := fun z o'' hz q => by subst q; rcases d z with p | p <;> simp_all
  refine ⟨⟨fun z o'' hz => ?_, h1.trans ok.2.1, h2.trans ok.2.2.1, h3.trans ok.2.2.2⟩, h.put b o', hs, fun z o'' hz => ?_, fun z => ?_⟩
  · rw [hw]; simp [Hp.put, nb z o'' hz, ok.1 z o'' hz]
  · rw [hw]; unfold Hp.put at *; split
    · rename_i q; simpa [q] using hz
    · rename_i q; rw [if_neg q] at hz; exact l z o'' hz
  · rcases d z with p | p
    · exact .inl p
    · by_cases q : z = b
      · subst q; rw [ho] at p; cases p
      · right; simp [Hp.put, q, p]

/-- every world of this state has this cell -/
def Rdc (A : Amb) (fs : List HProp) (a : Addr) (v : Value) : Prop := ∀ w, St A w fs → w.cell? a = some v
theorem Rdc.amb {A : Amb} {fs : List HProp} {a : Addr} {v : Value} (h : A.h.cell a = some v) : Rdc A fs a v := fun _ s => Hp.cell_le s.1.1 h
theorem Rdc.own {A : Amb} {fs : List HProp} {a : Addr} {v : Value} (i : Nat) {F : HProp} (hi : fs[i]? = some F) (h : ∀ k, F k → k.cell a = some v) : Rdc A fs a v := fun _ s => by
  obtain ⟨ok, k, s, l, d⟩ := s
  obtain ⟨m, hm, lm⟩ := s.get hi
  exact Hp.cell_le (lm.trans l) (h m hm)
theorem Cel.cell {b : Nat} {T : TypeId} {vs : List Value} {k : Hp} (h : Cel b T vs k) {j : Nat} {v : Value} (hj : vs[j]? = some v) : k.cell ⟨b, j, none⟩ = some v := by
  unfold Cel at h
  simp [Hp.cell, h, hj]
/-- one ambient heaplet goes on in another -/
class AmbLe (A B : Amb) : Prop where
  le : A.h.Le B.h
  os : B.os = A.os
  tape : B.tape = A.tape
  out : B.out = A.out
instance (A : Amb) : AmbLe A A := ⟨Hp.Le.refl _, rfl, rfl, rfl⟩
instance (A B : Amb) (k : Hp) [h : AmbLe A B] : AmbLe A (B.ext k) := ⟨h.le.trans (Hp.le_un_l _ _), h.os, h.tape, h.out⟩
theorem up {A B : Amb} [h : AmbLe A B] : A.h.Le B.h := h.le
theorem St.weak {A B : Amb} [l : AmbLe A B] {w : World} {fs : List HProp} (s : St B w fs) : St A w fs := by
  obtain ⟨⟨a, b, c, d⟩, h, s, e, f⟩ := s
  exact ⟨⟨l.le.trans a, b.trans l.os, c.trans l.tape, d.trans l.out⟩, h, s, e, f.mono l.le (Hp.Le.refl _)⟩
/-- what is owned can be told so, too -/
def Ent (B A : Amb) (fs gs : List HProp) : Prop := ∀ w, St B w fs → St A w gs
theorem Ent.refl {A B : Amb} [AmbLe A B] (fs : List HProp) : Ent B A fs fs := fun _ s => s.weak
theorem Ent.of_eq {A B : Amb} [AmbLe A B] {fs gs : List HProp} (e : fs = gs) : Ent B A fs gs := e ▸ Ent.refl fs
theorem Ent.trans {A B C : Amb} {fs gs hs : List HProp} (a : Ent C B fs gs) (b : Ent B A gs hs) : Ent C A fs hs := fun w s => b w (a w s)
end Go.Proofs.Ytlpjienaennmaaa
