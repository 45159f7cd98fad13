/-
  Contracts: pruning, equal plans.
-/
import Derived.Test.YtfnnhekbgjofoaaPB
namespace Go.Proofs.Ytfnnhekbgjofoaa
open Go
set_option maxRecDepth 20000
set_option maxHeartbeats 4000000

/-- some of what is owned, told as one -/
theorem Ent.fold {A B : Amb} [AmbLe A B] {fs : List HProp} {G : HProp} (a b : List Nat) (h : permF (a ++ b) fs = true) (f : ∀ m, Sts (pickF fs a) m → G m) : Ent B A fs [G] := fun w s => by
  obtain ⟨ok, m, x, l, d⟩ := (s.pick a b h).weak (A := A)
  exact ⟨ok, m, ⟨m, fun _ => none, f m x, trivial, fun _ => .inr rfl, Hp.Le.refl _, Hp.none_le _⟩, l, d⟩
theorem Ent.pure {A B : Amb} [AmbLe A B] {fs : List HProp} {G : HProp} (f : ∀ m, G m) : Ent B A fs [G] := fun w s => by
  obtain ⟨ok, m, x, l, d⟩ := s.weak (A := A)
  exact ⟨ok, m, ⟨m, fun _ => none, f m, trivial, fun _ => .inr rfl, Hp.Le.refl _, Hp.none_le _⟩, l, d⟩
/-- a plan, owned -/
def PlanV (b : BT) (v : Value) (fs : List HProp) : Prop := ∃ o a p t x n c, v = .agg #[vI o, vI a, vI p, .bool t, .slice x n c] ∧ fs = [fun m => RdT m [vI o, vI a, vI p, .bool t, .slice x n c] b]
/-- a plan, owned or ambient -/
def PlanW (A : Amb) (b : BT) (v : Value) (fs : List HProp) : Prop := ∃ o a p t x n c, v = .agg #[vI o, vI a, vI p, .bool t, .slice x n c] ∧ fs = [fun m => RdT (A.ext m).h [vI o, vI a, vI p, .bool t, .slice x n c] b]
theorem RowAt.two {h : Hp} {b : Nat} {cs0 cs1 : List Value} {X : TypeId} (h0 : cs0.length = 5) (h1 : cs1.length = 5) (hc : h b = some (.cells (cs0 ++ cs1).toArray X (0, 0))) : RowAt h 5 b 0 [cs0, cs1] := fun i cs j x e1 e2 => by
  have hj : j < cs.length := (List.getElem?_eq_some_iff.1 e2).1
  simp only [Hp.cell, hc, Option.isSome_none, Bool.false_eq_true, if_false]
  match i, e1 with
  | 0, e1 =>
    cases e1
    rw [show 0 + 0 * 5 + j = j by omega, List.getElem?_toArray, List.getElem?_append_left (by omega)]; exact e2
  | 1, e1 =>
    cases e1
    rw [show 0 + 1 * 5 + j = 5 + j by omega, List.getElem?_toArray, List.getElem?_append_right (by omega), show 5 + j - cs0.length = j by omega]; exact e2
  | i + 2, e1 => simp at e1
theorem RdT.foldV {d : Bool} {a : Int} {b : Nat} {X : TypeId} {cs0 cs1 : List Value} {l r : BT} (ha : I64 a) : ∀ h : Hp, Sts [fun m => RdT m cs0 l, fun m => RdT m cs1 r, Cel b X (cs0 ++ cs1)] h →
    RdT h [vI (opOf d), vI a, vI 0, .bool false, .slice (some ⟨b, 0, none⟩) 2 2] (.c d a l r) := by
  rintro h ⟨m0, h1, r0, ⟨m1, h2, r1, ⟨m2, h3, rc, _, _, l2, _⟩, _, l1, l1'⟩, _, l0, l0'⟩
  exact .c ha (Nat.le_refl _) (RowAt.two r0.len r1.len (l0' _ _ (l1' _ _ (l2 _ _ rc)))) (r0.mono l0) (r1.mono (l1.trans l0'))
theorem RdT.foldW {A : Amb} {d : Bool} {a : Int} {b : Nat} {X : TypeId} {cs0 cs1 : List Value} {l r : BT} (ha : I64 a) : ∀ h : Hp, A.h.Dj h → Sts [fun m => RdT (A.ext m).h cs0 l, fun m => RdT (A.ext m).h cs1 r, Cel b X (cs0 ++ cs1)] h →
    RdT (A.ext h).h [vI (opOf d), vI a, vI 0, .bool false, .slice (some ⟨b, 0, none⟩) 2 2] (.c d a l r) := by
  rintro h dj ⟨m0, h1, r0, ⟨m1, h2, r1, ⟨m2, h3, rc, _, _, l2, _⟩, _, l1, l1'⟩, _, l0, l0'⟩
  exact .c ha (Nat.le_refl _) (RowAt.two r0.len r1.len (Amb.ext_own dj _ _ (l0' _ _ (l1' _ _ (l2 _ _ rc))))) (r0.mono (Amb.ext_le l0)) (r1.mono (Amb.ext_le (l1.trans l0')))
/-- as Ent.fold; what is owned is beside the ambient heaplet -/
theorem Ent.foldD {A B : Amb} [AmbLe A B] {fs : List HProp} {G : HProp} (a b : List Nat) (h : permF (a ++ b) fs = true) (f : ∀ m, A.h.Dj m → Sts (pickF fs a) m → G m) : Ent B A fs [G] := fun w s => by
  obtain ⟨ok, m, x, l, d⟩ := (s.pick a b h).weak (A := A)
  exact ⟨ok, m, ⟨m, fun _ => none, f m d x, trivial, fun _ => .inr rfl, Hp.Le.refl _, Hp.none_le _⟩, l, d⟩

def BT.has : BT → Bool
  | .w => false
  | .p _ _ => true
  | .c _ _ l r => l.has || r.has
def BT.prune : BT → BT
  | .w => .w
  | .p i t => .p i t
  | .c d a l r => if (l.has || r.has) = true then .c d a l.prune r.prune else .w
mutual
def peq : Plan → Plan → Bool
  | .mk o a p t k, .mk o' a' p' t' k' => decide (o = o') && decide (a = a') && decide (p = p') && decide (t = t') && decide (k.length = k'.length) && peqs k k'
def peqs : List Plan → List Plan → Bool
  | a :: r, b :: s => peq a b && peqs r s
  | [], _ => true
  | _, [] => true
end
mutual
theorem peq_iff : ∀ (p q : Plan), peq p q = true ↔ p = q
  | .mk o a p t k, .mk o' a' p' t' k' => by
    simp only [peq, Bool.and_eq_true, decide_eq_true_eq, Plan.mk.injEq]
    constructor
    · rintro ⟨⟨⟨⟨⟨h1, h2⟩, h3⟩, h4⟩, h5⟩, h6⟩; exact ⟨h1, h2, h3, h4, (peqs_iff k k' h5).1 h6⟩
    · rintro ⟨h1, h2, h3, h4, h5⟩; exact ⟨⟨⟨⟨⟨h1, h2⟩, h3⟩, h4⟩, by rw [h5]⟩, (peqs_iff k k' (by rw [h5])).2 h5⟩
theorem peqs_iff : ∀ (l m : List Plan), l.length = m.length → (peqs l m = true ↔ l = m)
  | a :: r, b :: s, h => by
    simp only [peqs, Bool.and_eq_true, List.cons.injEq]
    rw [peq_iff a b, peqs_iff r s (by simpa using h)]
  | [], [], _ => by simp [peqs]
  | [], _ :: _, h => by simp at h
  | _ :: _, [], h => by simp at h
end
theorem opOf_inj {d d' : Bool} (h : opOf d = opOf d') : d = d' := by cases d <;> cases d' <;> simp_all [opOf]
theorem BT.plan_inj : ∀ {b c : BT}, b.plan = c.plan → b = c
  | .w, .w, _ => rfl
  | .w, .p _ _, h => by injection h with h; cases h
  | .w, .c d _ _ _, h => by injection h with h; cases d <;> cases h
  | .p _ _, .w, h => by injection h with h; cases h
  | .p _ _, .p _ _, h => by injection h with _ _ h1 h2; rw [h1, h2]
  | .p _ _, .c d _ _ _, h => by injection h with h; cases d <;> cases h
  | .c d _ _ _, .w, h => by injection h with h; cases d <;> cases h
  | .c d _ _ _, .p _ _, h => by injection h with h; cases d <;> cases h
  | .c _ _ l r, .c _ _ l' r', h => by
    injection h with h1 h2 _ _ h5
    injection h5 with h5 h6
    injection h6 with h6
    rw [opOf_inj h1, h2, BT.plan_inj h5, BT.plan_inj h6]
theorem peq_BT (b c : BT) : peq b.plan c.plan = decide (b = c) := by
  rw [Bool.eq_iff_iff, peq_iff, decide_eq_true_eq]; exact ⟨BT.plan_inj, fun h => by rw [h]⟩
theorem peqs_split (k : Nat) (l m : List Plan) (h1 : k < l.length) (h2 : k < m.length) : peqs (l.drop k) (m.drop k) = (peq l[k] m[k] && peqs (l.drop (k + 1)) (m.drop (k + 1))) := by
  rw [List.drop_eq_getElem_cons h1, List.drop_eq_getElem_cons h2, peqs]
end Go.Proofs.Ytfnnhekbgjofoaa
