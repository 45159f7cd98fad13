/-
  The data of the program: boxes, panes, works, plans, pieces; how they lie in memory, to be read.
-/
import Derived.Test.YtlpjienaennmaaaT

namespace Go.Proofs.Ytlpjienaennmaaa
open Go

structure Box where
  X : Int
  Y : Int
  W : Int
  H : Int
  deriving DecidableEq
structure Pane where
  W : Int
  H : Int
  Turns : Bool
  Kind : Int
  deriving DecidableEq
structure Work where
  W : Int
  H : Int
  Panes : List Pane
inductive Plan where
  | mk (Op At Pane : Int) (Turned : Bool) (Kids : List Plan)
def Plan.Op : Plan → Int | .mk a _ _ _ _ => a
def Plan.At : Plan → Int | .mk _ a _ _ _ => a
def Plan.Pane : Plan → Int | .mk _ _ a _ _ => a
def Plan.Turned : Plan → Bool | .mk _ _ _ a _ => a
def Plan.Kids : Plan → List Plan | .mk _ _ _ _ a => a

abbrev vI (n : Int) : Value := .int .i64 n
def Box.enc (b : Box) : List Value := [vI b.X, vI b.Y, vI b.W, vI b.H]
def Pane.enc (p : Pane) : List Value := [vI p.W, vI p.H, .bool p.Turns, vI p.Kind]
structure Box.wf (b : Box) : Prop where
  X : I64 b.X
  Y : I64 b.Y
  W : I64 b.W
  H : I64 b.H
structure Pane.wf (p : Pane) : Prop where
  W : I64 p.W
  H : I64 p.H
  Kind : I64 p.Kind

/-- a slice whose elements, of k cells each, are read in this heaplet -/
def RdRow (h : Hp) (k : Nat) (v : Value) (css : List (List Value)) : Prop :=
  (∃ a c, v = .slice a css.length c ∧ (css.length ≤ 281474976710656 ∧ css.length ≤ c) ∧ (css = [] ∨ ∃ b o, a = some ⟨b, o, none⟩ ∧ ∀ i cs j x, css[i]? = some cs → cs[j]? = some x → h.cell ⟨b, o + i * k + j, none⟩ = some x)) ∧ ∀ cs ∈ css, cs.length = k
theorem RdRow.mono {h h' : Hp} {k : Nat} {v : Value} {css : List (List Value)} (r : RdRow h k v css) (l : h.Le h') : RdRow h' k v css := by
  obtain ⟨⟨a, c, e, hm, r⟩, hk⟩ := r
  refine ⟨⟨a, c, e, hm, r.imp id ?_⟩, hk⟩
  rintro ⟨b, o, e, r⟩
  exact ⟨b, o, e, fun i cs j x h1 h2 => Hp.cell_le l (r i cs j x h1 h2)⟩
theorem RdRow.up {A B : Amb} [AmbLe A B] {k : Nat} {v : Value} {css : List (List Value)} (r : RdRow A.h k v css) : RdRow B.h k v css := r.mono Go.Proofs.Ytlpjienaennmaaa.up
/-- the cells of a row -/
def RowAt (h : Hp) (k b o : Nat) (css : List (List Value)) : Prop := ∀ i cs j x, css[i]? = some cs → cs[j]? = some x → h.cell ⟨b, o + i * k + j, none⟩ = some x
/-- a whole element of a row -/
theorem Yd.loadRow {P : Program} {T X : TypeId} {ρ : Env} {A : Amb} {fs : List HProp} {x : Operand} {b o k m i : Nat} {css : List (List Value)} {cs : List Value} [TyAgg P X k] (hr : RowAt A.h k b o css) (hx : ev ρ x = .pointer (some ⟨b, m, none⟩)) (hm : m = o + i * k) (hc : css[i]? = some cs) (hk : cs.length = k) :
    Yd P (.load X x) T ρ A fs (.agg cs.toArray) := by
  subst hm; exact Yd.loadN hx hk fun j v hj => Rdc.amb (hr i cs j v hc hj)
/-- a cell of an element of a row -/
theorem Yd.loadRowC {P : Program} {T X : TypeId} {ρ : Env} {A : Amb} {fs : List HProp} {x : Operand} {b o k m i j : Nat} {css : List (List Value)} {cs : List Value} {v : Value} [TyCell P X] (hr : RowAt A.h k b o css) (hx : ev ρ x = .pointer (some ⟨b, m, none⟩)) (hm : m = o + i * k + j) (hc : css[i]? = some cs) (hj : cs[j]? = some v) :
    Yd P (.load X x) T ρ A fs v := by
  subst hm; exact Yd.load hx (Rdc.amb (hr i cs j v hc hj))
mutual
inductive RdPlan (h : Hp) : List Value → Plan → Prop
  | mk {o a p : Int} {t : Bool} {kids : List Plan} {v : Value} {css : List (List Value)} : I64 o → I64 a → I64 p → RdRow h 5 v css → RdPlans h css kids →
      RdPlan h [vI o, vI a, vI p, .bool t, v] (.mk o a p t kids)
inductive RdPlans (h : Hp) : List (List Value) → List Plan → Prop
  | nil : RdPlans h [] []
  | cons {cs : List Value} {p : Plan} {css : List (List Value)} {ps : List Plan} : RdPlan h cs p → RdPlans h css ps → RdPlans h (cs :: css) (p :: ps)
end
mutual
theorem RdPlan.mono {h h' : Hp} (l : h.Le h') : ∀ {cs : List Value} {p : Plan}, RdPlan h cs p → RdPlan h' cs p
  | _, _, .mk a b c r k => .mk a b c (r.mono l) (RdPlans.mono l k)
theorem RdPlans.mono {h h' : Hp} (l : h.Le h') : ∀ {cs : List (List Value)} {p : List Plan}, RdPlans h cs p → RdPlans h' cs p
  | _, _, .nil => .nil
  | _, _, .cons a b => .cons (RdPlan.mono l a) (RdPlans.mono l b)
end
theorem RdPlans.length {h : Hp} : ∀ {cs : List (List Value)} {p : List Plan}, RdPlans h cs p → cs.length = p.length
  | _, _, .nil => rfl
  | _, _, .cons _ b => by simp [RdPlans.length b]
theorem RdPlans.get {h : Hp} : ∀ {cs : List (List Value)} {p : List Plan}, RdPlans h cs p → ∀ (i : Nat) (hi : i < p.length), ∃ c, cs[i]? = some c ∧ RdPlan h c p[i]
  | _, _, .nil, i, hi => by simp at hi
  | _, _, .cons a b, 0, _ => ⟨_, rfl, a⟩
  | _, _, .cons a b, i + 1, hi => by obtain ⟨c, h1, h2⟩ := RdPlans.get b i (by simpa using hi); exact ⟨c, by simpa using h1, h2⟩
theorem RdPlan.up {A B : Amb} [AmbLe A B] {cs : List Value} {p : Plan} (r : RdPlan A.h cs p) : RdPlan B.h cs p := r.mono Go.Proofs.Ytlpjienaennmaaa.up
theorem RdPlan.len {h : Hp} {cs : List Value} {p : Plan} (r : RdPlan h cs p) : cs.length = 5 := by cases r; rfl
theorem RdPlan.inv {h : Hp} {cs : List Value} {q : Plan} (r : RdPlan h cs q) : ∃ (o a p : Int) (t : Bool) (kids : List Plan) (v : Value) (css : List (List Value)),
    q = .mk o a p t kids ∧ cs = [vI o, vI a, vI p, .bool t, v] ∧ I64 o ∧ I64 a ∧ I64 p ∧ RdRow h 5 v css ∧ RdPlans h css kids := by
  cases r with | mk a b c d e => exact ⟨_, _, _, _, _, _, _, rfl, rfl, a, b, c, d, e⟩
theorem kid_lt (o a p : Int) (t : Bool) {kids : List Plan} {k : Nat} (h : k < kids.length) : SizeOf.sizeOf kids[k] < SizeOf.sizeOf (Plan.mk o a p t kids) := by
  have := List.sizeOf_lt_of_mem (List.getElem_mem h)
  simp only [Plan.mk.sizeOf_spec]; omega
end Go.Proofs.Ytlpjienaennmaaa
