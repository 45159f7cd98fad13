/-
  More laws of lists: an element of several cells is stored as a whole.
-/
import Derived.Test.YtlpjienaennmaaaLI
namespace Go.Proofs.Ytlpjienaennmaaa
open Go
section
variable {P : Program} {T : TypeId} {ρ : Env} {A : Amb} {fs : List HProp}
variable {α : Type} {enc : α → List Value} {k : Nat} {l : List α} {a : Option Addr} {c : Nat}
theorem OpR.stG {X E : TypeId} {x y : Operand} {b off j : Nat} {u' : α} {f : List Value} [TySize P X k] (i : Nat) (hi : fs[i]? = some (LR enc E k a c l)) (ha : a = some ⟨b, 0, none⟩) (hx : ev ρ x = .pointer (some ⟨b, off, none⟩)) (hy : ev ρ y = .agg f.toArray)
    (hf : enc u' = f) (hlen : ∀ u, Nat.beq (enc u).length k = true) (h1 : f.all Value.oneCell' = true) (ho : off = 0 + j * k) (hj : j < l.length) :
    OpR P (.store X x y) T ρ A fs (fun v' fs' => v' = undef ∧ fs' = fs.set i (LR enc E k a c (l.set j u'))) := by
  obtain ⟨u, hu⟩ := someC hj
  have e1 : (enc u).length = k := Nat.eq_of_beq_eq_true (hlen u)
  have e2 : f.length = k := by rw [← hf]; exact Nat.eq_of_beq_eq_true (hlen u')
  refine OpR.stR i 0 hi ha hx hy hu ho (by simp [Value.cells, e2]) (by simpa [Value.cells] using h1) ?_ (by rw [e1]; simp [Nat.ble_eq])
  rw [hf]
  simp [Value.cells, e1]
end
theorem Row.adr {E : TypeId} {k c : Nat} {a : Option Addr} {css : List (List Value)} {h : Hp} (r : Row E k a c css h) : (a = none ∧ c = 0) ∨ ∃ b o, a = some ⟨b, o, none⟩ := by
  rcases r.2 with ⟨h1, h2, _⟩ | ⟨g, _, h1, _⟩
  · exact .inl ⟨h1, h2⟩
  · exact .inr ⟨g, 0, h1⟩
theorem Row.toA {α : Type} {enc : α → List Value} {E : TypeId} {k c : Nat} {a : Option Addr} {l : List α} {A : Amb} {m : Hp} (r : LR enc E k a c l m) (d : A.h.Dj m) (hb : l.length ≤ 281474976710656) : RdL enc k (A.ext m).h (.slice a l.length c) l := by
  have := (Row.rd r (by rw [List.length_map]; exact hb)).mono (Amb.ext_own d)
  rwa [List.length_map] at this
section
variable {P : Program} {n : Nat} {ops : Array Oper} {T : TypeId} {ρ : Env} {A : Amb} {fs fix : List HProp} {Q : NPost} {pos : String} {af : Array Edge} {g : Option (Nat × Bool)} {listed : Array Bool} {fuel : Nat}
variable {α : Type} {enc : α → List Value} {k : Nat} {l : List α} {a : Option Addr} {m c : Nat}
theorem DO.norm {i : Nat} (gs : List HProp) (e : fs = gs) (k : DO P n ops ρ A fix gs listed fuel Q i) : DO P n ops ρ A fix fs listed fuel Q i := e ▸ k
/-- x[:y], x[y:] of a list that is read -/
theorem DJ.slHA {d : Nat} {X E : TypeId} {zero : List Value} {x y : Operand} {j : Int} [TyElem P X E k zero] (i : Nat) (hi : ops[i]? = some ⟨some d, .slice X x none (some y) none, T, pos, af, g⟩)
    (hs0 : Region.noSelect ops = true) (hf : Region.free .any ops listed i = true) (hrd : (Region.ready .any ops listed).contains i = true) (hg : wantE ops ρ g = true) (hd : Nat.blt d n = true) (hr : RdL enc k A.h (.slice a m c) l) (hx : ev ρ x = .slice a m c) (hy : ev ρ y = vI j) (hj : 0 ≤ j) (hm : j ≤ l.length) (hc : a = none → c = 0) (hs : ∀ q, a = some q → q.spot = none)
    (kk : ∀ m', m' = j.toNat → RdL enc k A.h (.slice a m' c) (l.take m') → DJ P n ops (upd ρ d (.slice a m' c)) A fix fs (listed.setIfInBounds i true) fuel Q) : DJ P n ops ρ A fix fs listed (fuel + 1) Q :=
  DJ.yd i hi hs0 hf hrd hg hd (Yd.sliceH hx hy hj (by have := hr.len; omega) hc hs) (kk _ rfl (hr.take _ (by omega)))
theorem DJ.slLA {d : Nat} {X E : TypeId} {zero : List Value} {x y : Operand} {j : Int} [TyElem P X E k zero] (i : Nat) (hi : ops[i]? = some ⟨some d, .slice X x (some y) none none, T, pos, af, g⟩)
    (hs0 : Region.noSelect ops = true) (hf : Region.free .any ops listed i = true) (hrd : (Region.ready .any ops listed).contains i = true) (hg : wantE ops ρ g = true) (hd : Nat.blt d n = true) (hr : RdL enc k A.h (.slice a m c) l) (hx : ev ρ x = .slice a m c) (hy : ev ρ y = vI j) (hj : 0 ≤ j) (hm : j ≤ l.length) (hc : (a = none ∧ c = 0) ∨ ∃ b o, a = some ⟨b, o, none⟩)
    (kk : ∀ a' m' c', m' = l.length - j.toNat → RdL enc k A.h (.slice a' m' c') (l.drop j.toNat) → DJ P n ops (upd ρ d (.slice a' m' c')) A fix fs (listed.setIfInBounds i true) fuel Q) : DJ P n ops ρ A fix fs listed (fuel + 1) Q :=
  DJ.yd i hi hs0 hf hrd hg hd (Yd.slL hx hy hj (by have := hr.len; omega) hc (by have := hr.len; omega)) (kk _ _ _ (by rw [hr.len.1]) (hr.cut _ (by omega)))
end
/-- the first n numbers of a list of things of one kind, all alike -/
theorem take_rep {α : Type} {l : List α} {k : Nat} {u z : α} (hu : l[k]? = some u) : (l.take k ++ List.replicate (l.length - k) z).set k u = l.take (k + 1) ++ List.replicate (l.length - (k + 1)) z := by
  have h := ltC hu
  obtain ⟨m, hm⟩ : ∃ m, l.length = k + 1 + m := ⟨l.length - k - 1, by omega⟩
  rw [hm, takeC hu, show k + 1 + m - k = m + 1 by omega, show k + 1 + m - (k + 1) = m by omega, List.set_append_right _ _ (by simp; omega), List.replicate_succ]
  simp [show k - min k l.length = 0 by omega]
end Go.Proofs.Ytlpjienaennmaaa
