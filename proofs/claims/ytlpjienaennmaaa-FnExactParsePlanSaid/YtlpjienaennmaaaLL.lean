/-
  Things that own memory of their own, side by side: lists of lists and their like.
-/
import Derived.Test.YtlpjienaennmaaaLA
import Derived.Test.YtlpjienaennmaaaRD
namespace Go.Proofs.Ytlpjienaennmaaa
open Go

theorem Ent.pickSts {A B : Amb} [AmbLe A B] {fs gs : List HProp} (a b : List Nat) (h : permF (a ++ b) fs = true) (f : ∀ m, Sts (pickF fs b) m → Sts gs m) : Ent B A fs (pickF fs a ++ gs) := fun w s => by
  obtain ⟨ok, m, x, l, d⟩ := (s.perm (perm_pickF fs a b h)).weak (A := A)
  obtain ⟨h1, h2, y1, y2, dj, l1, l2⟩ := x.split
  exact ⟨ok, m, Sts.join y1 (f _ y2) dj l1 l2, l, d⟩
theorem erase_perm {β : Type} : ∀ {xs : List β} {j : Nat} (hj : j < xs.length), xs.Perm (xs[j] :: xs.eraseIdx j)
  | x :: r, 0, _ => .refl _
  | x :: r, j + 1, hj => by
    simp only [List.getElem_cons_succ, List.eraseIdx_cons_succ]
    exact ((erase_perm (by simpa using hj)).cons x).trans (.swap _ _ _)
/-- each of a list of things owns memory of its own -/
def INN {β : Type} (f : β → HProp) (xs : List β) : HProp := fun h => Sts (xs.map f) h
section
variable {β : Type} {f : β → HProp} {xs ys : List β} {u v : β} {h : Hp}
theorem INN.nil : INN f [] h := trivial
theorem INN.ent {A : Amb} {fs : List HProp} (f : β → HProp) : Ent A A fs (fs ++ [INN f []]) := fun w s => by
  obtain ⟨ok, m, x, l, d⟩ := s
  exact ⟨ok, m, Sts.join (gs := [INN f []]) (h2 := fun _ => none) x ⟨fun _ => none, fun _ => none, trivial, trivial, fun _ => .inr rfl, Hp.Le.refl _, Hp.none_le _⟩ (fun _ => .inr rfl) (Hp.Le.refl _) (Hp.none_le _), l, d⟩
theorem INN.rep {n : Nat} {z : β} (hz : ∀ m, f z m) : Sts ((List.replicate n z).map f) (fun _ => none) := by
  induction n with
  | zero => trivial
  | succ n ih => exact ⟨fun _ => none, fun _ => none, hz _, ih, fun _ => .inr rfl, Hp.Le.refl _, Hp.Le.refl _⟩
theorem INN.repEnt {A : Amb} {fs : List HProp} (f : β → HProp) (n : Nat) (z : β) (hz : ∀ m, f z m) : Ent A A fs (fs ++ [INN f (List.replicate n z)]) := fun w s => by
  obtain ⟨ok, m, x, l, d⟩ := s
  exact ⟨ok, m, Sts.join (gs := [INN f (List.replicate n z)]) (h2 := fun _ => none) x ⟨fun _ => none, fun _ => none, INN.rep hz, trivial, fun _ => .inr rfl, Hp.Le.refl _, Hp.none_le _⟩ (fun _ => .inr rfl) (Hp.Le.refl _) (Hp.none_le _), l, d⟩
theorem INN.join (s : Sts [INN f xs, INN f ys] h) : INN f (xs ++ ys) h := by
  obtain ⟨h1, h2, a, ⟨h3, h4, b, _, _, l3, _⟩, dj, l1, l2⟩ := s
  show Sts ((xs ++ ys).map f) h
  rw [List.map_append]
  exact Sts.join a b (dj.mono (Hp.Le.refl _) l3) l1 (l3.trans l2)
theorem INN.snoc (s : Sts [INN f xs, f u] h) : INN f (xs ++ [u]) h := by
  obtain ⟨h1, h2, a, ⟨h3, h4, b, _, _, l3, _⟩, dj, l1, l2⟩ := s
  show Sts ((xs ++ [u]).map f) h
  rw [List.map_append]
  exact Sts.join (gs := [f u]) a ⟨h3, fun _ => none, b, trivial, fun _ => .inr rfl, Hp.Le.refl _, Hp.none_le _⟩ (dj.mono (Hp.Le.refl _) l3) l1 (l3.trans l2)
theorem INN.snoc' (s : Sts [f u, INN f xs] h) : INN f (xs ++ [u]) h := INN.snoc s.swap
theorem INN.perm (p : xs.Perm ys) (s : INN f xs h) : INN f ys h := Sts.perm (p.map f) s
theorem INN.open {j : Nat} (hu : xs[j]? = some u) (s : Sts [INN f xs] h) : Sts [f u, INN f (xs.eraseIdx j)] h := by
  obtain ⟨h1, h2, a, _, dj, l1, l2⟩ := s
  obtain ⟨hj, rfl⟩ := List.getElem?_eq_some_iff.1 hu
  have p : (xs.map f).Perm (f xs[j] :: (xs.eraseIdx j).map f) := by
    simpa using (erase_perm hj).map f
  obtain ⟨k1, k2, b1, b2, d1, m1, m2⟩ := Sts.perm p a
  exact ⟨k1, k2, b1, ⟨k2, fun _ => none, b2, trivial, fun _ => .inr rfl, Hp.Le.refl _, Hp.none_le _⟩, d1, m1.trans l1, m2.trans l1⟩
theorem INN.close {j : Nat} (hj : j < xs.length) (s : Sts [f v, INN f (xs.eraseIdx j)] h) : INN f (xs.set j v) h := by
  obtain ⟨h1, h2, a, ⟨h3, h4, b, _, _, l3, _⟩, dj, l1, l2⟩ := s
  have p : (f v :: (xs.eraseIdx j).map f).Perm ((xs.set j v).map f) := by
    have hj' : j < (xs.set j v).length := by simpa using hj
    simpa [List.eraseIdx_set_eq] using (erase_perm hj').symm.map f
  exact Sts.perm p ⟨h1, h3, a, b, dj.mono (Hp.Le.refl _) l3, l1, l3.trans l2⟩
theorem INN.get {j : Nat} (hu : xs[j]? = some u) (s : INN f xs h) : ∃ m, f u m ∧ m.Le h :=
  Sts.get (i := j) s (by rw [List.getElem?_map, hu]; rfl)
end
/-- a list in a list: where it lies, and what it has -/
structure Rw (α : Type) where
  a : Option Addr
  c : Nat
  l : List α
abbrev encR {α : Type} (u : Rw α) : List Value := [.slice u.a u.l.length u.c]
abbrev rowOf {α : Type} (enc : α → List Value) (E : TypeId) (k : Nat) (u : Rw α) : HProp := LR enc E k u.a u.c u.l
theorem INN.toA {α : Type} {enc : α → List Value} {E : TypeId} {k : Nat} {xs : List (Rw α)} {A : Amb} {m : Hp} (s : INN (rowOf enc E k) xs m) (d : A.h.Dj m) (hb : ∀ u ∈ xs, u.l.length ≤ 281474976710656) :
    ∀ u ∈ xs, RdL enc k (A.ext m).h (.slice u.a u.l.length u.c) u.l := fun u hu => by
  obtain ⟨j, hj⟩ := List.getElem?_of_mem hu
  obtain ⟨q, hq, lq⟩ := INN.get hj s
  have := (Row.rd hq (by rw [List.length_map]; exact hb u hu)).mono (lq.trans (Amb.ext_own d))
  rwa [List.length_map] at this
theorem Sts.inn {α : Type} {enc : α → List Value} {E : TypeId} {q : Nat} {xs : List (Rw α)} {A : Amb} {fr : List HProp} {k : Hp} {j : Nat} {u : Rw α} (hk : Sts fr k) (dk : A.h.Dj k) (i : Nat) (hu : xs[j]? = some u) (hb : u.l.length ≤ 281474976710656)
    (hi : fr[i]? = some (INN (rowOf enc E q) xs)) : RdL enc q (A.ext k).h (.slice u.a u.l.length u.c) u.l := by
  obtain ⟨m, hm, lm⟩ := hk.get hi
  obtain ⟨q, hq, lq⟩ := INN.get hu hm
  have := (Row.rd hq (by rw [List.length_map]; exact hb)).mono ((lq.trans lm).trans (Amb.ext_own dk))
  rwa [List.length_map] at this
/-- a list of lists is handed back -/
def RLLP {α : Type} (enc : α → List Value) (E : TypeId) (k : Nat) (EE : TypeId) (ls : List (List α)) : Value → List HProp → Prop := fun v gs => ∃ a c, ∃ xs : List (Rw α), v = .slice a xs.length c ∧ gs = [LR encR EE 1 a c xs, INN (rowOf enc E k) xs] ∧ xs.map Rw.l = ls
/-! ## a part of an element is read -/
section
variable {P : Program} {n : Nat} {ops : Array Oper} {r : List Oper} {T : TypeId} {ρ : Env} {A : Amb} {fs fix : List HProp} {Q : NPost} {pos : String} {af : Array Edge} {g : Option (Nat × Bool)} {listed : Array Bool} {fuel : Nat}
variable {α : Type} {enc : α → List Value} {k m : Nat} {l : List α} {a : Option Addr} {c : Nat}
theorem part_get {u : α} {q jj : Nat} {f : α → List Value} {v : Value} (hf : ∀ u, ((enc u).drop q).take m = f u) (hv : (f u)[jj]? = some v) : (enc u)[q + jj]? = some v := by
  rw [← hf u, List.getElem?_take] at hv
  split at hv
  · rw [List.getElem?_drop] at hv; exact hv
  · cases hv
theorem Yd.lsA {X : TypeId} {x : Operand} {b o off j : Nat} {u : α} [TyAgg P X m] (q : Nat) (f : α → List Value) (hf : ∀ u, ((enc u).drop q).take m = f u) (hk : ∀ u, (f u).length = m) (hr : RowAt A.h k b o (l.map enc)) (hx : ev ρ x = .pointer (some ⟨b, off, none⟩)) (ho : off = o + j * k + q) (hu : l[j]? = some u) :
    Yd P (.load X x) T ρ A fs (.agg (f u).toArray) := by
  subst ho
  exact Yd.loadN hx (hk u) fun jj v hv => Rdc.amb (by
    have := hr j (enc u) (q + jj) v (by rw [List.getElem?_map, hu]; rfl) (part_get hf hv)
    rwa [← Nat.add_assoc] at this)
theorem Yd.lsR {X E : TypeId} {x : Operand} {b off j : Nat} {u : α} [TyAgg P X m] (i q : Nat) (f : α → List Value) (hf : ∀ u, ((enc u).drop q).take m = f u) (hk : ∀ u, (f u).length = m) (hi : fs[i]? = some (LR enc E k a c l)) (ha : a = some ⟨b, 0, none⟩) (hx : ev ρ x = .pointer (some ⟨b, off, none⟩)) (ho : off = 0 + j * k + q) (hu : l[j]? = some u) :
    Yd P (.load X x) T ρ A fs (.agg (f u).toArray) := by
  subst ha ho
  exact Yd.loadN hx (hk u) fun jj v hv => by
    have := Row.rdc (A := A) i hi (m := j) (j := q + jj) (v := v) (by rw [List.getElem?_map, hu]; rfl) (part_get hf hv) rfl
    rwa [show 0 + j * k + q + jj = j * k + (q + jj) by omega]
theorem LJ.lsA {d : Nat} {X : TypeId} {x : Operand} {b o off j : Nat} [TyAgg P X m] (q : Nat) (f : α → List Value) (hf : ∀ u, ((enc u).drop q).take m = f u) (hk : ∀ u, (f u).length = m) (hr : RowAt A.h k b o (l.map enc)) (hx : ev ρ x = .pointer (some ⟨b, off, none⟩)) (ho : off = o + j * k + q) (hd : Nat.blt d n = true) (hj : j < l.length)
    (kk : ∀ u, l[j]? = some u → LJ P n ops r (upd ρ d (.agg (f u).toArray)) A fs Q) : LJ P n ops (⟨some d, .load X x, T, pos, af, none⟩ :: r) ρ A fs Q :=
  let ⟨u, hu⟩ := someC hj; LJ.yd hd (Yd.lsA q f hf hk hr hx ho hu) (kk u hu)
theorem LJ.lsR {d : Nat} {X E : TypeId} {x : Operand} {b off j : Nat} [TyAgg P X m] (i q : Nat) (f : α → List Value) (hf : ∀ u, ((enc u).drop q).take m = f u) (hk : ∀ u, (f u).length = m) (hi : fs[i]? = some (LR enc E k a c l)) (ha : a = some ⟨b, 0, none⟩) (hx : ev ρ x = .pointer (some ⟨b, off, none⟩)) (ho : off = 0 + j * k + q) (hd : Nat.blt d n = true) (hj : j < l.length)
    (kk : ∀ u, l[j]? = some u → LJ P n ops r (upd ρ d (.agg (f u).toArray)) A fs Q) : LJ P n ops (⟨some d, .load X x, T, pos, af, none⟩ :: r) ρ A fs Q :=
  let ⟨u, hu⟩ := someC hj; LJ.yd hd (Yd.lsR i q f hf hk hi ha hx ho hu) (kk u hu)
section
variable (i : Nat) {d : Nat} {X E : TypeId} {x : Operand} (hi : ops[i]? = some ⟨some d, .load X x, T, pos, af, g⟩)
    (hs : Region.noSelect ops = true) (hf' : Region.free .any ops listed i = true) (hrd : (Region.ready .any ops listed).contains i = true) (hg : wantE ops ρ g = true) (hd : Nat.blt d n = true)
include hi hs hf' hrd hg hd
theorem DJ.lsA {b o off j : Nat} [TyAgg P X m] (q : Nat) (f : α → List Value) (hf : ∀ u, ((enc u).drop q).take m = f u) (hk : ∀ u, (f u).length = m) (hr : RowAt A.h k b o (l.map enc)) (hx : ev ρ x = .pointer (some ⟨b, off, none⟩)) (ho : off = o + j * k + q) (hj : j < l.length)
    (kk : ∀ u, l[j]? = some u → DJ P n ops (upd ρ d (.agg (f u).toArray)) A fix fs (listed.setIfInBounds i true) fuel Q) : DJ P n ops ρ A fix fs listed (fuel + 1) Q :=
  let ⟨u, hu⟩ := someC hj; DJ.yd i hi hs hf' hrd hg hd (Yd.lsA q f hf hk hr hx ho hu) (kk u hu)
theorem DJ.lsF {b off j : Nat} [TyAgg P X m] (e q : Nat) (f : α → List Value) (hf : ∀ u, ((enc u).drop q).take m = f u) (hk : ∀ u, (f u).length = m) (he : fix[e]? = some (LR enc E k a c l)) (ha : a = some ⟨b, 0, none⟩) (hx : ev ρ x = .pointer (some ⟨b, off, none⟩)) (ho : off = 0 + j * k + q) (hj : j < l.length)
    (kk : ∀ u, l[j]? = some u → DJ P n ops (upd ρ d (.agg (f u).toArray)) A fix fs (listed.setIfInBounds i true) fuel Q) : DJ P n ops ρ A fix fs listed (fuel + 1) Q :=
  let ⟨u, hu⟩ := someC hj; DJ.yd i hi hs hf' hrd hg hd (Yd.lsR e q f hf hk he ha hx ho hu) (kk u hu)
end
theorem DO.lsR {i d : Nat} {X E : TypeId} {x : Operand} (hi : ops[i]? = some ⟨some d, .load X x, T, pos, af, g⟩) (hg : wantE ops ρ g = true) (hd : Nat.blt d n = true) {b off j : Nat} [TyAgg P X m] (e q : Nat) (f : α → List Value) (hf : ∀ u, ((enc u).drop q).take m = f u) (hk : ∀ u, (f u).length = m) (he : fs[e]? = some (LR enc E k a c l)) (ha : a = some ⟨b, 0, none⟩) (hx : ev ρ x = .pointer (some ⟨b, off, none⟩)) (ho : off = 0 + j * k + q) (hj : j < l.length)
    (kk : ∀ u, l[j]? = some u → DJ P n ops (upd ρ d (.agg (f u).toArray)) A fix fs (listed.setIfInBounds i true) fuel Q) : DO P n ops ρ A fix fs listed fuel Q i :=
  let ⟨u, hu⟩ := someC hj; DO.yd hi hg hd (fun _ _ _ => Yd.lsR e q f hf hk he ha hx ho hu) (kk u hu)
end
end Go.Proofs.Ytlpjienaennmaaa
