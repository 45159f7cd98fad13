/-
  Lists of things in memory, read or owned: elements read and stored, parts of lists, appends, lists handed back.
-/
import Derived.Test.YtlpjienaennmaaaV8
import Derived.Test.YtlpjienaennmaaaD1
namespace Go.Proofs.Ytlpjienaennmaaa
open Go

theorem Amb.ext_le {A : Amb} {m k : Hp} (l : m.Le k) : (A.ext m).h.Le (A.ext k).h := fun b o e => by
  simp only [Amb.ext, Hp.un] at e ⊢
  cases hb : A.h b with
  | some x => rw [hb] at e; exact e
  | none => rw [hb] at e; exact l b o e
theorem Amb.ext_up {A : Amb} {k : Hp} : A.h.Le (A.ext k).h := Hp.le_un_l _ _
theorem Amb.ext_own {A : Amb} {k : Hp} (d : A.h.Dj k) : k.Le (A.ext k).h := Hp.le_un_r d
abbrev encI (x : Int) : List Value := [vI x]
abbrev encB (x : Bool) : List Value := [.bool x]
/-- a slice that owns its array, of things that are told by enc -/
abbrev LR {α : Type} (enc : α → List Value) (E : TypeId) (k : Nat) (a : Option Addr) (c : Nat) (l : List α) : HProp := Row E k a c (l.map enc)
/-- a list of things that can be read -/
abbrev RdL {α : Type} (enc : α → List Value) (k : Nat) (h : Hp) (v : Value) (l : List α) : Prop := RdRow h k v (l.map enc)
/-- a list is handed back -/
def RLP {α : Type} (enc : α → List Value) (E : TypeId) (k : Nat) (l : List α) : Value → List HProp → Prop := fun v gs => ∃ a c, v = .slice a l.length c ∧ gs = [LR enc E k a c l]
theorem dropC {α : Type} {l : List α} {j : Nat} {u : α} (h : l[j]? = some u) : l.drop j = u :: l.drop (j + 1) := by
  obtain ⟨hj, rfl⟩ := List.getElem?_eq_some_iff.1 h
  exact List.drop_eq_getElem_cons hj
theorem takeC {α : Type} {l : List α} {j : Nat} {u : α} (h : l[j]? = some u) : l.take (j + 1) = l.take j ++ [u] := by
  rw [List.take_add_one, h]; rfl
theorem ltC {α : Type} {l : List α} {j : Nat} {u : α} (h : l[j]? = some u) : j < l.length := (List.getElem?_eq_some_iff.1 h).1
theorem Row.rd {E : TypeId} {k : Nat} {a : Option Addr} {c : Nat} {css : List (List Value)} {h : Hp} (r : Row E k a c css h) (hb : css.length ≤ 281474976710656) : RdRow h k (.slice a css.length c) css := by
  refine ⟨⟨a, c, rfl, ⟨hb, ?_⟩, ?_⟩, r.1⟩
  · rcases r.2 with ⟨_, rfl, rfl⟩ | ⟨g, cur, _, _, h1, _⟩
    · simp
    · exact h1
  · by_cases e : css = []
    · exact .inl e
    · right
      obtain ⟨g, rfl⟩ := r.isSome e
      exact ⟨g, 0, rfl, fun i cs j x h1 h2 => by rw [Nat.zero_add]; exact r.cell h1 h2⟩
theorem Row.le_cap {E : TypeId} {k c : Nat} {a : Option Addr} {css : List (List Value)} {h : Hp} (r : Row E k a c css h) : css.length ≤ c := by
  rcases r.2 with ⟨_, rfl, rfl⟩ | ⟨_, _, _, _, h1, _⟩
  · simp
  · exact h1
theorem Row.none_cap {E : TypeId} {k c : Nat} {a : Option Addr} {css : List (List Value)} {h : Hp} (r : Row E k a c css h) : a = none → c = 0 := by
  rcases r.2 with ⟨_, rfl, _⟩ | ⟨_, _, e, _⟩
  · exact fun _ => rfl
  · intro h; rw [h] at e; cases e
theorem Row.spot {E : TypeId} {k c : Nat} {a : Option Addr} {css : List (List Value)} {h : Hp} (r : Row E k a c css h) : ∀ q, a = some q → q.spot = none := by
  rcases r.2 with ⟨rfl, _, _⟩ | ⟨_, _, rfl, _⟩
  · exact fun _ h => by cases h
  · intro q h; cases h; rfl
section
variable {α : Type} {enc : α → List Value} {h : Hp} {k : Nat} {v : Value} {l : List α} {a : Option Addr} {m c : Nat}
theorem RdL.un (r : RdL enc k h v l) : ∃ a c, v = .slice a l.length c ∧ (l.length ≤ 281474976710656 ∧ l.length ≤ c) ∧ RdL enc k h (.slice a l.length c) l := by
  have r0 := r
  obtain ⟨⟨a, c, rfl, hm, _⟩, _⟩ := r
  rw [List.length_map] at hm r0 ⊢
  exact ⟨a, c, rfl, hm, r0⟩
theorem RdL.len (r : RdL enc k h (.slice a m c) l) : m = l.length ∧ l.length ≤ 281474976710656 ∧ l.length ≤ c := by
  obtain ⟨a', c', e, hm, _⟩ := r.un
  injection e with e1 e2 e3
  exact ⟨e2, hm.1, e3 ▸ hm.2⟩
theorem RdL.elen (r : RdL enc k h v l) {u : α} (hu : u ∈ l) : (enc u).length = k := r.2 _ (List.mem_map_of_mem hu)
theorem RdL.row (r : RdL enc k h (.slice a m c) l) (h0 : 0 < l.length) : ∃ b o, a = some ⟨b, o, none⟩ ∧ RowAt h k b o (l.map enc) := by
  obtain ⟨⟨a', c', e, _, hr⟩, _⟩ := r
  injection e with e1 e2 e3
  subst e1
  rcases hr with hr | ⟨b, o, e, hr⟩
  · rw [List.map_eq_nil_iff] at hr; subst hr; simp at h0
  · exact ⟨b, o, e, hr⟩
theorem RdL.none_cap (r : RdL enc k h (.slice a m c) l) (h0 : 0 < l.length) : a = none → c = 0 := by
  obtain ⟨b, o, rfl, _⟩ := r.row h0
  intro h; cases h
theorem RdL.take (r : RdL enc k h (.slice a m c) l) (j : Nat) (hj : j ≤ l.length) : RdL enc k h (.slice a j c) (l.take j) := by
  obtain ⟨e, h1, h2⟩ := r.len
  refine ⟨⟨a, c, ?_, ?_, ?_⟩, fun cs hc => r.2 cs (by rw [List.map_take] at hc; exact List.mem_of_mem_take hc)⟩
  · rw [List.length_map, List.length_take, Nat.min_eq_left hj]
  · rw [List.length_map, List.length_take]; omega
  · by_cases h0 : 0 < l.length
    · obtain ⟨b, o, rfl, hr⟩ := r.row h0
      refine .inr ⟨b, o, rfl, fun i cs q x h1 h2 => hr i cs q x ?_ h2⟩
      rw [List.map_take, List.getElem?_take] at h1
      split at h1
      · exact h1
      · cases h1
    · left
      have : l = [] := List.eq_nil_of_length_eq_zero (by omega)
      subst this; simp
theorem RdL.drop (r : RdL enc k h (.slice a m c) l) (j : Nat) (hj : j ≤ l.length) {b o : Nat} (ha : a = some ⟨b, o, none⟩) :
    RdL enc k h (.slice (if c = j then some ⟨b, o, none⟩ else some ⟨b, o + j * k, none⟩) (m - j) (c - j)) (l.drop j) := by
  obtain ⟨e, h1, h2⟩ := r.len
  refine ⟨⟨(if c = j then some ⟨b, o, none⟩ else some ⟨b, o + j * k, none⟩), c - j, ?_, ?_, ?_⟩, fun cs hc => r.2 cs (by rw [List.map_drop] at hc; exact List.mem_of_mem_drop hc)⟩
  · rw [List.length_map, List.length_drop, e]
  · rw [List.length_map, List.length_drop]; omega
  · by_cases h0 : j < l.length
    · rw [if_neg (by omega)]
      obtain ⟨b', o', ha', hr⟩ := r.row (by omega)
      rw [ha] at ha'
      cases ha'
      refine .inr ⟨b, _, rfl, fun i cs q x h1 h2 => ?_⟩
      rw [List.map_drop, List.getElem?_drop] at h1
      have := hr (j + i) cs q x h1 h2
      rwa [Nat.add_mul, ← Nat.add_assoc] at this
    · left
      rw [List.drop_of_length_le (by omega)]; rfl
theorem RdL.nil (h : Hp) (k c : Nat) (a : Option Addr) : RdL enc k h (.slice a 0 c) [] := ⟨⟨a, c, rfl, by simp, .inl rfl⟩, by simp⟩
theorem Sts.lr {A : Amb} {fr : List HProp} {k : Hp} {E : TypeId} {q c : Nat} {a : Option Addr} {l : List α} (hk : Sts fr k) (dk : A.h.Dj k) (i : Nat) (hb : l.length ≤ 281474976710656) (hi : fr[i]? = some (LR enc E q a c l)) : RdL enc q (A.ext k).h (.slice a l.length c) l := by
  obtain ⟨m, hm, lm⟩ := hk.get hi
  have := (hm.rd (by rw [List.length_map]; exact hb)).mono (lm.trans (Amb.ext_own dk))
  rwa [List.length_map] at this
theorem Sts.cel {A : Amb} {fr : List HProp} {k : Hp} {b j : Nat} {T : TypeId} {vs : List Value} {v : Value} (hk : Sts fr k) (dk : A.h.Dj k) (i : Nat) (hi : fr[i]? = some (Cel b T vs)) (hj : vs[j]? = some v) : (A.ext k).h.cell ⟨b, j, none⟩ = some v := by
  obtain ⟨m, hm, lm⟩ := hk.get hi
  exact Hp.cell_le (lm.trans (Amb.ext_own dk)) (Cel.cell hm hj)
theorem Sts.lrm {A : Amb} {fr : List HProp} {k : Hp} {E : TypeId} {q c m : Nat} {a : Option Addr} {l : List α} (hk : Sts fr k) (dk : A.h.Dj k) (i : Nat) (hb : l.length ≤ 281474976710656) (hm : m = l.length) (hi : fr[i]? = some (LR enc E q a c l)) : RdL enc q (A.ext k).h (.slice a m c) l := by
  subst hm; exact Sts.lr hk dk i hb hi
end
section
variable {P : Program} {n : Nat} {ops : Array Oper} {r : List Oper} {T : TypeId} {ρ : Env} {A : Amb} {fs fix : List HProp} {Q : NPost} {pos : String} {af : Array Edge} {g : Option (Nat × Bool)} {listed : Array Bool} {fuel : Nat}
variable {α : Type} {enc : α → List Value} {k : Nat} {l : List α} {a : Option Addr} {m c : Nat}
theorem DJ.knowF {F : HProp} {φ : Prop} (i : Nat) (hi : fix[i]? = some F) (h : ∀ k, F k → φ) (kk : φ → DJ P n ops ρ A fix fs listed fuel Q) : DJ P n ops ρ A fix fs listed fuel Q := ⟨fun k hk dk a w r s => by
  obtain ⟨m, hm, _⟩ := hk.get hi
  exact (kk (h m hm)).go k hk dk a w r s⟩
theorem DJ.know {F : HProp} {φ : Prop} (i : Nat) (hi : fs[i]? = some F) (h : ∀ k, F k → φ) (kk : φ → DJ P n ops ρ A fix fs listed fuel Q) : DJ P n ops ρ A fix fs listed fuel Q := ⟨fun k hk dk a w r s => by
  obtain ⟨_, m, s', _, _⟩ := id s
  obtain ⟨q, hq, _⟩ := s'.get hi
  exact (kk (h q hq)).go k hk dk a w r s⟩
theorem DO.know {F : HProp} {φ : Prop} {e : Nat} (i : Nat) (hi : fs[i]? = some F) (h : ∀ k, F k → φ) (kk : φ → DO P n ops ρ A fix fs listed fuel Q e) : DO P n ops ρ A fix fs listed fuel Q e := ⟨fun k hk dk a w r s => by
  obtain ⟨_, m, s', _, _⟩ := id s
  obtain ⟨q, hq, _⟩ := s'.get hi
  exact (kk (h q hq)).go k hk dk a w r s⟩
/-! ## the address of an element -/
theorem Yd.idx {X E : TypeId} {x y : Operand} {b o : Nat} {j : Int} [TyUnd P X (.slice E)] [TySize P E k] (ha : a = some ⟨b, o, none⟩) (hx : ev ρ x = .slice a m c) (hy : ev ρ y = vI j) (hj : 0 ≤ j) (hm : j < m) :
    Yd P (.indexAddr X x y) T ρ A fs (.pointer (some ⟨b, o + j.toNat * k, none⟩)) := by
  subst ha; exact Yd.indexAddr hx hy hj hm
theorem LJ.idxA {d : Nat} {X E : TypeId} {x y : Operand} {j : Int} [TyUnd P X (.slice E)] [TySize P E k] (hd : Nat.blt d n = true) (hr : RdL enc k A.h (.slice a m c) l) (hx : ev ρ x = .slice a m c) (hy : ev ρ y = vI j) (hj : 0 ≤ j) (hm : j < l.length)
    (kk : ∀ b o, a = some ⟨b, o, none⟩ → RowAt A.h k b o (l.map enc) → LJ P n ops r (upd ρ d (.pointer (some ⟨b, o + j.toNat * k, none⟩))) A fs Q) : LJ P n ops (⟨some d, .indexAddr X x y, T, pos, af, none⟩ :: r) ρ A fs Q := by
  obtain ⟨b, o, ha, hrow⟩ := hr.row (by omega)
  exact LJ.yd hd (Yd.idx ha hx hy hj (by rw [hr.len.1]; exact hm)) (kk b o ha hrow)
theorem DJ.idxA {d : Nat} {X E : TypeId} {x y : Operand} {j : Int} [TyUnd P X (.slice E)] [TySize P E k] (i : Nat) (hi : ops[i]? = some ⟨some d, .indexAddr X x y, T, pos, af, g⟩)
    (hs : Region.noSelect ops = true) (hf : Region.free .any ops listed i = true) (hrd : (Region.ready .any ops listed).contains i = true) (hg : wantE ops ρ g = true) (hd : Nat.blt d n = true) (hr : RdL enc k A.h (.slice a m c) l) (hx : ev ρ x = .slice a m c) (hy : ev ρ y = vI j) (hj : 0 ≤ j) (hm : j < l.length)
    (kk : ∀ b o, a = some ⟨b, o, none⟩ → RowAt A.h k b o (l.map enc) → DJ P n ops (upd ρ d (.pointer (some ⟨b, o + j.toNat * k, none⟩))) A fix fs (listed.setIfInBounds i true) fuel Q) : DJ P n ops ρ A fix fs listed (fuel + 1) Q := by
  obtain ⟨b, o, ha, hrow⟩ := hr.row (by omega)
  exact DJ.yd i hi hs hf hrd hg hd (Yd.idx ha hx hy hj (by rw [hr.len.1]; exact hm)) (kk b o ha hrow)
theorem Row.someL {E : TypeId} {h : Hp} (r : LR enc E k a c l h) (h0 : 0 < l.length) : ∃ g, a = some ⟨g, 0, none⟩ := Row.isSome r (fun e => by rw [List.map_eq_nil_iff] at e; subst e; simp at h0)
theorem LJ.idxR {d : Nat} {X E E' : TypeId} {x y : Operand} {j : Int} [TyUnd P X (.slice E)] [TySize P E k] (q : Nat) (hq : fs[q]? = some (LR enc E' k a c l)) (hd : Nat.blt d n = true) (hx : ev ρ x = .slice a m c) (hy : ev ρ y = vI j) (hj : 0 ≤ j) (hm : j < m) (hl : j < l.length)
    (kk : ∀ b, a = some ⟨b, 0, none⟩ → LJ P n ops r (upd ρ d (.pointer (some ⟨b, 0 + j.toNat * k, none⟩))) A fs Q) : LJ P n ops (⟨some d, .indexAddr X x y, T, pos, af, none⟩ :: r) ρ A fs Q :=
  LJ.know q hq (fun _ r => Row.someL r (by omega)) fun ⟨b, ha⟩ => LJ.yd hd (Yd.idx ha hx hy hj hm) (kk b ha)
theorem DJ.idxF {d : Nat} {X E E' : TypeId} {x y : Operand} {j : Int} [TyUnd P X (.slice E)] [TySize P E k] (q : Nat) (hq : fix[q]? = some (LR enc E' k a c l)) (i : Nat) (hi : ops[i]? = some ⟨some d, .indexAddr X x y, T, pos, af, g⟩)
    (hs : Region.noSelect ops = true) (hf : Region.free .any ops listed i = true) (hrd : (Region.ready .any ops listed).contains i = true) (hg : wantE ops ρ g = true) (hd : Nat.blt d n = true) (hx : ev ρ x = .slice a m c) (hy : ev ρ y = vI j) (hj : 0 ≤ j) (hm : j < m) (hl : j < l.length)
    (kk : ∀ b, a = some ⟨b, 0, none⟩ → DJ P n ops (upd ρ d (.pointer (some ⟨b, 0 + j.toNat * k, none⟩))) A fix fs (listed.setIfInBounds i true) fuel Q) : DJ P n ops ρ A fix fs listed (fuel + 1) Q :=
  DJ.knowF q hq (fun _ r => Row.someL r (by omega)) fun ⟨b, ha⟩ => DJ.yd i hi hs hf hrd hg hd (Yd.idx ha hx hy hj hm) (kk b ha)
theorem DJ.idxR {d : Nat} {X E E' : TypeId} {x y : Operand} {j : Int} [TyUnd P X (.slice E)] [TySize P E k] (q : Nat) (hq : fs[q]? = some (LR enc E' k a c l)) (i : Nat) (hi : ops[i]? = some ⟨some d, .indexAddr X x y, T, pos, af, g⟩)
    (hs : Region.noSelect ops = true) (hf : Region.free .any ops listed i = true) (hrd : (Region.ready .any ops listed).contains i = true) (hg : wantE ops ρ g = true) (hd : Nat.blt d n = true) (hx : ev ρ x = .slice a m c) (hy : ev ρ y = vI j) (hj : 0 ≤ j) (hm : j < m) (hl : j < l.length)
    (kk : ∀ b, a = some ⟨b, 0, none⟩ → DJ P n ops (upd ρ d (.pointer (some ⟨b, 0 + j.toNat * k, none⟩))) A fix fs (listed.setIfInBounds i true) fuel Q) : DJ P n ops ρ A fix fs listed (fuel + 1) Q :=
  DJ.know q hq (fun _ r => Row.someL r (by omega)) fun ⟨b, ha⟩ => DJ.yd i hi hs hf hrd hg hd (Yd.idx ha hx hy hj hm) (kk b ha)
/-! ## an element is read -/
theorem Yd.ldA {X : TypeId} {x : Operand} {b o off j : Nat} {u : α} [TyCell P X] (q : Nat) (f : α → Value) (hf : ∀ u, (enc u)[q]? = some (f u)) (hr : RowAt A.h k b o (l.map enc)) (hx : ev ρ x = .pointer (some ⟨b, off, none⟩)) (ho : off = o + j * k + q) (hu : l[j]? = some u) :
    Yd P (.load X x) T ρ A fs (f u) := Yd.loadRowC hr hx ho (by rw [List.getElem?_map, hu]; rfl) (hf u)
theorem Yd.ldR {X E : TypeId} {x : Operand} {b off j : Nat} {u : α} [TyCell P X] (i q : Nat) (f : α → Value) (hf : ∀ u, (enc u)[q]? = some (f u)) (hi : fs[i]? = some (LR enc E k a c l)) (ha : a = some ⟨b, 0, none⟩) (hx : ev ρ x = .pointer (some ⟨b, off, none⟩)) (ho : off = 0 + j * k + q) (hu : l[j]? = some u) :
    Yd P (.load X x) T ρ A fs (f u) := by
  subst ha; exact Yd.loadRC i hi hx (by rw [ho, Nat.zero_add]) (by rw [List.getElem?_map, hu]; rfl) (hf u)
theorem Yd.lgA {X : TypeId} {x : Operand} {b o off j : Nat} {u : α} [TyAgg P X k] (f : α → List Value) (hf : ∀ u, enc u = f u) (hk : ∀ u, (f u).length = k) (hr : RowAt A.h k b o (l.map enc)) (hx : ev ρ x = .pointer (some ⟨b, off, none⟩)) (ho : off = o + j * k) (hu : l[j]? = some u) :
    Yd P (.load X x) T ρ A fs (.agg (f u).toArray) := Yd.loadRow hr hx ho (by rw [List.getElem?_map, hu, ← hf]; rfl) (hk u)
theorem Yd.lgR {X E : TypeId} {x : Operand} {b off j : Nat} {u : α} [TyAgg P X k] (i : Nat) (f : α → List Value) (hf : ∀ u, enc u = f u) (hk : ∀ u, (f u).length = k) (hi : fs[i]? = some (LR enc E k a c l)) (ha : a = some ⟨b, 0, none⟩) (hx : ev ρ x = .pointer (some ⟨b, off, none⟩)) (ho : off = 0 + j * k) (hu : l[j]? = some u) :
    Yd P (.load X x) T ρ A fs (.agg (f u).toArray) := by
  subst ha; exact Yd.loadR i hi hx (by rw [ho, Nat.zero_add]) (by rw [List.getElem?_map, hu, ← hf]; rfl) (hk u)
theorem someC {j : Nat} (h : j < l.length) : ∃ u, l[j]? = some u := ⟨_, List.getElem?_eq_getElem h⟩
theorem LJ.ldA {d : Nat} {X : TypeId} {x : Operand} {b o off j : Nat} [TyCell P X] (q : Nat) (f : α → Value) (hf : ∀ u, (enc u)[q]? = some (f u)) (hr : RowAt A.h k b o (l.map enc)) (hx : ev ρ x = .pointer (some ⟨b, off, none⟩)) (ho : off = o + j * k + q) (hd : Nat.blt d n = true) (hj : j < l.length)
    (kk : ∀ u, l[j]? = some u → LJ P n ops r (upd ρ d (f u)) A fs Q) : LJ P n ops (⟨some d, .load X x, T, pos, af, none⟩ :: r) ρ A fs Q :=
  let ⟨u, hu⟩ := someC hj; LJ.yd hd (Yd.ldA q f hf hr hx ho hu) (kk u hu)
theorem LJ.lgA {d : Nat} {X : TypeId} {x : Operand} {b o off j : Nat} [TyAgg P X k] (f : α → List Value) (hf : ∀ u, enc u = f u) (hk : ∀ u, (f u).length = k) (hr : RowAt A.h k b o (l.map enc)) (hx : ev ρ x = .pointer (some ⟨b, off, none⟩)) (ho : off = o + j * k) (hd : Nat.blt d n = true) (hj : j < l.length)
    (kk : ∀ u, l[j]? = some u → LJ P n ops r (upd ρ d (.agg (f u).toArray)) A fs Q) : LJ P n ops (⟨some d, .load X x, T, pos, af, none⟩ :: r) ρ A fs Q :=
  let ⟨u, hu⟩ := someC hj; LJ.yd hd (Yd.lgA f hf hk hr hx ho hu) (kk u hu)
theorem LJ.ldR {d : Nat} {X E : TypeId} {x : Operand} {b off j : Nat} [TyCell P X] (i q : Nat) (f : α → Value) (hf : ∀ u, (enc u)[q]? = some (f u)) (hi : fs[i]? = some (LR enc E k a c l)) (ha : a = some ⟨b, 0, none⟩) (hx : ev ρ x = .pointer (some ⟨b, off, none⟩)) (ho : off = 0 + j * k + q) (hd : Nat.blt d n = true) (hj : j < l.length)
    (kk : ∀ u, l[j]? = some u → LJ P n ops r (upd ρ d (f u)) A fs Q) : LJ P n ops (⟨some d, .load X x, T, pos, af, none⟩ :: r) ρ A fs Q :=
  let ⟨u, hu⟩ := someC hj; LJ.yd hd (Yd.ldR i q f hf hi ha hx ho hu) (kk u hu)
theorem LJ.lgR {d : Nat} {X E : TypeId} {x : Operand} {b off j : Nat} [TyAgg P X k] (i : Nat) (f : α → List Value) (hf : ∀ u, enc u = f u) (hk : ∀ u, (f u).length = k) (hi : fs[i]? = some (LR enc E k a c l)) (ha : a = some ⟨b, 0, none⟩) (hx : ev ρ x = .pointer (some ⟨b, off, none⟩)) (ho : off = 0 + j * k) (hd : Nat.blt d n = true) (hj : j < l.length)
    (kk : ∀ u, l[j]? = some u → LJ P n ops r (upd ρ d (.agg (f u).toArray)) A fs Q) : LJ P n ops (⟨some d, .load X x, T, pos, af, none⟩ :: r) ρ A fs Q :=
  let ⟨u, hu⟩ := someC hj; LJ.yd hd (Yd.lgR i f hf hk hi ha hx ho hu) (kk u hu)
section
variable (i : Nat) {d : Nat} {X E : TypeId} {x : Operand} (hi : ops[i]? = some ⟨some d, .load X x, T, pos, af, g⟩)
    (hs : Region.noSelect ops = true) (hf' : Region.free .any ops listed i = true) (hrd : (Region.ready .any ops listed).contains i = true) (hg : wantE ops ρ g = true) (hd : Nat.blt d n = true)
include hi hs hf' hrd hg hd
theorem DJ.ldA {b o off j : Nat} [TyCell P X] (q : Nat) (f : α → Value) (hf : ∀ u, (enc u)[q]? = some (f u)) (hr : RowAt A.h k b o (l.map enc)) (hx : ev ρ x = .pointer (some ⟨b, off, none⟩)) (ho : off = o + j * k + q) (hj : j < l.length)
    (kk : ∀ u, l[j]? = some u → DJ P n ops (upd ρ d (f u)) A fix fs (listed.setIfInBounds i true) fuel Q) : DJ P n ops ρ A fix fs listed (fuel + 1) Q :=
  let ⟨u, hu⟩ := someC hj; DJ.yd i hi hs hf' hrd hg hd (Yd.ldA q f hf hr hx ho hu) (kk u hu)
theorem DJ.lgA {b o off j : Nat} [TyAgg P X k] (f : α → List Value) (hf : ∀ u, enc u = f u) (hk : ∀ u, (f u).length = k) (hr : RowAt A.h k b o (l.map enc)) (hx : ev ρ x = .pointer (some ⟨b, off, none⟩)) (ho : off = o + j * k) (hj : j < l.length)
    (kk : ∀ u, l[j]? = some u → DJ P n ops (upd ρ d (.agg (f u).toArray)) A fix fs (listed.setIfInBounds i true) fuel Q) : DJ P n ops ρ A fix fs listed (fuel + 1) Q :=
  let ⟨u, hu⟩ := someC hj; DJ.yd i hi hs hf' hrd hg hd (Yd.lgA f hf hk hr hx ho hu) (kk u hu)
theorem DJ.ldF {b off j : Nat} [TyCell P X] (e q : Nat) (f : α → Value) (hf : ∀ u, (enc u)[q]? = some (f u)) (he : fix[e]? = some (LR enc E k a c l)) (ha : a = some ⟨b, 0, none⟩) (hx : ev ρ x = .pointer (some ⟨b, off, none⟩)) (ho : off = 0 + j * k + q) (hj : j < l.length)
    (kk : ∀ u, l[j]? = some u → DJ P n ops (upd ρ d (f u)) A fix fs (listed.setIfInBounds i true) fuel Q) : DJ P n ops ρ A fix fs listed (fuel + 1) Q :=
  let ⟨u, hu⟩ := someC hj; DJ.yd i hi hs hf' hrd hg hd (Yd.ldR e q f hf he ha hx ho hu) (kk u hu)
theorem DJ.lgF {b off j : Nat} [TyAgg P X k] (e : Nat) (f : α → List Value) (hf : ∀ u, enc u = f u) (hk : ∀ u, (f u).length = k) (he : fix[e]? = some (LR enc E k a c l)) (ha : a = some ⟨b, 0, none⟩) (hx : ev ρ x = .pointer (some ⟨b, off, none⟩)) (ho : off = 0 + j * k) (hj : j < l.length)
    (kk : ∀ u, l[j]? = some u → DJ P n ops (upd ρ d (.agg (f u).toArray)) A fix fs (listed.setIfInBounds i true) fuel Q) : DJ P n ops ρ A fix fs listed (fuel + 1) Q :=
  let ⟨u, hu⟩ := someC hj; DJ.yd i hi hs hf' hrd hg hd (Yd.lgR e f hf hk he ha hx ho hu) (kk u hu)
end
section
variable {i d : Nat} {X E : TypeId} {x : Operand} (hi : ops[i]? = some ⟨some d, .load X x, T, pos, af, g⟩) (hg : wantE ops ρ g = true) (hd : Nat.blt d n = true)
include hi hg hd
theorem DO.ldR {b off j : Nat} [TyCell P X] (e q : Nat) (f : α → Value) (hf : ∀ u, (enc u)[q]? = some (f u)) (he : fs[e]? = some (LR enc E k a c l)) (ha : a = some ⟨b, 0, none⟩) (hx : ev ρ x = .pointer (some ⟨b, off, none⟩)) (ho : off = 0 + j * k + q) (hj : j < l.length)
    (kk : ∀ u, l[j]? = some u → DJ P n ops (upd ρ d (f u)) A fix fs (listed.setIfInBounds i true) fuel Q) : DO P n ops ρ A fix fs listed fuel Q i :=
  let ⟨u, hu⟩ := someC hj; DO.yd hi hg hd (fun _ _ _ => Yd.ldR e q f hf he ha hx ho hu) (kk u hu)
theorem DO.lgR {b off j : Nat} [TyAgg P X k] (e : Nat) (f : α → List Value) (hf : ∀ u, enc u = f u) (hk : ∀ u, (f u).length = k) (he : fs[e]? = some (LR enc E k a c l)) (ha : a = some ⟨b, 0, none⟩) (hx : ev ρ x = .pointer (some ⟨b, off, none⟩)) (ho : off = 0 + j * k) (hj : j < l.length)
    (kk : ∀ u, l[j]? = some u → DJ P n ops (upd ρ d (.agg (f u).toArray)) A fix fs (listed.setIfInBounds i true) fuel Q) : DO P n ops ρ A fix fs listed fuel Q i :=
  let ⟨u, hu⟩ := someC hj; DO.yd hi hg hd (fun _ _ _ => Yd.lgR e f hf hk he ha hx ho hu) (kk u hu)
end
/-! ## an element is stored -/
theorem OpR.stR {X E : TypeId} {x y : Operand} {b off j sz : Nat} {u u' : α} {v : Value} [TySize P X sz] (i q : Nat) (hi : fs[i]? = some (LR enc E k a c l)) (ha : a = some ⟨b, 0, none⟩) (hx : ev ρ x = .pointer (some ⟨b, off, none⟩)) (hy : ev ρ y = v)
    (hu : l[j]? = some u) (ho : off = 0 + j * k + q) (hq : v.cells.size = sz) (h1 : v.cells.toList.all Value.oneCell' = true) (he : (enc u).take q ++ v.cells.toList ++ (enc u).drop (q + sz) = enc u') (hl : Nat.ble (q + sz) (enc u).length = true) :
    OpR P (.store X x y) T ρ A fs (fun v' fs' => v' = undef ∧ fs' = fs.set i (LR enc E k a c (l.set j u'))) := by
  have := OpR.storeR (P := P) (T := T) (A := A) (X := X) (m := j) (j := q) (us := enc u') (cs := enc u) i hi ha hx hy (by rw [List.getElem?_map, hu]; rfl) (by rw [ho, Nat.zero_add]) hq h1 he hl
  simpa only [LR, List.map_set] using this
/-- a list of things of one cell -/
theorem OpR.st1 {X E : TypeId} {x y : Operand} {b off j : Nat} {u' : α} {e1 : α → Value} [TySize P X 1] (i : Nat) (h1 : ∀ u, enc u = [e1 u]) (ho1 : ∀ u, (e1 u).cells = #[e1 u]) (hoc : ∀ u, (e1 u).oneCell' = true) (hi : fs[i]? = some (LR enc E 1 a c l)) (ha : a = some ⟨b, 0, none⟩) (hx : ev ρ x = .pointer (some ⟨b, off, none⟩)) (hy : ev ρ y = e1 u')
    (ho : off = 0 + j * 1) (hj : j < l.length) : OpR P (.store X x y) T ρ A fs (fun v' fs' => v' = undef ∧ fs' = fs.set i (LR enc E 1 a c (l.set j u'))) := by
  obtain ⟨u, hu⟩ := someC hj
  exact OpR.stR i 0 hi ha hx hy hu ho (by rw [ho1]; rfl) (by rw [ho1]; simp [hoc]) (by rw [ho1, h1 u, h1 u']; rfl) (by rw [h1 u]; rfl)
/-! ## loops -/
/-- a loop beside what stays as it is -/
theorem CJ.loopF {Q : EPost} {c : Code} (Ks : List Nat) (α : Type) (p : α → Prop) (vals : α → List (Nat × Value)) (H : α → List HProp) (μ : α → Nat) (g : α) (fr : List HProp) (fi mi : List Nat) (hp : permF (fi ++ mi) fs = true) (hF : pickF fs fi = fr) (h1 : pickF fs mi = H g) (h0 : p g) (hv : Holds ρ (vals g))
    (round : ∀ g σ, p g → CJ P n c (over Ks ρ (upds σ (vals g))) A (fr ++ H g)
      (EPost.seq (fun ρ' B fs' => ∃ g', p g' ∧ Agree ρ' ρ Ks ∧ Holds ρ' (vals g') ∧ Ent B A fs' (fr ++ H g') ∧ μ g' < μ g) Q)) : CJ P n (.loop c) ρ A fs Q :=
  CJ.loop Ks α p vals (fun g => fr ++ H g) μ g h0 hv (fun w s => by
    have := s.perm (perm_pickF fs fi mi hp)
    rwa [hF, h1] at this) round
/-! ## appends -/
theorem upV.imp {K K' : Value → World → Prop} {r : Result Next} (h : upV P K r) (k : ∀ v w, K v w → K' v w) : upV P K' r := by
  cases r with
  | ok nx w =>
    cases nx <;> simp only [upV] at h ⊢
    case value v => exact k _ _ h
    case skip => exact k _ _ h
    case enter f args => exact h.mono fun e w' ⟨v, he, hv⟩ => ⟨v, he, k _ _ hv⟩
  | halt x w => simp only [upV] at h
theorem OpR.imp {op : Op} {R R' : Value → List HProp → Prop} (h : OpR P op T ρ A fs R) (k : ∀ v gs, R v gs → R' v gs) : OpR P op T ρ A fs R' := fun w s => upV.imp (h w s) fun v w' ⟨gs, a, b⟩ => ⟨gs, k v gs a, b⟩
theorem Ent.addLR (enc : α → List Value) (E : TypeId) (k : Nat) : Ent A A fs (fs ++ [LR enc E k none 0 []]) := Ent.addRow E k
/-- append of a literal's elements -/
theorem OpR.apT {X E Y : TypeId} {zero : List Value} {s x : Operand} {b m' cx : Nat} {cs : List Value} [TyElem P X E k zero] (us : List α) (i j : Nat) (hi : fs[i]? = some (LR enc E k a c l)) (hj : fs[j]? = some (Cel b Y cs))
    (hs : ev ρ s = .slice a m c) (hm : m = l.length) (hx : ev ρ x = .slice (some ⟨b, 0, none⟩) m' cx) (hf : (us.map enc).flatten = cs) (hm' : (us.map enc).length = m') (hk : ((us.map enc).all fun cs => Nat.beq cs.length k) = true) (h1 : ((us.map enc).all fun cs => cs.all Value.oneCell') = true)
    (hb : l.length + m' ≤ 1099511627776) :
    OpR P (.call { callee := .builtin .append, args := #[s, x], argTypes := #[X, X] }) T ρ A fs (fun v fs' => ∃ a' c', v = .slice a' (l ++ us).length c' ∧ fs' = fs.set i (LR enc E k a' c' (l ++ us))) := by
  have := OpR.appendT (P := P) (T := T) (A := A) (X := X) (us.map enc) i j hi hj (by rw [hs, hm, List.length_map]) hx hf hm' hk h1 (by rw [List.length_map]; exact hb)
  refine OpR.imp this fun v gs h => ?_
  simpa only [LR, List.map_append, ← List.map_append, List.length_map] using h
/-- append of nothing -/
theorem OpR.append0z {X E : TypeId} {zero : List Value} {s x : Operand} {a2 : Option Addr} {cx : Nat} [h : TyElem P X E k zero]
    (hs : ev ρ s = .slice a m c) (hc : m ≤ c) (hx : ev ρ x = .slice a2 0 cx) :
    OpR P (.call { callee := .builtin .append, args := #[s, x], argTypes := #[X, X] }) T ρ A fs (fun v fs' => v = .slice a m c ∧ fs' = fs) := fun w st => by
  obtain ⟨inf, z, hinf, hz, hsz, hzc, hby⟩ := h.info
  have e : (execOp (ev ρ) (dummy (.call { callee := .builtin .append, args := #[s, x], argTypes := #[X, X] }) T)).run P w = .ok (.value (.slice a m c)) w := by
    cases a <;> cases a2 <;> simp [dummy, execOp, resolve, invoke, builtin, hs, hx, Builtin.append_, h.run, sizeOf, typeInfo, hinf, Builtin.lenOf, Builtin.firstCells, hc, storeCells, loadCells, loadCellsFrom]
  rw [e]
  exact ⟨_, ⟨rfl, rfl⟩, st⟩
/-- append of a list that is read -/
theorem OpR.apA {X E : TypeId} {zero : List Value} {s x : Operand} {l2 : List α} {a2 : Option Addr} {m' cx : Nat} [h : TyElem P X E k zero] (i : Nat) (hi : fs[i]? = some (LR enc E k a c l)) (hr : RdL enc k A.h (.slice a2 m' cx) l2)
    (hs : ev ρ s = .slice a m c) (hm : m = l.length) (hx : ev ρ x = .slice a2 m' cx) (h1 : ∀ u, (enc u).all Value.oneCell' = true) (hb : l.length + l2.length ≤ 1099511627776) :
    OpR P (.call { callee := .builtin .append, args := #[s, x], argTypes := #[X, X] }) T ρ A fs (fun v fs' => ∃ a' c', v = .slice a' (l ++ l2).length c' ∧ fs' = fs.set i (LR enc E k a' c' (l ++ l2))) := fun w st => by
  have hlen := hr.len
  have hcap : l.length ≤ c := by
    obtain ⟨_, q, s', l', _⟩ := st; obtain ⟨q, hq, lq⟩ := s'.get hi
    have := hq.le_cap; rwa [List.length_map] at this
  by_cases h0 : 0 < l2.length
  · obtain ⟨b, o, rfl, hrow⟩ := hr.row h0
    have this := OpR.append (P := P) (T := T) (A := A) (fs := fs) (ρ := ρ) (X := X) (ncss := l2.map enc) (x := x) (s := s) i hi (by rw [hs, hm, List.length_map]) hx (by rw [List.length_map]; exact hlen.1.symm) hr.2 (fun cs hc u hu => by
      obtain ⟨y, _, rfl⟩ := List.mem_map.1 hc
      exact List.all_eq_true.1 (h1 y) u hu) (fun q cs j v h2 h3 => Rdc.amb (hrow q cs j v h2 h3)) (by rw [List.length_map, hlen.1]; exact hb)
    refine OpR.imp this (fun v gs h => ?_) w st
    simpa only [LR, List.map_append, ← List.map_append, List.length_map] using h
  · have hl0 : l2 = [] := List.eq_nil_of_length_eq_zero (by omega)
    have hm0 : m' = 0 := by rw [hlen.1, hl0]; rfl
    subst hl0 hm0
    have e5 : fs.set i (LR enc E k a c l) = fs := set_same hi
    have := OpR.append0z (P := P) (T := T) (A := A) (fs := fs) (X := X) hs (by omega) hx
    exact OpR.imp this (fun v fs' ⟨h1, h2⟩ => ⟨a, c, by rw [List.append_nil, ← hm]; exact h1, by rw [List.append_nil, e5]; exact h2⟩) w st
/-- append of a list that is owned -/
theorem OpR.apR {X E E2 : TypeId} {zero : List Value} {s x : Operand} {a2 : Option Addr} {m' c2 : Nat} {l2 : List α} [h : TyElem P X E k zero] (i j : Nat) (hi : fs[i]? = some (LR enc E k a c l)) (hj : fs[j]? = some (LR enc E2 k a2 c2 l2))
    (hs : ev ρ s = .slice a m c) (hm : m = l.length) (hx : ev ρ x = .slice a2 m' c2) (hm' : m' = l2.length) (h1 : ∀ u, (enc u).all Value.oneCell' = true) (hb : l.length + l2.length ≤ 1099511627776) :
    OpR P (.call { callee := .builtin .append, args := #[s, x], argTypes := #[X, X] }) T ρ A fs (fun v fs' => ∃ a' c', v = .slice a' (l ++ l2).length c' ∧ fs' = fs.set i (LR enc E k a' c' (l ++ l2))) := fun w st => by
  have get : ∀ {i : Nat} {F : HProp}, fs[i]? = some F → ∃ q, F q := fun {i F} hi => by
    obtain ⟨_, m, s', l, _⟩ := st; obtain ⟨q, hq, lq⟩ := s'.get hi; exact ⟨q, hq⟩
  obtain ⟨q1, r1⟩ := get hi
  obtain ⟨q2, r2⟩ := get hj
  have hcap := r1.le_cap
  rw [List.length_map] at hcap
  subst hm hm'
  rcases r2.2 with ⟨e1, e2, e3⟩ | ⟨g, cur, e1, _⟩
  · subst e1 e2
    have e4 : l2 = [] := List.map_eq_nil_iff.1 e3
    subst e4
    have e5 : fs.set i (LR enc E k a c l) = fs := set_same hi
    have := OpR.append0 (P := P) (T := T) (A := A) (fs := fs) (X := X) hs hcap hx
    exact OpR.imp this (fun v fs' ⟨h1, h2⟩ => ⟨a, c, by rw [List.append_nil]; exact h1, by rw [List.append_nil, e5]; exact h2⟩) w st
  · subst e1
    have this := OpR.append (P := P) (T := T) (A := A) (X := X) (ncss := l2.map enc) (x := x) (s := s) i hi (by rw [hs, List.length_map]) hx (by rw [List.length_map]) r2.1 (fun cs hc u hu => by
      obtain ⟨y, _, rfl⟩ := List.mem_map.1 hc
      exact List.all_eq_true.1 (h1 y) u hu) (fun q cs jj v h2 h3 => by rw [Nat.zero_add]; exact Row.rdc j hj h2 h3 rfl) (by rw [List.length_map]; exact hb) w st
    refine upV.imp this fun v w' ⟨gs, h, hs⟩ => ⟨gs, ?_, hs⟩
    simpa only [LR, List.map_append, ← List.map_append, List.length_map] using h
/-- a list is shortened -/
theorem Row.shorten {E : TypeId} {h : Hp} (j : Nat) (hj : j ≤ l.length) (r : LR enc E k a c l h) : LR enc E k a c (l.take j) h := by
  have := Row.setLen r j (by rw [List.length_map]; exact hj)
  rwa [← List.map_take] at this
theorem Cel.lr {b m : Nat} {E : TypeId} {cs : List Value} (us : List α) {h : Hp} (hf : (us.map enc).flatten = cs) (hk : ((us.map enc).all fun cs => Nat.beq cs.length k) = true) (hn : (us.map enc).length = m) (hm : Nat.ble m 1099511627776 = true) (r : Cel b E cs h) : LR enc E k (some ⟨b, 0, none⟩) m us h :=
  Cel.row r (fun cs hc => Nat.eq_of_beq_eq_true (List.all_eq_true.1 hk cs hc)) hf hn (Nat.le_of_ble_eq_true hm)
/-! ## parts of lists -/
/-- where a part of a slice begins -/
def cutA (a : Option Addr) (c j k : Nat) : Option Addr := if c = j then a else a.map fun q => ⟨q.block, q.off + j * k, q.spot⟩
theorem Yd.slL {X E : TypeId} {zero : List Value} {x lo : Operand} {j : Int} [h : TyElem P X E k zero] (hx : ev ρ x = .slice a m c) (hj : ev ρ lo = vI j) (h0 : 0 ≤ j) (h1 : j ≤ m) (ha : (a = none ∧ c = 0) ∨ ∃ b o, a = some ⟨b, o, none⟩) (hmc : m ≤ c) :
    Yd P (.slice X x (some lo) none none) T ρ A fs (.slice (cutA a c j.toNat k) (m - j.toNat) (c - j.toNat)) := by
  rcases ha with ⟨rfl, rfl⟩ | ⟨b, o, rfl⟩
  · have e1 : m = 0 := by omega
    have e2 : j = 0 := by omega
    subst e1 e2
    intro w _
    simp only [dummy, execOp, Instr.sliceAt, Instr.slice, hx, hj, Sem.run_bind, h.run, Result.andThen_ok, Option.map_some, Option.map_none, Instr.sliceBounds, Instr.sliceBound, asIntOf, Sem.run_pure, h.size, cutA]
    rfl
  · have := Yd.sliceL (P := P) (T := T) (A := A) (fs := fs) (X := X) (x := x) (lo := lo) hx hj h0 h1
    simpa only [cutA, Option.map_some] using this
theorem RdL.cut {h : Hp} (r : RdL enc k h (.slice a m c) l) (j : Nat) (hj : j ≤ l.length) : RdL enc k h (.slice (cutA a c j k) (m - j) (c - j)) (l.drop j) := by
  obtain ⟨e, h1, h2⟩ := r.len
  by_cases h0 : 0 < l.length
  · obtain ⟨b, o, rfl, _⟩ := r.row h0
    have := r.drop j hj rfl
    simpa only [cutA, Option.map_some] using this
  · have : l = [] := List.eq_nil_of_length_eq_zero (by omega)
    subst this
    simp only [List.length_nil, Nat.le_zero_eq] at hj e
    subst hj e
    simpa using RdL.nil h k _ _
theorem RdL.ad {h : Hp} (r : RdL enc k h (.slice a m c) l) (hz : a = none ∨ ∃ b o, a = some ⟨b, o, none⟩) (hc : a = none → c = 0) : (a = none ∧ c = 0) ∨ ∃ b o, a = some ⟨b, o, none⟩ := by
  rcases hz with h | h
  · exact .inl ⟨h, hc h⟩
  · exact .inr h
/-- x[:y] of a list that is read -/
theorem LJ.slHA {d : Nat} {X E : TypeId} {zero : List Value} {x y : Operand} {j : Int} [TyElem P X E k zero] (hd : Nat.blt d n = true) (hr : RdL enc k A.h (.slice a m c) l) (hx : ev ρ x = .slice a m c) (hy : ev ρ y = vI j) (hj : 0 ≤ j) (hm : j ≤ l.length) (hc : a = none → c = 0) (hs : ∀ q, a = some q → q.spot = none)
    (kk : ∀ m', m' = j.toNat → RdL enc k A.h (.slice a m' c) (l.take m') → LJ P n ops r (upd ρ d (.slice a m' c)) A fs Q) : LJ P n ops (⟨some d, .slice X x none (some y) none, T, pos, af, none⟩ :: r) ρ A fs Q :=
  LJ.yd hd (Yd.sliceH hx hy hj (by have := hr.len; omega) hc hs) (kk _ rfl (hr.take _ (by omega)))
/-- x[y:] of a list that is read -/
theorem LJ.slLA {d : Nat} {X E : TypeId} {zero : List Value} {x y : Operand} {j : Int} [TyElem P X E k zero] (hd : Nat.blt d n = true) (hr : RdL enc k A.h (.slice a m c) l) (hx : ev ρ x = .slice a m c) (hy : ev ρ y = vI j) (hj : 0 ≤ j) (hm : j ≤ l.length) (hc : (a = none ∧ c = 0) ∨ ∃ b o, a = some ⟨b, o, none⟩)
    (kk : ∀ a' m' c', m' = l.length - j.toNat → RdL enc k A.h (.slice a' m' c') (l.drop j.toNat) → LJ P n ops r (upd ρ d (.slice a' m' c')) A fs Q) : LJ P n ops (⟨some d, .slice X x (some y) none none, T, pos, af, none⟩ :: r) ρ A fs Q :=
  LJ.yd hd (Yd.slL hx hy hj (by have := hr.len; omega) hc (by have := hr.len; omega)) (kk _ _ _ (by rw [hr.len.1]) (hr.cut _ (by omega)))
/-- x[:y] of a list that is owned -/
theorem LJ.slHR {d : Nat} {X E E' : TypeId} {zero : List Value} {x y : Operand} {j : Int} [TyElem P X E k zero] (i : Nat) (hi : fs[i]? = some (LR enc E' k a c l)) (hd : Nat.blt d n = true) (hx : ev ρ x = .slice a m c) (hy : ev ρ y = vI j) (hj : 0 ≤ j) (hm : j ≤ l.length)
    (kk : ∀ m', m' = j.toNat → (∀ h, RdL enc k h (.slice a l.length c) l → RdL enc k h (.slice a m' c) (l.take m')) → LJ P n ops r (upd ρ d (.slice a m' c)) A fs Q) : LJ P n ops (⟨some d, .slice X x none (some y) none, T, pos, af, none⟩ :: r) ρ A fs Q :=
  LJ.know i hi (fun _ r => (⟨Row.le_cap r, Row.none_cap r, Row.spot r⟩ : (l.map enc).length ≤ c ∧ (a = none → c = 0) ∧ ∀ q, a = some q → q.spot = none)) fun ⟨h1, h2, h3⟩ =>
    LJ.yd hd (Yd.sliceH hx hy hj (by rw [List.length_map] at h1; omega) h2 h3) (kk _ rfl fun _ r => r.take _ (by omega))
/-- x[y:] of a list that is owned -/
theorem LJ.slLR {d : Nat} {X E E' : TypeId} {zero : List Value} {x y : Operand} {j : Int} [TyElem P X E k zero] (i : Nat) (hi : fs[i]? = some (LR enc E' k a c l)) (hd : Nat.blt d n = true) (hx : ev ρ x = .slice a m c) (hy : ev ρ y = vI j) (hj : 0 ≤ j) (hm : j ≤ l.length) (hml : m = l.length)
    (kk : ∀ a' m' c', m' = l.length - j.toNat → (∀ h, RdL enc k h (.slice a l.length c) l → RdL enc k h (.slice a' m' c') (l.drop j.toNat)) → LJ P n ops r (upd ρ d (.slice a' m' c')) A fs Q) : LJ P n ops (⟨some d, .slice X x (some y) none none, T, pos, af, none⟩ :: r) ρ A fs Q :=
  LJ.know i hi (fun _ r => (⟨Row.le_cap r, (by
      rcases r.2 with ⟨h1, h2, _⟩ | ⟨g, _, h1, _⟩
      · exact .inl ⟨h1, h2⟩
      · exact .inr ⟨g, 0, h1⟩)⟩ : (l.map enc).length ≤ c ∧ ((a = none ∧ c = 0) ∨ ∃ b o, a = some ⟨b, o, none⟩))) fun ⟨h1, h2⟩ => by
    rw [List.length_map] at h1
    subst hml
    exact LJ.yd hd (Yd.slL hx hy hj (by omega) h2 h1) (kk _ _ _ rfl fun _ r => r.cut _ (by omega))
/-- make -/
theorem OpR.mk {X E : TypeId} {zero : List Value} {y y' : Operand} {m : Nat} (z : α) [h : TyElem P X E k zero] (hz : enc z = zero) (hy : ev ρ y = .int .i64 m) (hy' : ev ρ y' = .int .i64 m) (hb : m ≤ 1099511627776) :
    OpR P (.makeSlice X y y') T ρ A fs (fun v fs' => ∃ g, v = .slice (some ⟨g, 0, none⟩) m m ∧ fs' = fs ++ [LR enc E k (some ⟨g, 0, none⟩) m (List.replicate m z)]) := by
  have := OpR.makeSlice (P := P) (T := T) (A := A) (fs := fs) (X := X) hy hy' (Nat.le_refl m) hb
  simpa only [LR, List.map_replicate, hz] using this
theorem LJ.ldAB {d : Nat} {X : TypeId} {x : Operand} {b o off j : Nat} [TyCell P X] (q : Nat) (F : α → Bool) (hf : ∀ u, (enc u)[q]? = some (.bool (F u))) (hr : RowAt A.h k b o (l.map enc)) (hx : ev ρ x = .pointer (some ⟨b, off, none⟩)) (ho : off = o + j * k + q) (hd : Nat.blt d n = true) (hj : j < l.length)
    (k1 : ∀ u, l[j]? = some u → F u = true → LJ P n ops r (upd ρ d (.bool true)) A fs Q) (k2 : ∀ u, l[j]? = some u → F u = false → LJ P n ops r (upd ρ d (.bool false)) A fs Q) : LJ P n ops (⟨some d, .load X x, T, pos, af, none⟩ :: r) ρ A fs Q :=
  let ⟨u, hu⟩ := someC hj; LJ.split hd (Yd.ldA q (fun u => .bool (F u)) hf hr hx ho hu) (k1 u hu) (k2 u hu)
theorem LJ.ldRB {d : Nat} {X E : TypeId} {x : Operand} {b off j : Nat} [TyCell P X] (i q : Nat) (F : α → Bool) (hf : ∀ u, (enc u)[q]? = some (.bool (F u))) (hi : fs[i]? = some (LR enc E k a c l)) (ha : a = some ⟨b, 0, none⟩) (hx : ev ρ x = .pointer (some ⟨b, off, none⟩)) (ho : off = 0 + j * k + q) (hd : Nat.blt d n = true) (hj : j < l.length)
    (k1 : ∀ u, l[j]? = some u → F u = true → LJ P n ops r (upd ρ d (.bool true)) A fs Q) (k2 : ∀ u, l[j]? = some u → F u = false → LJ P n ops r (upd ρ d (.bool false)) A fs Q) : LJ P n ops (⟨some d, .load X x, T, pos, af, none⟩ :: r) ρ A fs Q :=
  let ⟨u, hu⟩ := someC hj; LJ.split hd (Yd.ldR i q (fun u => .bool (F u)) hf hi ha hx ho hu) (k1 u hu) (k2 u hu)
theorem DJ.ldAB {i d : Nat} {X : TypeId} {x : Operand} (hi : ops[i]? = some ⟨some d, .load X x, T, pos, af, g⟩)
    (hs : Region.noSelect ops = true) (hf' : Region.free .any ops listed i = true) (hrd : (Region.ready .any ops listed).contains i = true) (hg : wantE ops ρ g = true) (hd : Nat.blt d n = true)
    {b o off j : Nat} [TyCell P X] (q : Nat) (F : α → Bool) (hf : ∀ u, (enc u)[q]? = some (.bool (F u))) (hr : RowAt A.h k b o (l.map enc)) (hx : ev ρ x = .pointer (some ⟨b, off, none⟩)) (ho : off = o + j * k + q) (hj : j < l.length)
    (k1 : ∀ u, l[j]? = some u → F u = true → DJ P n ops (upd ρ d (.bool true)) A fix fs (listed.setIfInBounds i true) fuel Q) (k2 : ∀ u, l[j]? = some u → F u = false → DJ P n ops (upd ρ d (.bool false)) A fix fs (listed.setIfInBounds i true) fuel Q) : DJ P n ops ρ A fix fs listed (fuel + 1) Q :=
  let ⟨u, hu⟩ := someC hj; DJ.split i hi hs hf' hrd hg hd (Yd.ldA q (fun u => .bool (F u)) hf hr hx ho hu) (k1 u hu) (k2 u hu)
theorem DJ.ldFB {i d : Nat} {X E : TypeId} {x : Operand} (hi : ops[i]? = some ⟨some d, .load X x, T, pos, af, g⟩)
    (hs : Region.noSelect ops = true) (hf' : Region.free .any ops listed i = true) (hrd : (Region.ready .any ops listed).contains i = true) (hg : wantE ops ρ g = true) (hd : Nat.blt d n = true)
    {b off j : Nat} [TyCell P X] (e q : Nat) (F : α → Bool) (hf : ∀ u, (enc u)[q]? = some (.bool (F u))) (he : fix[e]? = some (LR enc E k a c l)) (ha : a = some ⟨b, 0, none⟩) (hx : ev ρ x = .pointer (some ⟨b, off, none⟩)) (ho : off = 0 + j * k + q) (hj : j < l.length)
    (k1 : ∀ u, l[j]? = some u → F u = true → DJ P n ops (upd ρ d (.bool true)) A fix fs (listed.setIfInBounds i true) fuel Q) (k2 : ∀ u, l[j]? = some u → F u = false → DJ P n ops (upd ρ d (.bool false)) A fix fs (listed.setIfInBounds i true) fuel Q) : DJ P n ops ρ A fix fs listed (fuel + 1) Q :=
  let ⟨u, hu⟩ := someC hj; DJ.split i hi hs hf' hrd hg hd (Yd.ldR e q (fun u => .bool (F u)) hf he ha hx ho hu) (k1 u hu) (k2 u hu)
/-! ## what is handed back -/
theorem Fin.ofRet {A0 : Amb} {rs : Array ResultVar} {R : Value → List HProp → Prop} (h : Fin P rs R A0 .ret ρ A fs) : Fin P rs R A0 .normal ρ A fs := ⟨.inr rfl, h.2⟩
theorem Fin.RL {E : TypeId} {A0 : Amb} [AmbLe A0 A] {rs : Array ResultVar} {l' : List α} (i : Nat) (h : Res P rs ρ A fs (.slice a m c)) (hi : fs[i]? = some (LR enc E k a c l')) (hm : m = l'.length) (e : l' = l) : Fin P rs (RLP enc E k l) A0 .ret ρ A fs := by
  subst e; subst hm
  refine Fin.R [LR enc E k a c l'] h ⟨a, c, rfl, rfl⟩ fun w s => ?_
  obtain ⟨ok, q, s', l, d⟩ := s
  obtain ⟨q1, hq, lq⟩ := s'.get hi
  exact St.weak ⟨ok, q1, ⟨q1, fun _ => none, hq, trivial, fun _ => .inr rfl, Hp.Le.refl _, Hp.none_le _⟩, lq.trans l, d.mono (Hp.Le.refl _) lq⟩
theorem Fin.RS {E : TypeId} {A0 : Amb} [AmbLe A0 A] {rs : Array ResultVar} {b : Nat} {cs : List Value} (i : Nat) (us : List α) (h : Res P rs ρ A fs (.slice (some ⟨b, 0, none⟩) m c)) (hi : fs[i]? = some (Cel b E cs)) (hf : (us.map enc).flatten = cs) (hk : ((us.map enc).all fun cs => Nat.beq cs.length k) = true) (hn : Nat.beq us.length m = true) (hm : (Nat.beq m c && Nat.ble m 1099511627776) = true) (e : us = l) : Fin P rs (RLP enc E k l) A0 .ret ρ A fs := by
  subst e
  simp only [Bool.and_eq_true] at hm
  have e1 := Nat.eq_of_beq_eq_true hn
  have e2 := Nat.eq_of_beq_eq_true hm.1
  subst e1 e2
  refine Fin.R [LR enc E k (some ⟨b, 0, none⟩) us.length us] h ⟨some ⟨b, 0, none⟩, us.length, rfl, rfl⟩ fun w s => ?_
  obtain ⟨ok, q, s', l, d⟩ := s
  obtain ⟨q1, hq, lq⟩ := s'.get hi
  have hq' : LR enc E k (some ⟨b, 0, none⟩) us.length us q1 := Cel.lr us hf hk (List.length_map _) hm.2 hq
  exact St.weak ⟨ok, q1, ⟨q1, fun _ => none, hq', trivial, fun _ => .inr rfl, Hp.Le.refl _, Hp.none_le _⟩, lq.trans l, d.mono (Hp.Le.refl _) lq⟩
theorem Fin.RN {E : TypeId} {A0 : Amb} [AmbLe A0 A] {rs : Array ResultVar} (h : Res P rs ρ A fs (.slice none 0 0)) (e : [] = l) : Fin P rs (RLP enc E k l) A0 .ret ρ A fs := by
  subst e
  refine Fin.R [LR enc E k none 0 []] h ⟨none, 0, rfl, rfl⟩ fun w s => ?_
  exact St.weak ⟨s.1, fun _ => none, ⟨fun _ => none, fun _ => none, Row.nil _ _ _, trivial, fun _ => .inr rfl, Hp.Le.refl _, Hp.none_le _⟩, Hp.none_le _, fun _ => .inr rfl⟩
end
end Go.Proofs.Ytlpjienaennmaaa
