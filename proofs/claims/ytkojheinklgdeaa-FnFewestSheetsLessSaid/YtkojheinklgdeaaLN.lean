/-
  Elements of rows of a list of lists, read where they lie.
-/
import Derived.Test.YtkojheinklgdeaaLL
namespace Go.Proofs.Ytkojheinklgdeaa
open Go
section
variable {P : Program} {n : Nat} {ops : Array Oper} {r : List Oper} {T : TypeId} {ρ : Env} {A : Amb} {fs fix : List HProp} {Q : NPost} {pos : String} {af : Array Edge} {g : Option (Nat × Bool)} {listed : Array Bool} {fuel : Nat}
variable {α : Type} {enc : α → List Value} {k m : Nat} {xs : List (Rw α)} {w : Rw α} {E : TypeId} {p : Nat}
theorem INN.someL {h : Hp} (hw : xs[p]? = some w) (h0 : 0 < w.l.length) (s : INN (rowOf enc E k) xs h) : ∃ g, w.a = some ⟨g, 0, none⟩ := by
  obtain ⟨q, hq, _⟩ := INN.get hw s
  exact Row.someL hq h0
theorem INN.rdc {b off j jj : Nat} {u : α} {v : Value} (i : Nat) (hi : fs[i]? = some (INN (rowOf enc E k) xs)) (hw : xs[p]? = some w) (ha : w.a = some ⟨b, 0, none⟩) (hu : w.l[j]? = some u) (hj : (enc u)[jj]? = some v) (ho : off = j * k + jj) : Rdc A fs ⟨b, off, none⟩ v :=
  Rdc.own i hi fun _ h => by
    obtain ⟨q, hq, lq⟩ := INN.get hw h
    subst ho
    have hq' : Row E k w.a w.c (w.l.map enc) q := hq
    rw [ha] at hq'
    exact Hp.cell_le lq (Row.cell hq' (by rw [List.getElem?_map, hu]; rfl) hj)
theorem Yd.ldN {X : TypeId} {x : Operand} {b off j : Nat} {u : α} [TyCell P X] (i q : Nat) (f : α → Value) (hf : ∀ u, (enc u)[q]? = some (f u)) (hi : fs[i]? = some (INN (rowOf enc E k) xs)) (hw : xs[p]? = some w) (ha : w.a = some ⟨b, 0, none⟩) (hx : ev ρ x = .pointer (some ⟨b, off, none⟩)) (ho : off = 0 + j * k + q) (hu : w.l[j]? = some u) :
    Yd P (.load X x) T ρ A fs (f u) := Yd.load hx (INN.rdc i hi hw ha hu (hf u) (by omega))
theorem LJ.idxN {d : Nat} {X E' : TypeId} {x y : Operand} {j : Int} {c : Nat} [TyUnd P X (.slice E')] [TySize P E' k] (q : Nat) (hq : fs[q]? = some (INN (rowOf enc E k) xs)) (hw : xs[p]? = some w) (hd : Nat.blt d n = true) (hx : ev ρ x = .slice w.a w.l.length c) (hy : ev ρ y = vI j) (hj : 0 ≤ j) (hl : j < w.l.length)
    (kk : ∀ b, w.a = some ⟨b, 0, none⟩ → LJ P n ops r (upd ρ d (.pointer (some ⟨b, 0 + j.toNat * k, none⟩))) A fs Q) : LJ P n ops (⟨some d, .indexAddr X x y, T, pos, af, none⟩ :: r) ρ A fs Q :=
  LJ.know q hq (fun _ r => INN.someL hw (by omega) r) fun ⟨b, ha⟩ => LJ.yd hd (Yd.idx ha hx hy hj hl) (kk b ha)
theorem DJ.idxN {d : Nat} {X E' : TypeId} {x y : Operand} {j : Int} {c : Nat} [TyUnd P X (.slice E')] [TySize P E' k] (q : Nat) (hq : fix[q]? = some (INN (rowOf enc E k) xs)) (hw : xs[p]? = some w) (i : Nat) (hi : ops[i]? = some ⟨some d, .indexAddr X x y, T, pos, af, g⟩)
    (hs : Region.noSelect ops = true) (hf : Region.free .any ops listed i = true) (hrd : (Region.ready .any ops listed).contains i = true) (hg : wantE ops ρ g = true) (hd : Nat.blt d n = true) (hx : ev ρ x = .slice w.a w.l.length c) (hy : ev ρ y = vI j) (hj : 0 ≤ j) (hl : j < w.l.length)
    (kk : ∀ b, w.a = some ⟨b, 0, none⟩ → DJ P n ops (upd ρ d (.pointer (some ⟨b, 0 + j.toNat * k, none⟩))) A fix fs (listed.setIfInBounds i true) fuel Q) : DJ P n ops ρ A fix fs listed (fuel + 1) Q :=
  DJ.knowF q hq (fun _ r => INN.someL hw (by omega) r) fun ⟨b, ha⟩ => DJ.yd i hi hs hf hrd hg hd (Yd.idx ha hx hy hj hl) (kk b ha)
theorem DJ.idxNR {d : Nat} {X E' : TypeId} {x y : Operand} {j : Int} {c : Nat} [TyUnd P X (.slice E')] [TySize P E' k] (q : Nat) (hq : fs[q]? = some (INN (rowOf enc E k) xs)) (hw : xs[p]? = some w) (i : Nat) (hi : ops[i]? = some ⟨some d, .indexAddr X x y, T, pos, af, g⟩)
    (hs : Region.noSelect ops = true) (hf : Region.free .any ops listed i = true) (hrd : (Region.ready .any ops listed).contains i = true) (hg : wantE ops ρ g = true) (hd : Nat.blt d n = true) (hx : ev ρ x = .slice w.a w.l.length c) (hy : ev ρ y = vI j) (hj : 0 ≤ j) (hl : j < w.l.length)
    (kk : ∀ b, w.a = some ⟨b, 0, none⟩ → DJ P n ops (upd ρ d (.pointer (some ⟨b, 0 + j.toNat * k, none⟩))) A fix fs (listed.setIfInBounds i true) fuel Q) : DJ P n ops ρ A fix fs listed (fuel + 1) Q :=
  DJ.know q hq (fun _ r => INN.someL hw (by omega) r) fun ⟨b, ha⟩ => DJ.yd i hi hs hf hrd hg hd (Yd.idx ha hx hy hj hl) (kk b ha)
theorem LJ.ldN {d : Nat} {X : TypeId} {x : Operand} {b off j : Nat} [TyCell P X] (i q : Nat) (f : α → Value) (hf : ∀ u, (enc u)[q]? = some (f u)) (hi : fs[i]? = some (INN (rowOf enc E k) xs)) (hw : xs[p]? = some w) (ha : w.a = some ⟨b, 0, none⟩) (hx : ev ρ x = .pointer (some ⟨b, off, none⟩)) (ho : off = 0 + j * k + q) (hd : Nat.blt d n = true) (hj : j < w.l.length)
    (kk : ∀ u, w.l[j]? = some u → LJ P n ops r (upd ρ d (f u)) A fs Q) : LJ P n ops (⟨some d, .load X x, T, pos, af, none⟩ :: r) ρ A fs Q :=
  let ⟨u, hu⟩ := someC hj; LJ.yd hd (Yd.ldN i q f hf hi hw ha hx ho hu) (kk u hu)
theorem LJ.ldNB {d : Nat} {X : TypeId} {x : Operand} {b off j : Nat} [TyCell P X] (i q : Nat) (F : α → Bool) (hf : ∀ u, (enc u)[q]? = some (.bool (F u))) (hi : fs[i]? = some (INN (rowOf enc E k) xs)) (hw : xs[p]? = some w) (ha : w.a = some ⟨b, 0, none⟩) (hx : ev ρ x = .pointer (some ⟨b, off, none⟩)) (ho : off = 0 + j * k + q) (hd : Nat.blt d n = true) (hj : j < w.l.length)
    (k1 : ∀ u, w.l[j]? = some u → F u = true → LJ P n ops r (upd ρ d (.bool true)) A fs Q) (k2 : ∀ u, w.l[j]? = some u → F u = false → LJ P n ops r (upd ρ d (.bool false)) A fs Q) : LJ P n ops (⟨some d, .load X x, T, pos, af, none⟩ :: r) ρ A fs Q :=
  let ⟨u, hu⟩ := someC hj; LJ.split hd (Yd.ldN i q (fun u => .bool (F u)) hf hi hw ha hx ho hu) (k1 u hu) (k2 u hu)
theorem DJ.ldN {i d : Nat} {X : TypeId} {x : Operand} (hi : ops[i]? = some ⟨some d, .load X x, T, pos, af, g⟩)
    (hs : Region.noSelect ops = true) (hf' : Region.free .any ops listed i = true) (hrd : (Region.ready .any ops listed).contains i = true) (hg : wantE ops ρ g = true) (hd : Nat.blt d n = true)
    {b off j : Nat} [TyCell P X] (e q : Nat) (f : α → Value) (hf : ∀ u, (enc u)[q]? = some (f u)) (he : fix[e]? = some (INN (rowOf enc E k) xs)) (hw : xs[p]? = some w) (ha : w.a = some ⟨b, 0, none⟩) (hx : ev ρ x = .pointer (some ⟨b, off, none⟩)) (ho : off = 0 + j * k + q) (hj : j < w.l.length)
    (kk : ∀ u, w.l[j]? = some u → DJ P n ops (upd ρ d (f u)) A fix fs (listed.setIfInBounds i true) fuel Q) : DJ P n ops ρ A fix fs listed (fuel + 1) Q :=
  let ⟨u, hu⟩ := someC hj; DJ.yd i hi hs hf' hrd hg hd (Yd.ldN e q f hf he hw ha hx ho hu) (kk u hu)
theorem DJ.ldNB {i d : Nat} {X : TypeId} {x : Operand} (hi : ops[i]? = some ⟨some d, .load X x, T, pos, af, g⟩)
    (hs : Region.noSelect ops = true) (hf' : Region.free .any ops listed i = true) (hrd : (Region.ready .any ops listed).contains i = true) (hg : wantE ops ρ g = true) (hd : Nat.blt d n = true)
    {b off j : Nat} [TyCell P X] (e q : Nat) (F : α → Bool) (hf : ∀ u, (enc u)[q]? = some (.bool (F u))) (he : fix[e]? = some (INN (rowOf enc E k) xs)) (hw : xs[p]? = some w) (ha : w.a = some ⟨b, 0, none⟩) (hx : ev ρ x = .pointer (some ⟨b, off, none⟩)) (ho : off = 0 + j * k + q) (hj : j < w.l.length)
    (k1 : ∀ u, w.l[j]? = some u → F u = true → DJ P n ops (upd ρ d (.bool true)) A fix fs (listed.setIfInBounds i true) fuel Q) (k2 : ∀ u, w.l[j]? = some u → F u = false → DJ P n ops (upd ρ d (.bool false)) A fix fs (listed.setIfInBounds i true) fuel Q) : DJ P n ops ρ A fix fs listed (fuel + 1) Q :=
  let ⟨u, hu⟩ := someC hj; DJ.split i hi hs hf' hrd hg hd (Yd.ldN e q (fun u => .bool (F u)) hf he hw ha hx ho hu) (k1 u hu) (k2 u hu)
theorem DO.ldN {i d : Nat} {X : TypeId} {x : Operand} (hi : ops[i]? = some ⟨some d, .load X x, T, pos, af, g⟩) (hg : wantE ops ρ g = true) (hd : Nat.blt d n = true) {b off j : Nat} [TyCell P X] (e q : Nat) (f : α → Value) (hf : ∀ u, (enc u)[q]? = some (f u)) (he : fs[e]? = some (INN (rowOf enc E k) xs)) (hw : xs[p]? = some w) (ha : w.a = some ⟨b, 0, none⟩) (hx : ev ρ x = .pointer (some ⟨b, off, none⟩)) (ho : off = 0 + j * k + q) (hj : j < w.l.length)
    (kk : ∀ u, w.l[j]? = some u → DJ P n ops (upd ρ d (f u)) A fix fs (listed.setIfInBounds i true) fuel Q) : DO P n ops ρ A fix fs listed fuel Q i :=
  let ⟨u, hu⟩ := someC hj; DO.yd hi hg hd (fun _ _ _ => Yd.ldN e q f hf he hw ha hx ho hu) (kk u hu)
end
section
variable {P : Program} {ops : Array Oper} {T : TypeId} {ρ : Env} {A : Amb} {fs : List HProp} {α : Type} {e1 : α → Value}
/-- a whole array is stored -/
theorem OpR.stMW {X Y : TypeId} {x y : Operand} {b m : Nat} {l l' : List α} [TySize P Y m] (i : Nat) (hoc : ∀ u, (e1 u).oneCell' = true) (hx : ev ρ x = .pointer (some ⟨b, 0, none⟩)) (hy : ev ρ y = .agg (l'.map e1).toArray) (hi : fs[i]? = some (Cel b X (l.map e1))) (hl : l.length = m) (hl' : l'.length = m) :
    OpR P (.store Y x y) T ρ A fs (fun v' fs' => v' = undef ∧ fs' = fs.set i (Cel b X (l'.map e1))) := by
  have := OpR.store (P := P) (T := T) (A := A) (Y := Y) i hx hy hi (by simp [Value.cells, hl']) (by
    intro u hu
    simp only [Value.cells, List.mem_map] at hu
    obtain ⟨z, _, rfl⟩ := hu
    exact hoc z) (by rw [List.length_map]; omega)
  refine OpR.imp this fun v gs ⟨h1, h2⟩ => ⟨h1, h2.trans ?_⟩
  congr 2
  simp [Value.cells, hl]
theorem ResV.cellM {t k b : Nat} {X : TypeId} {l : List α} [TyAgg P X k] (i : Nat) (hx : ρ t = .pointer (some ⟨b, 0, none⟩)) {Y : TypeId} (hi : fs[i]? = some (Cel b Y (l.map e1))) (hk : l.length = k) : ResV P (.cell t X) ρ A fs (.agg (l.map e1).toArray) :=
  ResV.cell i hx hi (by rw [List.take_of_length_le (by rw [List.length_map]; omega)]) (by rw [List.length_map]; exact hk)
end
/-- make, the list named -/
theorem OpR.mkL {P : Program} {T : TypeId} {ρ : Env} {A : Amb} {fs : List HProp} {α : Type} {enc : α → List Value} {k : Nat} {X E : TypeId} {zero : List Value} {y y' : Operand} {m : Nat} (z : α) [h : TyElem P X E k zero] (hz : enc z = zero) (hy : ev ρ y = .int .i64 m) (hy' : ev ρ y' = .int .i64 m) (hb : m ≤ 1099511627776) :
    OpR P (.makeSlice X y y') T ρ A fs (fun v fs' => ∃ g Z, Z = List.replicate m z ∧ Z.length = m ∧ v = .slice (some ⟨g, 0, none⟩) Z.length m ∧ fs' = fs ++ [LR enc E k (some ⟨g, 0, none⟩) m Z]) :=
  OpR.imp (OpR.mk z hz hy hy' hb) fun v fs' ⟨g, h1, h2⟩ => ⟨g, List.replicate m z, rfl, by simp, by rw [h1]; simp, h2⟩
end Go.Proofs.Ytkojheinklgdeaa
