/-
  Arrays of things of one cell: elements read and stored.
-/
import Derived.Test.YtlpjienaennmaaaLK
namespace Go.Proofs.Ytlpjienaennmaaa
open Go
section
variable {P : Program} {n : Nat} {ops : Array Oper} {r : List Oper} {T : TypeId} {ρ : Env} {A : Amb} {fs fix : List HProp} {Q : NPost} {pos : String} {af : Array Edge} {g : Option (Nat × Bool)} {listed : Array Bool} {fuel : Nat}
variable {α : Type} {e1 : α → Value} {l : List α}
theorem Yd.idxArr {X E : TypeId} {x y : Operand} {b o k m : Nat} {j : Int} [h : TyUnd P X (.array m E)] [hk : TySize P E k] (hx : ev ρ x = .pointer (some ⟨b, o, none⟩)) (hy : ev ρ y = vI j) (h0 : 0 ≤ j) (h1 : j < m) :
    Yd P (.indexAddr X x y) T ρ A fs (.pointer (some ⟨b, o + j.toNat * k, none⟩)) := fun w _ => by
  simp [dummy, execOp, Instr.indexAt, hx, hy, asIntOf, h.run, hk.size, h0, h1, add_lit, Instr.sureAddr]
theorem Yd.ldM {X Y : TypeId} {x : Operand} {b off j : Nat} {u : α} [TyCell P X] (i : Nat) (hi : fs[i]? = some (Cel b Y (l.map e1))) (hx : ev ρ x = .pointer (some ⟨b, off, none⟩)) (ho : off = 0 + j * 1) (hu : l[j]? = some u) : Yd P (.load X x) T ρ A fs (e1 u) :=
  Yd.loadC i hx hi (by rw [ho, List.getElem?_map, show 0 + j * 1 = j by omega, hu]; rfl)
theorem Yd.lgM {X Y : TypeId} {x : Operand} {b k : Nat} [TyAgg P X k] (i : Nat) (hi : fs[i]? = some (Cel b Y (l.map e1))) (hx : ev ρ x = .pointer (some ⟨b, 0, none⟩)) (hk : l.length = k) : Yd P (.load X x) T ρ A fs (.agg (l.map e1).toArray) :=
  Yd.loadG i hx hi (by rw [List.drop_zero, List.take_of_length_le (by rw [List.length_map]; omega)]) (by rw [List.length_map]; exact hk)
theorem LJ.ldM {d : Nat} {X Y : TypeId} {x : Operand} {b off j : Nat} [TyCell P X] (i : Nat) (hi : fs[i]? = some (Cel b Y (l.map e1))) (hx : ev ρ x = .pointer (some ⟨b, off, none⟩)) (ho : off = 0 + j * 1) (hd : Nat.blt d n = true) (hj : j < l.length)
    (kk : ∀ u, l[j]? = some u → LJ P n ops r (upd ρ d (e1 u)) A fs Q) : LJ P n ops (⟨some d, .load X x, T, pos, af, none⟩ :: r) ρ A fs Q :=
  let ⟨u, hu⟩ := someC hj; LJ.yd hd (Yd.ldM i hi hx ho hu) (kk u hu)
theorem LJ.ldMB {d : Nat} {X Y : TypeId} {x : Operand} {b off j : Nat} {F : α → Bool} [TyCell P X] (i : Nat) (hi : fs[i]? = some (Cel b Y (l.map fun u => .bool (F u)))) (hx : ev ρ x = .pointer (some ⟨b, off, none⟩)) (ho : off = 0 + j * 1) (hd : Nat.blt d n = true) (hj : j < l.length)
    (k1 : ∀ u, l[j]? = some u → F u = true → LJ P n ops r (upd ρ d (.bool true)) A fs Q) (k2 : ∀ u, l[j]? = some u → F u = false → LJ P n ops r (upd ρ d (.bool false)) A fs Q) : LJ P n ops (⟨some d, .load X x, T, pos, af, none⟩ :: r) ρ A fs Q :=
  let ⟨u, hu⟩ := someC hj; LJ.split hd (Yd.ldM (e1 := fun u => .bool (F u)) i hi hx ho hu) (k1 u hu) (k2 u hu)
theorem DO.ldM {i d : Nat} {X Y : TypeId} {x : Operand} {b off j : Nat} (hi : ops[i]? = some ⟨some d, .load X x, T, pos, af, g⟩) (hg : wantE ops ρ g = true) (hd : Nat.blt d n = true) [TyCell P X] (e : Nat) (he : fs[e]? = some (Cel b Y (l.map e1))) (hx : ev ρ x = .pointer (some ⟨b, off, none⟩)) (ho : off = 0 + j * 1) (hj : j < l.length)
    (kk : ∀ u, l[j]? = some u → DJ P n ops (upd ρ d (e1 u)) A fix fs (listed.setIfInBounds i true) fuel Q) : DO P n ops ρ A fix fs listed fuel Q i :=
  let ⟨u, hu⟩ := someC hj; DO.yd hi hg hd (fun _ _ _ => Yd.ldM e he hx ho hu) (kk u hu)
theorem DJ.ldM {i d : Nat} {X Y : TypeId} {x : Operand} {b off j : Nat} (hi : ops[i]? = some ⟨some d, .load X x, T, pos, af, g⟩)
    (hs : Region.noSelect ops = true) (hf' : Region.free .any ops listed i = true) (hrd : (Region.ready .any ops listed).contains i = true) (hg : wantE ops ρ g = true) (hd : Nat.blt d n = true) [TyCell P X] (e : Nat) (he : fix[e]? = some (Cel b Y (l.map e1))) (hx : ev ρ x = .pointer (some ⟨b, off, none⟩)) (ho : off = 0 + j * 1) (hj : j < l.length)
    (kk : ∀ u, l[j]? = some u → DJ P n ops (upd ρ d (e1 u)) A fix fs (listed.setIfInBounds i true) fuel Q) : DJ P n ops ρ A fix fs listed (fuel + 1) Q :=
  let ⟨u, hu⟩ := someC hj; DJ.yd i hi hs hf' hrd hg hd (Yd.ldM e he hx ho hu) (kk u hu)
theorem OpR.stM {X Y : TypeId} {x y : Operand} {b off j : Nat} {u' : α} [TySize P Y 1] (i : Nat) (ho1 : ∀ u, (e1 u).cells = #[e1 u]) (hoc : ∀ u, (e1 u).oneCell' = true) (hi : fs[i]? = some (Cel b X (l.map e1))) (hx : ev ρ x = .pointer (some ⟨b, off, none⟩)) (hy : ev ρ y = e1 u')
    (ho : off = 0 + j * 1) (hj : j < l.length) : OpR P (.store Y x y) T ρ A fs (fun v' fs' => v' = undef ∧ fs' = fs.set i (Cel b X ((l.set j u').map e1))) := by
  have e : off = j := by omega
  subst e
  have := OpR.store (P := P) (T := T) (A := A) (Y := Y) i hx hy hi (by rw [ho1]; rfl) (by rw [ho1]; simp [hoc]) (by rw [List.length_map]; omega)
  refine OpR.imp this fun v gs ⟨h1, h2⟩ => ⟨h1, h2.trans ?_⟩
  congr 2
  rw [ho1, List.map_set, List.set_eq_take_append_cons_drop, if_pos (by rw [List.length_map]; exact hj)]
  simp
/-- an element of an array's value -/
theorem LJ.ixV {d : Nat} {X E : TypeId} {x y : Operand} {m : Nat} {j : Int} [h : TyUnd P X (.array m E)] [hk : TySize P E 1] [hc : TyCell P E] (hd : Nat.blt d n = true) (hx : ev ρ x = .agg (l.map e1).toArray) (hy : ev ρ y = vI j) (h0 : 0 ≤ j) (h1 : j < m) (hm : l.length = m)
    (kk : ∀ u, l[j.toNat]? = some u → LJ P n ops r (upd ρ d (e1 u)) A fs Q) : LJ P n ops (⟨some d, .index X x y, T, pos, af, none⟩ :: r) ρ A fs Q := by
  obtain ⟨u, hu⟩ := someC (l := l) (j := j.toNat) (by omega)
  refine LJ.yd hd (v := e1 u) (fun w _ => ?_) (kk u hu)
  simp [dummy, execOp, Instr.index, hx, hy, asIntOf, h.run, hk.size, h0, h1, part, hc.agg, hu]
/-- an array that is read -/
abbrev RdM (e1 : α → Value) (h : Hp) (b : Nat) (l : List α) : Prop := ∀ (j : Nat) (u : α), l[j]? = some u → h.cell ⟨b, j, none⟩ = some (e1 u)
theorem RdM.up {A B : Amb} [AmbLe A B] {b : Nat} (r : RdM e1 A.h b l) : RdM e1 B.h b l := fun j u h => Hp.cell_le Go.Proofs.Ytlpjienaennmaaa.up (r j u h)
theorem Sts.celM {A : Amb} {fr : List HProp} {k : Hp} {b : Nat} {Y : TypeId} (hk : Sts fr k) (dk : A.h.Dj k) (i : Nat) (hi : fr[i]? = some (Cel b Y (l.map e1))) : RdM e1 (A.ext k).h b l := fun j u hu =>
  Sts.cel hk dk i hi (by rw [List.getElem?_map, hu]; rfl)
theorem Yd.ldMA {X : TypeId} {x : Operand} {b off j : Nat} {u : α} [TyCell P X] (hr : RdM e1 A.h b l) (hx : ev ρ x = .pointer (some ⟨b, off, none⟩)) (ho : off = 0 + j * 1) (hu : l[j]? = some u) : Yd P (.load X x) T ρ A fs (e1 u) :=
  Yd.load hx (Rdc.amb (by rw [ho, show 0 + j * 1 = j by omega]; exact hr j u hu))
theorem LJ.ldMA {d : Nat} {X : TypeId} {x : Operand} {b off j : Nat} [TyCell P X] (hr : RdM e1 A.h b l) (hx : ev ρ x = .pointer (some ⟨b, off, none⟩)) (ho : off = 0 + j * 1) (hd : Nat.blt d n = true) (hj : j < l.length)
    (kk : ∀ u, l[j]? = some u → LJ P n ops r (upd ρ d (e1 u)) A fs Q) : LJ P n ops (⟨some d, .load X x, T, pos, af, none⟩ :: r) ρ A fs Q :=
  let ⟨u, hu⟩ := someC hj; LJ.yd hd (Yd.ldMA hr hx ho hu) (kk u hu)
theorem LJ.ldMAB {d : Nat} {X : TypeId} {x : Operand} {b off j : Nat} {F : α → Bool} [TyCell P X] (hr : RdM (fun u => .bool (F u)) A.h b l) (hx : ev ρ x = .pointer (some ⟨b, off, none⟩)) (ho : off = 0 + j * 1) (hd : Nat.blt d n = true) (hj : j < l.length)
    (k1 : ∀ u, l[j]? = some u → F u = true → LJ P n ops r (upd ρ d (.bool true)) A fs Q) (k2 : ∀ u, l[j]? = some u → F u = false → LJ P n ops r (upd ρ d (.bool false)) A fs Q) : LJ P n ops (⟨some d, .load X x, T, pos, af, none⟩ :: r) ρ A fs Q :=
  let ⟨u, hu⟩ := someC hj; LJ.split hd (Yd.ldMA (e1 := fun u => .bool (F u)) hr hx ho hu) (k1 u hu) (k2 u hu)
theorem DJ.ldMA {i d : Nat} {X : TypeId} {x : Operand} {b off j : Nat} (hi : ops[i]? = some ⟨some d, .load X x, T, pos, af, g⟩)
    (hs : Region.noSelect ops = true) (hf' : Region.free .any ops listed i = true) (hrd : (Region.ready .any ops listed).contains i = true) (hg : wantE ops ρ g = true) (hd : Nat.blt d n = true) [TyCell P X] (hr : RdM e1 A.h b l) (hx : ev ρ x = .pointer (some ⟨b, off, none⟩)) (ho : off = 0 + j * 1) (hj : j < l.length)
    (kk : ∀ u, l[j]? = some u → DJ P n ops (upd ρ d (e1 u)) A fix fs (listed.setIfInBounds i true) fuel Q) : DJ P n ops ρ A fix fs listed (fuel + 1) Q :=
  let ⟨u, hu⟩ := someC hj; DJ.yd i hi hs hf' hrd hg hd (Yd.ldMA hr hx ho hu) (kk u hu)
end
end Go.Proofs.Ytlpjienaennmaaa
