/-
  A program logic of heaplets: literals of structs and slices, slices of slices, rows that are owned and grow.
-/
import Derived.Test.YtlpjienaennmaaaV5
namespace Go.Proofs.Ytlpjienaennmaaa
open Go

/-! ## taking one assertion out, and putting one back -/
theorem Sts.take {fs : List HProp} {h : Hp} (s : Sts fs h) {i : Nat} {F : HProp} (hi : fs[i]? = some F) : ∃ k hr, F k ∧ Sts (fs.eraseIdx i) hr ∧ k.Dj hr ∧ k.Le h ∧ hr.Le h := by
  induction fs generalizing h i with
  | nil => cases hi
  | cons G r ih =>
    obtain ⟨h1, h2, a, b, c, d, e⟩ := s
    cases i with
    | zero => cases hi; exact ⟨h1, h2, a, b, c, d, e⟩
    | succ i =>
      obtain ⟨k, hr, x, y, z, u, v⟩ := ih b (by simpa using hi)
      exact ⟨k, h1.un hr, x, ⟨h1, hr, a, y, c.mono (Hp.Le.refl _) v, Hp.le_un_l _ _, Hp.le_un_r (c.mono (Hp.Le.refl _) v)⟩, Hp.Dj.un_r (c.mono (Hp.Le.refl _) u).symm z, u.trans e, Hp.un_le d (v.trans e)⟩
theorem Sts.give {fs : List HProp} {hr k : Hp} {i : Nat} {F G : HProp} (hi : fs[i]? = some F) (s : Sts (fs.eraseIdx i) hr) (g : G k) (d : k.Dj hr) : Sts (fs.set i G) (k.un hr) := by
  induction fs generalizing hr i with
  | nil => cases hi
  | cons H r ih =>
    cases i with
    | zero => exact ⟨k, hr, g, s, d, Hp.le_un_l _ _, Hp.le_un_r d⟩
    | succ i =>
      obtain ⟨h1, h2, a, b, c, u, v⟩ := s
      have := ih (by simpa using hi) b (d.mono (Hp.Le.refl _) v)
      refine ⟨h1, k.un h2, a, this, Hp.Dj.un_r (d.mono (Hp.Le.refl _) u).symm c, u.trans (Hp.le_un_r d), Hp.un_le (Hp.le_un_l _ _) (v.trans (Hp.le_un_r d))⟩
/-- a world in which one assertion's heaplet has been turned, and new blocks may have come -/
theorem St.repl {A : Amb} {w w' : World} {fs : List HProp} (s : St A w fs) {i : Nat} {F G : HProp} (hi : fs[i]? = some F)
    (h1 : w'.os = w.os) (h2 : w'.tape = w.tape) (h3 : w'.output = w.output)
    (step : ∀ k, F k → k.Le (hpOf w) → ∃ k', G k' ∧ k'.Le (hpOf w') ∧ (∀ b, (k' b).isSome → (k b).isSome ∨ w.heap.size ≤ b) ∧ (∀ b o, hpOf w b = some o → k b = none → hpOf w' b = some o)) : St A w' (fs.set i G) := by
  obtain ⟨ok, h, s, l, d⟩ := s
  obtain ⟨k, hr, hF, hs, dj, lk, lr⟩ := s.take hi
  obtain ⟨k', hG, lk', own, keep⟩ := step k hF (lk.trans l)
  have old : ∀ b o, hpOf w b = some o → b < w.heap.size := fun b o hb => by
    unfold hpOf at hb; exact (Array.getElem?_eq_some_iff.1 hb).1
  have out : ∀ m : Hp, m.Le (hpOf w) → k.Dj m → k'.Dj m ∧ m.Le (hpOf w') := fun m lm dm => by
    refine ⟨fun b => ?_, fun b o hb => keep b o (lm b o hb) ((dm b).resolve_right (by simp [hb]))⟩
    cases hk : k' b with
    | none => exact .inl rfl
    | some o =>
      right
      rcases own b (by simp [hk]) with q | q
      · exact (dm b).resolve_left (by intro e; simp [e] at q)
      · cases hm : m b with
        | none => rfl
        | some o' => have := old b o' (lm b o' hm); omega
  have o1 := out hr (lr.trans l) dj
  have o2 := out A.h ok.1 (d.mono (Hp.Le.refl _) lk).symm
  exact ⟨⟨o2.2, h1.trans ok.2.1, h2.trans ok.2.2.1, h3.trans ok.2.2.2⟩, k'.un hr, Sts.give hi hs hG o1.1, Hp.un_le lk' o1.2, Hp.Dj.un_r o2.1.symm (d.mono (Hp.Le.refl _) lr)⟩
/-- what an owned assertion says besides -/
theorem LJ.know {P : Program} {n : Nat} {ops : Array Oper} {l : List Oper} {ρ : Env} {A : Amb} {fs : List HProp} {Q : NPost} {F : HProp} {φ : Prop} (i : Nat) (hi : fs[i]? = some F) (h : ∀ k, F k → φ)
    (kk : φ → LJ P n ops l ρ A fs Q) : LJ P n ops l ρ A fs Q := ⟨fun a w r s => by
  obtain ⟨_, m, s', _, _⟩ := id s
  obtain ⟨k, hk, _⟩ := s'.get hi
  exact (kk (h k hk)).go a w r s⟩
theorem CJ.know {P : Program} {n : Nat} {c : Code} {ρ : Env} {A : Amb} {fs : List HProp} {Q : EPost} {F : HProp} {φ : Prop} (i : Nat) (hi : fs[i]? = some F) (h : ∀ k, F k → φ)
    (kk : φ → CJ P n c ρ A fs Q) : CJ P n c ρ A fs Q := ⟨fun a w r s => by
  obtain ⟨_, m, s', _, _⟩ := id s
  obtain ⟨k, hk, _⟩ := s'.get hi
  exact (kk (h k hk)).go a w r s⟩
/-- an owned assertion is told anew -/
theorem Sts.impAt {fs : List HProp} {h : Hp} {i : Nat} {F G : HProp} (hi : fs[i]? = some F) (f : ∀ k, F k → G k) (s : Sts fs h) : Sts (fs.set i G) h := by
  induction fs generalizing h i with
  | nil => cases hi
  | cons H r ih =>
    obtain ⟨h1, h2, a, b, c⟩ := s
    cases i with
    | zero => cases hi; exact ⟨h1, h2, f _ a, b, c⟩
    | succ i => exact ⟨h1, h2, a, ih (by simpa using hi) b, c⟩
theorem St.impAt {A : Amb} {w : World} {fs : List HProp} {i : Nat} {F G : HProp} (hi : fs[i]? = some F) (f : ∀ k, F k → G k) (s : St A w fs) : St A w (fs.set i G) :=
  ⟨s.1, let ⟨h, a, b⟩ := s.2; ⟨h, Sts.impAt hi f a, b⟩⟩
theorem CJ.imp1 {P : Program} {n : Nat} {c : Code} {ρ : Env} {A : Amb} {fs : List HProp} {Q : EPost} {F G : HProp} (i : Nat) (hi : fs[i]? = some F) (f : ∀ k, F k → G k) (h : CJ P n c ρ A (fs.set i G) Q) : CJ P n c ρ A fs Q :=
  ⟨fun a w r s => h.go a w r (s.impAt hi f)⟩
theorem LJ.imp1 {P : Program} {n : Nat} {ops : Array Oper} {l : List Oper} {ρ : Env} {A : Amb} {fs : List HProp} {Q : NPost} {F G : HProp} (i : Nat) (hi : fs[i]? = some F) (f : ∀ k, F k → G k) (h : LJ P n ops l ρ A (fs.set i G) Q) : LJ P n ops l ρ A fs Q :=
  ⟨fun a w r s => h.go a w r (s.impAt hi f)⟩
/-- owned assertions are dropped, or put into another order -/
theorem St.pick {A : Amb} {w : World} {fs : List HProp} (a b : List Nat) (h : permF (a ++ b) fs = true) (s : St A w fs) : St A w (pickF fs a) := by
  have s' := s.perm (perm_pickF fs a b h)
  generalize pickF fs b = g at s'
  obtain ⟨ok, m, s', l, d⟩ := s'
  obtain ⟨h1, h2, x, _, _, d1, _⟩ := s'.split
  exact ⟨ok, h1, x, d1.trans l, d.mono (Hp.Le.refl _) d1⟩
theorem Ent.pick {A B : Amb} [AmbLe A B] {fs : List HProp} (a b : List Nat) (h : permF (a ++ b) fs = true) : Ent B A fs (pickF fs a) := fun _ s => (s.pick a b h).weak
theorem Ent.impAt {A B : Amb} [AmbLe A B] {fs : List HProp} {F G : HProp} (i : Nat) (hi : fs[i]? = some F) (f : ∀ k, F k → G k) : Ent B A fs (fs.set i G) := fun _ s => (s.impAt hi f).weak
theorem CJ.ent {P : Program} {n : Nat} {c : Code} {ρ : Env} {A : Amb} {fs gs : List HProp} {Q : EPost} (e : Ent A A fs gs) (k : CJ P n c ρ A gs Q) : CJ P n c ρ A fs Q :=
  ⟨fun x w r s => k.go x w r (e w s)⟩
theorem LJ.ent {P : Program} {n : Nat} {ops : Array Oper} {l : List Oper} {ρ : Env} {A : Amb} {fs gs : List HProp} {Q : NPost} (e : Ent A A fs gs) (k : LJ P n ops l ρ A gs Q) : LJ P n ops l ρ A fs Q :=
  ⟨fun x w r s => k.go x w r (e w s)⟩
theorem DJ.ent {P : Program} {n : Nat} {ops : Array Oper} {ρ : Env} {A : Amb} {fix fs gs : List HProp} {listed : Array Bool} {fuel : Nat} {Q : NPost} (e : ∀ B, Ent B B fs gs) (k : DJ P n ops ρ A fix gs listed fuel Q) : DJ P n ops ρ A fix fs listed fuel Q :=
  ⟨fun k0 h0 d0 x w r s => k.go k0 h0 d0 x w r (e _ w s)⟩
theorem DO.ent {P : Program} {n : Nat} {ops : Array Oper} {ρ : Env} {A : Amb} {fix fs gs : List HProp} {listed : Array Bool} {fuel i : Nat} {Q : NPost} (e : ∀ {B : Amb}, Ent B B fs gs) (k : DO P n ops ρ A fix gs listed fuel Q i) : DO P n ops ρ A fix fs listed fuel Q i :=
  ⟨fun k0 h0 d0 x w r s => k.go k0 h0 d0 x w r (e w s)⟩
theorem DO.imp1 {P : Program} {n : Nat} {ops : Array Oper} {ρ : Env} {A : Amb} {fix fs : List HProp} {listed : Array Bool} {fuel m : Nat} {Q : NPost} {F G : HProp} (i : Nat) (hi : fs[i]? = some F) (f : ∀ k, F k → G k) (h : DO P n ops ρ A fix (fs.set i G) listed fuel Q m) : DO P n ops ρ A fix fs listed fuel Q m :=
  ⟨fun k0 h0 d0 x w r s => h.go k0 h0 d0 x w r (s.impAt hi f)⟩
/-- what is owned, written out -/
theorem CJ.norm {P : Program} {n : Nat} {c : Code} {ρ : Env} {A : Amb} {fs : List HProp} {Q : EPost} (gs : List HProp) (e : fs = gs) (k : CJ P n c ρ A gs Q) : CJ P n c ρ A fs Q := e ▸ k
theorem LJ.norm {P : Program} {n : Nat} {ops : Array Oper} {l : List Oper} {ρ : Env} {A : Amb} {fs : List HProp} {Q : NPost} (gs : List HProp) (e : fs = gs) (k : LJ P n ops l ρ A gs Q) : LJ P n ops l ρ A fs Q := e ▸ k
theorem DJ.norm {P : Program} {n : Nat} {ops : Array Oper} {ρ : Env} {A : Amb} {fix fs : List HProp} {listed : Array Bool} {fuel : Nat} {Q : NPost} (fix' gs : List HProp) (e' : fix = fix') (e : fs = gs) (k : DJ P n ops ρ A fix' gs listed fuel Q) : DJ P n ops ρ A fix fs listed fuel Q := by subst e'; subst e; exact k
theorem CJ.pick {P : Program} {n : Nat} {c : Code} {ρ : Env} {A : Amb} {fs : List HProp} {Q : EPost} (a b : List Nat) (h : permF (a ++ b) fs = true) (k : CJ P n c ρ A (pickF fs a) Q) : CJ P n c ρ A fs Q :=
  ⟨fun x w r s => k.go x w r (s.pick a b h)⟩

/-! ## literals -/
def fillL (place : Nat → Option (Nat × Nat)) : List Value → List (Nat × Value) → Option (List Value)
  | cells, [] => some cells
  | cells, (i, v) :: rest => match place i with
    | none => none
    | some (off, size) => bif Nat.beq v.cells.size size && Nat.ble (off + size) cells.length then fillL place (cells.take off ++ v.cells.toList ++ cells.drop (off + size)) rest else none
theorem foldl_set (vs : List Value) : ∀ (off k : Nat) (cells : List Value), off + k + vs.length ≤ cells.length →
    ((vs.zipIdx k).foldl (fun cs (x : Value × Nat) => cs.setIfInBounds (off + x.2) x.1) cells.toArray) = (cells.take (off + k) ++ vs ++ cells.drop (off + k + vs.length)).toArray := by
  induction vs with
  | nil => intro off k cells h; simp
  | cons v r ih =>
    intro off k cells h
    simp only [List.length_cons] at h
    simp only [List.zipIdx_cons, List.foldl_cons, List.setIfInBounds_toArray]
    rw [ih off (k + 1) (cells.set (off + k) v) (by simp; omega)]
    congr 1
    apply List.ext_getElem?
    intro j
    simp only [List.append_assoc, List.getElem?_append, List.length_take, List.length_set, List.getElem?_take, List.getElem?_drop, List.getElem?_set, List.length_cons, List.getElem?_cons]
    have e1 : min (off + (k + 1)) cells.length = off + k + 1 := by omega
    have e2 : min (off + k) cells.length = off + k := by omega
    simp only [e1, e2]
    repeat' split
    all_goals (try omega)
    all_goals (try rfl)
    all_goals (congr 1; omega)
theorem fill_of {place : Nat → Option (Nat × Nat)} : ∀ (parts : List (Nat × Value)) (cells cs : List Value), fillL place cells parts = some cs → Instr.fill place cells.toArray parts = some cs.toArray := by
  intro parts
  induction parts with
  | nil => intro cells cs h; simp only [fillL] at h; cases h; rfl
  | cons p r ih =>
    obtain ⟨i, v⟩ := p
    intro cells cs h
    simp only [fillL] at h
    simp only [Instr.fill]
    cases hp : place i with
    | none => simp [hp] at h
    | some q =>
      obtain ⟨off, size⟩ := q
      simp only [hp] at h ⊢
      cases hb : (Nat.beq v.cells.size size && Nat.ble (off + size) cells.length) with
      | false => rw [hb] at h; cases h
      | true =>
        rw [hb] at h
        simp only [Bool.and_eq_true] at hb
        have h1 : v.cells.size = size := Nat.eq_of_beq_eq_true hb.1
        have h2 : off + size ≤ cells.length := Nat.le_of_ble_eq_true hb.2
        rw [if_neg (by simp only [List.size_toArray, gt_iff_lt, Bool.or_eq_true, decide_eq_true_eq]; omega)]
        have e : (v.cells.zipIdx.foldl (fun cs (x : Value × Nat) => cs.setIfInBounds (off + x.2) x.1) cells.toArray) = (cells.take off ++ v.cells.toList ++ cells.drop (off + size)).toArray := by
          rw [← Array.foldl_toList, Array.toList_zipIdx]
          have := foldl_set v.cells.toList off 0 cells (by simp; omega)
          simpa [← h1] using this
        rw [show (v.cells.zipIdx.foldl (fun cs (c, j) => cs.setIfInBounds (off + j) c) cells.toArray) = _ from e]
        exact ih _ _ h
class TyBuild (P : Program) (T : TypeId) (zero : outParam (List Value)) (places : outParam (List (Nat × Nat))) : Prop where
  run : ∀ (parts : Array (Nat × Value)) (cs : Array Value) (w : World), Instr.fill (fun i : Nat => places[i]?) zero.toArray parts.toList = some cs → (Instr.build T parts).run P w = .ok (.agg cs) w
theorem TyBuild.of {P : Program} {T : TypeId} {zero : List Value} {places : List (Nat × Nat)} {fields : Array Field} (hz : ∀ w, (zeroValue T).run P w = .ok (.agg zero.toArray) w) (hu : ∀ w, (underlying T).run P w = .ok (.struct fields) w)
    (hp : ∀ w, (fields.mapM fun f => (do pure (f.offset, ← sizeOf f.type) : Sem (Nat × Nat))).run P w = .ok places.toArray w) : TyBuild P T zero places :=
  ⟨fun parts cs w h => by
    have e : (fun i : Nat => places.toArray[i]?) = (fun i : Nat => places[i]?) := by funext i; simp
    simp only [Instr.build, Sem.run_bind, hz, hu, hp, Result.andThen_ok, Value.cells, e, h]
    rfl⟩
/-- elements of a slice type: their number, size, zero -/
class TyElem (P : Program) (T : TypeId) (E : outParam TypeId) (k : outParam Nat) (zero : outParam (List Value)) : Prop where
  und : P.underlying T = some (.slice E)
  run : ∀ w, (underlying T).run P w = .ok (.slice E) w
  size : ∀ w, (sizeOf E).run P w = .ok k w
  zer : ∃ z : Value, (∀ w, (zeroValue E).run P w = .ok z w) ∧ z.cells = zero.toArray
  len : zero.length = k
  pos : 0 < k
  info : ∃ (i : TypeInfo) (z : Value), P.info? E = some i ∧ i.zero = some z ∧ i.size = k ∧ z.cells = zero.toArray ∧ i.bytes ≤ 128
section
variable {P : Program} {n : Nat} {ops : Array Oper} {l : List Oper} {T : TypeId} {ρ : Env} {A : Amb} {fs : List HProp} {Q : NPost} {pos : String} {af : Array Edge}
theorem Yd.build {X : TypeId} {parts : List (Nat × Operand)} {zero cs : List Value} {places : List (Nat × Nat)} [h : TyBuild P X zero places]
    (hf : fillL (fun i : Nat => places[i]?) zero (parts.map fun p => (p.1, ev ρ p.2)) = some cs) : Yd P (.build X parts.toArray) T ρ A fs (.agg cs.toArray) := fun w _ => by
  have := h.run (parts.toArray.map fun p => (p.1, ev ρ p.2)) cs.toArray w (fill_of _ _ _ (by simpa using hf))
  simp only [dummy, execOp, Sem.run_bind]
  rw [show (Array.map (fun (x : Nat × Operand) => match x with | (i, x) => (i, ev ρ x)) parts.toArray) = parts.toArray.map fun p => (p.1, ev ρ p.2) from rfl, this]
  rfl
/-- as many zeros as a literal of this length has cells -/
def zeros (len : Nat) (zero : List Value) : List Value := (List.range (len * zero.length)).map fun i => (zero.toArray)[i % zero.length]!
theorem OpR.buildSlice {X E : TypeId} {k len : Nat} {parts : List (Nat × Operand)} {zero cs : List Value} [h : TyElem P X E k zero] (hl : Nat.ble (len * k) 16777216 = true)
    (hf : fillL (fun i => some (i * k, k)) (zeros len zero) (parts.map fun p => (p.1, ev ρ p.2)) = some cs) :
    OpR P (.buildSlice X len parts.toArray) T ρ A fs (fun v fs' => ∃ b, v = .slice (some ⟨b, 0, none⟩) len len ∧ fs' = fs ++ [Cel b E cs]) := fun w s => by
  obtain ⟨z, hz, hzc⟩ := h.zer
  have h2 : ¬ len * k > 2 ^ 24 := by have := Nat.le_of_ble_eq_true hl; omega
  have hfill := fill_of _ _ _ hf
  have e : (execOp (ev ρ) (dummy (.buildSlice X len parts.toArray) T)).run P w = .ok (.value (.slice (some ⟨w.heap.size, 0, none⟩) len len)) (w.alloc (.cells cs.toArray E)) := by
    simp only [dummy, execOp, Instr.buildSlice, Sem.run_bind, h.run, h.size, Result.andThen_ok]
    rw [if_neg h2]
    have hp : (Array.map (fun (x : Nat × Operand) => match x with | (i, x) => (i, ev ρ x)) parts.toArray).toList = parts.map fun p => (p.1, ev ρ p.2) := by simp
    have hc : ∀ zs : Array Value, zs = (if len * k = 0 then #[] else zero.toArray) → (Array.range (len * k)).map (fun i => zs[i % zs.size]!) = (zeros len zero).toArray := by
      intro zs hz
      simp only [zeros, h.len]
      rw [← List.toArray_range, List.map_toArray]
      congr 1
      by_cases h0 : len * k = 0
      · rw [h0]; rfl
      · rw [if_neg h0] at hz; subst hz; simp [h.len]
    have hp' : (parts.toArray.map fun (x : Nat × Operand) => (x.1, ev ρ x.2)).toList = parts.map fun p => (p.1, ev ρ p.2) := by simp
    split
    · rename_i h0
      have := hc #[] (by rw [if_pos h0])
      simp only [Sem.run_bind, Sem.run_pure, Result.andThen_ok, this, hp', hfill]
      simp [newRow]
    · rename_i h0
      have := hc zero.toArray (by rw [if_neg h0])
      simp only [Sem.run_bind, Sem.run_pure, Result.andThen_ok, hz, hzc, this, hp', hfill]
      simp [newRow]
  rw [e]
  exact ⟨_, ⟨_, rfl, rfl⟩, s.alloc _ _ (by simp [Cel, Hp.one])⟩
end
end Go.Proofs.Ytlpjienaennmaaa
