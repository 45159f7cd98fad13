/-
  A program logic of heaplets: the laws of the operations that turn the state: new blocks, stores, calls.
-/
import Derived.Test.YtlpjienaennmaaaV3
namespace Go.Proofs.Ytlpjienaennmaaa
open Go

class TyFn (P : Program) (F : FuncId) : Prop where
  call : ∀ args w, (callFunc F args).run P w = .ok (.enter F args) w
theorem TyFn.of {P : Program} {F : FuncId} {fn : Func} (hf : P.funcs[F]? = some fn) (hn : (fn.name == "runtime.NumGoroutine") = false) (hb : fn.body.isNone = false) : TyFn P F :=
  ⟨fun args w => by simp only [callFunc, Sem.run_bind, run_program, Result.andThen_ok, hf, hn, hb]; rfl⟩
/-- a result and nothing owned -/
def Val (x : Value) : Value → List HProp → Prop := fun v gs => v = x ∧ gs = []

section
variable {P : Program} {n : Nat} {ops : Array Oper} {l : List Oper} {T : TypeId} {ρ : Env} {A : Amb} {fs : List HProp} {Q : NPost} {pos : String} {af : Array Edge}

theorem OpR.box {X : TypeId} {x : Operand} : OpR P (.box X x) T ρ A fs (fun v fs' => ∃ b, v = .pointer (some ⟨b, 0, none⟩) ∧ fs' = fs ++ [Cel b X (ev ρ x).cells.toList]) := fun w s => by
  have e : (execOp (ev ρ) (dummy (.box X x) T)).run P w = .ok (.value (.pointer (some ⟨w.heap.size, 0, none⟩))) (w.alloc (.cells (ev ρ x).cells X)) := by
    simp [dummy, execOp, Instr.box, newVar, newRow]
  rw [e]
  exact ⟨_, ⟨_, rfl, rfl⟩, s.alloc _ _ (by simp [Cel, Hp.one])⟩
theorem LJ.box {d : Nat} {X : TypeId} {x : Operand} {v : Value} (hd : Nat.blt d n = true) (hx : ev ρ x = v) (k : ∀ b, LJ P n ops l (upd ρ d (.pointer (some ⟨b, 0, none⟩))) A (fs ++ [Cel b X v.cells.toList]) Q) :
    LJ P n ops (⟨some d, .box X x, T, pos, af, none⟩ :: l) ρ A fs Q :=
  LJ.op (d := some d) hd OpR.box fun _ _ ⟨b, h1, h2⟩ => by subst h1; subst h2; subst hx; exact k b
/-- a one-cell variable -/
theorem LJ.box1 {d : Nat} {X : TypeId} {x : Operand} {v : Value} (hd : Nat.blt d n = true) (hx : ev ρ x = v) (hv : v.cells = #[v]) (k : ∀ b, LJ P n ops l (upd ρ d (.pointer (some ⟨b, 0, none⟩))) A (fs ++ [Cel b X [v]]) Q) :
    LJ P n ops (⟨some d, .box X x, T, pos, af, none⟩ :: l) ρ A fs Q :=
  LJ.box hd hx fun b => by rw [hv]; exact k b
/-- a struct's variable -/
theorem LJ.boxG {d : Nat} {X : TypeId} {x : Operand} {vs : List Value} (hd : Nat.blt d n = true) (hx : ev ρ x = .agg vs.toArray) (k : ∀ b, LJ P n ops l (upd ρ d (.pointer (some ⟨b, 0, none⟩))) A (fs ++ [Cel b X vs]) Q) :
    LJ P n ops (⟨some d, .box X x, T, pos, af, none⟩ :: l) ρ A fs Q :=
  LJ.box hd hx fun b => by simpa [Value.cells] using k b
theorem OpR.alloc {X : TypeId} {z : Value} [h : TyZero P X z] : OpR P (.alloc X) T ρ A fs (fun v fs' => ∃ b, v = .pointer (some ⟨b, 0, none⟩) ∧ fs' = fs ++ [Cel b X z.cells.toList]) := fun w s => by
  have e : (execOp (ev ρ) (dummy (.alloc X) T)).run P w = .ok (.value (.pointer (some ⟨w.heap.size, 0, none⟩))) (w.alloc (.cells z.cells X)) := by
    simp [dummy, execOp, Instr.alloc, newVar, newRow, h.zero]
  rw [e]
  exact ⟨_, ⟨_, rfl, rfl⟩, s.alloc _ _ (by simp [Cel, Hp.one])⟩
theorem LJ.alloc {d : Nat} {X : TypeId} {z : Value} [h : TyZero P X z] (vs : List Value) (hz : z.cells.toList = vs) (hd : Nat.blt d n = true) (k : ∀ b, LJ P n ops l (upd ρ d (.pointer (some ⟨b, 0, none⟩))) A (fs ++ [Cel b X vs]) Q) :
    LJ P n ops (⟨some d, .alloc X, T, pos, af, none⟩ :: l) ρ A fs Q :=
  LJ.op (d := some d) hd OpR.alloc fun _ _ ⟨b, h1, h2⟩ => by subst h1; subst h2; rw [hz]; exact k b

/-- a value of a struct or an array whose parts are literal -/
theorem Cel.rdc {b : Nat} {X : TypeId} {vs : List Value} {j : Nat} {v : Value} (i : Nat) (hi : fs[i]? = some (Cel b X vs)) (hj : vs[j]? = some v) : Rdc A fs ⟨b, j, none⟩ v :=
  Rdc.own i hi fun _ h => Cel.cell h hj
/-- a load of one cell out of an owned block -/
theorem Yd.loadC {X Y : TypeId} {x : Operand} {b j : Nat} {vs : List Value} {v : Value} [TyCell P X] (i : Nat) (hx : ev ρ x = .pointer (some ⟨b, j, none⟩)) (hi : fs[i]? = some (Cel b Y vs)) (hj : vs[j]? = some v) : Yd P (.load X x) T ρ A fs v :=
  Yd.load hx (Cel.rdc i hi hj)
/-- a load of a whole struct out of an owned block -/
theorem Yd.loadG {X Y : TypeId} {x : Operand} {b o k : Nat} {vs us : List Value} [TyAgg P X k] (i : Nat) (hx : ev ρ x = .pointer (some ⟨b, o, none⟩)) (hi : fs[i]? = some (Cel b Y vs)) (hs : (vs.drop o).take k = us) (hk : us.length = k) : Yd P (.load X x) T ρ A fs (.agg us.toArray) :=
  Yd.loadN hx hk fun j v hj => Cel.rdc i hi (by
    rw [← hs] at hj
    have hlt : j < k := by
      rcases Nat.lt_or_ge j k with h | h
      · exact h
      · rw [List.getElem?_eq_none (by rw [hs, hk]; exact h)] at hj; cases hj
    rw [List.getElem?_take, if_pos hlt, List.getElem?_drop] at hj; exact hj)

theorem hpOf_setCell {w : World} {b j : Nat} {X : TypeId} {vs : List Value} {v : Value} (h : hpOf w b = some (.cells vs.toArray X (0, 0))) :
    hpOf (w.setCell ⟨b, j, none⟩ v) = (hpOf w).put b (.cells (vs.set j v).toArray X (0, 0)) := by
  funext c
  unfold hpOf at *
  simp only [World.setCell, Hp.put, Array.getElem?_modify]
  by_cases hc : c = b
  · subst hc; rw [if_pos rfl, h]; simp
  · rw [if_neg (fun e => hc e.symm), if_neg hc]
theorem run_storeCells (vs' : List Value) (b : Nat) (X : TypeId) : ∀ (o : Nat) (vs : List Value) (w : World), hpOf w b = some (.cells vs.toArray X (0, 0)) → (∀ u ∈ vs', u.oneCell' = true) → o + vs'.length ≤ vs.length →
    ∀ (o0 i : Nat), o0 + i = o → ∃ w', (storeCells ⟨b, o0, none⟩ vs' i).run P w = .ok () w' ∧ hpOf w' = (hpOf w).put b (.cells (vs.take o ++ vs' ++ vs.drop (o + vs'.length)).toArray X (0, 0)) ∧ w'.os = w.os ∧ w'.tape = w.tape ∧ w'.output = w.output := by
  induction vs' with
  | nil =>
    intro o vs w h _ _ o0 i _
    refine ⟨w, rfl, ?_, rfl, rfl, rfl⟩
    funext c
    simp only [Hp.put, List.append_nil, List.length_nil, Nat.add_zero, List.take_append_drop]
    split
    · rename_i e; subst e; exact h
    · rfl
  | cons v r ih =>
    intro o vs w h h1 hlen o0 i ho
    simp only [List.length_cons] at hlen
    have hv : v.oneCell' = true := h1 v (by simp)
    have hc : w.cell? ⟨b, o, none⟩ = some (vs[o]'(by omega)) := by rw [cell_hpOf]; simp [Hp.cell, h]
    have hf : w.frozen? ⟨b, o, none⟩ = false := by
      have : w.heap[b]? = some (.cells vs.toArray X (0, 0)) := h
      simp [World.frozen?, this]
    have hput := hpOf_setCell (j := o) (v := v) h
    obtain ⟨w', e1, e2, e3, e4, e5⟩ := ih (o + 1) (vs.set o v) (w.setCell ⟨b, o, none⟩ v) (by rw [hput]; simp [Hp.put]) (fun u hu => h1 u (by simp [hu])) (by simp; omega) o0 (i + 1) (by omega)
    refine ⟨w', ?_, ?_, e3, e4, e5⟩
    · simp only [storeCells, Sem.run_bind, add_lit, ho, run_store P w _ _ _ hv, hc, hf]
      exact e1
    · rw [e2, hput]
      funext c
      simp only [Hp.put]
      split
      · congr 2
        simp only [List.length_cons]
        congr 1
        apply List.ext_getElem? 
        intro j
        simp only [List.append_assoc, List.getElem?_append, List.length_take, List.length_set, List.getElem?_take, List.getElem?_drop, List.getElem?_set, List.length_cons, List.getElem?_cons]
        have : min (o + 1) vs.length = o + 1 := by omega
        have : min o vs.length = o := by omega
        simp only [*]
        repeat' split
        all_goals (try omega)
        all_goals (try rfl)
        all_goals (congr 1; omega)
      · rfl
theorem OpR.store {X Y : TypeId} {x y : Operand} {b o k : Nat} {vs : List Value} {v : Value} [h : TySize P Y k] (i : Nat) (hx : ev ρ x = .pointer (some ⟨b, o, none⟩)) (hy : ev ρ y = v)
    (hi : fs[i]? = some (Cel b X vs)) (hk : v.cells.size = k) (h1 : ∀ u ∈ v.cells.toList, u.oneCell' = true) (hl : o + k ≤ vs.length) :
    OpR P (.store Y x y) T ρ A fs (fun v' fs' => v' = undef ∧ fs' = fs.set i (Cel b X (vs.take o ++ v.cells.toList ++ vs.drop (o + k)))) := fun w s => by
  obtain ⟨c, hc, lc⟩ := (let ⟨_, k, s', l, _⟩ := s; let ⟨m, hm, lm⟩ := s'.get hi; ⟨m, hm, lm.trans l⟩ : ∃ m, Cel b X vs m ∧ m.Le (hpOf w))
  have hb : hpOf w b = some (.cells vs.toArray X (0, 0)) := lc _ _ hc
  have hlen : v.cells.toList.length = k := by simpa using hk
  obtain ⟨w', e1, e2, e3, e4, e5⟩ := run_storeCells (P := P) v.cells.toList b X o vs w hb h1 (by rw [hlen]; exact hl) o 0 (by omega)
  have e : (execOp (ev ρ) (dummy (.store Y x y) T)).run P w = .ok .skip w' := by
    simp [dummy, execOp, hx, hy, Instr.storeAt, Instr.sureAddr, storeVar, h.size, hk, e1]
  rw [e]
  rw [hlen] at e2
  exact ⟨_, ⟨rfl, rfl⟩, s.turn hi b _ e2 e3 e4 e5 fun m hm _ => ⟨⟨_, hm⟩, by simp [Cel, Hp.put]⟩⟩
theorem LJ.store {d : Option Nat} {X Y : TypeId} {x y : Operand} {b o k : Nat} {vs us : List Value} {v : Value} [TySize P Y k] (i : Nat) (hd : okD n d = true) (hx : ev ρ x = .pointer (some ⟨b, o, none⟩)) (hy : ev ρ y = v)
    (hi : fs[i]? = some (Cel b X vs)) (hk : v.cells.size = k) (h1 : v.cells.toList.all Value.oneCell' = true) (hl : Nat.ble (o + k) vs.length = true) (hu : vs.take o ++ v.cells.toList ++ vs.drop (o + k) = us)
    (kk : LJ P n ops l (updO ρ d undef) A (fs.set i (Cel b X us)) Q) : LJ P n ops (⟨d, .store Y x y, T, pos, af, none⟩ :: l) ρ A fs Q :=
  LJ.op hd (OpR.store i hx hy hi hk (List.all_eq_true.1 h1) (Nat.le_of_ble_eq_true hl)) fun _ _ ⟨e1, e2⟩ => by subst e1; subst e2; rw [hu]; exact kk
/-- a call: what is owned beside its premise becomes ambient for it -/
theorem OpR.call {F : FuncId} {as : List Operand} {ts : Array TypeId} [h : TyFn P F] (fr pre : List HProp) {R : Value → List HProp → Prop} (hp : fs.Perm (fr ++ pre))
    (hc : ∀ k, Sts fr k → A.h.Dj k → Ctr P F (as.map (ev ρ)).toArray (A.ext k) pre R) : OpR P (.call { callee := .value (.func F), args := as.toArray, argTypes := ts }) T ρ A fs (fun v fs' => ∃ gs, R v gs ∧ fs' = fr ++ gs) := fun w s => by
  have e : (execOp (ev ρ) (dummy (.call { callee := .value (.func F), args := as.toArray, argTypes := ts }) T)).run P w = .ok (.enter F (as.map (ev ρ)).toArray) w := by
    simp [dummy, execOp, resolve, Deferred.ofValue, ev, invoke, h.call]
  rw [e]
  obtain ⟨k, hk, dk, s'⟩ := (s.perm hp).open
  refine (hc k hk dk w s').mono fun e w' ⟨v, gs, he, hr, hs⟩ => ⟨v, he, _, ⟨gs, hr, rfl⟩, St.shut hk dk hs⟩
theorem LJ.call {d : Option Nat} {F : FuncId} {as : List Operand} {ts : Array TypeId} [TyFn P F] (fr pre : List HProp) {R : Value → List HProp → Prop} (hd : okD n d = true) (hp : fs.Perm (fr ++ pre))
    (hc : ∀ k, Sts fr k → A.h.Dj k → Ctr P F (as.map (ev ρ)).toArray (A.ext k) pre R) (kk : ∀ v gs, R v gs → LJ P n ops l (updO ρ d v) A (fr ++ gs) Q) :
    LJ P n ops (⟨d, .call { callee := .value (.func F), args := as.toArray, argTypes := ts }, T, pos, af, none⟩ :: l) ρ A fs Q :=
  LJ.op hd (OpR.call fr pre hp hc) fun v _ ⟨gs, hr, e⟩ => by subst e; exact kk v gs hr
/-- a call that owns nothing ahead -/
theorem LJ.call0 {d : Option Nat} {F : FuncId} {as : List Operand} {ts : Array TypeId} [TyFn P F] {R : Value → List HProp → Prop} (hd : okD n d = true)
    (hc : ∀ k, Sts fs k → A.h.Dj k → Ctr P F (as.map (ev ρ)).toArray (A.ext k) [] R) (kk : ∀ v gs, R v gs → LJ P n ops l (updO ρ d v) A (fs ++ gs) Q) :
    LJ P n ops (⟨d, .call { callee := .value (.func F), args := as.toArray, argTypes := ts }, T, pos, af, none⟩ :: l) ρ A fs Q :=
  LJ.call fs [] hd (by simp) hc kk
/-- a call that owns nothing, ahead and behind -/
theorem LJ.callV {d : Nat} {F : FuncId} {as : List Operand} {ts : Array TypeId} [TyFn P F] {x : Value} (hd : Nat.blt d n = true)
    (hc : ∀ k, Sts fs k → A.h.Dj k → Ctr P F (as.map (ev ρ)).toArray (A.ext k) [] (Val x)) (kk : LJ P n ops l (upd ρ d x) A fs Q) :
    LJ P n ops (⟨some d, .call { callee := .value (.func F), args := as.toArray, argTypes := ts }, T, pos, af, none⟩ :: l) ρ A fs Q :=
  LJ.call0 (d := some d) hd hc fun v gs ⟨h1, h2⟩ => by subst h1; subst h2; simpa [updO] using kk
theorem LJ.callB {d : Nat} {F : FuncId} {as : List Operand} {ts : Array TypeId} [TyFn P F] {t : Bool} (hd : Nat.blt d n = true)
    (hc : ∀ k, Sts fs k → A.h.Dj k → Ctr P F (as.map (ev ρ)).toArray (A.ext k) [] (Val (.bool t))) (k1 : t = true → LJ P n ops l (upd ρ d (.bool true)) A fs Q) (k2 : t = false → LJ P n ops l (upd ρ d (.bool false)) A fs Q) :
    LJ P n ops (⟨some d, .call { callee := .value (.func F), args := as.toArray, argTypes := ts }, T, pos, af, none⟩ :: l) ρ A fs Q := by
  cases t with
  | true => exact LJ.callV hd hc (k1 rfl)
  | false => exact LJ.callV hd hc (k2 rfl)
/-- results -/
def ResV (P : Program) (r : ResultVar) (ρ : Env) (A : Amb) (fs : List HProp) (v : Value) : Prop :=
  ∀ w, St A w fs → ∀ tmps : Array Value, (∀ i, tmps.getD i undef = ρ i) → (match r with | .tmp t => (pure (tmps.getD t undef) : Sem Value) | .cell a t => do loadVar t (← asAddr (tmps.getD a undef))).run P w = .ok v w
theorem ResV.tmp {t : Nat} {v : Value} (h : ρ t = v) : ResV P (.tmp t) ρ A fs v := fun w _ tmps ht => by rw [← h, ← ht t]; rfl
theorem ResV.cell {t k b : Nat} {X : TypeId} {vs us : List Value} [h : TyAgg P X k] (i : Nat) (hx : ρ t = .pointer (some ⟨b, 0, none⟩)) {Y : TypeId} (hi : fs[i]? = some (Cel b Y vs)) (hs : vs.take k = us) (hk : us.length = k) : ResV P (.cell t X) ρ A fs (.agg us.toArray) := fun w s tmps ht => by
  have rd : ∀ j v, us[j]? = some v → w.cell? ⟨b, 0 + (0 + j), none⟩ = some v := fun j v hj => by
    have hlt : j < k := by
      rcases Nat.lt_or_ge j k with h | h
      · exact h
      · rw [List.getElem?_eq_none (by omega)] at hj; cases hj
    rw [← hs, List.getElem?_take, if_pos hlt] at hj
    rw [show 0 + (0 + j) = j by omega]
    exact Cel.rdc i hi hj w s
  have := run_loadCellsFrom (P := P) w b 0 us 0 #[] rd
  simp only [Sem.run_bind, ht t, hx, asAddr, Sem.run_pure, Result.andThen_ok, loadVar, h.agg, if_true, h.size, loadCells]
  rw [← hk, this]
  simp
theorem ResV.cell1 {t b : Nat} {X : TypeId} {v : Value} [h : TyCell P X] (i : Nat) (hx : ρ t = .pointer (some ⟨b, 0, none⟩)) {Y : TypeId} (hi : fs[i]? = some (Cel b Y [v])) : ResV P (.cell t X) ρ A fs v := fun w s tmps ht => by
  have := Cel.rdc (A := A) i hi (j := 0) (v := v) rfl w s
  simp [ht t, hx, asAddr, loadVar, h.agg, this]
def resF (tmps : Array Value) : ResultVar → Sem Value
  | .tmp t => pure (tmps.getD t undef)
  | .cell a t => do loadVar t (← asAddr (tmps.getD a undef))
theorem results_eq (fn : Func) (tmps : Array Value) : results fn tmps = (do let vs ← fn.results.mapM (resF tmps); pure (if h : vs.size = 1 then vs[0] else .tuple vs)) := by
  have e : (fun r : ResultVar => (match r with | .tmp t => pure (tmps.getD t undef) | .cell a t => do loadVar t (← asAddr (tmps.getD a undef)) : Sem Value)) = resF tmps := by
    funext r; cases r <;> rfl
  rw [← e]; rfl
theorem ResV.run {r : ResultVar} {v : Value} (h : ResV P r ρ A fs v) {w : World} (s : St A w fs) {tmps : Array Value} (ht : ∀ i, tmps.getD i undef = ρ i) : (resF tmps r).run P w = .ok v w := by
  have := h w s tmps ht
  cases r <;> exact this
theorem Res.one {r : ResultVar} {v : Value} (h : ResV P r ρ A fs v) : Res P #[r] ρ A fs v := fun w s fn hf tmps ht => by
  rw [results_eq, hf]
  simp [h.run s ht]
theorem Res.two {r r' : ResultVar} {v v' : Value} (h : ResV P r ρ A fs v) (h' : ResV P r' ρ A fs v') : Res P #[r, r'] ρ A fs (.tuple #[v, v']) := fun w s fn hf tmps ht => by
  rw [results_eq, hf]
  simp [h.run s ht, h'.run s ht]
theorem Res.three {r r' r'' : ResultVar} {v v' v'' : Value} (h : ResV P r ρ A fs v) (h' : ResV P r' ρ A fs v') (h'' : ResV P r'' ρ A fs v'') : Res P #[r, r', r''] ρ A fs (.tuple #[v, v', v'']) := fun w s fn hf tmps ht => by
  rw [results_eq, hf]
  simp [h.run s ht, h'.run s ht, h''.run s ht]
theorem Res.none : Res P #[] ρ A fs (.tuple #[]) := fun w s fn hf tmps ht => by
  rw [results_eq, hf]; simp
theorem Fin.V {A0 : Amb} [AmbLe A0 A] {rs : Array ResultVar} {v x : Value} (h : Res P rs ρ A fs v) (e : v = x) : Fin P rs (Val x) A0 .ret ρ A fs :=
  ⟨.inl rfl, v, [], h, ⟨e, rfl⟩, fun _ s => (St.nil s.1).weak⟩
theorem Fin.R {A0 : Amb} {rs : Array ResultVar} {v : Value} {R : Value → List HProp → Prop} (gs : List HProp) (h : Res P rs ρ A fs v) (hr : R v gs) (hg : Ent A A0 fs gs) : Fin P rs R A0 .ret ρ A fs :=
  ⟨.inl rfl, v, gs, h, hr, hg⟩
end
end Go.Proofs.Ytlpjienaennmaaa
