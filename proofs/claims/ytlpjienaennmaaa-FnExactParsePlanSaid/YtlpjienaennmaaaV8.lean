/-
  A program logic of heaplets: function values made and called.
-/
import Derived.Test.YtlpjienaennmaaaV7
namespace Go.Proofs.Ytlpjienaennmaaa
open Go

section
variable {P : Program} {n : Nat} {ops : Array Oper} {l : List Oper} {T : TypeId} {ρ : Env} {A : Amb} {fs : List HProp} {Q : NPost} {pos : String} {af : Array Edge}
theorem Yd.makeFunc {F : FuncId} {xs : List Operand} {caps : List Value} (hx : xs.map (ev ρ) = caps) : Yd P (.makeFunc (.func F) #[] xs.toArray) T ρ A fs (.func (.func F) #[] caps.toArray) := fun w _ => by
  subst hx; simp [dummy, execOp, Instr.makeFunc]
theorem OpR.callD {F : FuncId} {x : Operand} {as : List Operand} {ts : Array TypeId} {caps : List Value} [h : TyFn P F] (hx : ev ρ x = .func (.func F) #[] caps.toArray) (fr pre : List HProp) {R : Value → List HProp → Prop} (hp : fs.Perm (fr ++ pre))
    (hc : ∀ k, Sts fr k → A.h.Dj k → Ctr P F (as.map (ev ρ) ++ caps).toArray (A.ext k) pre R) : OpR P (.call { callee := .value x, args := as.toArray, argTypes := ts }) T ρ A fs (fun v fs' => ∃ gs, R v gs ∧ fs' = fr ++ gs) := fun w s => by
  have e : (execOp (ev ρ) (dummy (.call { callee := .value x, args := as.toArray, argTypes := ts }) T)).run P w = .ok (.enter F (as.map (ev ρ) ++ caps).toArray) w := by
    simp [dummy, execOp, resolve, Deferred.ofValue, hx, invoke, h.call]
  rw [e]
  obtain ⟨k, hk, dk, s'⟩ := (s.perm hp).open
  refine (hc k hk dk w s').mono fun e w' ⟨v, gs, he, hr, hs⟩ => ⟨v, he, _, ⟨gs, hr, rfl⟩, St.shut hk dk hs⟩
theorem LJ.callD {d : Option Nat} {F : FuncId} {x : Operand} {as : List Operand} {ts : Array TypeId} {caps : List Value} [TyFn P F] (fr pre : List HProp) {R : Value → List HProp → Prop} (hd : okD n d = true) (hx : ev ρ x = .func (.func F) #[] caps.toArray) (hp : fs.Perm (fr ++ pre))
    (hc : ∀ k, Sts fr k → A.h.Dj k → Ctr P F (as.map (ev ρ) ++ caps).toArray (A.ext k) pre R) (kk : ∀ v gs, R v gs → LJ P n ops l (updO ρ d v) A (fr ++ gs) Q) :
    LJ P n ops (⟨d, .call { callee := .value x, args := as.toArray, argTypes := ts }, T, pos, af, none⟩ :: l) ρ A fs Q :=
  LJ.op hd (OpR.callD hx fr pre hp hc) fun v _ ⟨gs, hr, e⟩ => by subst e; exact kk v gs hr
theorem LJ.callD0 {d : Option Nat} {F : FuncId} {x : Operand} {as : List Operand} {ts : Array TypeId} {caps : List Value} [TyFn P F] {R : Value → List HProp → Prop} (hd : okD n d = true) (hx : ev ρ x = .func (.func F) #[] caps.toArray)
    (hc : ∀ k, Sts fs k → A.h.Dj k → Ctr P F (as.map (ev ρ) ++ caps).toArray (A.ext k) [] R) (kk : ∀ v gs, R v gs → LJ P n ops l (updO ρ d v) A (fs ++ gs) Q) :
    LJ P n ops (⟨d, .call { callee := .value x, args := as.toArray, argTypes := ts }, T, pos, af, none⟩ :: l) ρ A fs Q :=
  LJ.callD fs [] hd hx (by simp) hc kk
theorem LJ.callDV {d : Nat} {F : FuncId} {x : Operand} {as : List Operand} {ts : Array TypeId} {caps : List Value} [TyFn P F] {y : Value} (hd : Nat.blt d n = true) (hx : ev ρ x = .func (.func F) #[] caps.toArray)
    (hc : ∀ k, Sts fs k → A.h.Dj k → Ctr P F (as.map (ev ρ) ++ caps).toArray (A.ext k) [] (Val y)) (kk : LJ P n ops l (upd ρ d y) A fs Q) :
    LJ P n ops (⟨some d, .call { callee := .value x, args := as.toArray, argTypes := ts }, T, pos, af, none⟩ :: l) ρ A fs Q :=
  LJ.callD0 (d := some d) hd hx hc fun v gs ⟨h1, h2⟩ => by subst h1; subst h2; simpa [updO] using kk
theorem LJ.callDB {d : Nat} {F : FuncId} {x : Operand} {as : List Operand} {ts : Array TypeId} {caps : List Value} [TyFn P F] {t : Bool} (hd : Nat.blt d n = true) (hx : ev ρ x = .func (.func F) #[] caps.toArray)
    (hc : ∀ k, Sts fs k → A.h.Dj k → Ctr P F (as.map (ev ρ) ++ caps).toArray (A.ext k) [] (Val (.bool t))) (k1 : t = true → LJ P n ops l (upd ρ d (.bool true)) A fs Q) (k2 : t = false → LJ P n ops l (upd ρ d (.bool false)) A fs Q) :
    LJ P n ops (⟨some d, .call { callee := .value x, args := as.toArray, argTypes := ts }, T, pos, af, none⟩ :: l) ρ A fs Q := by
  cases t with
  | true => exact LJ.callDV hd hx hc (k1 rfl)
  | false => exact LJ.callDV hd hx hc (k2 rfl)
theorem DO.callD {fix : List HProp} {listed : Array Bool} {fuel i : Nat} {g : Option (Nat × Bool)} {d : Option Nat} {F : FuncId} {x : Operand} {as : List Operand} {ts : Array TypeId} {caps : List Value} [TyFn P F] (fr pre : List HProp) {R : Value → List HProp → Prop}
    (hi : ops[i]? = some ⟨d, .call { callee := .value x, args := as.toArray, argTypes := ts }, T, pos, af, g⟩) (hg : wantE ops ρ g = true) (hd : okD n d = true) (hx : ev ρ x = .func (.func F) #[] caps.toArray) (hp : fs.Perm (fr ++ pre))
    (hc : ∀ k0, Sts fix k0 → A.h.Dj k0 → ∀ k, Sts fr k → (A.ext k0).h.Dj k → Ctr P F (as.map (ev ρ) ++ caps).toArray ((A.ext k0).ext k) pre R)
    (kk : ∀ v gs, R v gs → DJ P n ops (updO ρ d v) A fix (fr ++ gs) (listed.setIfInBounds i true) fuel Q) : DO P n ops ρ A fix fs listed fuel Q i :=
  DO.op hi hg hd (fun k0 h0 d0 => OpR.callD hx fr pre hp (hc k0 h0 d0)) fun v _ ⟨gs, hr, e⟩ => by subst e; exact kk v gs hr
theorem DO.callD0 {fix : List HProp} {listed : Array Bool} {fuel i : Nat} {g : Option (Nat × Bool)} {d : Option Nat} {F : FuncId} {x : Operand} {as : List Operand} {ts : Array TypeId} {caps : List Value} [TyFn P F] {R : Value → List HProp → Prop}
    (hi : ops[i]? = some ⟨d, .call { callee := .value x, args := as.toArray, argTypes := ts }, T, pos, af, g⟩) (hg : wantE ops ρ g = true) (hd : okD n d = true) (hx : ev ρ x = .func (.func F) #[] caps.toArray)
    (hc : ∀ k0, Sts fix k0 → A.h.Dj k0 → ∀ k, Sts fs k → (A.ext k0).h.Dj k → Ctr P F (as.map (ev ρ) ++ caps).toArray ((A.ext k0).ext k) [] R)
    (kk : ∀ v gs, R v gs → DJ P n ops (updO ρ d v) A fix (fs ++ gs) (listed.setIfInBounds i true) fuel Q) : DO P n ops ρ A fix fs listed fuel Q i :=
  DO.callD fs [] hi hg hd hx (by simp) hc kk
end
end Go.Proofs.Ytlpjienaennmaaa
