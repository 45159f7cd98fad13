/-
  Boxes compared.
-/
import Derived.Test.YtlpjienaennmaaaLL
import Derived.Laws.StructEq
namespace Go.Proofs.Ytlpjienaennmaaa
open Go
set_option maxRecDepth 20000

theorem boxUnd : Try.prog.underlying 41 = some (.struct (Try.prog.fieldsOf 41)) := by kernel_rfl
theorem boxHeld : Try.prog.stoodInHeld 41 = false := by kernel_rfl
theorem boxGrd : Try.prog.eqGuardType Try.prog.depth 41 = false := by kernel_rfl
theorem Yd.eqlBox {T Y : TypeId} {ρ : Env} {A : Amb} {fs : List HProp} {x y : Operand} {a b : Box} (hx : ev ρ x = .agg #[vI a.X, vI a.Y, vI a.W, vI a.H]) (hy : ev ρ y = .agg #[vI b.X, vI b.Y, vI b.W, vI b.H]) :
    Yd Try.prog (.binOp .eql 41 x y Y) T ρ A fs (.bool (decide (a = b))) := fun w _ => by
  have e1 := run_eqGuard_agg (P := Try.prog) w .eql 41 x y #[vI a.X, vI a.Y, vI a.W, vI a.H] #[vI b.X, vI b.Y, vI b.W, vI b.H] boxGrd
  have e2 := run_eql_struct (P := Try.prog) w 41 #[vI a.X, vI a.Y, vI a.W, vI a.H] #[vI b.X, vI b.Y, vI b.W, vI b.H]
  have u3 := Try.underlying3
  have a3 := Try.isAgg3
  simp only [dummy, execOp, hx, hy, Sem.run_bind, Result.andThen_ok, e1, e2]
  rw [show (10000 : Nat) = 9999 + 1 from rfl, run_equalIn_agg w 9999 _ _ _ boxUnd boxHeld]
  simp only [Program.fieldsOf, Try.underlying41]
  obtain ⟨aX, aY, aW, aH⟩ := a
  obtain ⟨bX, bY, bW, bH⟩ := b
  have q := fun (a b : Int) w => run_equalIn_int (P := Try.prog) w 9998 3 .i64 .i64 a b u3
  simp [Op.eqFields, part, a3, q, Sem.run_bind]
  by_cases h1 : aX = bX <;> by_cases h2 : aY = bY <;> by_cases h3 : aW = bW <;> by_cases h4 : aH = bH <;> simp [h1, h2, h3, h4]
end Go.Proofs.Ytlpjienaennmaaa
