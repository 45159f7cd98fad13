/-
  Shifts; bits of small numbers.
-/
import Derived.Test.YtkojheinklgdeaaLA
namespace Go.Proofs.Ytkojheinklgdeaa
open Go

theorem andNot_all : ((List.range 128).all fun a => (List.range 128).all fun b => !(Nat.beq (b &&& a) b) || decide (andNotI a b = ((a - b : Nat) : Int))) = true := by decide +kernel
theorem andNotI_nat {a b : Nat} (ha : a < 128) (h : b &&& a = b) : andNotI a b = ((a - b : Nat) : Int) := by
  have hb : b ≤ a := by rw [← h]; exact Nat.and_le_right
  have h1 := List.all_eq_true.1 (List.all_eq_true.1 andNot_all a (List.mem_range.2 ha)) b (List.mem_range.2 (by omega))
  rw [h] at h1
  simpa using h1
section
variable {P : Program} {T : TypeId} {ρ : Env} {A : Amb} {fs : List HProp}
theorem Yd.shl1 {X Y : TypeId} {x y : Operand} {n : Nat} (hx : ev ρ x = vI 1) (hy : ev ρ y = vI n) (hn : n < 62) : Yd P (.binOp .shl X x y Y) T ρ A fs (vI ((2 ^ n : Nat) : Int)) := fun w _ => by
  have h2 : (2 : Int) ^ n = ((2 ^ n : Nat) : Int) := by simp
  have h3 : 2 ^ n < 2 ^ 62 := Nat.pow_lt_pow_right (by omega) hn
  rw [run_bin hx hy]
  have h1 : ¬ ((n : Int) < 0) := by omega
  have h4 : min n 64 = n := by omega
  generalize 2 ^ n = p at *
  have hb : I64 (p : Int) := by unfold I64; omega
  simp only [binOp, Op.shift, h1, if_false, IntKind.bits, Int.toNat_natCast, h4, h2, Int.one_mul, wrap_in hb]
  rfl
theorem Yd.shrN {X Y : TypeId} {x y : Operand} {s n : Nat} (hx : ev ρ x = vI s) (hy : ev ρ y = vI n) (hn : n < 64) : Yd P (.binOp .shr X x y Y) T ρ A fs (vI ((s / 2 ^ n : Nat) : Int)) := fun w _ => by
  have h2 : (2 : Int) ^ n = ((2 ^ n : Nat) : Int) := by simp
  rw [run_bin hx hy]
  have h1 : ¬ ((n : Int) < 0) := by omega
  have h4 : min n 64 = n := by omega
  have h5 : (s : Int).fdiv ((2 ^ n : Nat) : Int) = ((s / 2 ^ n : Nat) : Int) := by
    generalize 2 ^ n = p
    rw [Int.fdiv_eq_ediv_of_nonneg _ (by omega)]; rfl
  simp only [binOp, Op.shift, h1, if_false, IntKind.bits, Int.toNat_natCast, h4, h2, h5]
  rfl
theorem Yd.andN {X Y : TypeId} {x y : Operand} {a b : Nat} (hx : ev ρ x = vI a) (hy : ev ρ y = vI b) (ha : a < 2 ^ 63) (hb : b < 2 ^ 63) : Yd P (.binOp .and X x y Y) T ρ A fs (vI ((a &&& b : Nat) : Int)) := by
  rw [← andI_nat ha hb]; exact Yd.and hx hy
theorem Yd.andNotN {X Y : TypeId} {x y : Operand} {a b : Nat} (hx : ev ρ x = vI a) (hy : ev ρ y = vI b) (ha : a < 128) (h : b &&& a = b) : Yd P (.binOp .andNot X x y Y) T ρ A fs (vI ((a - b : Nat) : Int)) := by
  rw [← andNotI_nat ha h]; exact Yd.andNot hx hy
end
end Go.Proofs.Ytkojheinklgdeaa
