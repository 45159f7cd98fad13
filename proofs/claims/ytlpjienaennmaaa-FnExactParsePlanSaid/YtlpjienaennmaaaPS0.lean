/-
  Strings: lengths, bytes, parts, sums, compared.
-/
import Derived.Test.YtlpjienaennmaaaLL
import Derived.Laws.StructEq
import Derived.Laws.Strings3
import Derived.Laws.Concat
namespace Go.Proofs.Ytlpjienaennmaaa
open Go
set_option maxRecDepth 20000

abbrev vT (b : List UInt8) : Value := .string ⟨b.toArray⟩
abbrev v8 (u : UInt8) : Value := .int .u8 u.toNat
theorem u8_b (u : UInt8) : (0 : Int) ≤ u.toNat ∧ (u.toNat : Int) ≤ 255 := ⟨by omega, by have := u.toNat_lt; omega⟩
section
variable {P : Program} {n : Nat} {ops : Array Oper} {r : List Oper} {T : TypeId} {ρ : Env} {A : Amb} {fs fix : List HProp} {Q : NPost} {pos : String} {af : Array Edge} {g : Option (Nat × Bool)} {listed : Array Bool} {fuel : Nat}
theorem Yd.lenT {x : Operand} {X : TypeId} {b : List UInt8} [h : TyUnd P X .string] (hx : ev ρ x = vT b) : Yd P (.call { callee := .builtin .len, args := #[x], argTypes := #[X] }) T ρ A fs (vI b.length) := by
  have := Yd.lenS (P := P) (T := T) (A := A) (fs := fs) (X := X) hx
  exact this
theorem ixT_run (w : World) (X : TypeId) (h : P.underlying X = some .string) {a : List UInt8} {j : Int} {u : UInt8} (h0 : 0 ≤ j) (hu : a[j.toNat]? = some u) : (Instr.index X (vT a) (.int .i64 j)).run P w = .ok (v8 u) w := by
  have hl := (List.getElem?_eq_some_iff.1 hu).1
  have hs : (⟨a.toArray⟩ : ByteArray).size = a.length := rfl
  rw [run_index_string w X _ _ _ h, dif_pos ⟨h0, by rw [hs]; omega⟩]
  obtain ⟨_, rfl⟩ := List.getElem?_eq_some_iff.1 hu
  rfl
theorem Yd.ixT {X : TypeId} {x y : Operand} {a : List UInt8} {j : Int} {u : UInt8} [h : TyUnd P X .string] (hx : ev ρ x = vT a) (hy : ev ρ y = vI j) (h0 : 0 ≤ j) (hu : a[j.toNat]? = some u) : Yd P (.index X x y) T ρ A fs (v8 u) := fun w _ => by
  have := ixT_run w X h.und h0 hu
  simp only [dummy, execOp, hx, hy, Sem.run_bind, this, Result.andThen_ok]
  rfl
theorem LJ.ixT {d : Nat} {X : TypeId} {x y : Operand} {a : List UInt8} {j : Int} [TyUnd P X .string] (hd : Nat.blt d n = true) (hx : ev ρ x = vT a) (hy : ev ρ y = vI j) (hj : 0 ≤ j) (hl : j < a.length)
    (kk : ∀ u, a[j.toNat]? = some u → LJ P n ops r (upd ρ d (v8 u)) A fs Q) : LJ P n ops (⟨some d, .index X x y, T, pos, af, none⟩ :: r) ρ A fs Q :=
  let ⟨u, hu⟩ := someC (l := a) (j := j.toNat) (by omega); LJ.yd hd (Yd.ixT hx hy hj hu) (kk u hu)
theorem DJ.ixT {i d : Nat} {X : TypeId} {x y : Operand} (hi : ops[i]? = some ⟨some d, .index X x y, T, pos, af, g⟩)
    (hs : Region.noSelect ops = true) (hf' : Region.free .any ops listed i = true) (hrd : (Region.ready .any ops listed).contains i = true) (hg : wantE ops ρ g = true) (hd : Nat.blt d n = true)
    {a : List UInt8} {j : Int} [TyUnd P X .string] (hx : ev ρ x = vT a) (hy : ev ρ y = vI j) (hj : 0 ≤ j) (hl : j < a.length)
    (kk : ∀ u, a[j.toNat]? = some u → DJ P n ops (upd ρ d (v8 u)) A fix fs (listed.setIfInBounds i true) fuel Q) : DJ P n ops ρ A fix fs listed (fuel + 1) Q :=
  let ⟨u, hu⟩ := someC (l := a) (j := j.toNat) (by omega); DJ.yd i hi hs hf' hrd hg hd (Yd.ixT hx hy hj hu) (kk u hu)
theorem slT_dummy {w : World} {X : TypeId} {x : Operand} {lo hi : Option Operand} {v : Value} (h : (Instr.sliceAt X (ev ρ x) (lo.map (ev ρ)) (hi.map (ev ρ)) none).run P w = .ok v w) : (execOp (ev ρ) (dummy (.slice X x lo hi none) T)).run P w = .ok (.value v) w := by
  simp only [dummy, execOp, Sem.run_bind, Option.map_none, h, Result.andThen_ok]
  rfl
theorem Yd.slT_h {X : TypeId} {x hi : Operand} {a : List UInt8} {j : Int} [h : TyUnd P X .string] (hx : ev ρ x = vT a) (hj : ev ρ hi = vI j) (h0 : 0 ≤ j) (h1 : j ≤ a.length) : Yd P (.slice X x none (some hi) none) T ρ A fs (vT (a.take j.toNat)) := fun w _ => by
  have hs : (⟨a.toArray⟩ : ByteArray).size = a.length := rfl
  have e := run_slice_string_to_if (P := P) w X ⟨a.toArray⟩ .i64 j h.und
  rw [if_pos ⟨h0, by rw [hs]; exact h1⟩, ByteArray.extract_mk, List.drop_zero, Nat.sub_zero] at e
  refine slT_dummy ?_
  simp only [Option.map_none, Option.map_some, hx, hj]
  rw [run_sliceAt_string w X _ _ _ _ h.und]; exact e
theorem Yd.slT_l {X : TypeId} {x lo : Operand} {a : List UInt8} {j : Int} [h : TyUnd P X .string] (hx : ev ρ x = vT a) (hj : ev ρ lo = vI j) (h0 : 0 ≤ j) (h1 : j ≤ a.length) : Yd P (.slice X x (some lo) none none) T ρ A fs (vT (a.drop j.toNat)) := fun w _ => by
  have hs : (⟨a.toArray⟩ : ByteArray).size = a.length := rfl
  have e := run_slice_string_from_if (P := P) w X ⟨a.toArray⟩ .i64 j h.und
  rw [if_pos ⟨h0, by rw [hs]; exact h1⟩, ByteArray.extract_mk, hs, List.take_of_length_le (by rw [List.length_drop]; omega)] at e
  refine slT_dummy ?_
  simp only [Option.map_none, Option.map_some, hx, hj]
  rw [run_sliceAt_string w X _ _ _ _ h.und]; exact e
theorem Yd.slT_lh {X : TypeId} {x lo hi : Operand} {a : List UInt8} {i j : Int} [h : TyUnd P X .string] (hx : ev ρ x = vT a) (hlo : ev ρ lo = vI i) (hj : ev ρ hi = vI j) (h0 : 0 ≤ i) (h1 : i ≤ j) (h2 : j ≤ a.length) : Yd P (.slice X x (some lo) (some hi) none) T ρ A fs (vT ((a.drop i.toNat).take (j.toNat - i.toNat))) := fun w _ => by
  have hs : (⟨a.toArray⟩ : ByteArray).size = a.length := rfl
  have e := run_slice_string (P := P) w X ⟨a.toArray⟩ .i64 .i64 i j h.und h0 h1 (by rw [hs]; exact h2)
  rw [ByteArray.extract_mk] at e
  refine slT_dummy ?_
  simp only [Option.map_some, hx, hlo, hj]
  rw [run_sliceAt_string w X _ _ _ _ h.und]; exact e
theorem Yd.addT {X Y : TypeId} {x y : Operand} {a b : List UInt8} (hx : ev ρ x = vT a) (hy : ev ρ y = vT b) (ha : a.length ≤ 100000) (hb : b.length ≤ 100000) : Yd P (.binOp .add X x y Y) T ρ A fs (vT (a ++ b)) := fun w _ => by
  have e := run_string_add_lists (P := P) w a b (by omega) (by omega)
  have e1 : (eqGuard .add X x y (vT a) (vT b)).run P w = .ok () w := rfl
  simp only [dummy, execOp, hx, hy, Sem.run_bind, Result.andThen_ok, e1, binOp, e]
  rfl
theorem bytes_eq (a b : List UInt8) : (a == b) = decide (a = b) := by
  by_cases h : a = b <;> simp [h]
theorem Yd.eqlT {X Y : TypeId} {x y : Operand} {a b : List UInt8} [h : TyUnd P X .string] (hx : ev ρ x = vT a) (hy : ev ρ y = vT b) : Yd P (.binOp .eql X x y Y) T ρ A fs (.bool (decide (a = b))) := fun w _ => by
  have e1 : (eqGuard .eql X x y (vT a) (vT b)).run P w = .ok () w := rfl
  have e2 : (binOp .eql X (vT a) (vT b)).run P w = .ok (.bool (decide (a = b))) w := by
    have e9 := bytes_eq a b
    simp [binOp, Op.stringOp, e9]
  simp only [dummy, execOp, hx, hy, Sem.run_bind, Result.andThen_ok, e1, e2]
  rfl
theorem Yd.neqT {X Y : TypeId} {x y : Operand} {a b : List UInt8} [h : TyUnd P X .string] (hx : ev ρ x = vT a) (hy : ev ρ y = vT b) : Yd P (.binOp .neq X x y Y) T ρ A fs (.bool (!decide (a = b))) := fun w _ => by
  have e1 : (eqGuard .neq X x y (vT a) (vT b)).run P w = .ok () w := rfl
  have e2 : (binOp .neq X (vT a) (vT b)).run P w = .ok (.bool (!decide (a = b))) w := by
    have e9 := bytes_eq a b
    simp [binOp, Op.stringOp, e9]
  simp only [dummy, execOp, hx, hy, Sem.run_bind, Result.andThen_ok, e1, e2]
  rfl
theorem wrap8_in {n : Int} (h0 : 0 ≤ n) (h1 : n ≤ 255) : IntKind.u8.wrap n = n := by
  simp only [IntKind.wrap, IntKind.bits, IntKind.signed, Bool.false_and]
  simp <;> omega
theorem Yd.sub8 {X Y : TypeId} {x y : Operand} {a b : Int} (hx : ev ρ x = .int .u8 a) (hy : ev ρ y = .int .u8 b) (h0 : 0 ≤ a - b) (h1 : a - b ≤ 255) : Yd P (.binOp .sub X x y Y) T ρ A fs (.int .u8 (a - b)) := fun w _ => by
  have := Yd.subW (P := P) (T := T) (A := A) (fs := fs) (X := X) (Y := Y) hx hy w ‹_›
  rwa [wrap8_in h0 h1] at this
end
end Go.Proofs.Ytlpjienaennmaaa
