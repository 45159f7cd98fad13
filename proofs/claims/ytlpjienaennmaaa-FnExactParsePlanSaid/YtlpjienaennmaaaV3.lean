/-
  A program logic of heaplets: the laws of the operations that only yield a value.
-/
import Derived.Test.YtlpjienaennmaaaV2
namespace Go.Proofs.Ytlpjienaennmaaa
open Go

class TyCell (P : Program) (T : TypeId) : Prop where
  agg : ∀ w, (isAgg T).run P w = .ok false w
class TyAgg (P : Program) (T : TypeId) (k : outParam Nat) : Prop where
  agg : ∀ w, (isAgg T).run P w = .ok true w
  size : ∀ w, (sizeOf T).run P w = .ok k w
class TySize (P : Program) (T : TypeId) (k : outParam Nat) : Prop where
  size : ∀ w, (sizeOf T).run P w = .ok k w
class TyField (P : Program) (S : TypeId) (f : Nat) (off : outParam Nat) : Prop where
  fld : ∀ (b o : Nat) w, (Instr.fieldAt S (.pointer (some ⟨b, o, none⟩)) f).run P w = .ok (.pointer (some ⟨b, o + off, none⟩)) w
class TyUnd (P : Program) (T : TypeId) (d : outParam TypeDesc) : Prop where
  und : P.underlying T = some d
  run : ∀ w, (underlying T).run P w = .ok d w
class TyZero (P : Program) (T : TypeId) (v : outParam Value) : Prop where
  zero : ∀ w, (zeroValue T).run P w = .ok v w

theorem add_lit (b o j : Nat) : (⟨b, o, none⟩ : Addr).add j = ⟨b, o + j, none⟩ := by
  unfold Addr.add; split <;> simp_all

section
variable {P : Program} {T : TypeId} {ρ : Env} {A : Amb} {fs : List HProp}
theorem Yd.move {x : Operand} : Yd P (.move x) T ρ A fs (ev ρ x) := fun _ _ => rfl
theorem Yd.assign {x : Operand} : Yd P (.assign x) T ρ A fs (ev ρ x) := fun _ _ => rfl
theorem Yd.mvI {x : Operand} {k : IntKind} {a : Int} (hx : ev ρ x = .int k a) : Yd P (.move x) T ρ A fs (.int k a) := fun _ _ => by rw [← hx]; rfl
theorem Yd.mvB {x : Operand} {a : Bool} (hx : ev ρ x = .bool a) : Yd P (.move x) T ρ A fs (.bool a) := fun _ _ => by rw [← hx]; rfl
theorem Yd.mvP {x : Operand} {a : Option Addr} (hx : ev ρ x = .pointer a) : Yd P (.move x) T ρ A fs (.pointer a) := fun _ _ => by rw [← hx]; rfl
theorem Yd.mvS {x : Operand} {a : Option Addr} {l c : Nat} (hx : ev ρ x = .slice a l c) : Yd P (.move x) T ρ A fs (.slice a l c) := fun _ _ => by rw [← hx]; rfl
theorem Yd.mvG {x : Operand} {a : Array Value} (hx : ev ρ x = .agg a) : Yd P (.move x) T ρ A fs (.agg a) := fun _ _ => by rw [← hx]; rfl
theorem Yd.mvT {x : Operand} {a : ByteArray} (hx : ev ρ x = .string a) : Yd P (.move x) T ρ A fs (.string a) := fun _ _ => by rw [← hx]; rfl
theorem Yd.mvF {x : Operand} {f : Fn} {a b : Array Value} (hx : ev ρ x = .func f a b) : Yd P (.move x) T ρ A fs (.func f a b) := fun _ _ => by rw [← hx]; rfl
theorem Yd.mvU {x : Operand} {a : Array Value} (hx : ev ρ x = .tuple a) : Yd P (.move x) T ρ A fs (.tuple a) := fun _ _ => by rw [← hx]; rfl
theorem Yd.asI {x : Operand} {k : IntKind} {a : Int} (hx : ev ρ x = .int k a) : Yd P (.assign x) T ρ A fs (.int k a) := fun _ _ => by rw [← hx]; rfl
theorem Yd.asB {x : Operand} {a : Bool} (hx : ev ρ x = .bool a) : Yd P (.assign x) T ρ A fs (.bool a) := fun _ _ => by rw [← hx]; rfl
theorem Yd.asP {x : Operand} {a : Option Addr} (hx : ev ρ x = .pointer a) : Yd P (.assign x) T ρ A fs (.pointer a) := fun _ _ => by rw [← hx]; rfl
theorem Yd.asS {x : Operand} {a : Option Addr} {l c : Nat} (hx : ev ρ x = .slice a l c) : Yd P (.assign x) T ρ A fs (.slice a l c) := fun _ _ => by rw [← hx]; rfl
theorem Yd.asG {x : Operand} {a : Array Value} (hx : ev ρ x = .agg a) : Yd P (.assign x) T ρ A fs (.agg a) := fun _ _ => by rw [← hx]; rfl
theorem Yd.asT {x : Operand} {a : ByteArray} (hx : ev ρ x = .string a) : Yd P (.assign x) T ρ A fs (.string a) := fun _ _ => by rw [← hx]; rfl
theorem Yd.asF {x : Operand} {f : Fn} {a b : Array Value} (hx : ev ρ x = .func f a b) : Yd P (.assign x) T ρ A fs (.func f a b) := fun _ _ => by rw [← hx]; rfl
theorem Yd.pickT {c x y : Operand} {v : Value} (hc : ev ρ c = .bool true) (hx : ev ρ x = v) : Yd P (.pick c x y) T ρ A fs v := fun w _ => by
  simp [dummy, execOp, hc, hx, asBool]
theorem Yd.pickF {c x y : Operand} {v : Value} (hc : ev ρ c = .bool false) (hy : ev ρ y = v) : Yd P (.pick c x y) T ρ A fs v := fun w _ => by
  simp [dummy, execOp, hc, hy, asBool]
theorem Yd.pickTB {c x y : Operand} {a : Bool} (hc : ev ρ c = .bool true) (hx : ev ρ x = .bool a) : Yd P (.pick c x y) T ρ A fs (.bool a) := Yd.pickT hc hx
theorem Yd.pickFB {c x y : Operand} {a : Bool} (hc : ev ρ c = .bool false) (hy : ev ρ y = .bool a) : Yd P (.pick c x y) T ρ A fs (.bool a) := Yd.pickF hc hy
theorem Yd.pick {c x y : Operand} {t : Bool} (hc : ev ρ c = .bool t) : Yd P (.pick c x y) T ρ A fs (bif t then ev ρ x else ev ρ y) := fun w _ => by
  simp only [dummy, execOp, hc, asBool]; cases t <;> rfl
theorem Yd.pickB {c x y : Operand} {t a b : Bool} (hc : ev ρ c = .bool t) (hx : ev ρ x = .bool a) (hy : ev ρ y = .bool b) : Yd P (.pick c x y) T ρ A fs (.bool (bif t then a else b)) := fun w _ => by
  simp only [dummy, execOp, hc, hx, hy, asBool]; cases t <;> rfl
theorem run_bin {op : BinOp} {X Y : TypeId} {x y : Operand} {k : IntKind} {a b : Int} (hx : ev ρ x = .int k a) (hy : ev ρ y = .int k b) (w : World) :
    (execOp (ev ρ) (dummy (.binOp op X x y Y) T)).run P w = ((binOp op X (.int k a) (.int k b)).run P w).andThen fun v w' => .ok (.value v) w' := by
  have e : (eqGuard op X x y (.int k a) (.int k b)).run P w = .ok () w := by
    unfold eqGuard; cases op <;> rfl
  simp only [dummy, execOp, hx, hy, Sem.run_bind, Result.andThen_ok, e]
  rfl
theorem bin_arith {op : BinOp} (h : op = .add ∨ op = .sub ∨ op = .mul) {X : TypeId} {k : IntKind} {a b : Int} : binOp op X (.int k a) (.int k b) = Op.intArith op k a b := by
  rcases h with rfl | rfl | rfl <;> simp [binOp]
theorem Yd.addW {X Y : TypeId} {x y : Operand} {k : IntKind} {a b : Int} (hx : ev ρ x = .int k a) (hy : ev ρ y = .int k b) : Yd P (.binOp .add X x y Y) T ρ A fs (.int k (k.wrap (a + b))) := fun w _ => by
  rw [run_bin hx hy, bin_arith (by simp)]; rfl
theorem Yd.subW {X Y : TypeId} {x y : Operand} {k : IntKind} {a b : Int} (hx : ev ρ x = .int k a) (hy : ev ρ y = .int k b) : Yd P (.binOp .sub X x y Y) T ρ A fs (.int k (k.wrap (a - b))) := fun w _ => by
  rw [run_bin hx hy, bin_arith (by simp)]; rfl
theorem Yd.mulW {X Y : TypeId} {x y : Operand} {k : IntKind} {a b : Int} (hx : ev ρ x = .int k a) (hy : ev ρ y = .int k b) : Yd P (.binOp .mul X x y Y) T ρ A fs (.int k (k.wrap (a * b))) := fun w _ => by
  rw [run_bin hx hy, bin_arith (by simp)]; rfl
/-- a number fits an int -/
def I64 (n : Int) : Prop := -9223372036854775808 ≤ n ∧ n < 9223372036854775808
theorem wrap_in {n : Int} (h : I64 n) : IntKind.i64.wrap n = n := by
  obtain ⟨h1, h2⟩ := h
  simp only [IntKind.wrap, IntKind.bits, IntKind.signed, Bool.true_and]
  split <;> simp_all <;> omega
theorem Yd.add {X Y : TypeId} {x y : Operand} {a b : Int} (hx : ev ρ x = .int .i64 a) (hy : ev ρ y = .int .i64 b) (h : I64 (a + b)) : Yd P (.binOp .add X x y Y) T ρ A fs (.int .i64 (a + b)) := by
  have := Yd.addW (P := P) (T := T) (A := A) (fs := fs) (X := X) (Y := Y) hx hy; rwa [wrap_in h] at this
theorem Yd.sub {X Y : TypeId} {x y : Operand} {a b : Int} (hx : ev ρ x = .int .i64 a) (hy : ev ρ y = .int .i64 b) (h : I64 (a - b)) : Yd P (.binOp .sub X x y Y) T ρ A fs (.int .i64 (a - b)) := by
  have := Yd.subW (P := P) (T := T) (A := A) (fs := fs) (X := X) (Y := Y) hx hy; rwa [wrap_in h] at this
theorem Yd.mul {X Y : TypeId} {x y : Operand} {a b : Int} (hx : ev ρ x = .int .i64 a) (hy : ev ρ y = .int .i64 b) (h : I64 (a * b)) : Yd P (.binOp .mul X x y Y) T ρ A fs (.int .i64 (a * b)) := by
  have := Yd.mulW (P := P) (T := T) (A := A) (fs := fs) (X := X) (Y := Y) hx hy; rwa [wrap_in h] at this
theorem Yd.quo {X Y : TypeId} {x y : Operand} {a b : Int} (hx : ev ρ x = .int .i64 a) (hy : ev ρ y = .int .i64 b) (ha : 0 ≤ a) (hb : 0 < b) (hi : I64 a) : Yd P (.binOp .quo X x y Y) T ρ A fs (.int .i64 (a / b)) := fun w _ => by
  rw [run_bin hx hy]
  have e : a.tdiv b = a / b := Int.tdiv_eq_ediv_of_nonneg ha
  have l : a / b ≤ a := Int.ediv_le_self b ha
  have l0 : 0 ≤ a / b := Int.ediv_nonneg ha (by omega)
  have i : I64 (a / b) := ⟨by have := hi.1; omega, by have := hi.2; omega⟩
  simp [binOp, Op.intDiv, e, wrap_in i, show b ≠ 0 by omega]
theorem Yd.rem {X Y : TypeId} {x y : Operand} {k : IntKind} {a b : Int} (hx : ev ρ x = .int k a) (hy : ev ρ y = .int k b) (ha : 0 ≤ a) (hb : b ≠ 0) : Yd P (.binOp .rem X x y Y) T ρ A fs (.int k (a % b)) := fun w _ => by
  rw [run_bin hx hy]
  have e : a.tmod b = a % b := Int.tmod_eq_emod_of_nonneg ha
  simp [binOp, Op.intDiv, e, hb]
/-- bits of int64 -/
def xorI (a b : Int) : Int := IntKind.i64.wrap ((BitVec.ofInt 64 a ^^^ BitVec.ofInt 64 b).toNat : Int)
def andI (a b : Int) : Int := IntKind.i64.wrap ((BitVec.ofInt 64 a &&& BitVec.ofInt 64 b).toNat : Int)
def andNotI (a b : Int) : Int := IntKind.i64.wrap ((BitVec.ofInt 64 a &&& ~~~BitVec.ofInt 64 b).toNat : Int)
theorem Yd.xor {X Y : TypeId} {x y : Operand} {a b : Int} (hx : ev ρ x = .int .i64 a) (hy : ev ρ y = .int .i64 b) : Yd P (.binOp .xor X x y Y) T ρ A fs (.int .i64 (xorI a b)) := fun w _ => by
  rw [run_bin hx hy]; rfl
theorem Yd.and {X Y : TypeId} {x y : Operand} {a b : Int} (hx : ev ρ x = .int .i64 a) (hy : ev ρ y = .int .i64 b) : Yd P (.binOp .and X x y Y) T ρ A fs (.int .i64 (andI a b)) := fun w _ => by
  rw [run_bin hx hy]; rfl
theorem Yd.andNot {X Y : TypeId} {x y : Operand} {a b : Int} (hx : ev ρ x = .int .i64 a) (hy : ev ρ y = .int .i64 b) : Yd P (.binOp .andNot X x y Y) T ρ A fs (.int .i64 (andNotI a b)) := fun w _ => by
  rw [run_bin hx hy]; rfl
theorem ofInt_nat {a : Nat} (h : a < 2 ^ 63) : (BitVec.ofInt 64 (a : Int)).toNat = a := by
  rw [BitVec.ofInt_natCast, BitVec.toNat_ofNat]; omega
theorem xorI_nat {a b : Nat} (ha : a < 2 ^ 63) (hb : b < 2 ^ 63) : xorI a b = ((a ^^^ b : Nat) : Int) := by
  unfold xorI
  rw [BitVec.toNat_xor, ofInt_nat ha, ofInt_nat hb]
  have := Nat.xor_lt_two_pow ha hb
  exact wrap_in (by unfold I64; omega)
theorem andI_nat {a b : Nat} (ha : a < 2 ^ 63) (hb : b < 2 ^ 63) : andI a b = ((a &&& b : Nat) : Int) := by
  unfold andI
  rw [BitVec.toNat_and, ofInt_nat ha, ofInt_nat hb]
  have := Nat.and_lt_two_pow a hb
  exact wrap_in (by unfold I64; omega)
theorem xorI_nonneg {a b : Int} (ha : 0 ≤ a) (ha' : a < 2 ^ 63) (hb : 0 ≤ b) (hb' : b < 2 ^ 63) : 0 ≤ xorI a b := by
  obtain ⟨a, rfl⟩ := Int.eq_ofNat_of_zero_le ha
  obtain ⟨b, rfl⟩ := Int.eq_ofNat_of_zero_le hb
  rw [xorI_nat (by omega) (by omega)]
  omega
theorem Yd.lss {X Y : TypeId} {x y : Operand} {k : IntKind} {a b : Int} (hx : ev ρ x = .int k a) (hy : ev ρ y = .int k b) : Yd P (.binOp .lss X x y Y) T ρ A fs (.bool (decide (a < b))) := fun w _ => by
  rw [run_bin hx hy]; simp [binOp, Op.intCmp]
theorem Yd.leq {X Y : TypeId} {x y : Operand} {k : IntKind} {a b : Int} (hx : ev ρ x = .int k a) (hy : ev ρ y = .int k b) : Yd P (.binOp .leq X x y Y) T ρ A fs (.bool (decide (a ≤ b))) := fun w _ => by
  rw [run_bin hx hy]; simp [binOp, Op.intCmp]
theorem Yd.gtr {X Y : TypeId} {x y : Operand} {k : IntKind} {a b : Int} (hx : ev ρ x = .int k a) (hy : ev ρ y = .int k b) : Yd P (.binOp .gtr X x y Y) T ρ A fs (.bool (decide (b < a))) := fun w _ => by
  rw [run_bin hx hy]; simp [binOp, Op.intCmp]
theorem Yd.geq {X Y : TypeId} {x y : Operand} {k : IntKind} {a b : Int} (hx : ev ρ x = .int k a) (hy : ev ρ y = .int k b) : Yd P (.binOp .geq X x y Y) T ρ A fs (.bool (decide (b ≤ a))) := fun w _ => by
  rw [run_bin hx hy]; simp [binOp, Op.intCmp]
theorem Yd.eql {X Y : TypeId} {x y : Operand} {k : IntKind} {a b : Int} (hx : ev ρ x = .int k a) (hy : ev ρ y = .int k b) : Yd P (.binOp .eql X x y Y) T ρ A fs (.bool (decide (a = b))) := fun w _ => by
  rw [run_bin hx hy]; simp [binOp, Op.intCmp]; rfl
theorem Yd.neq {X Y : TypeId} {x y : Operand} {k : IntKind} {a b : Int} (hx : ev ρ x = .int k a) (hy : ev ρ y = .int k b) : Yd P (.binOp .neq X x y Y) T ρ A fs (.bool (!decide (a = b))) := fun w _ => by
  rw [run_bin hx hy]; simp [binOp, Op.intCmp]; rfl
theorem Yd.not {X : TypeId} {x : Operand} {t : Bool} (hx : ev ρ x = .bool t) : Yd P (.unOp .not X x) T ρ A fs (.bool (!t)) := fun w _ => by
  simp [dummy, execOp, hx, Op.unary]
theorem Yd.neg {X : TypeId} {x : Operand} {a : Int} (hx : ev ρ x = .int .i64 a) (h : I64 (-a)) : Yd P (.unOp .neg X x) T ρ A fs (.int .i64 (-a)) := fun w _ => by
  simp [dummy, execOp, hx, Op.unary, Op.intArith, wrap_in h]
theorem Yd.fieldAddr {S : TypeId} {x : Operand} {f off b o : Nat} [h : TyField P S f off] (hx : ev ρ x = .pointer (some ⟨b, o, none⟩)) : Yd P (.fieldAddr S x f) T ρ A fs (.pointer (some ⟨b, o + off, none⟩)) := fun w _ => by
  simp [dummy, execOp, hx, h.fld]
theorem Yd.nilCheck {x : Operand} {a : Addr} (hx : ev ρ x = .pointer (some a)) : Yd P (.nilCheck x) T ρ A fs (.pointer (some a)) := fun w _ => by
  simp [dummy, execOp, hx]
theorem Yd.load {X : TypeId} {x : Operand} {a : Addr} {v : Value} [h : TyCell P X] (hx : ev ρ x = .pointer (some a)) (hv : Rdc A fs a v) : Yd P (.load X x) T ρ A fs v := fun w s => by
  simp [dummy, execOp, hx, Instr.loadAt, Instr.sureAddr, loadVar, h.agg, hv w s]
theorem run_loadCellsFrom (w : World) (b o : Nat) (vs : List Value) : ∀ (i : Nat) (acc : Array Value), (∀ j v, vs[j]? = some v → w.cell? ⟨b, o + (i + j), none⟩ = some v) →
    (loadCellsFrom ⟨b, o, none⟩ i vs.length acc).run P w = .ok (acc ++ vs.toArray) w := by
  induction vs with
  | nil => intro i acc _; simp [loadCellsFrom]
  | cons v r ih =>
    intro i acc h
    have h0 := h 0 v (by simp)
    simp only [Nat.add_zero] at h0
    simp only [List.length_cons, loadCellsFrom, Sem.run_bind, add_lit, run_load, h0, Result.andThen_ok]
    rw [ih (i + 1) (acc.push v) fun j u hj => by have := h (j + 1) u (by simpa using hj); rw [show i + 1 + j = i + (j + 1) by omega]; exact this]
    simp
theorem Yd.loadN {X : TypeId} {x : Operand} {b o k : Nat} {vs : List Value} [h : TyAgg P X k] (hx : ev ρ x = .pointer (some ⟨b, o, none⟩)) (hk : vs.length = k) (hv : ∀ j v, vs[j]? = some v → Rdc A fs ⟨b, o + j, none⟩ v) :
    Yd P (.load X x) T ρ A fs (.agg vs.toArray) := fun w s => by
  have := run_loadCellsFrom (P := P) w b o vs 0 #[] fun j v hj => by simpa using hv j v hj w s
  simp [dummy, execOp, hx, Instr.loadAt, Instr.sureAddr, loadVar, h.agg, h.size, loadCells, ← hk, this]
theorem Yd.extract {x : Operand} {i : Nat} {vs : Array Value} {v : Value} (hx : ev ρ x = .tuple vs) (hi : vs[i]? = some v) : Yd P (.extract x i) T ρ A fs v := fun w _ => by
  simp [dummy, execOp, hx, Instr.extract, hi]
theorem Yd.len {x : Operand} {X E : TypeId} {b : Option Addr} {n c : Nat} [h : TyUnd P X (.slice E)] (hx : ev ρ x = .slice b n c) : Yd P (.call { callee := .builtin .len, args := #[x], argTypes := #[X] }) T ρ A fs (.int .i64 n) := fun w _ => by
  simp [dummy, execOp, resolve, invoke, builtin, hx, Builtin.len_, h.run, goInt]
theorem Yd.lenS {x : Operand} {X : TypeId} {b : ByteArray} [h : TyUnd P X .string] (hx : ev ρ x = .string b) : Yd P (.call { callee := .builtin .len, args := #[x], argTypes := #[X] }) T ρ A fs (.int .i64 b.size) := fun w _ => by
  simp [dummy, execOp, resolve, invoke, builtin, hx, Builtin.len_, h.run, goInt]
theorem Yd.indexAddr {x i : Operand} {X E : TypeId} {b o n c k : Nat} {j : Int} [h : TyUnd P X (.slice E)] [hk : TySize P E k] (hx : ev ρ x = .slice (some ⟨b, o, none⟩) n c) (hi : ev ρ i = .int .i64 j) (h0 : 0 ≤ j) (h1 : j < n) :
    Yd P (.indexAddr X x i) T ρ A fs (.pointer (some ⟨b, o + j.toNat * k, none⟩)) := fun w _ => by
  simp [dummy, execOp, Instr.indexAt, hx, hi, asIntOf, h.run, hk.size, h0, h1, add_lit]
theorem Yd.convert {x : Operand} {X Y : TypeId} {k l : IntKind} {n : Int} [hX : TyUnd P X (.int k)] [hY : TyUnd P Y (.int l)] (hx : ev ρ x = .int k n) : Yd P (.convert X Y x) T ρ A fs (.int l (l.wrap n)) := fun w _ => by
  simp [dummy, execOp, Go.convert, hx, hX.run, hY.run, Conv.intToInt]
theorem Yd.convert8 {x : Operand} {X Y : TypeId} {k : IntKind} {n : Int} [hX : TyUnd P X (.int k)] [hY : TyUnd P Y (.int .i64)] (hx : ev ρ x = .int k n) (h0 : 0 ≤ n) (h1 : n ≤ 255) : Yd P (.convert X Y x) T ρ A fs (.int .i64 n) := by
  have := Yd.convert (P := P) (T := T) (A := A) (fs := fs) (X := X) (Y := Y) (l := .i64) hx
  rwa [wrap_in (by unfold I64; omega)] at this
theorem Yd.eqlB {X Y : TypeId} {x y : Operand} {a b : Bool} [h : TyUnd P X .bool] (hx : ev ρ x = .bool a) (hy : ev ρ y = .bool b) : Yd P (.binOp .eql X x y Y) T ρ A fs (.bool (decide (a = b))) := fun w _ => by
  have e1 : (eqGuard .eql X x y (.bool a) (.bool b)).run P w = .ok () w := rfl
  have e2 := run_eql_bool (P := P) w X a b h.und
  simp only [dummy, execOp, hx, hy, Sem.run_bind, Result.andThen_ok, e1, e2]
  cases a <;> cases b <;> rfl
theorem Yd.neqB {X Y : TypeId} {x y : Operand} {a b : Bool} [h : TyUnd P X .bool] (hx : ev ρ x = .bool a) (hy : ev ρ y = .bool b) : Yd P (.binOp .neq X x y Y) T ρ A fs (.bool (!decide (a = b))) := fun w _ => by
  have e1 : (eqGuard .neq X x y (.bool a) (.bool b)).run P w = .ok () w := rfl
  have e2 := run_neq_bool (P := P) w X a b h.und
  simp only [dummy, execOp, hx, hy, Sem.run_bind, Result.andThen_ok, e1, e2]
  cases a <;> cases b <;> rfl
theorem Yd.min' {x y : Operand} {ts : Array TypeId} {k l : IntKind} {a b : Int} (hx : ev ρ x = .int k a) (hy : ev ρ y = .int l b) : Yd P (.call { callee := .builtin .min, args := #[x, y], argTypes := ts }) T ρ A fs (.int k (min a b)) := fun w _ => by
  have e : (if b < a then b else a) = min a b := by omega
  simp [dummy, execOp, resolve, invoke, builtin, hx, hy, Builtin.min_, Builtin.min2, e]
theorem Yd.max' {x y : Operand} {ts : Array TypeId} {k l : IntKind} {a b : Int} (hx : ev ρ x = .int k a) (hy : ev ρ y = .int l b) : Yd P (.call { callee := .builtin .max, args := #[x, y], argTypes := ts }) T ρ A fs (.int k (max a b)) := fun w _ => by
  have e : (if b > a then b else a) = max a b := by omega
  simp [dummy, execOp, resolve, invoke, builtin, hx, hy, Builtin.max_, Builtin.max2, e]
theorem Yd.cmpT {op : Op} {p : Prop} [Decidable p] (h : Yd P op T ρ A fs (.bool (decide p))) (hp : p) : Yd P op T ρ A fs (.bool true) := by rwa [decide_eq_true hp] at h
theorem Yd.cmpF {op : Op} {p : Prop} [Decidable p] (h : Yd P op T ρ A fs (.bool (decide p))) (hp : ¬ p) : Yd P op T ρ A fs (.bool false) := by rwa [decide_eq_false hp] at h
theorem Yd.cmpNT {op : Op} {p : Prop} [Decidable p] (h : Yd P op T ρ A fs (.bool (!decide p))) (hp : ¬ p) : Yd P op T ρ A fs (.bool true) := by rwa [decide_eq_false hp] at h
theorem Yd.cmpNF {op : Op} {p : Prop} [Decidable p] (h : Yd P op T ρ A fs (.bool (!decide p))) (hp : p) : Yd P op T ρ A fs (.bool false) := by rwa [decide_eq_true hp] at h
theorem Yd.loadT {op : Op} {t : Bool} (h : Yd P op T ρ A fs (.bool t)) (ht : t = true) : Yd P op T ρ A fs (.bool true) := ht ▸ h
theorem Yd.loadF {op : Op} {t : Bool} (h : Yd P op T ρ A fs (.bool t)) (ht : t = false) : Yd P op T ρ A fs (.bool false) := ht ▸ h
end
end Go.Proofs.Ytlpjienaennmaaa
