/-
  The facts on the types of this seat's translation, by program.
-/
import Derived.Test.YtnfnidplhkfamaaV7
import Derived.Test.YtnfnidplhkfamaaProg
import Derived.KernelRfl
namespace Go.Proofs.Ytnfnidplhkfamaa
open Go

-- 2 int64
theorem sz2 (w : World) : (sizeOf 2).run Try.prog w = .ok 1 w := by simp [sizeOf, Try.typeInfo2]; rfl
instance : TyCell Try.prog 2 := ⟨Try.isAgg2⟩
instance : TySize Try.prog 2 1 := ⟨sz2⟩
instance : TyUnd Try.prog 2 (.int .i64) := ⟨Try.underlying2, Try.runUnderlying2⟩
instance : TyZero Try.prog 2 (.int .i64 0) := ⟨Try.zeroValue2⟩
-- 3 int
theorem sz3 (w : World) : (sizeOf 3).run Try.prog w = .ok 1 w := by simp [sizeOf, Try.typeInfo3]; rfl
instance : TyCell Try.prog 3 := ⟨Try.isAgg3⟩
instance : TySize Try.prog 3 1 := ⟨sz3⟩
instance : TyUnd Try.prog 3 (.int .i64) := ⟨Try.underlying3, Try.runUnderlying3⟩
instance : TyZero Try.prog 3 (.int .i64 0) := ⟨Try.zeroValue3⟩
-- 4 bool
theorem sz4 (w : World) : (sizeOf 4).run Try.prog w = .ok 1 w := by simp [sizeOf, Try.typeInfo4]; rfl
instance : TyCell Try.prog 4 := ⟨Try.isAgg4⟩
instance : TySize Try.prog 4 1 := ⟨sz4⟩
instance : TyUnd Try.prog 4 (.bool) := ⟨Try.underlying4, Try.runUnderlying4⟩
instance : TyZero Try.prog 4 (.bool false) := ⟨Try.zeroValue4⟩
-- 5 uint8
theorem sz5 (w : World) : (sizeOf 5).run Try.prog w = .ok 1 w := by simp [sizeOf, Try.typeInfo5]; rfl
instance : TyCell Try.prog 5 := ⟨Try.isAgg5⟩
instance : TySize Try.prog 5 1 := ⟨sz5⟩
instance : TyUnd Try.prog 5 (.int .u8) := ⟨Try.underlying5, Try.runUnderlying5⟩
instance : TyZero Try.prog 5 (.int .u8 0) := ⟨Try.zeroValue5⟩
-- 9 string
theorem sz9 (w : World) : (sizeOf 9).run Try.prog w = .ok 1 w := by simp [sizeOf, Try.typeInfo9]; rfl
instance : TyCell Try.prog 9 := ⟨Try.isAgg9⟩
instance : TySize Try.prog 9 1 := ⟨sz9⟩
instance : TyUnd Try.prog 9 (.string) := ⟨Try.underlying9, Try.runUnderlying9⟩
instance : TyZero Try.prog 9 (.string ByteArray.empty) := ⟨Try.zeroValue9⟩
-- 12 uintptr
theorem sz12 (w : World) : (sizeOf 12).run Try.prog w = .ok 1 w := by simp [sizeOf, Try.typeInfo12]; rfl
instance : TyCell Try.prog 12 := ⟨Try.isAgg12⟩
instance : TySize Try.prog 12 1 := ⟨sz12⟩
instance : TyUnd Try.prog 12 (.int .u64) := ⟨Try.underlying12, Try.runUnderlying12⟩
instance : TyZero Try.prog 12 (.int .u64 0) := ⟨Try.zeroValue12⟩
-- 21 int32
theorem sz21 (w : World) : (sizeOf 21).run Try.prog w = .ok 1 w := by simp [sizeOf, Try.typeInfo21]; rfl
instance : TyCell Try.prog 21 := ⟨Try.isAgg21⟩
instance : TySize Try.prog 21 1 := ⟨sz21⟩
instance : TyUnd Try.prog 21 (.int .i32) := ⟨Try.underlying21, Try.runUnderlying21⟩
instance : TyZero Try.prog 21 (.int .i32 0) := ⟨Try.zeroValue21⟩
-- 22 []uint8
theorem sz22 (w : World) : (sizeOf 22).run Try.prog w = .ok 1 w := by simp [sizeOf, Try.typeInfo22]; rfl
instance : TyCell Try.prog 22 := ⟨Try.isAgg22⟩
instance : TySize Try.prog 22 1 := ⟨sz22⟩
instance : TyUnd Try.prog 22 (.slice 5) := ⟨Try.underlying22, Try.runUnderlying22⟩
instance : TyZero Try.prog 22 (.slice none 0 0) := ⟨Try.zeroValue22⟩
-- 23 []impl.Piece
theorem sz23 (w : World) : (sizeOf 23).run Try.prog w = .ok 1 w := by simp [sizeOf, Try.typeInfo23]; rfl
instance : TyCell Try.prog 23 := ⟨Try.isAgg23⟩
instance : TySize Try.prog 23 1 := ⟨sz23⟩
instance : TyUnd Try.prog 23 (.slice 31) := ⟨Try.underlying23, Try.runUnderlying23⟩
instance : TyZero Try.prog 23 (.slice none 0 0) := ⟨Try.zeroValue23⟩
-- 24 struct { W int; H int; Turns bool; Kind int }
theorem sz24 (w : World) : (sizeOf 24).run Try.prog w = .ok 4 w := by simp [sizeOf, Try.typeInfo24]; rfl
instance : TyAgg Try.prog 24 4 := ⟨Try.isAgg24, sz24⟩
instance : TySize Try.prog 24 4 := ⟨sz24⟩
instance : TyZero Try.prog 24 (.agg #[.int .i64 0, .int .i64 0, .bool false, .int .i64 0]) := ⟨Try.zeroValue24⟩
-- 25 impl.Pane
theorem sz25 (w : World) : (sizeOf 25).run Try.prog w = .ok 4 w := by simp [sizeOf, Try.typeInfo25]; rfl
instance : TyAgg Try.prog 25 4 := ⟨Try.isAgg25, sz25⟩
instance : TySize Try.prog 25 4 := ⟨sz25⟩
instance : TyZero Try.prog 25 (.agg #[.int .i64 0, .int .i64 0, .bool false, .int .i64 0]) := ⟨Try.zeroValue25⟩
-- 29 []impl.Box
theorem sz29 (w : World) : (sizeOf 29).run Try.prog w = .ok 1 w := by simp [sizeOf, Try.typeInfo29]; rfl
instance : TyCell Try.prog 29 := ⟨Try.isAgg29⟩
instance : TySize Try.prog 29 1 := ⟨sz29⟩
instance : TyUnd Try.prog 29 (.slice 33) := ⟨Try.underlying29, Try.runUnderlying29⟩
instance : TyZero Try.prog 29 (.slice none 0 0) := ⟨Try.zeroValue29⟩
-- 30 struct { Label int; W int; H int; Flaws []impl.Box }
theorem sz30 (w : World) : (sizeOf 30).run Try.prog w = .ok 4 w := by simp [sizeOf, Try.typeInfo30]; rfl
instance : TyAgg Try.prog 30 4 := ⟨Try.isAgg30, sz30⟩
instance : TySize Try.prog 30 4 := ⟨sz30⟩
instance : TyZero Try.prog 30 (.agg #[.int .i64 0, .int .i64 0, .int .i64 0, .slice none 0 0]) := ⟨Try.zeroValue30⟩
-- 31 impl.Piece
theorem sz31 (w : World) : (sizeOf 31).run Try.prog w = .ok 4 w := by simp [sizeOf, Try.typeInfo31]; rfl
instance : TyAgg Try.prog 31 4 := ⟨Try.isAgg31, sz31⟩
instance : TySize Try.prog 31 4 := ⟨sz31⟩
instance : TyZero Try.prog 31 (.agg #[.int .i64 0, .int .i64 0, .int .i64 0, .slice none 0 0]) := ⟨Try.zeroValue31⟩
-- 32 struct { X int; Y int; W int; H int }
theorem sz32 (w : World) : (sizeOf 32).run Try.prog w = .ok 4 w := by simp [sizeOf, Try.typeInfo32]; rfl
instance : TyAgg Try.prog 32 4 := ⟨Try.isAgg32, sz32⟩
instance : TySize Try.prog 32 4 := ⟨sz32⟩
instance : TyZero Try.prog 32 (.agg #[.int .i64 0, .int .i64 0, .int .i64 0, .int .i64 0]) := ⟨Try.zeroValue32⟩
-- 33 impl.Box
theorem sz33 (w : World) : (sizeOf 33).run Try.prog w = .ok 4 w := by simp [sizeOf, Try.typeInfo33]; rfl
instance : TyAgg Try.prog 33 4 := ⟨Try.isAgg33, sz33⟩
instance : TySize Try.prog 33 4 := ⟨sz33⟩
instance : TyZero Try.prog 33 (.agg #[.int .i64 0, .int .i64 0, .int .i64 0, .int .i64 0]) := ⟨Try.zeroValue33⟩
-- 50 []laws.Box
theorem sz50 (w : World) : (sizeOf 50).run Try.prog w = .ok 1 w := by simp [sizeOf, Try.typeInfo50]; rfl
instance : TyCell Try.prog 50 := ⟨Try.isAgg50⟩
instance : TySize Try.prog 50 1 := ⟨sz50⟩
instance : TyUnd Try.prog 50 (.slice 105) := ⟨Try.underlying50, Try.runUnderlying50⟩
instance : TyZero Try.prog 50 (.slice none 0 0) := ⟨Try.zeroValue50⟩
-- 51 struct { Label int; W int; H int; Flaws []laws.Box }
theorem sz51 (w : World) : (sizeOf 51).run Try.prog w = .ok 4 w := by simp [sizeOf, Try.typeInfo51]; rfl
instance : TyAgg Try.prog 51 4 := ⟨Try.isAgg51, sz51⟩
instance : TySize Try.prog 51 4 := ⟨sz51⟩
instance : TyZero Try.prog 51 (.agg #[.int .i64 0, .int .i64 0, .int .i64 0, .slice none 0 0]) := ⟨Try.zeroValue51⟩
-- 52 laws.Piece
theorem sz52 (w : World) : (sizeOf 52).run Try.prog w = .ok 4 w := by simp [sizeOf, Try.typeInfo52]; rfl
instance : TyAgg Try.prog 52 4 := ⟨Try.isAgg52, sz52⟩
instance : TySize Try.prog 52 4 := ⟨sz52⟩
instance : TyZero Try.prog 52 (.agg #[.int .i64 0, .int .i64 0, .int .i64 0, .slice none 0 0]) := ⟨Try.zeroValue52⟩
-- 58 []laws.Piece
theorem sz58 (w : World) : (sizeOf 58).run Try.prog w = .ok 1 w := by simp [sizeOf, Try.typeInfo58]; rfl
instance : TyCell Try.prog 58 := ⟨Try.isAgg58⟩
instance : TySize Try.prog 58 1 := ⟨sz58⟩
instance : TyUnd Try.prog 58 (.slice 52) := ⟨Try.underlying58, Try.runUnderlying58⟩
instance : TyZero Try.prog 58 (.slice none 0 0) := ⟨Try.zeroValue58⟩
-- 59 laws.Pane
theorem sz59 (w : World) : (sizeOf 59).run Try.prog w = .ok 4 w := by simp [sizeOf, Try.typeInfo59]; rfl
instance : TyAgg Try.prog 59 4 := ⟨Try.isAgg59, sz59⟩
instance : TySize Try.prog 59 4 := ⟨sz59⟩
instance : TyZero Try.prog 59 (.agg #[.int .i64 0, .int .i64 0, .bool false, .int .i64 0]) := ⟨Try.zeroValue59⟩
-- 68 *spec.reader
theorem sz68 (w : World) : (sizeOf 68).run Try.prog w = .ok 1 w := by simp [sizeOf, Try.typeInfo68]; rfl
instance : TyCell Try.prog 68 := ⟨Try.isAgg68⟩
instance : TySize Try.prog 68 1 := ⟨sz68⟩
instance : TyUnd Try.prog 68 (.pointer 97) := ⟨Try.underlying68, Try.runUnderlying68⟩
instance : TyZero Try.prog 68 (.pointer none) := ⟨Try.zeroValue68⟩
-- 72 []int
theorem sz72 (w : World) : (sizeOf 72).run Try.prog w = .ok 1 w := by simp [sizeOf, Try.typeInfo72]; rfl
instance : TyCell Try.prog 72 := ⟨Try.isAgg72⟩
instance : TySize Try.prog 72 1 := ⟨sz72⟩
instance : TyUnd Try.prog 72 (.slice 3) := ⟨Try.underlying72, Try.runUnderlying72⟩
instance : TyZero Try.prog 72 (.slice none 0 0) := ⟨Try.zeroValue72⟩
-- 80 struct { begins []int; ends []int }
theorem sz80 (w : World) : (sizeOf 80).run Try.prog w = .ok 2 w := by simp [sizeOf, Try.typeInfo80]; rfl
instance : TyAgg Try.prog 80 2 := ⟨Try.isAgg80, sz80⟩
instance : TySize Try.prog 80 2 := ⟨sz80⟩
instance : TyZero Try.prog 80 (.agg #[.slice none 0 0, .slice none 0 0]) := ⟨Try.zeroValue80⟩
-- 81 impl.edges
theorem sz81 (w : World) : (sizeOf 81).run Try.prog w = .ok 2 w := by simp [sizeOf, Try.typeInfo81]; rfl
instance : TyAgg Try.prog 81 2 := ⟨Try.isAgg81, sz81⟩
instance : TySize Try.prog 81 2 := ⟨sz81⟩
instance : TyZero Try.prog 81 (.agg #[.slice none 0 0, .slice none 0 0]) := ⟨Try.zeroValue81⟩
-- 93 [200]bool
theorem sz93 (w : World) : (sizeOf 93).run Try.prog w = .ok 200 w := by simp [sizeOf, Try.typeInfo93]; rfl
instance : TyAgg Try.prog 93 200 := ⟨Try.isAgg93, sz93⟩
instance : TySize Try.prog 93 200 := ⟨sz93⟩
instance : TyUnd Try.prog 93 (.array 200 4) := ⟨Try.underlying93, Try.runUnderlying93⟩
instance : TyZero Try.prog 93 (.agg (Array.replicate 200 (.bool false))) := ⟨fun w => (Try.zeroValue93 w).trans (congrArg (fun z => Result.ok (Value.agg z) w) (by kernel_rfl))⟩
-- 96 struct { b []uint8; p int }
theorem sz96 (w : World) : (sizeOf 96).run Try.prog w = .ok 2 w := by simp [sizeOf, Try.typeInfo96]; rfl
instance : TyAgg Try.prog 96 2 := ⟨Try.isAgg96, sz96⟩
instance : TySize Try.prog 96 2 := ⟨sz96⟩
instance : TyZero Try.prog 96 (.agg #[.slice none 0 0, .int .i64 0]) := ⟨Try.zeroValue96⟩
-- 97 spec.reader
theorem sz97 (w : World) : (sizeOf 97).run Try.prog w = .ok 2 w := by simp [sizeOf, Try.typeInfo97]; rfl
instance : TyAgg Try.prog 97 2 := ⟨Try.isAgg97, sz97⟩
instance : TySize Try.prog 97 2 := ⟨sz97⟩
instance : TyZero Try.prog 97 (.agg #[.slice none 0 0, .int .i64 0]) := ⟨Try.zeroValue97⟩
-- 105 laws.Box
theorem sz105 (w : World) : (sizeOf 105).run Try.prog w = .ok 4 w := by simp [sizeOf, Try.typeInfo105]; rfl
instance : TyAgg Try.prog 105 4 := ⟨Try.isAgg105, sz105⟩
instance : TySize Try.prog 105 4 := ⟨sz105⟩
instance : TyZero Try.prog 105 (.agg #[.int .i64 0, .int .i64 0, .int .i64 0, .int .i64 0]) := ⟨Try.zeroValue105⟩
-- 114 uint32
theorem sz114 (w : World) : (sizeOf 114).run Try.prog w = .ok 1 w := by simp [sizeOf, Try.typeInfo114]; rfl
instance : TyCell Try.prog 114 := ⟨Try.isAgg114⟩
instance : TySize Try.prog 114 1 := ⟨sz114⟩
instance : TyUnd Try.prog 114 (.int .u32) := ⟨Try.underlying114, Try.runUnderlying114⟩
instance : TyZero Try.prog 114 (.int .u32 0) := ⟨Try.zeroValue114⟩
-- 118 *uint8
theorem sz118 (w : World) : (sizeOf 118).run Try.prog w = .ok 1 w := by simp [sizeOf, Try.typeInfo118]; rfl
instance : TyCell Try.prog 118 := ⟨Try.isAgg118⟩
instance : TySize Try.prog 118 1 := ⟨sz118⟩
instance : TyUnd Try.prog 118 (.pointer 5) := ⟨Try.underlying118, Try.runUnderlying118⟩
instance : TyZero Try.prog 118 (.pointer none) := ⟨Try.zeroValue118⟩
instance : TyField Try.prog 24 0 0 := ⟨fun b o w => by simp [Instr.fieldAt, Try.runUnderlying24, Instr.sureAddr, fieldPlace, add_lit]⟩
instance : TyField Try.prog 24 1 1 := ⟨fun b o w => by simp [Instr.fieldAt, Try.runUnderlying24, Instr.sureAddr, fieldPlace, add_lit]⟩
instance : TyField Try.prog 24 2 2 := ⟨fun b o w => by simp [Instr.fieldAt, Try.runUnderlying24, Instr.sureAddr, fieldPlace, add_lit]⟩
instance : TyField Try.prog 24 3 3 := ⟨fun b o w => by simp [Instr.fieldAt, Try.runUnderlying24, Instr.sureAddr, fieldPlace, add_lit]⟩
instance : TyField Try.prog 25 0 0 := ⟨fun b o w => by simp [Instr.fieldAt, Try.runUnderlying25, Instr.sureAddr, fieldPlace, add_lit]⟩
instance : TyField Try.prog 25 1 1 := ⟨fun b o w => by simp [Instr.fieldAt, Try.runUnderlying25, Instr.sureAddr, fieldPlace, add_lit]⟩
instance : TyField Try.prog 25 2 2 := ⟨fun b o w => by simp [Instr.fieldAt, Try.runUnderlying25, Instr.sureAddr, fieldPlace, add_lit]⟩
instance : TyField Try.prog 25 3 3 := ⟨fun b o w => by simp [Instr.fieldAt, Try.runUnderlying25, Instr.sureAddr, fieldPlace, add_lit]⟩
instance : TyField Try.prog 30 0 0 := ⟨fun b o w => by simp [Instr.fieldAt, Try.runUnderlying30, Instr.sureAddr, fieldPlace, add_lit]⟩
instance : TyField Try.prog 30 1 1 := ⟨fun b o w => by simp [Instr.fieldAt, Try.runUnderlying30, Instr.sureAddr, fieldPlace, add_lit]⟩
instance : TyField Try.prog 30 2 2 := ⟨fun b o w => by simp [Instr.fieldAt, Try.runUnderlying30, Instr.sureAddr, fieldPlace, add_lit]⟩
instance : TyField Try.prog 30 3 3 := ⟨fun b o w => by simp [Instr.fieldAt, Try.runUnderlying30, Instr.sureAddr, fieldPlace, add_lit]⟩
instance : TyField Try.prog 31 0 0 := ⟨fun b o w => by simp [Instr.fieldAt, Try.runUnderlying31, Instr.sureAddr, fieldPlace, add_lit]⟩
instance : TyField Try.prog 31 1 1 := ⟨fun b o w => by simp [Instr.fieldAt, Try.runUnderlying31, Instr.sureAddr, fieldPlace, add_lit]⟩
instance : TyField Try.prog 31 2 2 := ⟨fun b o w => by simp [Instr.fieldAt, Try.runUnderlying31, Instr.sureAddr, fieldPlace, add_lit]⟩
instance : TyField Try.prog 31 3 3 := ⟨fun b o w => by simp [Instr.fieldAt, Try.runUnderlying31, Instr.sureAddr, fieldPlace, add_lit]⟩
instance : TyField Try.prog 32 0 0 := ⟨fun b o w => by simp [Instr.fieldAt, Try.runUnderlying32, Instr.sureAddr, fieldPlace, add_lit]⟩
instance : TyField Try.prog 32 1 1 := ⟨fun b o w => by simp [Instr.fieldAt, Try.runUnderlying32, Instr.sureAddr, fieldPlace, add_lit]⟩
instance : TyField Try.prog 32 2 2 := ⟨fun b o w => by simp [Instr.fieldAt, Try.runUnderlying32, Instr.sureAddr, fieldPlace, add_lit]⟩
instance : TyField Try.prog 32 3 3 := ⟨fun b o w => by simp [Instr.fieldAt, Try.runUnderlying32, Instr.sureAddr, fieldPlace, add_lit]⟩
instance : TyField Try.prog 33 0 0 := ⟨fun b o w => by simp [Instr.fieldAt, Try.runUnderlying33, Instr.sureAddr, fieldPlace, add_lit]⟩
instance : TyField Try.prog 33 1 1 := ⟨fun b o w => by simp [Instr.fieldAt, Try.runUnderlying33, Instr.sureAddr, fieldPlace, add_lit]⟩
instance : TyField Try.prog 33 2 2 := ⟨fun b o w => by simp [Instr.fieldAt, Try.runUnderlying33, Instr.sureAddr, fieldPlace, add_lit]⟩
instance : TyField Try.prog 33 3 3 := ⟨fun b o w => by simp [Instr.fieldAt, Try.runUnderlying33, Instr.sureAddr, fieldPlace, add_lit]⟩
instance : TyField Try.prog 51 0 0 := ⟨fun b o w => by simp [Instr.fieldAt, Try.runUnderlying51, Instr.sureAddr, fieldPlace, add_lit]⟩
instance : TyField Try.prog 51 1 1 := ⟨fun b o w => by simp [Instr.fieldAt, Try.runUnderlying51, Instr.sureAddr, fieldPlace, add_lit]⟩
instance : TyField Try.prog 51 2 2 := ⟨fun b o w => by simp [Instr.fieldAt, Try.runUnderlying51, Instr.sureAddr, fieldPlace, add_lit]⟩
instance : TyField Try.prog 51 3 3 := ⟨fun b o w => by simp [Instr.fieldAt, Try.runUnderlying51, Instr.sureAddr, fieldPlace, add_lit]⟩
instance : TyField Try.prog 52 0 0 := ⟨fun b o w => by simp [Instr.fieldAt, Try.runUnderlying52, Instr.sureAddr, fieldPlace, add_lit]⟩
instance : TyField Try.prog 52 1 1 := ⟨fun b o w => by simp [Instr.fieldAt, Try.runUnderlying52, Instr.sureAddr, fieldPlace, add_lit]⟩
instance : TyField Try.prog 52 2 2 := ⟨fun b o w => by simp [Instr.fieldAt, Try.runUnderlying52, Instr.sureAddr, fieldPlace, add_lit]⟩
instance : TyField Try.prog 52 3 3 := ⟨fun b o w => by simp [Instr.fieldAt, Try.runUnderlying52, Instr.sureAddr, fieldPlace, add_lit]⟩
instance : TyField Try.prog 59 0 0 := ⟨fun b o w => by simp [Instr.fieldAt, Try.runUnderlying59, Instr.sureAddr, fieldPlace, add_lit]⟩
instance : TyField Try.prog 59 1 1 := ⟨fun b o w => by simp [Instr.fieldAt, Try.runUnderlying59, Instr.sureAddr, fieldPlace, add_lit]⟩
instance : TyField Try.prog 59 2 2 := ⟨fun b o w => by simp [Instr.fieldAt, Try.runUnderlying59, Instr.sureAddr, fieldPlace, add_lit]⟩
instance : TyField Try.prog 59 3 3 := ⟨fun b o w => by simp [Instr.fieldAt, Try.runUnderlying59, Instr.sureAddr, fieldPlace, add_lit]⟩
instance : TyField Try.prog 80 0 0 := ⟨fun b o w => by simp [Instr.fieldAt, Try.runUnderlying80, Instr.sureAddr, fieldPlace, add_lit]⟩
instance : TyField Try.prog 80 1 1 := ⟨fun b o w => by simp [Instr.fieldAt, Try.runUnderlying80, Instr.sureAddr, fieldPlace, add_lit]⟩
instance : TyField Try.prog 81 0 0 := ⟨fun b o w => by simp [Instr.fieldAt, Try.runUnderlying81, Instr.sureAddr, fieldPlace, add_lit]⟩
instance : TyField Try.prog 81 1 1 := ⟨fun b o w => by simp [Instr.fieldAt, Try.runUnderlying81, Instr.sureAddr, fieldPlace, add_lit]⟩
instance : TyField Try.prog 96 0 0 := ⟨fun b o w => by simp [Instr.fieldAt, Try.runUnderlying96, Instr.sureAddr, fieldPlace, add_lit]⟩
instance : TyField Try.prog 96 1 1 := ⟨fun b o w => by simp [Instr.fieldAt, Try.runUnderlying96, Instr.sureAddr, fieldPlace, add_lit]⟩
instance : TyField Try.prog 97 0 0 := ⟨fun b o w => by simp [Instr.fieldAt, Try.runUnderlying97, Instr.sureAddr, fieldPlace, add_lit]⟩
instance : TyField Try.prog 97 1 1 := ⟨fun b o w => by simp [Instr.fieldAt, Try.runUnderlying97, Instr.sureAddr, fieldPlace, add_lit]⟩
instance : TyField Try.prog 105 0 0 := ⟨fun b o w => by simp [Instr.fieldAt, Try.runUnderlying105, Instr.sureAddr, fieldPlace, add_lit]⟩
instance : TyField Try.prog 105 1 1 := ⟨fun b o w => by simp [Instr.fieldAt, Try.runUnderlying105, Instr.sureAddr, fieldPlace, add_lit]⟩
instance : TyField Try.prog 105 2 2 := ⟨fun b o w => by simp [Instr.fieldAt, Try.runUnderlying105, Instr.sureAddr, fieldPlace, add_lit]⟩
instance : TyField Try.prog 105 3 3 := ⟨fun b o w => by simp [Instr.fieldAt, Try.runUnderlying105, Instr.sureAddr, fieldPlace, add_lit]⟩
instance : TyElem Try.prog 22 5 1 [.int .u8 0] := ⟨Try.underlying22, Try.runUnderlying22, sz5, ⟨_, Try.zeroValue5, rfl⟩, rfl, by decide, ⟨Try.t5, _, by kernel_rfl, rfl, rfl, rfl, by decide⟩⟩
instance : TyElem Try.prog 23 31 4 [.int .i64 0, .int .i64 0, .int .i64 0, .slice none 0 0] := ⟨Try.underlying23, Try.runUnderlying23, sz31, ⟨_, Try.zeroValue31, rfl⟩, rfl, by decide, ⟨Try.t31, _, by kernel_rfl, rfl, rfl, rfl, by decide⟩⟩
instance : TyBuild Try.prog 24 [.int .i64 0, .int .i64 0, .bool false, .int .i64 0] [(0, 1), (1, 1), (2, 1), (3, 1)] := TyBuild.of Try.zeroValue24 Try.runUnderlying24 (fun w => by simp)
instance : TyBuild Try.prog 25 [.int .i64 0, .int .i64 0, .bool false, .int .i64 0] [(0, 1), (1, 1), (2, 1), (3, 1)] := TyBuild.of Try.zeroValue25 Try.runUnderlying25 (fun w => by simp)
instance : TyElem Try.prog 29 33 4 [.int .i64 0, .int .i64 0, .int .i64 0, .int .i64 0] := ⟨Try.underlying29, Try.runUnderlying29, sz33, ⟨_, Try.zeroValue33, rfl⟩, rfl, by decide, ⟨Try.t33, _, by kernel_rfl, rfl, rfl, rfl, by decide⟩⟩
instance : TyBuild Try.prog 30 [.int .i64 0, .int .i64 0, .int .i64 0, .slice none 0 0] [(0, 1), (1, 1), (2, 1), (3, 1)] := TyBuild.of Try.zeroValue30 Try.runUnderlying30 (fun w => by simp)
instance : TyBuild Try.prog 31 [.int .i64 0, .int .i64 0, .int .i64 0, .slice none 0 0] [(0, 1), (1, 1), (2, 1), (3, 1)] := TyBuild.of Try.zeroValue31 Try.runUnderlying31 (fun w => by simp)
instance : TyBuild Try.prog 32 [.int .i64 0, .int .i64 0, .int .i64 0, .int .i64 0] [(0, 1), (1, 1), (2, 1), (3, 1)] := TyBuild.of Try.zeroValue32 Try.runUnderlying32 (fun w => by simp)
instance : TyBuild Try.prog 33 [.int .i64 0, .int .i64 0, .int .i64 0, .int .i64 0] [(0, 1), (1, 1), (2, 1), (3, 1)] := TyBuild.of Try.zeroValue33 Try.runUnderlying33 (fun w => by simp)
instance : TyElem Try.prog 50 105 4 [.int .i64 0, .int .i64 0, .int .i64 0, .int .i64 0] := ⟨Try.underlying50, Try.runUnderlying50, sz105, ⟨_, Try.zeroValue105, rfl⟩, rfl, by decide, ⟨Try.t105, _, by kernel_rfl, rfl, rfl, rfl, by decide⟩⟩
instance : TyBuild Try.prog 51 [.int .i64 0, .int .i64 0, .int .i64 0, .slice none 0 0] [(0, 1), (1, 1), (2, 1), (3, 1)] := TyBuild.of Try.zeroValue51 Try.runUnderlying51 (fun w => by simp)
instance : TyBuild Try.prog 52 [.int .i64 0, .int .i64 0, .int .i64 0, .slice none 0 0] [(0, 1), (1, 1), (2, 1), (3, 1)] := TyBuild.of Try.zeroValue52 Try.runUnderlying52 (fun w => by simp)
instance : TyElem Try.prog 58 52 4 [.int .i64 0, .int .i64 0, .int .i64 0, .slice none 0 0] := ⟨Try.underlying58, Try.runUnderlying58, sz52, ⟨_, Try.zeroValue52, rfl⟩, rfl, by decide, ⟨Try.t52, _, by kernel_rfl, rfl, rfl, rfl, by decide⟩⟩
instance : TyBuild Try.prog 59 [.int .i64 0, .int .i64 0, .bool false, .int .i64 0] [(0, 1), (1, 1), (2, 1), (3, 1)] := TyBuild.of Try.zeroValue59 Try.runUnderlying59 (fun w => by simp)
instance : TyElem Try.prog 72 3 1 [.int .i64 0] := ⟨Try.underlying72, Try.runUnderlying72, sz3, ⟨_, Try.zeroValue3, rfl⟩, rfl, by decide, ⟨Try.t3, _, by kernel_rfl, rfl, rfl, rfl, by decide⟩⟩
instance : TyBuild Try.prog 80 [.slice none 0 0, .slice none 0 0] [(0, 1), (1, 1)] := TyBuild.of Try.zeroValue80 Try.runUnderlying80 (fun w => by simp)
instance : TyBuild Try.prog 81 [.slice none 0 0, .slice none 0 0] [(0, 1), (1, 1)] := TyBuild.of Try.zeroValue81 Try.runUnderlying81 (fun w => by simp)
instance : TyBuild Try.prog 96 [.slice none 0 0, .int .i64 0] [(0, 1), (1, 1)] := TyBuild.of Try.zeroValue96 Try.runUnderlying96 (fun w => by simp)
instance : TyBuild Try.prog 97 [.slice none 0 0, .int .i64 0] [(0, 1), (1, 1)] := TyBuild.of Try.zeroValue97 Try.runUnderlying97 (fun w => by simp)
instance : TyBuild Try.prog 105 [.int .i64 0, .int .i64 0, .int .i64 0, .int .i64 0] [(0, 1), (1, 1), (2, 1), (3, 1)] := TyBuild.of Try.zeroValue105 Try.runUnderlying105 (fun w => by simp)
-- loop.example/panecutter/laws.FnFindPiece
instance : TyFn Try.prog 3 := TyFn.of Try.func3 (by kernel_rfl) rfl
-- loop.example/panecutter/laws.FnLargestClear
instance : TyFn Try.prog 4 := TyFn.of Try.func4 (by kernel_rfl) rfl
-- loop.example/panecutter/laws.FnAddPiece
instance : TyFn Try.prog 5 := TyFn.of Try.func5 (by kernel_rfl) rfl
-- loop.example/panecutter/laws.FnExactLargestClear
instance : TyFn Try.prog 6 := TyFn.of Try.func6 (by kernel_rfl) rfl
-- loop.example/panecutter/laws.FnLargestClearNone
instance : TyFn Try.prog 7 := TyFn.of Try.func7 (by kernel_rfl) rfl
-- loop.example/panecutter/laws.FnExactFindPiece
instance : TyFn Try.prog 8 := TyFn.of Try.func8 (by kernel_rfl) rfl
-- loop.example/panecutter/laws.FnExactAddPiece
instance : TyFn Try.prog 9 := TyFn.of Try.func9 (by kernel_rfl) rfl
-- loop.example/panecutter/laws.FnExactTakePiece
instance : TyFn Try.prog 10 := TyFn.of Try.func10 (by kernel_rfl) rfl
-- loop.example/panecutter/spec.DrawFindPiece
instance : TyFn Try.prog 11 := TyFn.of Try.func11 (by kernel_rfl) rfl
-- loop.example/panecutter/impl.FindPiece
instance : TyFn Try.prog 12 := TyFn.of Try.func12 (by kernel_rfl) rfl
-- loop.example/panecutter/spec.FindPiece
instance : TyFn Try.prog 13 := TyFn.of Try.func13 (by kernel_rfl) rfl
-- loop.example/panecutter/impl.FirstClear
instance : TyFn Try.prog 14 := TyFn.of Try.func14 (by kernel_rfl) rfl
-- loop.example/panecutter/spec.DrawLargestClear
instance : TyFn Try.prog 15 := TyFn.of Try.func15 (by kernel_rfl) rfl
-- loop.example/panecutter/impl.LargestClear
instance : TyFn Try.prog 16 := TyFn.of Try.func16 (by kernel_rfl) rfl
-- loop.example/panecutter/spec.LargestClear
instance : TyFn Try.prog 17 := TyFn.of Try.func17 (by kernel_rfl) rfl
-- loop.example/panecutter/laws.equalBox
instance : TyFn Try.prog 18 := TyFn.of Try.func18 (by kernel_rfl) rfl
-- loop.example/panecutter/impl.ClearAt
instance : TyFn Try.prog 19 := TyFn.of Try.func19 (by kernel_rfl) rfl
-- loop.example/panecutter/spec.DrawAddPiece
instance : TyFn Try.prog 20 := TyFn.of Try.func20 (by kernel_rfl) rfl
-- loop.example/panecutter/impl.AddPiece
instance : TyFn Try.prog 21 := TyFn.of Try.func21 (by kernel_rfl) rfl
-- loop.example/panecutter/spec.AddPiece
instance : TyFn Try.prog 22 := TyFn.of Try.func22 (by kernel_rfl) rfl
-- loop.example/panecutter/laws.equalStock
instance : TyFn Try.prog 23 := TyFn.of Try.func23 (by kernel_rfl) rfl
-- loop.example/panecutter/impl.TakePiece
instance : TyFn Try.prog 24 := TyFn.of Try.func24 (by kernel_rfl) rfl
-- loop.example/panecutter/laws.equalPiece
instance : TyFn Try.prog 25 := TyFn.of Try.func25 (by kernel_rfl) rfl
-- loop.example/panecutter/impl.StockArea
instance : TyFn Try.prog 26 := TyFn.of Try.func26 (by kernel_rfl) rfl
-- loop.example/panecutter/laws.szPiece
instance : TyFn Try.prog 27 := TyFn.of Try.func27 (by kernel_rfl) rfl
-- loop.example/panecutter/laws.toPiece
instance : TyFn Try.prog 28 := TyFn.of Try.func28 (by kernel_rfl) rfl
-- loop.example/panecutter/laws.eqBox
instance : TyFn Try.prog 29 := TyFn.of Try.func29 (by kernel_rfl) rfl
-- loop.example/panecutter/laws.eqPiece
instance : TyFn Try.prog 30 := TyFn.of Try.func30 (by kernel_rfl) rfl
-- loop.example/panecutter/impl.ValidPiece
instance : TyFn Try.prog 31 := TyFn.of Try.func31 (by kernel_rfl) rfl
-- loop.example/panecutter/impl.CoverArea
instance : TyFn Try.prog 32 := TyFn.of Try.func32 (by kernel_rfl) rfl
-- loop.example/panecutter/laws.szPieceS
instance : TyFn Try.prog 33 := TyFn.of Try.func33 (by kernel_rfl) rfl
-- loop.example/panecutter/laws.toPieceS
instance : TyFn Try.prog 34 := TyFn.of Try.func34 (by kernel_rfl) rfl
-- loop.example/panecutter/laws.toPane
instance : TyFn Try.prog 35 := TyFn.of Try.func35 (by kernel_rfl) rfl
-- loop.example/panecutter/laws.eqPieceS
instance : TyFn Try.prog 36 := TyFn.of Try.func36 (by kernel_rfl) rfl
-- loop.example/panecutter/laws.markPieceS
instance : TyFn Try.prog 37 := TyFn.of Try.func37 (by kernel_rfl) rfl
-- loop.example/panecutter/laws.markPiece
instance : TyFn Try.prog 38 := TyFn.of Try.func38 (by kernel_rfl) rfl
-- loop.example/panecutter/laws.heldPieceS
instance : TyFn Try.prog 39 := TyFn.of Try.func39 (by kernel_rfl) rfl
-- loop.example/panecutter/spec.TakePiece
instance : TyFn Try.prog 40 := TyFn.of Try.func40 (by kernel_rfl) rfl
-- loop.example/panecutter/laws.heldPiece
instance : TyFn Try.prog 41 := TyFn.of Try.func41 (by kernel_rfl) rfl
-- loop.example/panecutter/spec.newReader
instance : TyFn Try.prog 42 := TyFn.of Try.func42 (by kernel_rfl) rfl
-- loop.example/panecutter/spec.anyPane
instance : TyFn Try.prog 43 := TyFn.of Try.func43 (by kernel_rfl) rfl
-- (*loop.example/panecutter/spec.reader).one
instance : TyFn Try.prog 44 := TyFn.of Try.func44 (by kernel_rfl) rfl
-- loop.example/panecutter/spec.anyStock
instance : TyFn Try.prog 45 := TyFn.of Try.func45 (by kernel_rfl) rfl
-- loop.example/panecutter/impl.ValidStock
instance : TyFn Try.prog 46 := TyFn.of Try.func46 (by kernel_rfl) rfl
-- loop.example/panecutter/impl.ValidPane
instance : TyFn Try.prog 47 := TyFn.of Try.func47 (by kernel_rfl) rfl
-- loop.example/panecutter/impl.cutsClear
instance : TyFn Try.prog 48 := TyFn.of Try.func48 (by kernel_rfl) rfl
-- loop.example/panecutter/spec.validStock
instance : TyFn Try.prog 49 := TyFn.of Try.func49 (by kernel_rfl) rfl
-- loop.example/panecutter/spec.validPane
instance : TyFn Try.prog 50 := TyFn.of Try.func50 (by kernel_rfl) rfl
-- loop.example/panecutter/spec.firstClear
instance : TyFn Try.prog 51 := TyFn.of Try.func51 (by kernel_rfl) rfl
-- loop.example/panecutter/impl.meetsFlaw
instance : TyFn Try.prog 52 := TyFn.of Try.func52 (by kernel_rfl) rfl
-- loop.example/panecutter/spec.anyPiece
instance : TyFn Try.prog 53 := TyFn.of Try.func53 (by kernel_rfl) rfl
-- (*loop.example/panecutter/spec.reader).pick
instance : TyFn Try.prog 54 := TyFn.of Try.func54 (by kernel_rfl) rfl
-- loop.example/panecutter/impl.edgesOf
instance : TyFn Try.prog 55 := TyFn.of Try.func55 (by kernel_rfl) rfl
-- loop.example/panecutter/impl.betterClear
instance : TyFn Try.prog 56 := TyFn.of Try.func56 (by kernel_rfl) rfl
-- loop.example/panecutter/spec.validPiece
instance : TyFn Try.prog 57 := TyFn.of Try.func57 (by kernel_rfl) rfl
-- loop.example/panecutter/spec.largest
instance : TyFn Try.prog 58 := TyFn.of Try.func58 (by kernel_rfl) rfl
-- loop.example/panecutter/impl.InsideOf
instance : TyFn Try.prog 59 := TyFn.of Try.func59 (by kernel_rfl) rfl
-- loop.example/panecutter/impl.pieceBox
instance : TyFn Try.prog 60 := TyFn.of Try.func60 (by kernel_rfl) rfl
-- loop.example/panecutter/impl.findLabel
instance : TyFn Try.prog 61 := TyFn.of Try.func61 (by kernel_rfl) rfl
-- loop.example/panecutter/impl.copyPiece
instance : TyFn Try.prog 62 := TyFn.of Try.func62 (by kernel_rfl) rfl
-- loop.example/panecutter/spec.addPiece
instance : TyFn Try.prog 63 := TyFn.of Try.func63 (by kernel_rfl) rfl
-- loop.example/panecutter/impl.copyStock
instance : TyFn Try.prog 64 := TyFn.of Try.func64 (by kernel_rfl) rfl
-- loop.example/panecutter/laws.equalBoxes
instance : TyFn Try.prog 65 := TyFn.of Try.func65 (by kernel_rfl) rfl
-- loop.example/panecutter/laws.szBoxS
instance : TyFn Try.prog 66 := TyFn.of Try.func66 (by kernel_rfl) rfl
-- loop.example/panecutter/laws.toBoxS
instance : TyFn Try.prog 67 := TyFn.of Try.func67 (by kernel_rfl) rfl
-- loop.example/panecutter/laws.eqBoxS
instance : TyFn Try.prog 68 := TyFn.of Try.func68 (by kernel_rfl) rfl
-- loop.example/panecutter/impl.ValidBox
instance : TyFn Try.prog 69 := TyFn.of Try.func69 (by kernel_rfl) rfl
-- loop.example/panecutter/impl.validBoxes
instance : TyFn Try.prog 70 := TyFn.of Try.func70 (by kernel_rfl) rfl
-- loop.example/panecutter/laws.markBoxS
instance : TyFn Try.prog 71 := TyFn.of Try.func71 (by kernel_rfl) rfl
-- loop.example/panecutter/laws.heldBoxS
instance : TyFn Try.prog 72 := TyFn.of Try.func72 (by kernel_rfl) rfl
-- loop.example/panecutter/spec.findLabel
instance : TyFn Try.prog 73 := TyFn.of Try.func73 (by kernel_rfl) rfl
-- loop.example/panecutter/spec.copyPiece
instance : TyFn Try.prog 74 := TyFn.of Try.func74 (by kernel_rfl) rfl
-- loop.example/panecutter/spec.without
instance : TyFn Try.prog 75 := TyFn.of Try.func75 (by kernel_rfl) rfl
-- loop.example/panecutter/spec.somePane
instance : TyFn Try.prog 76 := TyFn.of Try.func76 (by kernel_rfl) rfl
-- loop.example/panecutter/spec.someStock
instance : TyFn Try.prog 77 := TyFn.of Try.func77 (by kernel_rfl) rfl
-- loop.example/panecutter/spec.inRange
instance : TyFn Try.prog 78 := TyFn.of Try.func78 (by kernel_rfl) rfl
-- loop.example/panecutter/spec.clearAt
instance : TyFn Try.prog 79 := TyFn.of Try.func79 (by kernel_rfl) rfl
-- loop.example/panecutter/impl.MeetOf
instance : TyFn Try.prog 80 := TyFn.of Try.func80 (by kernel_rfl) rfl
-- loop.example/panecutter/spec.somePiece
instance : TyFn Try.prog 81 := TyFn.of Try.func81 (by kernel_rfl) rfl
-- loop.example/panecutter/impl.boxArea
instance : TyFn Try.prog 82 := TyFn.of Try.func82 (by kernel_rfl) rfl
-- loop.example/panecutter/spec.validBox
instance : TyFn Try.prog 83 := TyFn.of Try.func83 (by kernel_rfl) rfl
-- loop.example/panecutter/spec.insideOf
instance : TyFn Try.prog 84 := TyFn.of Try.func84 (by kernel_rfl) rfl
-- loop.example/panecutter/spec.lines
instance : TyFn Try.prog 85 := TyFn.of Try.func85 (by kernel_rfl) rfl
-- loop.example/panecutter/spec.before
instance : TyFn Try.prog 86 := TyFn.of Try.func86 (by kernel_rfl) rfl
-- slices.IndexFunc[[]loop.example/panecutter/impl.Piece,loop.example/panecutter/impl.Piece]
instance : TyFn Try.prog 87 := TyFn.of Try.func87 (by kernel_rfl) rfl
-- loop.example/panecutter/impl.findLabel$1
instance : TyFn Try.prog 88 := TyFn.of Try.func88 (by kernel_rfl) rfl
-- loop.example/panecutter/laws.toBox
instance : TyFn Try.prog 89 := TyFn.of Try.func89 (by kernel_rfl) rfl
-- loop.example/panecutter/spec.meetOf
instance : TyFn Try.prog 90 := TyFn.of Try.func90 (by kernel_rfl) rfl
-- loop.example/panecutter/spec.someBox
instance : TyFn Try.prog 91 := TyFn.of Try.func91 (by kernel_rfl) rfl
end Go.Proofs.Ytnfnidplhkfamaa
