/-
  The facts on the types of this seat's translation, by program.
-/
import Derived.Test.YtlknglhldfpbdaaV7
import Derived.Test.YtlknglhldfpbdaaProg
import Derived.KernelRfl
namespace Go.Proofs.Ytlknglhldfpbdaa
open Go

-- 2 int64
theorem sz2 (w : World) : (sizeOf 2).run Try.prog w = .ok 1 w := by simp [sizeOf, Try.typeInfo2]; rfl
instance : TyCell Try.prog 2 := ⟨Try.isAgg2⟩
instance : TySize Try.prog 2 1 := ⟨sz2⟩
instance : TyUnd Try.prog 2 (.int .i64) := ⟨Try.underlying2, Try.runUnderlying2⟩
instance : TyZero Try.prog 2 (.int .i64 0) := ⟨Try.zeroValue2⟩
-- 3 int
theorem sz3 (w : World) : (sizeOf 3).run Try.prog w = .ok 1 w := by simp [sizeOf, Try.typeInfo3]; rfl
instance : TyCell Try.prog 3 := ⟨Try.isAgg3⟩
instance : TySize Try.prog 3 1 := ⟨sz3⟩
instance : TyUnd Try.prog 3 (.int .i64) := ⟨Try.underlying3, Try.runUnderlying3⟩
instance : TyZero Try.prog 3 (.int .i64 0) := ⟨Try.zeroValue3⟩
-- 4 bool
theorem sz4 (w : World) : (sizeOf 4).run Try.prog w = .ok 1 w := by simp [sizeOf, Try.typeInfo4]; rfl
instance : TyCell Try.prog 4 := ⟨Try.isAgg4⟩
instance : TySize Try.prog 4 1 := ⟨sz4⟩
instance : TyUnd Try.prog 4 (.bool) := ⟨Try.underlying4, Try.runUnderlying4⟩
instance : TyZero Try.prog 4 (.bool false) := ⟨Try.zeroValue4⟩
-- 5 uint8
theorem sz5 (w : World) : (sizeOf 5).run Try.prog w = .ok 1 w := by simp [sizeOf, Try.typeInfo5]; rfl
instance : TyCell Try.prog 5 := ⟨Try.isAgg5⟩
instance : TySize Try.prog 5 1 := ⟨sz5⟩
instance : TyUnd Try.prog 5 (.int .u8) := ⟨Try.underlying5, Try.runUnderlying5⟩
instance : TyZero Try.prog 5 (.int .u8 0) := ⟨Try.zeroValue5⟩
-- 9 string
theorem sz9 (w : World) : (sizeOf 9).run Try.prog w = .ok 1 w := by simp [sizeOf, Try.typeInfo9]; rfl
instance : TyCell Try.prog 9 := ⟨Try.isAgg9⟩
instance : TySize Try.prog 9 1 := ⟨sz9⟩
instance : TyUnd Try.prog 9 (.string) := ⟨Try.underlying9, Try.runUnderlying9⟩
instance : TyZero Try.prog 9 (.string ByteArray.empty) := ⟨Try.zeroValue9⟩
-- 12 uintptr
theorem sz12 (w : World) : (sizeOf 12).run Try.prog w = .ok 1 w := by simp [sizeOf, Try.typeInfo12]; rfl
instance : TyCell Try.prog 12 := ⟨Try.isAgg12⟩
instance : TySize Try.prog 12 1 := ⟨sz12⟩
instance : TyUnd Try.prog 12 (.int .u64) := ⟨Try.underlying12, Try.runUnderlying12⟩
instance : TyZero Try.prog 12 (.int .u64 0) := ⟨Try.zeroValue12⟩
-- 21 int32
theorem sz21 (w : World) : (sizeOf 21).run Try.prog w = .ok 1 w := by simp [sizeOf, Try.typeInfo21]; rfl
instance : TyCell Try.prog 21 := ⟨Try.isAgg21⟩
instance : TySize Try.prog 21 1 := ⟨sz21⟩
instance : TyUnd Try.prog 21 (.int .i32) := ⟨Try.underlying21, Try.runUnderlying21⟩
instance : TyZero Try.prog 21 (.int .i32 0) := ⟨Try.zeroValue21⟩
-- 22 []int
theorem sz22 (w : World) : (sizeOf 22).run Try.prog w = .ok 1 w := by simp [sizeOf, Try.typeInfo22]; rfl
instance : TyCell Try.prog 22 := ⟨Try.isAgg22⟩
instance : TySize Try.prog 22 1 := ⟨sz22⟩
instance : TyUnd Try.prog 22 (.slice 3) := ⟨Try.underlying22, Try.runUnderlying22⟩
instance : TyZero Try.prog 22 (.slice none 0 0) := ⟨Try.zeroValue22⟩
-- 28 []uint8
theorem sz28 (w : World) : (sizeOf 28).run Try.prog w = .ok 1 w := by simp [sizeOf, Try.typeInfo28]; rfl
instance : TyCell Try.prog 28 := ⟨Try.isAgg28⟩
instance : TySize Try.prog 28 1 := ⟨sz28⟩
instance : TyUnd Try.prog 28 (.slice 5) := ⟨Try.underlying28, Try.runUnderlying28⟩
instance : TyZero Try.prog 28 (.slice none 0 0) := ⟨Try.zeroValue28⟩
-- 38 []impl.Pane
theorem sz38 (w : World) : (sizeOf 38).run Try.prog w = .ok 1 w := by simp [sizeOf, Try.typeInfo38]; rfl
instance : TyCell Try.prog 38 := ⟨Try.isAgg38⟩
instance : TySize Try.prog 38 1 := ⟨sz38⟩
instance : TyUnd Try.prog 38 (.slice 43) := ⟨Try.underlying38, Try.runUnderlying38⟩
instance : TyZero Try.prog 38 (.slice none 0 0) := ⟨Try.zeroValue38⟩
-- 42 struct { W int; H int; Turns bool; Kind int }
theorem sz42 (w : World) : (sizeOf 42).run Try.prog w = .ok 4 w := by simp [sizeOf, Try.typeInfo42]; rfl
instance : TyAgg Try.prog 42 4 := ⟨Try.isAgg42, sz42⟩
instance : TySize Try.prog 42 4 := ⟨sz42⟩
instance : TyZero Try.prog 42 (.agg #[.int .i64 0, .int .i64 0, .bool false, .int .i64 0]) := ⟨Try.zeroValue42⟩
-- 43 impl.Pane
theorem sz43 (w : World) : (sizeOf 43).run Try.prog w = .ok 4 w := by simp [sizeOf, Try.typeInfo43]; rfl
instance : TyAgg Try.prog 43 4 := ⟨Try.isAgg43, sz43⟩
instance : TySize Try.prog 43 4 := ⟨sz43⟩
instance : TyZero Try.prog 43 (.agg #[.int .i64 0, .int .i64 0, .bool false, .int .i64 0]) := ⟨Try.zeroValue43⟩
-- 44 []laws.Pane
theorem sz44 (w : World) : (sizeOf 44).run Try.prog w = .ok 1 w := by simp [sizeOf, Try.typeInfo44]; rfl
instance : TyCell Try.prog 44 := ⟨Try.isAgg44⟩
instance : TySize Try.prog 44 1 := ⟨sz44⟩
instance : TyUnd Try.prog 44 (.slice 73) := ⟨Try.underlying44, Try.runUnderlying44⟩
instance : TyZero Try.prog 44 (.slice none 0 0) := ⟨Try.zeroValue44⟩
-- 58 *spec.reader
theorem sz58 (w : World) : (sizeOf 58).run Try.prog w = .ok 1 w := by simp [sizeOf, Try.typeInfo58]; rfl
instance : TyCell Try.prog 58 := ⟨Try.isAgg58⟩
instance : TySize Try.prog 58 1 := ⟨sz58⟩
instance : TyUnd Try.prog 58 (.pointer 77) := ⟨Try.underlying58, Try.runUnderlying58⟩
instance : TyZero Try.prog 58 (.pointer none) := ⟨Try.zeroValue58⟩
-- 62 [16]int
theorem sz62 (w : World) : (sizeOf 62).run Try.prog w = .ok 16 w := by simp [sizeOf, Try.typeInfo62]; rfl
instance : TyAgg Try.prog 62 16 := ⟨Try.isAgg62, sz62⟩
instance : TySize Try.prog 62 16 := ⟨sz62⟩
instance : TyUnd Try.prog 62 (.array 16 3) := ⟨Try.underlying62, Try.runUnderlying62⟩
instance : TyZero Try.prog 62 (.agg #[.int .i64 0, .int .i64 0, .int .i64 0, .int .i64 0, .int .i64 0, .int .i64 0, .int .i64 0, .int .i64 0, .int .i64 0, .int .i64 0, .int .i64 0, .int .i64 0, .int .i64 0, .int .i64 0, .int .i64 0, .int .i64 0]) := ⟨Try.zeroValue62⟩
-- 67 [10][]int
theorem sz67 (w : World) : (sizeOf 67).run Try.prog w = .ok 10 w := by simp [sizeOf, Try.typeInfo67]; rfl
instance : TyAgg Try.prog 67 10 := ⟨Try.isAgg67, sz67⟩
instance : TySize Try.prog 67 10 := ⟨sz67⟩
instance : TyUnd Try.prog 67 (.array 10 22) := ⟨Try.underlying67, Try.runUnderlying67⟩
instance : TyZero Try.prog 67 (.agg #[.slice none 0 0, .slice none 0 0, .slice none 0 0, .slice none 0 0, .slice none 0 0, .slice none 0 0, .slice none 0 0, .slice none 0 0, .slice none 0 0, .slice none 0 0]) := ⟨Try.zeroValue67⟩
-- 70 [][]int
theorem sz70 (w : World) : (sizeOf 70).run Try.prog w = .ok 1 w := by simp [sizeOf, Try.typeInfo70]; rfl
instance : TyCell Try.prog 70 := ⟨Try.isAgg70⟩
instance : TySize Try.prog 70 1 := ⟨sz70⟩
instance : TyUnd Try.prog 70 (.slice 22) := ⟨Try.underlying70, Try.runUnderlying70⟩
instance : TyZero Try.prog 70 (.slice none 0 0) := ⟨Try.zeroValue70⟩
-- 73 laws.Pane
theorem sz73 (w : World) : (sizeOf 73).run Try.prog w = .ok 4 w := by simp [sizeOf, Try.typeInfo73]; rfl
instance : TyAgg Try.prog 73 4 := ⟨Try.isAgg73, sz73⟩
instance : TySize Try.prog 73 4 := ⟨sz73⟩
instance : TyZero Try.prog 73 (.agg #[.int .i64 0, .int .i64 0, .bool false, .int .i64 0]) := ⟨Try.zeroValue73⟩
-- 76 struct { b []uint8; p int }
theorem sz76 (w : World) : (sizeOf 76).run Try.prog w = .ok 2 w := by simp [sizeOf, Try.typeInfo76]; rfl
instance : TyAgg Try.prog 76 2 := ⟨Try.isAgg76, sz76⟩
instance : TySize Try.prog 76 2 := ⟨sz76⟩
instance : TyZero Try.prog 76 (.agg #[.slice none 0 0, .int .i64 0]) := ⟨Try.zeroValue76⟩
-- 77 spec.reader
theorem sz77 (w : World) : (sizeOf 77).run Try.prog w = .ok 2 w := by simp [sizeOf, Try.typeInfo77]; rfl
instance : TyAgg Try.prog 77 2 := ⟨Try.isAgg77, sz77⟩
instance : TySize Try.prog 77 2 := ⟨sz77⟩
instance : TyZero Try.prog 77 (.agg #[.slice none 0 0, .int .i64 0]) := ⟨Try.zeroValue77⟩
-- 82 uint
theorem sz82 (w : World) : (sizeOf 82).run Try.prog w = .ok 1 w := by simp [sizeOf, Try.typeInfo82]; rfl
instance : TyCell Try.prog 82 := ⟨Try.isAgg82⟩
instance : TySize Try.prog 82 1 := ⟨sz82⟩
instance : TyUnd Try.prog 82 (.int .u64) := ⟨Try.underlying82, Try.runUnderlying82⟩
instance : TyZero Try.prog 82 (.int .u64 0) := ⟨Try.zeroValue82⟩
-- 90 uint32
theorem sz90 (w : World) : (sizeOf 90).run Try.prog w = .ok 1 w := by simp [sizeOf, Try.typeInfo90]; rfl
instance : TyCell Try.prog 90 := ⟨Try.isAgg90⟩
instance : TySize Try.prog 90 1 := ⟨sz90⟩
instance : TyUnd Try.prog 90 (.int .u32) := ⟨Try.underlying90, Try.runUnderlying90⟩
instance : TyZero Try.prog 90 (.int .u32 0) := ⟨Try.zeroValue90⟩
-- 94 *uint8
theorem sz94 (w : World) : (sizeOf 94).run Try.prog w = .ok 1 w := by simp [sizeOf, Try.typeInfo94]; rfl
instance : TyCell Try.prog 94 := ⟨Try.isAgg94⟩
instance : TySize Try.prog 94 1 := ⟨sz94⟩
instance : TyUnd Try.prog 94 (.pointer 5) := ⟨Try.underlying94, Try.runUnderlying94⟩
instance : TyZero Try.prog 94 (.pointer none) := ⟨Try.zeroValue94⟩
instance : TyField Try.prog 42 0 0 := ⟨fun b o w => by simp [Instr.fieldAt, Try.runUnderlying42, Instr.sureAddr, fieldPlace, add_lit]⟩
instance : TyField Try.prog 42 1 1 := ⟨fun b o w => by simp [Instr.fieldAt, Try.runUnderlying42, Instr.sureAddr, fieldPlace, add_lit]⟩
instance : TyField Try.prog 42 2 2 := ⟨fun b o w => by simp [Instr.fieldAt, Try.runUnderlying42, Instr.sureAddr, fieldPlace, add_lit]⟩
instance : TyField Try.prog 42 3 3 := ⟨fun b o w => by simp [Instr.fieldAt, Try.runUnderlying42, Instr.sureAddr, fieldPlace, add_lit]⟩
instance : TyField Try.prog 43 0 0 := ⟨fun b o w => by simp [Instr.fieldAt, Try.runUnderlying43, Instr.sureAddr, fieldPlace, add_lit]⟩
instance : TyField Try.prog 43 1 1 := ⟨fun b o w => by simp [Instr.fieldAt, Try.runUnderlying43, Instr.sureAddr, fieldPlace, add_lit]⟩
instance : TyField Try.prog 43 2 2 := ⟨fun b o w => by simp [Instr.fieldAt, Try.runUnderlying43, Instr.sureAddr, fieldPlace, add_lit]⟩
instance : TyField Try.prog 43 3 3 := ⟨fun b o w => by simp [Instr.fieldAt, Try.runUnderlying43, Instr.sureAddr, fieldPlace, add_lit]⟩
instance : TyField Try.prog 73 0 0 := ⟨fun b o w => by simp [Instr.fieldAt, Try.runUnderlying73, Instr.sureAddr, fieldPlace, add_lit]⟩
instance : TyField Try.prog 73 1 1 := ⟨fun b o w => by simp [Instr.fieldAt, Try.runUnderlying73, Instr.sureAddr, fieldPlace, add_lit]⟩
instance : TyField Try.prog 73 2 2 := ⟨fun b o w => by simp [Instr.fieldAt, Try.runUnderlying73, Instr.sureAddr, fieldPlace, add_lit]⟩
instance : TyField Try.prog 73 3 3 := ⟨fun b o w => by simp [Instr.fieldAt, Try.runUnderlying73, Instr.sureAddr, fieldPlace, add_lit]⟩
instance : TyField Try.prog 76 0 0 := ⟨fun b o w => by simp [Instr.fieldAt, Try.runUnderlying76, Instr.sureAddr, fieldPlace, add_lit]⟩
instance : TyField Try.prog 76 1 1 := ⟨fun b o w => by simp [Instr.fieldAt, Try.runUnderlying76, Instr.sureAddr, fieldPlace, add_lit]⟩
instance : TyField Try.prog 77 0 0 := ⟨fun b o w => by simp [Instr.fieldAt, Try.runUnderlying77, Instr.sureAddr, fieldPlace, add_lit]⟩
instance : TyField Try.prog 77 1 1 := ⟨fun b o w => by simp [Instr.fieldAt, Try.runUnderlying77, Instr.sureAddr, fieldPlace, add_lit]⟩
instance : TyElem Try.prog 22 3 1 [.int .i64 0] := ⟨Try.underlying22, Try.runUnderlying22, sz3, ⟨_, Try.zeroValue3, rfl⟩, rfl, by decide, ⟨Try.t3, _, by kernel_rfl, rfl, rfl, rfl, by decide⟩⟩
instance : TyElem Try.prog 28 5 1 [.int .u8 0] := ⟨Try.underlying28, Try.runUnderlying28, sz5, ⟨_, Try.zeroValue5, rfl⟩, rfl, by decide, ⟨Try.t5, _, by kernel_rfl, rfl, rfl, rfl, by decide⟩⟩
instance : TyElem Try.prog 38 43 4 [.int .i64 0, .int .i64 0, .bool false, .int .i64 0] := ⟨Try.underlying38, Try.runUnderlying38, sz43, ⟨_, Try.zeroValue43, rfl⟩, rfl, by decide, ⟨Try.t43, _, by kernel_rfl, rfl, rfl, rfl, by decide⟩⟩
instance : TyBuild Try.prog 42 [.int .i64 0, .int .i64 0, .bool false, .int .i64 0] [(0, 1), (1, 1), (2, 1), (3, 1)] := TyBuild.of Try.zeroValue42 Try.runUnderlying42 (fun w => by simp)
instance : TyBuild Try.prog 43 [.int .i64 0, .int .i64 0, .bool false, .int .i64 0] [(0, 1), (1, 1), (2, 1), (3, 1)] := TyBuild.of Try.zeroValue43 Try.runUnderlying43 (fun w => by simp)
instance : TyElem Try.prog 44 73 4 [.int .i64 0, .int .i64 0, .bool false, .int .i64 0] := ⟨Try.underlying44, Try.runUnderlying44, sz73, ⟨_, Try.zeroValue73, rfl⟩, rfl, by decide, ⟨Try.t73, _, by kernel_rfl, rfl, rfl, rfl, by decide⟩⟩
instance : TyElem Try.prog 70 22 1 [.slice none 0 0] := ⟨Try.underlying70, Try.runUnderlying70, sz22, ⟨_, Try.zeroValue22, rfl⟩, rfl, by decide, ⟨Try.t22, _, by kernel_rfl, rfl, rfl, rfl, by decide⟩⟩
instance : TyBuild Try.prog 73 [.int .i64 0, .int .i64 0, .bool false, .int .i64 0] [(0, 1), (1, 1), (2, 1), (3, 1)] := TyBuild.of Try.zeroValue73 Try.runUnderlying73 (fun w => by simp)
instance : TyBuild Try.prog 76 [.slice none 0 0, .int .i64 0] [(0, 1), (1, 1)] := TyBuild.of Try.zeroValue76 Try.runUnderlying76 (fun w => by simp)
instance : TyBuild Try.prog 77 [.slice none 0 0, .int .i64 0] [(0, 1), (1, 1)] := TyBuild.of Try.zeroValue77 Try.runUnderlying77 (fun w => by simp)
-- loop.example/panecutter/laws.FnExactFirstFit
instance : TyFn Try.prog 3 := TyFn.of Try.func3 (by kernel_rfl) rfl
-- loop.example/panecutter/laws.FnExactGroupPanes
instance : TyFn Try.prog 4 := TyFn.of Try.func4 (by kernel_rfl) rfl
-- loop.example/panecutter/laws.FnExactFirstFitDown
instance : TyFn Try.prog 5 := TyFn.of Try.func5 (by kernel_rfl) rfl
-- loop.example/panecutter/laws.FnScaleLengthBars
instance : TyFn Try.prog 6 := TyFn.of Try.func6 (by kernel_rfl) rfl
-- loop.example/panecutter/laws.FnFireTime
instance : TyFn Try.prog 7 := TyFn.of Try.func7 (by kernel_rfl) rfl
-- loop.example/panecutter/laws.FnFirstFit
instance : TyFn Try.prog 8 := TyFn.of Try.func8 (by kernel_rfl) rfl
-- loop.example/panecutter/laws.FnGroupPanes
instance : TyFn Try.prog 9 := TyFn.of Try.func9 (by kernel_rfl) rfl
-- loop.example/panecutter/laws.FnFirstFitDown
instance : TyFn Try.prog 10 := TyFn.of Try.func10 (by kernel_rfl) rfl
-- loop.example/panecutter/laws.FnFewestBars
instance : TyFn Try.prog 11 := TyFn.of Try.func11 (by kernel_rfl) rfl
-- loop.example/panecutter/laws.FnBatchesFor
instance : TyFn Try.prog 12 := TyFn.of Try.func12 (by kernel_rfl) rfl
-- loop.example/panecutter/laws.FnExactBatchesFor
instance : TyFn Try.prog 13 := TyFn.of Try.func13 (by kernel_rfl) rfl
-- loop.example/panecutter/spec.FirstFit
instance : TyFn Try.prog 14 := TyFn.of Try.func14 (by kernel_rfl) rfl
-- loop.example/panecutter/laws.toIntS
instance : TyFn Try.prog 15 := TyFn.of Try.func15 (by kernel_rfl) rfl
-- loop.example/panecutter/impl.FirstFit
instance : TyFn Try.prog 16 := TyFn.of Try.func16 (by kernel_rfl) rfl
-- loop.example/panecutter/laws.eqIntS
instance : TyFn Try.prog 17 := TyFn.of Try.func17 (by kernel_rfl) rfl
-- loop.example/panecutter/laws.markIntS
instance : TyFn Try.prog 18 := TyFn.of Try.func18 (by kernel_rfl) rfl
-- loop.example/panecutter/laws.heldIntS
instance : TyFn Try.prog 19 := TyFn.of Try.func19 (by kernel_rfl) rfl
-- loop.example/panecutter/spec.GroupPanes
instance : TyFn Try.prog 20 := TyFn.of Try.func20 (by kernel_rfl) rfl
-- loop.example/panecutter/impl.GroupPanes
instance : TyFn Try.prog 21 := TyFn.of Try.func21 (by kernel_rfl) rfl
-- loop.example/panecutter/spec.FirstFitDown
instance : TyFn Try.prog 22 := TyFn.of Try.func22 (by kernel_rfl) rfl
-- loop.example/panecutter/impl.FirstFitDown
instance : TyFn Try.prog 23 := TyFn.of Try.func23 (by kernel_rfl) rfl
-- loop.example/panecutter/spec.DrawFirstFit
instance : TyFn Try.prog 24 := TyFn.of Try.func24 (by kernel_rfl) rfl
-- loop.example/panecutter/laws.equalInts
instance : TyFn Try.prog 25 := TyFn.of Try.func25 (by kernel_rfl) rfl
-- loop.example/panecutter/laws.highest
instance : TyFn Try.prog 26 := TyFn.of Try.func26 (by kernel_rfl) rfl
-- loop.example/panecutter/impl.ScaleLength
instance : TyFn Try.prog 27 := TyFn.of Try.func27 (by kernel_rfl) rfl
-- loop.example/panecutter/spec.DrawFireTime
instance : TyFn Try.prog 28 := TyFn.of Try.func28 (by kernel_rfl) rfl
-- loop.example/panecutter/impl.FireTime
instance : TyFn Try.prog 29 := TyFn.of Try.func29 (by kernel_rfl) rfl
-- loop.example/panecutter/spec.FireTime
instance : TyFn Try.prog 30 := TyFn.of Try.func30 (by kernel_rfl) rfl
-- loop.example/panecutter/laws.total
instance : TyFn Try.prog 31 := TyFn.of Try.func31 (by kernel_rfl) rfl
-- loop.example/panecutter/impl.GoodBars
instance : TyFn Try.prog 32 := TyFn.of Try.func32 (by kernel_rfl) rfl
-- loop.example/panecutter/spec.DrawGroupPanes
instance : TyFn Try.prog 33 := TyFn.of Try.func33 (by kernel_rfl) rfl
-- loop.example/panecutter/spec.DrawFirstFitDown
instance : TyFn Try.prog 34 := TyFn.of Try.func34 (by kernel_rfl) rfl
-- loop.example/panecutter/spec.DrawFewestBars
instance : TyFn Try.prog 35 := TyFn.of Try.func35 (by kernel_rfl) rfl
-- loop.example/panecutter/impl.FewestBars
instance : TyFn Try.prog 36 := TyFn.of Try.func36 (by kernel_rfl) rfl
-- loop.example/panecutter/spec.FewestBars
instance : TyFn Try.prog 37 := TyFn.of Try.func37 (by kernel_rfl) rfl
-- loop.example/panecutter/spec.DrawBatchesFor
instance : TyFn Try.prog 38 := TyFn.of Try.func38 (by kernel_rfl) rfl
-- loop.example/panecutter/impl.BatchesFor
instance : TyFn Try.prog 39 := TyFn.of Try.func39 (by kernel_rfl) rfl
-- loop.example/panecutter/spec.BatchesFor
instance : TyFn Try.prog 40 := TyFn.of Try.func40 (by kernel_rfl) rfl
-- loop.example/panecutter/laws.szPaneS
instance : TyFn Try.prog 41 := TyFn.of Try.func41 (by kernel_rfl) rfl
-- loop.example/panecutter/laws.toPaneS
instance : TyFn Try.prog 42 := TyFn.of Try.func42 (by kernel_rfl) rfl
-- loop.example/panecutter/laws.eqPaneS
instance : TyFn Try.prog 43 := TyFn.of Try.func43 (by kernel_rfl) rfl
-- loop.example/panecutter/spec.validBars
instance : TyFn Try.prog 44 := TyFn.of Try.func44 (by kernel_rfl) rfl
-- loop.example/panecutter/spec.firstFit
instance : TyFn Try.prog 45 := TyFn.of Try.func45 (by kernel_rfl) rfl
-- loop.example/panecutter/spec.upTo
instance : TyFn Try.prog 46 := TyFn.of Try.func46 (by kernel_rfl) rfl
-- loop.example/panecutter/impl.barLengths
instance : TyFn Try.prog 47 := TyFn.of Try.func47 (by kernel_rfl) rfl
-- loop.example/panecutter/impl.fitInOrder
instance : TyFn Try.prog 48 := TyFn.of Try.func48 (by kernel_rfl) rfl
-- loop.example/panecutter/impl.indicesBy
instance : TyFn Try.prog 49 := TyFn.of Try.func49 (by kernel_rfl) rfl
-- loop.example/panecutter/impl.FirstFit$1
instance : TyFn Try.prog 50 := TyFn.of Try.func50 (by kernel_rfl) rfl
-- loop.example/panecutter/spec.validGroups
instance : TyFn Try.prog 51 := TyFn.of Try.func51 (by kernel_rfl) rfl
-- loop.example/panecutter/spec.inRange
instance : TyFn Try.prog 52 := TyFn.of Try.func52 (by kernel_rfl) rfl
-- loop.example/panecutter/spec.falling
instance : TyFn Try.prog 53 := TyFn.of Try.func53 (by kernel_rfl) rfl
-- loop.example/panecutter/impl.validTimes
instance : TyFn Try.prog 54 := TyFn.of Try.func54 (by kernel_rfl) rfl
-- loop.example/panecutter/impl.falling
instance : TyFn Try.prog 55 := TyFn.of Try.func55 (by kernel_rfl) rfl
-- loop.example/panecutter/spec.barLengths
instance : TyFn Try.prog 56 := TyFn.of Try.func56 (by kernel_rfl) rfl
-- loop.example/panecutter/spec.newReader
instance : TyFn Try.prog 57 := TyFn.of Try.func57 (by kernel_rfl) rfl
-- loop.example/panecutter/spec.someTimes
instance : TyFn Try.prog 58 := TyFn.of Try.func58 (by kernel_rfl) rfl
-- (*loop.example/panecutter/spec.reader).pick
instance : TyFn Try.prog 59 := TyFn.of Try.func59 (by kernel_rfl) rfl
-- (*loop.example/panecutter/spec.reader).one
instance : TyFn Try.prog 60 := TyFn.of Try.func60 (by kernel_rfl) rfl
-- loop.example/panecutter/spec.fireTime
instance : TyFn Try.prog 61 := TyFn.of Try.func61 (by kernel_rfl) rfl
-- loop.example/panecutter/impl.fewestGroups
instance : TyFn Try.prog 62 := TyFn.of Try.func62 (by kernel_rfl) rfl
-- loop.example/panecutter/impl.FewestBars$1
instance : TyFn Try.prog 63 := TyFn.of Try.func63 (by kernel_rfl) rfl
-- loop.example/panecutter/impl.sumIn
instance : TyFn Try.prog 64 := TyFn.of Try.func64 (by kernel_rfl) rfl
-- loop.example/panecutter/spec.fewest
instance : TyFn Try.prog 65 := TyFn.of Try.func65 (by kernel_rfl) rfl
-- loop.example/panecutter/spec.somePane
instance : TyFn Try.prog 66 := TyFn.of Try.func66 (by kernel_rfl) rfl
-- loop.example/panecutter/spec.anyPane
instance : TyFn Try.prog 67 := TyFn.of Try.func67 (by kernel_rfl) rfl
-- loop.example/panecutter/impl.ValidPane
instance : TyFn Try.prog 68 := TyFn.of Try.func68 (by kernel_rfl) rfl
-- loop.example/panecutter/spec.validPanes
instance : TyFn Try.prog 69 := TyFn.of Try.func69 (by kernel_rfl) rfl
-- loop.example/panecutter/spec.kindBatches
instance : TyFn Try.prog 70 := TyFn.of Try.func70 (by kernel_rfl) rfl
-- loop.example/panecutter/spec.stacksFor
instance : TyFn Try.prog 71 := TyFn.of Try.func71 (by kernel_rfl) rfl
-- loop.example/panecutter/laws.toPane
instance : TyFn Try.prog 72 := TyFn.of Try.func72 (by kernel_rfl) rfl
-- loop.example/panecutter/laws.eqPane
instance : TyFn Try.prog 73 := TyFn.of Try.func73 (by kernel_rfl) rfl
-- slices.SortStableFunc[[]int,int]
instance : TyFn Try.prog 74 := TyFn.of Try.func74 (by kernel_rfl) rfl
-- loop.example/panecutter/spec.copyInts
instance : TyFn Try.prog 75 := TyFn.of Try.func75 (by kernel_rfl) rfl
-- loop.example/panecutter/impl.falling$1
instance : TyFn Try.prog 76 := TyFn.of Try.func76 (by kernel_rfl) rfl
-- loop.example/panecutter/spec.power
instance : TyFn Try.prog 77 := TyFn.of Try.func77 (by kernel_rfl) rfl
-- loop.example/panecutter/spec.has
instance : TyFn Try.prog 78 := TyFn.of Try.func78 (by kernel_rfl) rfl
-- loop.example/panecutter/spec.inside
instance : TyFn Try.prog 79 := TyFn.of Try.func79 (by kernel_rfl) rfl
-- loop.example/panecutter/spec.validPane
instance : TyFn Try.prog 80 := TyFn.of Try.func80 (by kernel_rfl) rfl
-- slices.stableCmpFunc[int]
instance : TyFn Try.prog 81 := TyFn.of Try.func81 (by kernel_rfl) rfl
-- slices.insertionSortCmpFunc[int]
instance : TyFn Try.prog 82 := TyFn.of Try.func82 (by kernel_rfl) rfl
-- slices.symMergeCmpFunc[int]
instance : TyFn Try.prog 83 := TyFn.of Try.func83 (by kernel_rfl) rfl
-- slices.rotateCmpFunc[int]
instance : TyFn Try.prog 84 := TyFn.of Try.func84 (by kernel_rfl) rfl
-- slices.swapRangeCmpFunc[int]
instance : TyFn Try.prog 85 := TyFn.of Try.func85 (by kernel_rfl) rfl
end Go.Proofs.Ytlknglhldfpbdaa
