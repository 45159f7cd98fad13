/-
  The facts on the types of this seat's translation, by program.
-/
import Derived.Test.YtbgalcjkmgdaiaaV7
import Derived.Test.YtbgalcjkmgdaiaaProg
import Derived.KernelRfl
namespace Go.Proofs.Ytbgalcjkmgdaiaa
open Go

-- 2 int64
theorem sz2 (w : World) : (sizeOf 2).run Try.prog w = .ok 1 w := by simp [sizeOf, Try.typeInfo2]; rfl
instance : TyCell Try.prog 2 := ⟨Try.isAgg2⟩
instance : TySize Try.prog 2 1 := ⟨sz2⟩
instance : TyUnd Try.prog 2 (.int .i64) := ⟨Try.underlying2, Try.runUnderlying2⟩
instance : TyZero Try.prog 2 (.int .i64 0) := ⟨Try.zeroValue2⟩
-- 3 int
theorem sz3 (w : World) : (sizeOf 3).run Try.prog w = .ok 1 w := by simp [sizeOf, Try.typeInfo3]; rfl
instance : TyCell Try.prog 3 := ⟨Try.isAgg3⟩
instance : TySize Try.prog 3 1 := ⟨sz3⟩
instance : TyUnd Try.prog 3 (.int .i64) := ⟨Try.underlying3, Try.runUnderlying3⟩
instance : TyZero Try.prog 3 (.int .i64 0) := ⟨Try.zeroValue3⟩
-- 4 bool
theorem sz4 (w : World) : (sizeOf 4).run Try.prog w = .ok 1 w := by simp [sizeOf, Try.typeInfo4]; rfl
instance : TyCell Try.prog 4 := ⟨Try.isAgg4⟩
instance : TySize Try.prog 4 1 := ⟨sz4⟩
instance : TyUnd Try.prog 4 (.bool) := ⟨Try.underlying4, Try.runUnderlying4⟩
instance : TyZero Try.prog 4 (.bool false) := ⟨Try.zeroValue4⟩
-- 5 uint8
theorem sz5 (w : World) : (sizeOf 5).run Try.prog w = .ok 1 w := by simp [sizeOf, Try.typeInfo5]; rfl
instance : TyCell Try.prog 5 := ⟨Try.isAgg5⟩
instance : TySize Try.prog 5 1 := ⟨sz5⟩
instance : TyUnd Try.prog 5 (.int .u8) := ⟨Try.underlying5, Try.runUnderlying5⟩
instance : TyZero Try.prog 5 (.int .u8 0) := ⟨Try.zeroValue5⟩
-- 9 string
theorem sz9 (w : World) : (sizeOf 9).run Try.prog w = .ok 1 w := by simp [sizeOf, Try.typeInfo9]; rfl
instance : TyCell Try.prog 9 := ⟨Try.isAgg9⟩
instance : TySize Try.prog 9 1 := ⟨sz9⟩
instance : TyUnd Try.prog 9 (.string) := ⟨Try.underlying9, Try.runUnderlying9⟩
instance : TyZero Try.prog 9 (.string ByteArray.empty) := ⟨Try.zeroValue9⟩
-- 12 uintptr
theorem sz12 (w : World) : (sizeOf 12).run Try.prog w = .ok 1 w := by simp [sizeOf, Try.typeInfo12]; rfl
instance : TyCell Try.prog 12 := ⟨Try.isAgg12⟩
instance : TySize Try.prog 12 1 := ⟨sz12⟩
instance : TyUnd Try.prog 12 (.int .u64) := ⟨Try.underlying12, Try.runUnderlying12⟩
instance : TyZero Try.prog 12 (.int .u64 0) := ⟨Try.zeroValue12⟩
-- 21 int32
theorem sz21 (w : World) : (sizeOf 21).run Try.prog w = .ok 1 w := by simp [sizeOf, Try.typeInfo21]; rfl
instance : TyCell Try.prog 21 := ⟨Try.isAgg21⟩
instance : TySize Try.prog 21 1 := ⟨sz21⟩
instance : TyUnd Try.prog 21 (.int .i32) := ⟨Try.underlying21, Try.runUnderlying21⟩
instance : TyZero Try.prog 21 (.int .i32 0) := ⟨Try.zeroValue21⟩
-- 22 []int
theorem sz22 (w : World) : (sizeOf 22).run Try.prog w = .ok 1 w := by simp [sizeOf, Try.typeInfo22]; rfl
instance : TyCell Try.prog 22 := ⟨Try.isAgg22⟩
instance : TySize Try.prog 22 1 := ⟨sz22⟩
instance : TyUnd Try.prog 22 (.slice 3) := ⟨Try.underlying22, Try.runUnderlying22⟩
instance : TyZero Try.prog 22 (.slice none 0 0) := ⟨Try.zeroValue22⟩
-- 29 []uint8
theorem sz29 (w : World) : (sizeOf 29).run Try.prog w = .ok 1 w := by simp [sizeOf, Try.typeInfo29]; rfl
instance : TyCell Try.prog 29 := ⟨Try.isAgg29⟩
instance : TySize Try.prog 29 1 := ⟨sz29⟩
instance : TyUnd Try.prog 29 (.slice 5) := ⟨Try.underlying29, Try.runUnderlying29⟩
instance : TyZero Try.prog 29 (.slice none 0 0) := ⟨Try.zeroValue29⟩
-- 35 []impl.Job
theorem sz35 (w : World) : (sizeOf 35).run Try.prog w = .ok 1 w := by simp [sizeOf, Try.typeInfo35]; rfl
instance : TyCell Try.prog 35 := ⟨Try.isAgg35⟩
instance : TySize Try.prog 35 1 := ⟨sz35⟩
instance : TyUnd Try.prog 35 (.slice 41) := ⟨Try.underlying35, Try.runUnderlying35⟩
instance : TyZero Try.prog 35 (.slice none 0 0) := ⟨Try.zeroValue35⟩
-- 40 struct { Cut int; Heat int }
theorem sz40 (w : World) : (sizeOf 40).run Try.prog w = .ok 2 w := by simp [sizeOf, Try.typeInfo40]; rfl
instance : TyAgg Try.prog 40 2 := ⟨Try.isAgg40, sz40⟩
instance : TySize Try.prog 40 2 := ⟨sz40⟩
instance : TyZero Try.prog 40 (.agg #[.int .i64 0, .int .i64 0]) := ⟨Try.zeroValue40⟩
-- 41 impl.Job
theorem sz41 (w : World) : (sizeOf 41).run Try.prog w = .ok 2 w := by simp [sizeOf, Try.typeInfo41]; rfl
instance : TyAgg Try.prog 41 2 := ⟨Try.isAgg41, sz41⟩
instance : TySize Try.prog 41 2 := ⟨sz41⟩
instance : TyZero Try.prog 41 (.agg #[.int .i64 0, .int .i64 0]) := ⟨Try.zeroValue41⟩
-- 42 []laws.Job
theorem sz42 (w : World) : (sizeOf 42).run Try.prog w = .ok 1 w := by simp [sizeOf, Try.typeInfo42]; rfl
instance : TyCell Try.prog 42 := ⟨Try.isAgg42⟩
instance : TySize Try.prog 42 1 := ⟨sz42⟩
instance : TyUnd Try.prog 42 (.slice 65) := ⟨Try.underlying42, Try.runUnderlying42⟩
instance : TyZero Try.prog 42 (.slice none 0 0) := ⟨Try.zeroValue42⟩
-- 53 []bool
theorem sz53 (w : World) : (sizeOf 53).run Try.prog w = .ok 1 w := by simp [sizeOf, Try.typeInfo53]; rfl
instance : TyCell Try.prog 53 := ⟨Try.isAgg53⟩
instance : TySize Try.prog 53 1 := ⟨sz53⟩
instance : TyUnd Try.prog 53 (.slice 4) := ⟨Try.underlying53, Try.runUnderlying53⟩
instance : TyZero Try.prog 53 (.slice none 0 0) := ⟨Try.zeroValue53⟩
-- 56 *spec.reader
theorem sz56 (w : World) : (sizeOf 56).run Try.prog w = .ok 1 w := by simp [sizeOf, Try.typeInfo56]; rfl
instance : TyCell Try.prog 56 := ⟨Try.isAgg56⟩
instance : TySize Try.prog 56 1 := ⟨sz56⟩
instance : TyUnd Try.prog 56 (.pointer 70) := ⟨Try.underlying56, Try.runUnderlying56⟩
instance : TyZero Try.prog 56 (.pointer none) := ⟨Try.zeroValue56⟩
-- 65 laws.Job
theorem sz65 (w : World) : (sizeOf 65).run Try.prog w = .ok 2 w := by simp [sizeOf, Try.typeInfo65]; rfl
instance : TyAgg Try.prog 65 2 := ⟨Try.isAgg65, sz65⟩
instance : TySize Try.prog 65 2 := ⟨sz65⟩
instance : TyZero Try.prog 65 (.agg #[.int .i64 0, .int .i64 0]) := ⟨Try.zeroValue65⟩
-- 69 struct { b []uint8; p int }
theorem sz69 (w : World) : (sizeOf 69).run Try.prog w = .ok 2 w := by simp [sizeOf, Try.typeInfo69]; rfl
instance : TyAgg Try.prog 69 2 := ⟨Try.isAgg69, sz69⟩
instance : TySize Try.prog 69 2 := ⟨sz69⟩
instance : TyZero Try.prog 69 (.agg #[.slice none 0 0, .int .i64 0]) := ⟨Try.zeroValue69⟩
-- 70 spec.reader
theorem sz70 (w : World) : (sizeOf 70).run Try.prog w = .ok 2 w := by simp [sizeOf, Try.typeInfo70]; rfl
instance : TyAgg Try.prog 70 2 := ⟨Try.isAgg70, sz70⟩
instance : TySize Try.prog 70 2 := ⟨sz70⟩
instance : TyZero Try.prog 70 (.agg #[.slice none 0 0, .int .i64 0]) := ⟨Try.zeroValue70⟩
-- 78 uint
theorem sz78 (w : World) : (sizeOf 78).run Try.prog w = .ok 1 w := by simp [sizeOf, Try.typeInfo78]; rfl
instance : TyCell Try.prog 78 := ⟨Try.isAgg78⟩
instance : TySize Try.prog 78 1 := ⟨sz78⟩
instance : TyUnd Try.prog 78 (.int .u64) := ⟨Try.underlying78, Try.runUnderlying78⟩
instance : TyZero Try.prog 78 (.int .u64 0) := ⟨Try.zeroValue78⟩
-- 86 uint32
theorem sz86 (w : World) : (sizeOf 86).run Try.prog w = .ok 1 w := by simp [sizeOf, Try.typeInfo86]; rfl
instance : TyCell Try.prog 86 := ⟨Try.isAgg86⟩
instance : TySize Try.prog 86 1 := ⟨sz86⟩
instance : TyUnd Try.prog 86 (.int .u32) := ⟨Try.underlying86, Try.runUnderlying86⟩
instance : TyZero Try.prog 86 (.int .u32 0) := ⟨Try.zeroValue86⟩
-- 90 *uint8
theorem sz90 (w : World) : (sizeOf 90).run Try.prog w = .ok 1 w := by simp [sizeOf, Try.typeInfo90]; rfl
instance : TyCell Try.prog 90 := ⟨Try.isAgg90⟩
instance : TySize Try.prog 90 1 := ⟨sz90⟩
instance : TyUnd Try.prog 90 (.pointer 5) := ⟨Try.underlying90, Try.runUnderlying90⟩
instance : TyZero Try.prog 90 (.pointer none) := ⟨Try.zeroValue90⟩
instance : TyField Try.prog 40 0 0 := ⟨fun b o w => by simp [Instr.fieldAt, Try.runUnderlying40, Instr.sureAddr, fieldPlace, add_lit]⟩
instance : TyField Try.prog 40 1 1 := ⟨fun b o w => by simp [Instr.fieldAt, Try.runUnderlying40, Instr.sureAddr, fieldPlace, add_lit]⟩
instance : TyField Try.prog 41 0 0 := ⟨fun b o w => by simp [Instr.fieldAt, Try.runUnderlying41, Instr.sureAddr, fieldPlace, add_lit]⟩
instance : TyField Try.prog 41 1 1 := ⟨fun b o w => by simp [Instr.fieldAt, Try.runUnderlying41, Instr.sureAddr, fieldPlace, add_lit]⟩
instance : TyField Try.prog 65 0 0 := ⟨fun b o w => by simp [Instr.fieldAt, Try.runUnderlying65, Instr.sureAddr, fieldPlace, add_lit]⟩
instance : TyField Try.prog 65 1 1 := ⟨fun b o w => by simp [Instr.fieldAt, Try.runUnderlying65, Instr.sureAddr, fieldPlace, add_lit]⟩
instance : TyField Try.prog 69 0 0 := ⟨fun b o w => by simp [Instr.fieldAt, Try.runUnderlying69, Instr.sureAddr, fieldPlace, add_lit]⟩
instance : TyField Try.prog 69 1 1 := ⟨fun b o w => by simp [Instr.fieldAt, Try.runUnderlying69, Instr.sureAddr, fieldPlace, add_lit]⟩
instance : TyField Try.prog 70 0 0 := ⟨fun b o w => by simp [Instr.fieldAt, Try.runUnderlying70, Instr.sureAddr, fieldPlace, add_lit]⟩
instance : TyField Try.prog 70 1 1 := ⟨fun b o w => by simp [Instr.fieldAt, Try.runUnderlying70, Instr.sureAddr, fieldPlace, add_lit]⟩
instance : TyElem Try.prog 22 3 1 [.int .i64 0] := ⟨Try.underlying22, Try.runUnderlying22, sz3, ⟨_, Try.zeroValue3, rfl⟩, rfl, by decide, ⟨Try.t3, _, by kernel_rfl, rfl, rfl, rfl, by decide⟩⟩
instance : TyElem Try.prog 29 5 1 [.int .u8 0] := ⟨Try.underlying29, Try.runUnderlying29, sz5, ⟨_, Try.zeroValue5, rfl⟩, rfl, by decide, ⟨Try.t5, _, by kernel_rfl, rfl, rfl, rfl, by decide⟩⟩
instance : TyElem Try.prog 35 41 2 [.int .i64 0, .int .i64 0] := ⟨Try.underlying35, Try.runUnderlying35, sz41, ⟨_, Try.zeroValue41, rfl⟩, rfl, by decide, ⟨Try.t41, _, by kernel_rfl, rfl, rfl, rfl, by decide⟩⟩
instance : TyBuild Try.prog 40 [.int .i64 0, .int .i64 0] [(0, 1), (1, 1)] := TyBuild.of Try.zeroValue40 Try.runUnderlying40 (fun w => by simp)
instance : TyBuild Try.prog 41 [.int .i64 0, .int .i64 0] [(0, 1), (1, 1)] := TyBuild.of Try.zeroValue41 Try.runUnderlying41 (fun w => by simp)
instance : TyElem Try.prog 42 65 2 [.int .i64 0, .int .i64 0] := ⟨Try.underlying42, Try.runUnderlying42, sz65, ⟨_, Try.zeroValue65, rfl⟩, rfl, by decide, ⟨Try.t65, _, by kernel_rfl, rfl, rfl, rfl, by decide⟩⟩
instance : TyElem Try.prog 53 4 1 [.bool false] := ⟨Try.underlying53, Try.runUnderlying53, sz4, ⟨_, Try.zeroValue4, rfl⟩, rfl, by decide, ⟨Try.t4, _, by kernel_rfl, rfl, rfl, rfl, by decide⟩⟩
instance : TyBuild Try.prog 65 [.int .i64 0, .int .i64 0] [(0, 1), (1, 1)] := TyBuild.of Try.zeroValue65 Try.runUnderlying65 (fun w => by simp)
instance : TyBuild Try.prog 69 [.slice none 0 0, .int .i64 0] [(0, 1), (1, 1)] := TyBuild.of Try.zeroValue69 Try.runUnderlying69 (fun w => by simp)
instance : TyBuild Try.prog 70 [.slice none 0 0, .int .i64 0] [(0, 1), (1, 1)] := TyBuild.of Try.zeroValue70 Try.runUnderlying70 (fun w => by simp)
-- loop.example/panecutter/laws.FnExactPairUp
instance : TyFn Try.prog 3 := TyFn.of Try.func3 (by kernel_rfl) rfl
-- loop.example/panecutter/laws.FnExactPairsIn
instance : TyFn Try.prog 4 := TyFn.of Try.func4 (by kernel_rfl) rfl
-- loop.example/panecutter/laws.FnPairUp
instance : TyFn Try.prog 5 := TyFn.of Try.func5 (by kernel_rfl) rfl
-- loop.example/panecutter/laws.FnPairUpLeft
instance : TyFn Try.prog 6 := TyFn.of Try.func6 (by kernel_rfl) rfl
-- loop.example/panecutter/laws.FnPairsIn
instance : TyFn Try.prog 7 := TyFn.of Try.func7 (by kernel_rfl) rfl
-- loop.example/panecutter/laws.FnPairsInLess
instance : TyFn Try.prog 8 := TyFn.of Try.func8 (by kernel_rfl) rfl
-- loop.example/panecutter/laws.FnSpanBound
instance : TyFn Try.prog 9 := TyFn.of Try.func9 (by kernel_rfl) rfl
-- loop.example/panecutter/laws.FnExactBestOrder
instance : TyFn Try.prog 10 := TyFn.of Try.func10 (by kernel_rfl) rfl
-- loop.example/panecutter/laws.FnBestOrder
instance : TyFn Try.prog 11 := TyFn.of Try.func11 (by kernel_rfl) rfl
-- loop.example/panecutter/laws.FnSpanOfBack
instance : TyFn Try.prog 12 := TyFn.of Try.func12 (by kernel_rfl) rfl
-- loop.example/panecutter/spec.PairUp
instance : TyFn Try.prog 13 := TyFn.of Try.func13 (by kernel_rfl) rfl
-- loop.example/panecutter/laws.toIntS
instance : TyFn Try.prog 14 := TyFn.of Try.func14 (by kernel_rfl) rfl
-- loop.example/panecutter/impl.PairUp
instance : TyFn Try.prog 15 := TyFn.of Try.func15 (by kernel_rfl) rfl
-- loop.example/panecutter/laws.eqIntS
instance : TyFn Try.prog 16 := TyFn.of Try.func16 (by kernel_rfl) rfl
-- loop.example/panecutter/laws.markIntS
instance : TyFn Try.prog 17 := TyFn.of Try.func17 (by kernel_rfl) rfl
-- loop.example/panecutter/laws.heldIntS
instance : TyFn Try.prog 18 := TyFn.of Try.func18 (by kernel_rfl) rfl
-- loop.example/panecutter/spec.PairsIn
instance : TyFn Try.prog 19 := TyFn.of Try.func19 (by kernel_rfl) rfl
-- loop.example/panecutter/impl.PairsIn
instance : TyFn Try.prog 20 := TyFn.of Try.func20 (by kernel_rfl) rfl
-- loop.example/panecutter/spec.DrawPairUp
instance : TyFn Try.prog 21 := TyFn.of Try.func21 (by kernel_rfl) rfl
-- loop.example/panecutter/laws.equalInts
instance : TyFn Try.prog 22 := TyFn.of Try.func22 (by kernel_rfl) rfl
-- loop.example/panecutter/laws.isIn
instance : TyFn Try.prog 23 := TyFn.of Try.func23 (by kernel_rfl) rfl
-- loop.example/panecutter/spec.DrawPairsIn
instance : TyFn Try.prog 24 := TyFn.of Try.func24 (by kernel_rfl) rfl
-- loop.example/panecutter/laws.without
instance : TyFn Try.prog 25 := TyFn.of Try.func25 (by kernel_rfl) rfl
-- loop.example/panecutter/spec.DrawSpanBound
instance : TyFn Try.prog 26 := TyFn.of Try.func26 (by kernel_rfl) rfl
-- loop.example/panecutter/impl.SpanBound
instance : TyFn Try.prog 27 := TyFn.of Try.func27 (by kernel_rfl) rfl
-- loop.example/panecutter/spec.SpanBound
instance : TyFn Try.prog 28 := TyFn.of Try.func28 (by kernel_rfl) rfl
-- loop.example/panecutter/impl.SpanOf
instance : TyFn Try.prog 29 := TyFn.of Try.func29 (by kernel_rfl) rfl
-- loop.example/panecutter/impl.BestOrder
instance : TyFn Try.prog 30 := TyFn.of Try.func30 (by kernel_rfl) rfl
-- loop.example/panecutter/laws.szJobS
instance : TyFn Try.prog 31 := TyFn.of Try.func31 (by kernel_rfl) rfl
-- loop.example/panecutter/spec.BestOrder
instance : TyFn Try.prog 32 := TyFn.of Try.func32 (by kernel_rfl) rfl
-- loop.example/panecutter/laws.toJobS
instance : TyFn Try.prog 33 := TyFn.of Try.func33 (by kernel_rfl) rfl
-- loop.example/panecutter/laws.eqJobS
instance : TyFn Try.prog 34 := TyFn.of Try.func34 (by kernel_rfl) rfl
-- loop.example/panecutter/laws.markJobS
instance : TyFn Try.prog 35 := TyFn.of Try.func35 (by kernel_rfl) rfl
-- loop.example/panecutter/spec.DrawBestOrder
instance : TyFn Try.prog 36 := TyFn.of Try.func36 (by kernel_rfl) rfl
-- loop.example/panecutter/impl.ValidJobs
instance : TyFn Try.prog 37 := TyFn.of Try.func37 (by kernel_rfl) rfl
-- loop.example/panecutter/impl.ValidTurn
instance : TyFn Try.prog 38 := TyFn.of Try.func38 (by kernel_rfl) rfl
-- loop.example/panecutter/spec.DrawSpanOf
instance : TyFn Try.prog 39 := TyFn.of Try.func39 (by kernel_rfl) rfl
-- loop.example/panecutter/spec.SpanOf
instance : TyFn Try.prog 40 := TyFn.of Try.func40 (by kernel_rfl) rfl
-- loop.example/panecutter/laws.backwards
instance : TyFn Try.prog 41 := TyFn.of Try.func41 (by kernel_rfl) rfl
-- loop.example/panecutter/spec.validSizes
instance : TyFn Try.prog 42 := TyFn.of Try.func42 (by kernel_rfl) rfl
-- loop.example/panecutter/spec.inRange
instance : TyFn Try.prog 43 := TyFn.of Try.func43 (by kernel_rfl) rfl
-- loop.example/panecutter/spec.pairUp
instance : TyFn Try.prog 44 := TyFn.of Try.func44 (by kernel_rfl) rfl
-- loop.example/panecutter/impl.validPairs
instance : TyFn Try.prog 45 := TyFn.of Try.func45 (by kernel_rfl) rfl
-- loop.example/panecutter/impl.indicesBy
instance : TyFn Try.prog 46 := TyFn.of Try.func46 (by kernel_rfl) rfl
-- loop.example/panecutter/impl.PairUp$1
instance : TyFn Try.prog 47 := TyFn.of Try.func47 (by kernel_rfl) rfl
-- loop.example/panecutter/spec.newReader
instance : TyFn Try.prog 48 := TyFn.of Try.func48 (by kernel_rfl) rfl
-- loop.example/panecutter/spec.someSizes
instance : TyFn Try.prog 49 := TyFn.of Try.func49 (by kernel_rfl) rfl
-- (*loop.example/panecutter/spec.reader).one
instance : TyFn Try.prog 50 := TyFn.of Try.func50 (by kernel_rfl) rfl
-- loop.example/panecutter/laws.join
instance : TyFn Try.prog 51 := TyFn.of Try.func51 (by kernel_rfl) rfl
-- loop.example/panecutter/spec.someJobs
instance : TyFn Try.prog 52 := TyFn.of Try.func52 (by kernel_rfl) rfl
-- loop.example/panecutter/spec.validJobs
instance : TyFn Try.prog 53 := TyFn.of Try.func53 (by kernel_rfl) rfl
-- loop.example/panecutter/impl.isOrder
instance : TyFn Try.prog 54 := TyFn.of Try.func54 (by kernel_rfl) rfl
-- loop.example/panecutter/impl.EndsOf
instance : TyFn Try.prog 55 := TyFn.of Try.func55 (by kernel_rfl) rfl
-- loop.example/panecutter/impl.BestOrder$1
instance : TyFn Try.prog 56 := TyFn.of Try.func56 (by kernel_rfl) rfl
-- loop.example/panecutter/impl.compareJobs
instance : TyFn Try.prog 57 := TyFn.of Try.func57 (by kernel_rfl) rfl
-- loop.example/panecutter/spec.bestOrder
instance : TyFn Try.prog 58 := TyFn.of Try.func58 (by kernel_rfl) rfl
-- loop.example/panecutter/laws.toJob
instance : TyFn Try.prog 59 := TyFn.of Try.func59 (by kernel_rfl) rfl
-- loop.example/panecutter/laws.eqJob
instance : TyFn Try.prog 60 := TyFn.of Try.func60 (by kernel_rfl) rfl
-- loop.example/panecutter/impl.validTimes
instance : TyFn Try.prog 61 := TyFn.of Try.func61 (by kernel_rfl) rfl
-- loop.example/panecutter/spec.DrawEndsOf
instance : TyFn Try.prog 62 := TyFn.of Try.func62 (by kernel_rfl) rfl
-- loop.example/panecutter/spec.validRow
instance : TyFn Try.prog 63 := TyFn.of Try.func63 (by kernel_rfl) rfl
-- loop.example/panecutter/spec.spanOf
instance : TyFn Try.prog 64 := TyFn.of Try.func64 (by kernel_rfl) rfl
-- loop.example/panecutter/spec.rising
instance : TyFn Try.prog 65 := TyFn.of Try.func65 (by kernel_rfl) rfl
-- loop.example/panecutter/impl.validSizes
instance : TyFn Try.prog 66 := TyFn.of Try.func66 (by kernel_rfl) rfl
-- slices.SortStableFunc[[]int,int]
instance : TyFn Try.prog 67 := TyFn.of Try.func67 (by kernel_rfl) rfl
-- (*loop.example/panecutter/spec.reader).pick
instance : TyFn Try.prog 68 := TyFn.of Try.func68 (by kernel_rfl) rfl
-- loop.example/panecutter/spec.comesAfter
instance : TyFn Try.prog 69 := TyFn.of Try.func69 (by kernel_rfl) rfl
-- loop.example/panecutter/spec.copyInts
instance : TyFn Try.prog 70 := TyFn.of Try.func70 (by kernel_rfl) rfl
-- loop.example/panecutter/spec.turnOf
instance : TyFn Try.prog 71 := TyFn.of Try.func71 (by kernel_rfl) rfl
-- loop.example/panecutter/spec.validTurn
instance : TyFn Try.prog 72 := TyFn.of Try.func72 (by kernel_rfl) rfl
-- loop.example/panecutter/spec.ends
instance : TyFn Try.prog 73 := TyFn.of Try.func73 (by kernel_rfl) rfl
-- loop.example/panecutter/impl.barLengths
instance : TyFn Try.prog 74 := TyFn.of Try.func74 (by kernel_rfl) rfl
-- slices.stableCmpFunc[int]
instance : TyFn Try.prog 75 := TyFn.of Try.func75 (by kernel_rfl) rfl
-- loop.example/panecutter/spec.placeIn
instance : TyFn Try.prog 76 := TyFn.of Try.func76 (by kernel_rfl) rfl
-- slices.insertionSortCmpFunc[int]
instance : TyFn Try.prog 77 := TyFn.of Try.func77 (by kernel_rfl) rfl
-- slices.symMergeCmpFunc[int]
instance : TyFn Try.prog 78 := TyFn.of Try.func78 (by kernel_rfl) rfl
-- slices.rotateCmpFunc[int]
instance : TyFn Try.prog 79 := TyFn.of Try.func79 (by kernel_rfl) rfl
-- slices.swapRangeCmpFunc[int]
instance : TyFn Try.prog 80 := TyFn.of Try.func80 (by kernel_rfl) rfl
end Go.Proofs.Ytbgalcjkmgdaiaa
