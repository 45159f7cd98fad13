/-
  The facts on the types of this seat's translation, by program.
-/
import Derived.Test.YtfnnhekbgjofoaaV7
import Derived.Test.YtfnnhekbgjofoaaProg
import Derived.KernelRfl
namespace Go.Proofs.Ytfnnhekbgjofoaa
open Go

-- 2 int64
theorem sz2 (w : World) : (sizeOf 2).run Try.prog w = .ok 1 w := by simp [sizeOf, Try.typeInfo2]; rfl
instance : TyCell Try.prog 2 := ⟨Try.isAgg2⟩
instance : TySize Try.prog 2 1 := ⟨sz2⟩
instance : TyUnd Try.prog 2 (.int .i64) := ⟨Try.underlying2, Try.runUnderlying2⟩
instance : TyZero Try.prog 2 (.int .i64 0) := ⟨Try.zeroValue2⟩
-- 3 int
theorem sz3 (w : World) : (sizeOf 3).run Try.prog w = .ok 1 w := by simp [sizeOf, Try.typeInfo3]; rfl
instance : TyCell Try.prog 3 := ⟨Try.isAgg3⟩
instance : TySize Try.prog 3 1 := ⟨sz3⟩
instance : TyUnd Try.prog 3 (.int .i64) := ⟨Try.underlying3, Try.runUnderlying3⟩
instance : TyZero Try.prog 3 (.int .i64 0) := ⟨Try.zeroValue3⟩
-- 4 bool
theorem sz4 (w : World) : (sizeOf 4).run Try.prog w = .ok 1 w := by simp [sizeOf, Try.typeInfo4]; rfl
instance : TyCell Try.prog 4 := ⟨Try.isAgg4⟩
instance : TySize Try.prog 4 1 := ⟨sz4⟩
instance : TyUnd Try.prog 4 (.bool) := ⟨Try.underlying4, Try.runUnderlying4⟩
instance : TyZero Try.prog 4 (.bool false) := ⟨Try.zeroValue4⟩
-- 5 uint8
theorem sz5 (w : World) : (sizeOf 5).run Try.prog w = .ok 1 w := by simp [sizeOf, Try.typeInfo5]; rfl
instance : TyCell Try.prog 5 := ⟨Try.isAgg5⟩
instance : TySize Try.prog 5 1 := ⟨sz5⟩
instance : TyUnd Try.prog 5 (.int .u8) := ⟨Try.underlying5, Try.runUnderlying5⟩
instance : TyZero Try.prog 5 (.int .u8 0) := ⟨Try.zeroValue5⟩
-- 9 string
theorem sz9 (w : World) : (sizeOf 9).run Try.prog w = .ok 1 w := by simp [sizeOf, Try.typeInfo9]; rfl
instance : TyCell Try.prog 9 := ⟨Try.isAgg9⟩
instance : TySize Try.prog 9 1 := ⟨sz9⟩
instance : TyUnd Try.prog 9 (.string) := ⟨Try.underlying9, Try.runUnderlying9⟩
instance : TyZero Try.prog 9 (.string ByteArray.empty) := ⟨Try.zeroValue9⟩
-- 12 uintptr
theorem sz12 (w : World) : (sizeOf 12).run Try.prog w = .ok 1 w := by simp [sizeOf, Try.typeInfo12]; rfl
instance : TyCell Try.prog 12 := ⟨Try.isAgg12⟩
instance : TySize Try.prog 12 1 := ⟨sz12⟩
instance : TyUnd Try.prog 12 (.int .u64) := ⟨Try.underlying12, Try.runUnderlying12⟩
instance : TyZero Try.prog 12 (.int .u64 0) := ⟨Try.zeroValue12⟩
-- 21 int32
theorem sz21 (w : World) : (sizeOf 21).run Try.prog w = .ok 1 w := by simp [sizeOf, Try.typeInfo21]; rfl
instance : TyCell Try.prog 21 := ⟨Try.isAgg21⟩
instance : TySize Try.prog 21 1 := ⟨sz21⟩
instance : TyUnd Try.prog 21 (.int .i32) := ⟨Try.underlying21, Try.runUnderlying21⟩
instance : TyZero Try.prog 21 (.int .i32 0) := ⟨Try.zeroValue21⟩
-- 22 []uint8
theorem sz22 (w : World) : (sizeOf 22).run Try.prog w = .ok 1 w := by simp [sizeOf, Try.typeInfo22]; rfl
instance : TyCell Try.prog 22 := ⟨Try.isAgg22⟩
instance : TySize Try.prog 22 1 := ⟨sz22⟩
instance : TyUnd Try.prog 22 (.slice 5) := ⟨Try.underlying22, Try.runUnderlying22⟩
instance : TyZero Try.prog 22 (.slice none 0 0) := ⟨Try.zeroValue22⟩
-- 23 []impl.Plan
theorem sz23 (w : World) : (sizeOf 23).run Try.prog w = .ok 1 w := by simp [sizeOf, Try.typeInfo23]; rfl
instance : TyCell Try.prog 23 := ⟨Try.isAgg23⟩
instance : TySize Try.prog 23 1 := ⟨sz23⟩
instance : TyUnd Try.prog 23 (.slice 25) := ⟨Try.underlying23, Try.runUnderlying23⟩
instance : TyZero Try.prog 23 (.slice none 0 0) := ⟨Try.zeroValue23⟩
-- 24 struct { Op int; At int; Pane int; Turned bool; Kids []impl.Plan }
theorem sz24 (w : World) : (sizeOf 24).run Try.prog w = .ok 5 w := by simp [sizeOf, Try.typeInfo24]; rfl
instance : TyAgg Try.prog 24 5 := ⟨Try.isAgg24, sz24⟩
instance : TySize Try.prog 24 5 := ⟨sz24⟩
instance : TyZero Try.prog 24 (.agg #[.int .i64 0, .int .i64 0, .int .i64 0, .bool false, .slice none 0 0]) := ⟨Try.zeroValue24⟩
-- 25 impl.Plan
theorem sz25 (w : World) : (sizeOf 25).run Try.prog w = .ok 5 w := by simp [sizeOf, Try.typeInfo25]; rfl
instance : TyAgg Try.prog 25 5 := ⟨Try.isAgg25, sz25⟩
instance : TySize Try.prog 25 5 := ⟨sz25⟩
instance : TyZero Try.prog 25 (.agg #[.int .i64 0, .int .i64 0, .int .i64 0, .bool false, .slice none 0 0]) := ⟨Try.zeroValue25⟩
-- 30 []int
theorem sz30 (w : World) : (sizeOf 30).run Try.prog w = .ok 1 w := by simp [sizeOf, Try.typeInfo30]; rfl
instance : TyCell Try.prog 30 := ⟨Try.isAgg30⟩
instance : TySize Try.prog 30 1 := ⟨sz30⟩
instance : TyUnd Try.prog 30 (.slice 3) := ⟨Try.underlying30, Try.runUnderlying30⟩
instance : TyZero Try.prog 30 (.slice none 0 0) := ⟨Try.zeroValue30⟩
-- 38 [][]int
theorem sz38 (w : World) : (sizeOf 38).run Try.prog w = .ok 1 w := by simp [sizeOf, Try.typeInfo38]; rfl
instance : TyCell Try.prog 38 := ⟨Try.isAgg38⟩
instance : TySize Try.prog 38 1 := ⟨sz38⟩
instance : TyUnd Try.prog 38 (.slice 30) := ⟨Try.underlying38, Try.runUnderlying38⟩
instance : TyZero Try.prog 38 (.slice none 0 0) := ⟨Try.zeroValue38⟩
-- 45 []laws.Plan
theorem sz45 (w : World) : (sizeOf 45).run Try.prog w = .ok 1 w := by simp [sizeOf, Try.typeInfo45]; rfl
instance : TyCell Try.prog 45 := ⟨Try.isAgg45⟩
instance : TySize Try.prog 45 1 := ⟨sz45⟩
instance : TyUnd Try.prog 45 (.slice 47) := ⟨Try.underlying45, Try.runUnderlying45⟩
instance : TyZero Try.prog 45 (.slice none 0 0) := ⟨Try.zeroValue45⟩
-- 46 struct { Op int; At int; Pane int; Turned bool; Kids []laws.Plan }
theorem sz46 (w : World) : (sizeOf 46).run Try.prog w = .ok 5 w := by simp [sizeOf, Try.typeInfo46]; rfl
instance : TyAgg Try.prog 46 5 := ⟨Try.isAgg46, sz46⟩
instance : TySize Try.prog 46 5 := ⟨sz46⟩
instance : TyZero Try.prog 46 (.agg #[.int .i64 0, .int .i64 0, .int .i64 0, .bool false, .slice none 0 0]) := ⟨Try.zeroValue46⟩
-- 47 laws.Plan
theorem sz47 (w : World) : (sizeOf 47).run Try.prog w = .ok 5 w := by simp [sizeOf, Try.typeInfo47]; rfl
instance : TyAgg Try.prog 47 5 := ⟨Try.isAgg47, sz47⟩
instance : TySize Try.prog 47 5 := ⟨sz47⟩
instance : TyZero Try.prog 47 (.agg #[.int .i64 0, .int .i64 0, .int .i64 0, .bool false, .slice none 0 0]) := ⟨Try.zeroValue47⟩
-- 59 *spec.reader
theorem sz59 (w : World) : (sizeOf 59).run Try.prog w = .ok 1 w := by simp [sizeOf, Try.typeInfo59]; rfl
instance : TyCell Try.prog 59 := ⟨Try.isAgg59⟩
instance : TySize Try.prog 59 1 := ⟨sz59⟩
instance : TyUnd Try.prog 59 (.pointer 89) := ⟨Try.underlying59, Try.runUnderlying59⟩
instance : TyZero Try.prog 59 (.pointer none) := ⟨Try.zeroValue59⟩
-- 61 []impl.Pane
theorem sz61 (w : World) : (sizeOf 61).run Try.prog w = .ok 1 w := by simp [sizeOf, Try.typeInfo61]; rfl
instance : TyCell Try.prog 61 := ⟨Try.isAgg61⟩
instance : TySize Try.prog 61 1 := ⟨sz61⟩
instance : TyUnd Try.prog 61 (.slice 101) := ⟨Try.underlying61, Try.runUnderlying61⟩
instance : TyZero Try.prog 61 (.slice none 0 0) := ⟨Try.zeroValue61⟩
-- 62 struct { W int; H int; Panes []impl.Pane }
theorem sz62 (w : World) : (sizeOf 62).run Try.prog w = .ok 3 w := by simp [sizeOf, Try.typeInfo62]; rfl
instance : TyAgg Try.prog 62 3 := ⟨Try.isAgg62, sz62⟩
instance : TySize Try.prog 62 3 := ⟨sz62⟩
instance : TyZero Try.prog 62 (.agg #[.int .i64 0, .int .i64 0, .slice none 0 0]) := ⟨Try.zeroValue62⟩
-- 63 impl.Work
theorem sz63 (w : World) : (sizeOf 63).run Try.prog w = .ok 3 w := by simp [sizeOf, Try.typeInfo63]; rfl
instance : TyAgg Try.prog 63 3 := ⟨Try.isAgg63, sz63⟩
instance : TySize Try.prog 63 3 := ⟨sz63⟩
instance : TyZero Try.prog 63 (.agg #[.int .i64 0, .int .i64 0, .slice none 0 0]) := ⟨Try.zeroValue63⟩
-- 67 []impl.knot
theorem sz67 (w : World) : (sizeOf 67).run Try.prog w = .ok 1 w := by simp [sizeOf, Try.typeInfo67]; rfl
instance : TyCell Try.prog 67 := ⟨Try.isAgg67⟩
instance : TySize Try.prog 67 1 := ⟨sz67⟩
instance : TyUnd Try.prog 67 (.slice 72) := ⟨Try.underlying67, Try.runUnderlying67⟩
instance : TyZero Try.prog 67 (.slice none 0 0) := ⟨Try.zeroValue67⟩
-- 71 struct { number int; above int }
theorem sz71 (w : World) : (sizeOf 71).run Try.prog w = .ok 2 w := by simp [sizeOf, Try.typeInfo71]; rfl
instance : TyAgg Try.prog 71 2 := ⟨Try.isAgg71, sz71⟩
instance : TySize Try.prog 71 2 := ⟨sz71⟩
instance : TyZero Try.prog 71 (.agg #[.int .i64 0, .int .i64 0]) := ⟨Try.zeroValue71⟩
-- 72 impl.knot
theorem sz72 (w : World) : (sizeOf 72).run Try.prog w = .ok 2 w := by simp [sizeOf, Try.typeInfo72]; rfl
instance : TyAgg Try.prog 72 2 := ⟨Try.isAgg72, sz72⟩
instance : TySize Try.prog 72 2 := ⟨sz72⟩
instance : TyZero Try.prog 72 (.agg #[.int .i64 0, .int .i64 0]) := ⟨Try.zeroValue72⟩
-- 88 struct { b []uint8; p int }
theorem sz88 (w : World) : (sizeOf 88).run Try.prog w = .ok 2 w := by simp [sizeOf, Try.typeInfo88]; rfl
instance : TyAgg Try.prog 88 2 := ⟨Try.isAgg88, sz88⟩
instance : TySize Try.prog 88 2 := ⟨sz88⟩
instance : TyZero Try.prog 88 (.agg #[.slice none 0 0, .int .i64 0]) := ⟨Try.zeroValue88⟩
-- 89 spec.reader
theorem sz89 (w : World) : (sizeOf 89).run Try.prog w = .ok 2 w := by simp [sizeOf, Try.typeInfo89]; rfl
instance : TyAgg Try.prog 89 2 := ⟨Try.isAgg89, sz89⟩
instance : TySize Try.prog 89 2 := ⟨sz89⟩
instance : TyZero Try.prog 89 (.agg #[.slice none 0 0, .int .i64 0]) := ⟨Try.zeroValue89⟩
-- 95 [255]bool
theorem sz95 (w : World) : (sizeOf 95).run Try.prog w = .ok 255 w := by simp [sizeOf, Try.typeInfo95]; rfl
instance : TyAgg Try.prog 95 255 := ⟨Try.isAgg95, sz95⟩
instance : TySize Try.prog 95 255 := ⟨sz95⟩
instance : TyUnd Try.prog 95 (.array 255 4) := ⟨Try.underlying95, Try.runUnderlying95⟩
instance : TyZero Try.prog 95 (.agg (Array.replicate 255 (.bool false))) := ⟨fun w => (Try.zeroValue95 w).trans (congrArg (fun z => Result.ok (Value.agg z) w) (by kernel_rfl))⟩
-- 98 *impl.Work
theorem sz98 (w : World) : (sizeOf 98).run Try.prog w = .ok 1 w := by simp [sizeOf, Try.typeInfo98]; rfl
instance : TyCell Try.prog 98 := ⟨Try.isAgg98⟩
instance : TySize Try.prog 98 1 := ⟨sz98⟩
instance : TyUnd Try.prog 98 (.pointer 63) := ⟨Try.underlying98, Try.runUnderlying98⟩
instance : TyZero Try.prog 98 (.pointer none) := ⟨Try.zeroValue98⟩
-- 100 struct { W int; H int; Turns bool; Kind int }
theorem sz100 (w : World) : (sizeOf 100).run Try.prog w = .ok 4 w := by simp [sizeOf, Try.typeInfo100]; rfl
instance : TyAgg Try.prog 100 4 := ⟨Try.isAgg100, sz100⟩
instance : TySize Try.prog 100 4 := ⟨sz100⟩
instance : TyZero Try.prog 100 (.agg #[.int .i64 0, .int .i64 0, .bool false, .int .i64 0]) := ⟨Try.zeroValue100⟩
-- 101 impl.Pane
theorem sz101 (w : World) : (sizeOf 101).run Try.prog w = .ok 4 w := by simp [sizeOf, Try.typeInfo101]; rfl
instance : TyAgg Try.prog 101 4 := ⟨Try.isAgg101, sz101⟩
instance : TySize Try.prog 101 4 := ⟨sz101⟩
instance : TyZero Try.prog 101 (.agg #[.int .i64 0, .int .i64 0, .bool false, .int .i64 0]) := ⟨Try.zeroValue101⟩
-- 109 uint32
theorem sz109 (w : World) : (sizeOf 109).run Try.prog w = .ok 1 w := by simp [sizeOf, Try.typeInfo109]; rfl
instance : TyCell Try.prog 109 := ⟨Try.isAgg109⟩
instance : TySize Try.prog 109 1 := ⟨sz109⟩
instance : TyUnd Try.prog 109 (.int .u32) := ⟨Try.underlying109, Try.runUnderlying109⟩
instance : TyZero Try.prog 109 (.int .u32 0) := ⟨Try.zeroValue109⟩
-- 113 *uint8
theorem sz113 (w : World) : (sizeOf 113).run Try.prog w = .ok 1 w := by simp [sizeOf, Try.typeInfo113]; rfl
instance : TyCell Try.prog 113 := ⟨Try.isAgg113⟩
instance : TySize Try.prog 113 1 := ⟨sz113⟩
instance : TyUnd Try.prog 113 (.pointer 5) := ⟨Try.underlying113, Try.runUnderlying113⟩
instance : TyZero Try.prog 113 (.pointer none) := ⟨Try.zeroValue113⟩
instance : TyField Try.prog 24 0 0 := ⟨fun b o w => by simp [Instr.fieldAt, Try.runUnderlying24, Instr.sureAddr, fieldPlace, add_lit]⟩
instance : TyField Try.prog 24 1 1 := ⟨fun b o w => by simp [Instr.fieldAt, Try.runUnderlying24, Instr.sureAddr, fieldPlace, add_lit]⟩
instance : TyField Try.prog 24 2 2 := ⟨fun b o w => by simp [Instr.fieldAt, Try.runUnderlying24, Instr.sureAddr, fieldPlace, add_lit]⟩
instance : TyField Try.prog 24 3 3 := ⟨fun b o w => by simp [Instr.fieldAt, Try.runUnderlying24, Instr.sureAddr, fieldPlace, add_lit]⟩
instance : TyField Try.prog 24 4 4 := ⟨fun b o w => by simp [Instr.fieldAt, Try.runUnderlying24, Instr.sureAddr, fieldPlace, add_lit]⟩
instance : TyField Try.prog 25 0 0 := ⟨fun b o w => by simp [Instr.fieldAt, Try.runUnderlying25, Instr.sureAddr, fieldPlace, add_lit]⟩
instance : TyField Try.prog 25 1 1 := ⟨fun b o w => by simp [Instr.fieldAt, Try.runUnderlying25, Instr.sureAddr, fieldPlace, add_lit]⟩
instance : TyField Try.prog 25 2 2 := ⟨fun b o w => by simp [Instr.fieldAt, Try.runUnderlying25, Instr.sureAddr, fieldPlace, add_lit]⟩
instance : TyField Try.prog 25 3 3 := ⟨fun b o w => by simp [Instr.fieldAt, Try.runUnderlying25, Instr.sureAddr, fieldPlace, add_lit]⟩
instance : TyField Try.prog 25 4 4 := ⟨fun b o w => by simp [Instr.fieldAt, Try.runUnderlying25, Instr.sureAddr, fieldPlace, add_lit]⟩
instance : TyField Try.prog 46 0 0 := ⟨fun b o w => by simp [Instr.fieldAt, Try.runUnderlying46, Instr.sureAddr, fieldPlace, add_lit]⟩
instance : TyField Try.prog 46 1 1 := ⟨fun b o w => by simp [Instr.fieldAt, Try.runUnderlying46, Instr.sureAddr, fieldPlace, add_lit]⟩
instance : TyField Try.prog 46 2 2 := ⟨fun b o w => by simp [Instr.fieldAt, Try.runUnderlying46, Instr.sureAddr, fieldPlace, add_lit]⟩
instance : TyField Try.prog 46 3 3 := ⟨fun b o w => by simp [Instr.fieldAt, Try.runUnderlying46, Instr.sureAddr, fieldPlace, add_lit]⟩
instance : TyField Try.prog 46 4 4 := ⟨fun b o w => by simp [Instr.fieldAt, Try.runUnderlying46, Instr.sureAddr, fieldPlace, add_lit]⟩
instance : TyField Try.prog 47 0 0 := ⟨fun b o w => by simp [Instr.fieldAt, Try.runUnderlying47, Instr.sureAddr, fieldPlace, add_lit]⟩
instance : TyField Try.prog 47 1 1 := ⟨fun b o w => by simp [Instr.fieldAt, Try.runUnderlying47, Instr.sureAddr, fieldPlace, add_lit]⟩
instance : TyField Try.prog 47 2 2 := ⟨fun b o w => by simp [Instr.fieldAt, Try.runUnderlying47, Instr.sureAddr, fieldPlace, add_lit]⟩
instance : TyField Try.prog 47 3 3 := ⟨fun b o w => by simp [Instr.fieldAt, Try.runUnderlying47, Instr.sureAddr, fieldPlace, add_lit]⟩
instance : TyField Try.prog 47 4 4 := ⟨fun b o w => by simp [Instr.fieldAt, Try.runUnderlying47, Instr.sureAddr, fieldPlace, add_lit]⟩
instance : TyField Try.prog 62 0 0 := ⟨fun b o w => by simp [Instr.fieldAt, Try.runUnderlying62, Instr.sureAddr, fieldPlace, add_lit]⟩
instance : TyField Try.prog 62 1 1 := ⟨fun b o w => by simp [Instr.fieldAt, Try.runUnderlying62, Instr.sureAddr, fieldPlace, add_lit]⟩
instance : TyField Try.prog 62 2 2 := ⟨fun b o w => by simp [Instr.fieldAt, Try.runUnderlying62, Instr.sureAddr, fieldPlace, add_lit]⟩
instance : TyField Try.prog 63 0 0 := ⟨fun b o w => by simp [Instr.fieldAt, Try.runUnderlying63, Instr.sureAddr, fieldPlace, add_lit]⟩
instance : TyField Try.prog 63 1 1 := ⟨fun b o w => by simp [Instr.fieldAt, Try.runUnderlying63, Instr.sureAddr, fieldPlace, add_lit]⟩
instance : TyField Try.prog 63 2 2 := ⟨fun b o w => by simp [Instr.fieldAt, Try.runUnderlying63, Instr.sureAddr, fieldPlace, add_lit]⟩
instance : TyField Try.prog 71 0 0 := ⟨fun b o w => by simp [Instr.fieldAt, Try.runUnderlying71, Instr.sureAddr, fieldPlace, add_lit]⟩
instance : TyField Try.prog 71 1 1 := ⟨fun b o w => by simp [Instr.fieldAt, Try.runUnderlying71, Instr.sureAddr, fieldPlace, add_lit]⟩
instance : TyField Try.prog 72 0 0 := ⟨fun b o w => by simp [Instr.fieldAt, Try.runUnderlying72, Instr.sureAddr, fieldPlace, add_lit]⟩
instance : TyField Try.prog 72 1 1 := ⟨fun b o w => by simp [Instr.fieldAt, Try.runUnderlying72, Instr.sureAddr, fieldPlace, add_lit]⟩
instance : TyField Try.prog 88 0 0 := ⟨fun b o w => by simp [Instr.fieldAt, Try.runUnderlying88, Instr.sureAddr, fieldPlace, add_lit]⟩
instance : TyField Try.prog 88 1 1 := ⟨fun b o w => by simp [Instr.fieldAt, Try.runUnderlying88, Instr.sureAddr, fieldPlace, add_lit]⟩
instance : TyField Try.prog 89 0 0 := ⟨fun b o w => by simp [Instr.fieldAt, Try.runUnderlying89, Instr.sureAddr, fieldPlace, add_lit]⟩
instance : TyField Try.prog 89 1 1 := ⟨fun b o w => by simp [Instr.fieldAt, Try.runUnderlying89, Instr.sureAddr, fieldPlace, add_lit]⟩
instance : TyField Try.prog 100 0 0 := ⟨fun b o w => by simp [Instr.fieldAt, Try.runUnderlying100, Instr.sureAddr, fieldPlace, add_lit]⟩
instance : TyField Try.prog 100 1 1 := ⟨fun b o w => by simp [Instr.fieldAt, Try.runUnderlying100, Instr.sureAddr, fieldPlace, add_lit]⟩
instance : TyField Try.prog 100 2 2 := ⟨fun b o w => by simp [Instr.fieldAt, Try.runUnderlying100, Instr.sureAddr, fieldPlace, add_lit]⟩
instance : TyField Try.prog 100 3 3 := ⟨fun b o w => by simp [Instr.fieldAt, Try.runUnderlying100, Instr.sureAddr, fieldPlace, add_lit]⟩
instance : TyField Try.prog 101 0 0 := ⟨fun b o w => by simp [Instr.fieldAt, Try.runUnderlying101, Instr.sureAddr, fieldPlace, add_lit]⟩
instance : TyField Try.prog 101 1 1 := ⟨fun b o w => by simp [Instr.fieldAt, Try.runUnderlying101, Instr.sureAddr, fieldPlace, add_lit]⟩
instance : TyField Try.prog 101 2 2 := ⟨fun b o w => by simp [Instr.fieldAt, Try.runUnderlying101, Instr.sureAddr, fieldPlace, add_lit]⟩
instance : TyField Try.prog 101 3 3 := ⟨fun b o w => by simp [Instr.fieldAt, Try.runUnderlying101, Instr.sureAddr, fieldPlace, add_lit]⟩
instance : TyElem Try.prog 22 5 1 [.int .u8 0] := ⟨Try.underlying22, Try.runUnderlying22, sz5, ⟨_, Try.zeroValue5, rfl⟩, rfl, by decide, ⟨Try.t5, _, by kernel_rfl, rfl, rfl, rfl, by decide⟩⟩
instance : TyElem Try.prog 23 25 5 [.int .i64 0, .int .i64 0, .int .i64 0, .bool false, .slice none 0 0] := ⟨Try.underlying23, Try.runUnderlying23, sz25, ⟨_, Try.zeroValue25, rfl⟩, rfl, by decide, ⟨Try.t25, _, by kernel_rfl, rfl, rfl, rfl, by decide⟩⟩
instance : TyBuild Try.prog 24 [.int .i64 0, .int .i64 0, .int .i64 0, .bool false, .slice none 0 0] [(0, 1), (1, 1), (2, 1), (3, 1), (4, 1)] := TyBuild.of Try.zeroValue24 Try.runUnderlying24 (fun w => by simp)
instance : TyBuild Try.prog 25 [.int .i64 0, .int .i64 0, .int .i64 0, .bool false, .slice none 0 0] [(0, 1), (1, 1), (2, 1), (3, 1), (4, 1)] := TyBuild.of Try.zeroValue25 Try.runUnderlying25 (fun w => by simp)
instance : TyElem Try.prog 30 3 1 [.int .i64 0] := ⟨Try.underlying30, Try.runUnderlying30, sz3, ⟨_, Try.zeroValue3, rfl⟩, rfl, by decide, ⟨Try.t3, _, by kernel_rfl, rfl, rfl, rfl, by decide⟩⟩
instance : TyElem Try.prog 38 30 1 [.slice none 0 0] := ⟨Try.underlying38, Try.runUnderlying38, sz30, ⟨_, Try.zeroValue30, rfl⟩, rfl, by decide, ⟨Try.t30, _, by kernel_rfl, rfl, rfl, rfl, by decide⟩⟩
instance : TyElem Try.prog 45 47 5 [.int .i64 0, .int .i64 0, .int .i64 0, .bool false, .slice none 0 0] := ⟨Try.underlying45, Try.runUnderlying45, sz47, ⟨_, Try.zeroValue47, rfl⟩, rfl, by decide, ⟨Try.t47, _, by kernel_rfl, rfl, rfl, rfl, by decide⟩⟩
instance : TyBuild Try.prog 46 [.int .i64 0, .int .i64 0, .int .i64 0, .bool false, .slice none 0 0] [(0, 1), (1, 1), (2, 1), (3, 1), (4, 1)] := TyBuild.of Try.zeroValue46 Try.runUnderlying46 (fun w => by simp)
instance : TyBuild Try.prog 47 [.int .i64 0, .int .i64 0, .int .i64 0, .bool false, .slice none 0 0] [(0, 1), (1, 1), (2, 1), (3, 1), (4, 1)] := TyBuild.of Try.zeroValue47 Try.runUnderlying47 (fun w => by simp)
instance : TyElem Try.prog 61 101 4 [.int .i64 0, .int .i64 0, .bool false, .int .i64 0] := ⟨Try.underlying61, Try.runUnderlying61, sz101, ⟨_, Try.zeroValue101, rfl⟩, rfl, by decide, ⟨Try.t101, _, by kernel_rfl, rfl, rfl, rfl, by decide⟩⟩
instance : TyBuild Try.prog 62 [.int .i64 0, .int .i64 0, .slice none 0 0] [(0, 1), (1, 1), (2, 1)] := TyBuild.of Try.zeroValue62 Try.runUnderlying62 (fun w => by simp)
instance : TyBuild Try.prog 63 [.int .i64 0, .int .i64 0, .slice none 0 0] [(0, 1), (1, 1), (2, 1)] := TyBuild.of Try.zeroValue63 Try.runUnderlying63 (fun w => by simp)
instance : TyElem Try.prog 67 72 2 [.int .i64 0, .int .i64 0] := ⟨Try.underlying67, Try.runUnderlying67, sz72, ⟨_, Try.zeroValue72, rfl⟩, rfl, by decide, ⟨Try.t72, _, by kernel_rfl, rfl, rfl, rfl, by decide⟩⟩
instance : TyBuild Try.prog 71 [.int .i64 0, .int .i64 0] [(0, 1), (1, 1)] := TyBuild.of Try.zeroValue71 Try.runUnderlying71 (fun w => by simp)
instance : TyBuild Try.prog 72 [.int .i64 0, .int .i64 0] [(0, 1), (1, 1)] := TyBuild.of Try.zeroValue72 Try.runUnderlying72 (fun w => by simp)
instance : TyBuild Try.prog 88 [.slice none 0 0, .int .i64 0] [(0, 1), (1, 1)] := TyBuild.of Try.zeroValue88 Try.runUnderlying88 (fun w => by simp)
instance : TyBuild Try.prog 89 [.slice none 0 0, .int .i64 0] [(0, 1), (1, 1)] := TyBuild.of Try.zeroValue89 Try.runUnderlying89 (fun w => by simp)
instance : TyBuild Try.prog 100 [.int .i64 0, .int .i64 0, .bool false, .int .i64 0] [(0, 1), (1, 1), (2, 1), (3, 1)] := TyBuild.of Try.zeroValue100 Try.runUnderlying100 (fun w => by simp)
instance : TyBuild Try.prog 101 [.int .i64 0, .int .i64 0, .bool false, .int .i64 0] [(0, 1), (1, 1), (2, 1), (3, 1)] := TyBuild.of Try.zeroValue101 Try.runUnderlying101 (fun w => by simp)
-- loop.example/panecutter/laws.FnAboveOf
instance : TyFn Try.prog 3 := TyFn.of Try.func3 (by kernel_rfl) rfl
-- loop.example/panecutter/laws.FnNumbersOf
instance : TyFn Try.prog 4 := TyFn.of Try.func4 (by kernel_rfl) rfl
-- loop.example/panecutter/laws.FnAllSteps
instance : TyFn Try.prog 5 := TyFn.of Try.func5 (by kernel_rfl) rfl
-- loop.example/panecutter/laws.FnBestSteps
instance : TyFn Try.prog 6 := TyFn.of Try.func6 (by kernel_rfl) rfl
-- loop.example/panecutter/laws.FnValidSteps
instance : TyFn Try.prog 7 := TyFn.of Try.func7 (by kernel_rfl) rfl
-- loop.example/panecutter/laws.FnExactSwapSteps
instance : TyFn Try.prog 8 := TyFn.of Try.func8 (by kernel_rfl) rfl
-- loop.example/panecutter/laws.FnExactWaitingOf
instance : TyFn Try.prog 9 := TyFn.of Try.func9 (by kernel_rfl) rfl
-- loop.example/panecutter/laws.FnExactAllSteps
instance : TyFn Try.prog 10 := TyFn.of Try.func10 (by kernel_rfl) rfl
-- loop.example/panecutter/spec.DrawAboveOf
instance : TyFn Try.prog 11 := TyFn.of Try.func11 (by kernel_rfl) rfl
-- loop.example/panecutter/impl.AboveOf
instance : TyFn Try.prog 12 := TyFn.of Try.func12 (by kernel_rfl) rfl
-- loop.example/panecutter/spec.AboveOf
instance : TyFn Try.prog 13 := TyFn.of Try.func13 (by kernel_rfl) rfl
-- loop.example/panecutter/laws.isIn
instance : TyFn Try.prog 14 := TyFn.of Try.func14 (by kernel_rfl) rfl
-- loop.example/panecutter/impl.NumbersOf
instance : TyFn Try.prog 15 := TyFn.of Try.func15 (by kernel_rfl) rfl
-- loop.example/panecutter/spec.DrawNumbersOf
instance : TyFn Try.prog 16 := TyFn.of Try.func16 (by kernel_rfl) rfl
-- loop.example/panecutter/laws.equalInts
instance : TyFn Try.prog 17 := TyFn.of Try.func17 (by kernel_rfl) rfl
-- loop.example/panecutter/spec.NumbersOf
instance : TyFn Try.prog 18 := TyFn.of Try.func18 (by kernel_rfl) rfl
-- loop.example/panecutter/impl.PlanSize
instance : TyFn Try.prog 19 := TyFn.of Try.func19 (by kernel_rfl) rfl
-- loop.example/panecutter/laws.ascends
instance : TyFn Try.prog 20 := TyFn.of Try.func20 (by kernel_rfl) rfl
-- loop.example/panecutter/impl.CutsOf
instance : TyFn Try.prog 21 := TyFn.of Try.func21 (by kernel_rfl) rfl
-- loop.example/panecutter/impl.ValidSteps
instance : TyFn Try.prog 22 := TyFn.of Try.func22 (by kernel_rfl) rfl
-- loop.example/panecutter/spec.DrawAllSteps
instance : TyFn Try.prog 23 := TyFn.of Try.func23 (by kernel_rfl) rfl
-- loop.example/panecutter/impl.AllSteps
instance : TyFn Try.prog 24 := TyFn.of Try.func24 (by kernel_rfl) rfl
-- loop.example/panecutter/laws.equalLists
instance : TyFn Try.prog 25 := TyFn.of Try.func25 (by kernel_rfl) rfl
-- loop.example/panecutter/spec.AllSteps
instance : TyFn Try.prog 26 := TyFn.of Try.func26 (by kernel_rfl) rfl
-- loop.example/panecutter/impl.CountSteps
instance : TyFn Try.prog 27 := TyFn.of Try.func27 (by kernel_rfl) rfl
-- loop.example/panecutter/spec.DrawBestSteps
instance : TyFn Try.prog 28 := TyFn.of Try.func28 (by kernel_rfl) rfl
-- loop.example/panecutter/impl.BestSteps
instance : TyFn Try.prog 29 := TyFn.of Try.func29 (by kernel_rfl) rfl
-- loop.example/panecutter/spec.BestSteps
instance : TyFn Try.prog 30 := TyFn.of Try.func30 (by kernel_rfl) rfl
-- loop.example/panecutter/laws.highest
instance : TyFn Try.prog 31 := TyFn.of Try.func31 (by kernel_rfl) rfl
-- loop.example/panecutter/impl.WaitingOf
instance : TyFn Try.prog 32 := TyFn.of Try.func32 (by kernel_rfl) rfl
-- loop.example/panecutter/impl.LeastTable
instance : TyFn Try.prog 33 := TyFn.of Try.func33 (by kernel_rfl) rfl
-- loop.example/panecutter/spec.DrawValidSteps
instance : TyFn Try.prog 34 := TyFn.of Try.func34 (by kernel_rfl) rfl
-- loop.example/panecutter/spec.ValidSteps
instance : TyFn Try.prog 35 := TyFn.of Try.func35 (by kernel_rfl) rfl
-- loop.example/panecutter/laws.szPlan
instance : TyFn Try.prog 36 := TyFn.of Try.func36 (by kernel_rfl) rfl
-- loop.example/panecutter/spec.SwapSteps
instance : TyFn Try.prog 37 := TyFn.of Try.func37 (by kernel_rfl) rfl
-- loop.example/panecutter/laws.toPlan
instance : TyFn Try.prog 38 := TyFn.of Try.func38 (by kernel_rfl) rfl
-- loop.example/panecutter/laws.toIntS
instance : TyFn Try.prog 39 := TyFn.of Try.func39 (by kernel_rfl) rfl
-- loop.example/panecutter/impl.SwapSteps
instance : TyFn Try.prog 40 := TyFn.of Try.func40 (by kernel_rfl) rfl
-- loop.example/panecutter/laws.eqIntS
instance : TyFn Try.prog 41 := TyFn.of Try.func41 (by kernel_rfl) rfl
-- loop.example/panecutter/laws.eqPlan
instance : TyFn Try.prog 42 := TyFn.of Try.func42 (by kernel_rfl) rfl
-- loop.example/panecutter/laws.markPlan
instance : TyFn Try.prog 43 := TyFn.of Try.func43 (by kernel_rfl) rfl
-- loop.example/panecutter/laws.markIntS
instance : TyFn Try.prog 44 := TyFn.of Try.func44 (by kernel_rfl) rfl
-- loop.example/panecutter/laws.heldIntS
instance : TyFn Try.prog 45 := TyFn.of Try.func45 (by kernel_rfl) rfl
-- loop.example/panecutter/spec.WaitingOf
instance : TyFn Try.prog 46 := TyFn.of Try.func46 (by kernel_rfl) rfl
-- loop.example/panecutter/laws.eqIntSS
instance : TyFn Try.prog 47 := TyFn.of Try.func47 (by kernel_rfl) rfl
-- loop.example/panecutter/laws.markIntSS
instance : TyFn Try.prog 48 := TyFn.of Try.func48 (by kernel_rfl) rfl
-- loop.example/panecutter/laws.heldIntSS
instance : TyFn Try.prog 49 := TyFn.of Try.func49 (by kernel_rfl) rfl
-- loop.example/panecutter/spec.newReader
instance : TyFn Try.prog 50 := TyFn.of Try.func50 (by kernel_rfl) rfl
-- loop.example/panecutter/spec.anyPlan
instance : TyFn Try.prog 51 := TyFn.of Try.func51 (by kernel_rfl) rfl
-- (*loop.example/panecutter/spec.reader).one
instance : TyFn Try.prog 52 := TyFn.of Try.func52 (by kernel_rfl) rfl
-- (*loop.example/panecutter/spec.reader).pick
instance : TyFn Try.prog 53 := TyFn.of Try.func53 (by kernel_rfl) rfl
-- loop.example/panecutter/impl.knotsOf
instance : TyFn Try.prog 54 := TyFn.of Try.func54 (by kernel_rfl) rfl
-- loop.example/panecutter/impl.findKnot
instance : TyFn Try.prog 55 := TyFn.of Try.func55 (by kernel_rfl) rfl
-- loop.example/panecutter/spec.planSize
instance : TyFn Try.prog 56 := TyFn.of Try.func56 (by kernel_rfl) rfl
-- loop.example/panecutter/spec.placeIn
instance : TyFn Try.prog 57 := TyFn.of Try.func57 (by kernel_rfl) rfl
-- loop.example/panecutter/spec.innerNodes
instance : TyFn Try.prog 58 := TyFn.of Try.func58 (by kernel_rfl) rfl
-- loop.example/panecutter/spec.aboves
instance : TyFn Try.prog 59 := TyFn.of Try.func59 (by kernel_rfl) rfl
-- loop.example/panecutter/spec.DrawPlanSize
instance : TyFn Try.prog 60 := TyFn.of Try.func60 (by kernel_rfl) rfl
-- loop.example/panecutter/impl.countParts
instance : TyFn Try.prog 61 := TyFn.of Try.func61 (by kernel_rfl) rfl
-- loop.example/panecutter/impl.beginsOrder
instance : TyFn Try.prog 62 := TyFn.of Try.func62 (by kernel_rfl) rfl
-- loop.example/panecutter/spec.cutsPlan
instance : TyFn Try.prog 63 := TyFn.of Try.func63 (by kernel_rfl) rfl
-- loop.example/panecutter/impl.addOrders
instance : TyFn Try.prog 64 := TyFn.of Try.func64 (by kernel_rfl) rfl
-- loop.example/panecutter/spec.cutsOf
instance : TyFn Try.prog 65 := TyFn.of Try.func65 (by kernel_rfl) rfl
-- loop.example/panecutter/spec.allSteps
instance : TyFn Try.prog 66 := TyFn.of Try.func66 (by kernel_rfl) rfl
-- loop.example/panecutter/impl.ordersOf
instance : TyFn Try.prog 67 := TyFn.of Try.func67 (by kernel_rfl) rfl
-- loop.example/panecutter/impl.addBest
instance : TyFn Try.prog 68 := TyFn.of Try.func68 (by kernel_rfl) rfl
-- loop.example/panecutter/spec.bestSteps
instance : TyFn Try.prog 69 := TyFn.of Try.func69 (by kernel_rfl) rfl
-- loop.example/panecutter/impl.tableFor
instance : TyFn Try.prog 70 := TyFn.of Try.func70 (by kernel_rfl) rfl
-- loop.example/panecutter/spec.anySteps
instance : TyFn Try.prog 71 := TyFn.of Try.func71 (by kernel_rfl) rfl
-- loop.example/panecutter/spec.validSteps
instance : TyFn Try.prog 72 := TyFn.of Try.func72 (by kernel_rfl) rfl
-- loop.example/panecutter/laws.szPlanS
instance : TyFn Try.prog 73 := TyFn.of Try.func73 (by kernel_rfl) rfl
-- loop.example/panecutter/spec.inRange
instance : TyFn Try.prog 74 := TyFn.of Try.func74 (by kernel_rfl) rfl
-- loop.example/panecutter/spec.copyInts
instance : TyFn Try.prog 75 := TyFn.of Try.func75 (by kernel_rfl) rfl
-- loop.example/panecutter/laws.toPlanS
instance : TyFn Try.prog 76 := TyFn.of Try.func76 (by kernel_rfl) rfl
-- slices.Clone[[]int,int]
instance : TyFn Try.prog 77 := TyFn.of Try.func77 (by kernel_rfl) rfl
-- loop.example/panecutter/laws.eqPlanS
instance : TyFn Try.prog 78 := TyFn.of Try.func78 (by kernel_rfl) rfl
-- loop.example/panecutter/laws.markPlanS
instance : TyFn Try.prog 79 := TyFn.of Try.func79 (by kernel_rfl) rfl
-- loop.example/panecutter/spec.waiting
instance : TyFn Try.prog 80 := TyFn.of Try.func80 (by kernel_rfl) rfl
-- loop.example/panecutter/spec.workPlan
instance : TyFn Try.prog 81 := TyFn.of Try.func81 (by kernel_rfl) rfl
-- loop.example/panecutter/impl.addKnots
instance : TyFn Try.prog 82 := TyFn.of Try.func82 (by kernel_rfl) rfl
-- slices.IndexFunc[[]loop.example/panecutter/impl.knot,loop.example/panecutter/impl.knot]
instance : TyFn Try.prog 83 := TyFn.of Try.func83 (by kernel_rfl) rfl
-- loop.example/panecutter/impl.findKnot$1
instance : TyFn Try.prog 84 := TyFn.of Try.func84 (by kernel_rfl) rfl
-- loop.example/panecutter/spec.isCut
instance : TyFn Try.prog 85 := TyFn.of Try.func85 (by kernel_rfl) rfl
-- loop.example/panecutter/impl.isCut
instance : TyFn Try.prog 86 := TyFn.of Try.func86 (by kernel_rfl) rfl
-- loop.example/panecutter/impl.choose
instance : TyFn Try.prog 87 := TyFn.of Try.func87 (by kernel_rfl) rfl
-- loop.example/panecutter/spec.least
instance : TyFn Try.prog 88 := TyFn.of Try.func88 (by kernel_rfl) rfl
-- loop.example/panecutter/spec.someSteps
instance : TyFn Try.prog 89 := TyFn.of Try.func89 (by kernel_rfl) rfl
-- loop.example/panecutter/spec.grow
instance : TyFn Try.prog 90 := TyFn.of Try.func90 (by kernel_rfl) rfl
-- loop.example/panecutter/spec.fitsPlan
instance : TyFn Try.prog 91 := TyFn.of Try.func91 (by kernel_rfl) rfl
end Go.Proofs.Ytfnnhekbgjofoaa
