/-
  The facts on the types of this seat's translation, by program.
-/
import Derived.Test.YtolhdpjhibgfiaaV7
import Derived.Test.YtolhdpjhibgfiaaProg
import Derived.KernelRfl
namespace Go.Proofs.Ytolhdpjhibgfiaa
open Go

-- 2 int64
theorem sz2 (w : World) : (sizeOf 2).run Try.prog w = .ok 1 w := by simp [sizeOf, Try.typeInfo2]; rfl
instance : TyCell Try.prog 2 := ⟨Try.isAgg2⟩
instance : TySize Try.prog 2 1 := ⟨sz2⟩
instance : TyUnd Try.prog 2 (.int .i64) := ⟨Try.underlying2, Try.runUnderlying2⟩
instance : TyZero Try.prog 2 (.int .i64 0) := ⟨Try.zeroValue2⟩
-- 3 int
theorem sz3 (w : World) : (sizeOf 3).run Try.prog w = .ok 1 w := by simp [sizeOf, Try.typeInfo3]; rfl
instance : TyCell Try.prog 3 := ⟨Try.isAgg3⟩
instance : TySize Try.prog 3 1 := ⟨sz3⟩
instance : TyUnd Try.prog 3 (.int .i64) := ⟨Try.underlying3, Try.runUnderlying3⟩
instance : TyZero Try.prog 3 (.int .i64 0) := ⟨Try.zeroValue3⟩
-- 4 bool
theorem sz4 (w : World) : (sizeOf 4).run Try.prog w = .ok 1 w := by simp [sizeOf, Try.typeInfo4]; rfl
instance : TyCell Try.prog 4 := ⟨Try.isAgg4⟩
instance : TySize Try.prog 4 1 := ⟨sz4⟩
instance : TyUnd Try.prog 4 (.bool) := ⟨Try.underlying4, Try.runUnderlying4⟩
instance : TyZero Try.prog 4 (.bool false) := ⟨Try.zeroValue4⟩
-- 5 uint8
theorem sz5 (w : World) : (sizeOf 5).run Try.prog w = .ok 1 w := by simp [sizeOf, Try.typeInfo5]; rfl
instance : TyCell Try.prog 5 := ⟨Try.isAgg5⟩
instance : TySize Try.prog 5 1 := ⟨sz5⟩
instance : TyUnd Try.prog 5 (.int .u8) := ⟨Try.underlying5, Try.runUnderlying5⟩
instance : TyZero Try.prog 5 (.int .u8 0) := ⟨Try.zeroValue5⟩
-- 9 string
theorem sz9 (w : World) : (sizeOf 9).run Try.prog w = .ok 1 w := by simp [sizeOf, Try.typeInfo9]; rfl
instance : TyCell Try.prog 9 := ⟨Try.isAgg9⟩
instance : TySize Try.prog 9 1 := ⟨sz9⟩
instance : TyUnd Try.prog 9 (.string) := ⟨Try.underlying9, Try.runUnderlying9⟩
instance : TyZero Try.prog 9 (.string ByteArray.empty) := ⟨Try.zeroValue9⟩
-- 12 uintptr
theorem sz12 (w : World) : (sizeOf 12).run Try.prog w = .ok 1 w := by simp [sizeOf, Try.typeInfo12]; rfl
instance : TyCell Try.prog 12 := ⟨Try.isAgg12⟩
instance : TySize Try.prog 12 1 := ⟨sz12⟩
instance : TyUnd Try.prog 12 (.int .u64) := ⟨Try.underlying12, Try.runUnderlying12⟩
instance : TyZero Try.prog 12 (.int .u64 0) := ⟨Try.zeroValue12⟩
-- 21 int32
theorem sz21 (w : World) : (sizeOf 21).run Try.prog w = .ok 1 w := by simp [sizeOf, Try.typeInfo21]; rfl
instance : TyCell Try.prog 21 := ⟨Try.isAgg21⟩
instance : TySize Try.prog 21 1 := ⟨sz21⟩
instance : TyUnd Try.prog 21 (.int .i32) := ⟨Try.underlying21, Try.runUnderlying21⟩
instance : TyZero Try.prog 21 (.int .i32 0) := ⟨Try.zeroValue21⟩
-- 22 []uint8
theorem sz22 (w : World) : (sizeOf 22).run Try.prog w = .ok 1 w := by simp [sizeOf, Try.typeInfo22]; rfl
instance : TyCell Try.prog 22 := ⟨Try.isAgg22⟩
instance : TySize Try.prog 22 1 := ⟨sz22⟩
instance : TyUnd Try.prog 22 (.slice 5) := ⟨Try.underlying22, Try.runUnderlying22⟩
instance : TyZero Try.prog 22 (.slice none 0 0) := ⟨Try.zeroValue22⟩
-- 23 []impl.Plan
theorem sz23 (w : World) : (sizeOf 23).run Try.prog w = .ok 1 w := by simp [sizeOf, Try.typeInfo23]; rfl
instance : TyCell Try.prog 23 := ⟨Try.isAgg23⟩
instance : TySize Try.prog 23 1 := ⟨sz23⟩
instance : TyUnd Try.prog 23 (.slice 25) := ⟨Try.underlying23, Try.runUnderlying23⟩
instance : TyZero Try.prog 23 (.slice none 0 0) := ⟨Try.zeroValue23⟩
-- 24 struct { Op int; At int; Pane int; Turned bool; Kids []impl.Plan }
theorem sz24 (w : World) : (sizeOf 24).run Try.prog w = .ok 5 w := by simp [sizeOf, Try.typeInfo24]; rfl
instance : TyAgg Try.prog 24 5 := ⟨Try.isAgg24, sz24⟩
instance : TySize Try.prog 24 5 := ⟨sz24⟩
instance : TyZero Try.prog 24 (.agg #[.int .i64 0, .int .i64 0, .int .i64 0, .bool false, .slice none 0 0]) := ⟨Try.zeroValue24⟩
-- 25 impl.Plan
theorem sz25 (w : World) : (sizeOf 25).run Try.prog w = .ok 5 w := by simp [sizeOf, Try.typeInfo25]; rfl
instance : TyAgg Try.prog 25 5 := ⟨Try.isAgg25, sz25⟩
instance : TySize Try.prog 25 5 := ⟨sz25⟩
instance : TyZero Try.prog 25 (.agg #[.int .i64 0, .int .i64 0, .int .i64 0, .bool false, .slice none 0 0]) := ⟨Try.zeroValue25⟩
-- 31 []impl.Pane
theorem sz31 (w : World) : (sizeOf 31).run Try.prog w = .ok 1 w := by simp [sizeOf, Try.typeInfo31]; rfl
instance : TyCell Try.prog 31 := ⟨Try.isAgg31⟩
instance : TySize Try.prog 31 1 := ⟨sz31⟩
instance : TyUnd Try.prog 31 (.slice 116) := ⟨Try.underlying31, Try.runUnderlying31⟩
instance : TyZero Try.prog 31 (.slice none 0 0) := ⟨Try.zeroValue31⟩
-- 32 struct { W int; H int; Panes []impl.Pane }
theorem sz32 (w : World) : (sizeOf 32).run Try.prog w = .ok 3 w := by simp [sizeOf, Try.typeInfo32]; rfl
instance : TyAgg Try.prog 32 3 := ⟨Try.isAgg32, sz32⟩
instance : TySize Try.prog 32 3 := ⟨sz32⟩
instance : TyZero Try.prog 32 (.agg #[.int .i64 0, .int .i64 0, .slice none 0 0]) := ⟨Try.zeroValue32⟩
-- 33 impl.Work
theorem sz33 (w : World) : (sizeOf 33).run Try.prog w = .ok 3 w := by simp [sizeOf, Try.typeInfo33]; rfl
instance : TyAgg Try.prog 33 3 := ⟨Try.isAgg33, sz33⟩
instance : TySize Try.prog 33 3 := ⟨sz33⟩
instance : TyZero Try.prog 33 (.agg #[.int .i64 0, .int .i64 0, .slice none 0 0]) := ⟨Try.zeroValue33⟩
-- 41 []int
theorem sz41 (w : World) : (sizeOf 41).run Try.prog w = .ok 1 w := by simp [sizeOf, Try.typeInfo41]; rfl
instance : TyCell Try.prog 41 := ⟨Try.isAgg41⟩
instance : TySize Try.prog 41 1 := ⟨sz41⟩
instance : TyUnd Try.prog 41 (.slice 3) := ⟨Try.underlying41, Try.runUnderlying41⟩
instance : TyZero Try.prog 41 (.slice none 0 0) := ⟨Try.zeroValue41⟩
-- 45 []impl.Box
theorem sz45 (w : World) : (sizeOf 45).run Try.prog w = .ok 1 w := by simp [sizeOf, Try.typeInfo45]; rfl
instance : TyCell Try.prog 45 := ⟨Try.isAgg45⟩
instance : TySize Try.prog 45 1 := ⟨sz45⟩
instance : TyUnd Try.prog 45 (.slice 51) := ⟨Try.underlying45, Try.runUnderlying45⟩
instance : TyZero Try.prog 45 (.slice none 0 0) := ⟨Try.zeroValue45⟩
-- 47 []impl.Place
theorem sz47 (w : World) : (sizeOf 47).run Try.prog w = .ok 1 w := by simp [sizeOf, Try.typeInfo47]; rfl
instance : TyCell Try.prog 47 := ⟨Try.isAgg47⟩
instance : TySize Try.prog 47 1 := ⟨sz47⟩
instance : TyUnd Try.prog 47 (.slice 93) := ⟨Try.underlying47, Try.runUnderlying47⟩
instance : TyZero Try.prog 47 (.slice none 0 0) := ⟨Try.zeroValue47⟩
-- 50 struct { X int; Y int; W int; H int }
theorem sz50 (w : World) : (sizeOf 50).run Try.prog w = .ok 4 w := by simp [sizeOf, Try.typeInfo50]; rfl
instance : TyAgg Try.prog 50 4 := ⟨Try.isAgg50, sz50⟩
instance : TySize Try.prog 50 4 := ⟨sz50⟩
instance : TyZero Try.prog 50 (.agg #[.int .i64 0, .int .i64 0, .int .i64 0, .int .i64 0]) := ⟨Try.zeroValue50⟩
-- 51 impl.Box
theorem sz51 (w : World) : (sizeOf 51).run Try.prog w = .ok 4 w := by simp [sizeOf, Try.typeInfo51]; rfl
instance : TyAgg Try.prog 51 4 := ⟨Try.isAgg51, sz51⟩
instance : TySize Try.prog 51 4 := ⟨sz51⟩
instance : TyZero Try.prog 51 (.agg #[.int .i64 0, .int .i64 0, .int .i64 0, .int .i64 0]) := ⟨Try.zeroValue51⟩
-- 55 [][]int
theorem sz55 (w : World) : (sizeOf 55).run Try.prog w = .ok 1 w := by simp [sizeOf, Try.typeInfo55]; rfl
instance : TyCell Try.prog 55 := ⟨Try.isAgg55⟩
instance : TySize Try.prog 55 1 := ⟨sz55⟩
instance : TyUnd Try.prog 55 (.slice 41) := ⟨Try.underlying55, Try.runUnderlying55⟩
instance : TyZero Try.prog 55 (.slice none 0 0) := ⟨Try.zeroValue55⟩
-- 73 *spec.reader
theorem sz73 (w : World) : (sizeOf 73).run Try.prog w = .ok 1 w := by simp [sizeOf, Try.typeInfo73]; rfl
instance : TyCell Try.prog 73 := ⟨Try.isAgg73⟩
instance : TySize Try.prog 73 1 := ⟨sz73⟩
instance : TyUnd Try.prog 73 (.pointer 114) := ⟨Try.underlying73, Try.runUnderlying73⟩
instance : TyZero Try.prog 73 (.pointer none) := ⟨Try.zeroValue73⟩
-- 79 []impl.knot
theorem sz79 (w : World) : (sizeOf 79).run Try.prog w = .ok 1 w := by simp [sizeOf, Try.typeInfo79]; rfl
instance : TyCell Try.prog 79 := ⟨Try.isAgg79⟩
instance : TySize Try.prog 79 1 := ⟨sz79⟩
instance : TyUnd Try.prog 79 (.slice 84) := ⟨Try.underlying79, Try.runUnderlying79⟩
instance : TyZero Try.prog 79 (.slice none 0 0) := ⟨Try.zeroValue79⟩
-- 83 struct { number int; above int }
theorem sz83 (w : World) : (sizeOf 83).run Try.prog w = .ok 2 w := by simp [sizeOf, Try.typeInfo83]; rfl
instance : TyAgg Try.prog 83 2 := ⟨Try.isAgg83, sz83⟩
instance : TySize Try.prog 83 2 := ⟨sz83⟩
instance : TyZero Try.prog 83 (.agg #[.int .i64 0, .int .i64 0]) := ⟨Try.zeroValue83⟩
-- 84 impl.knot
theorem sz84 (w : World) : (sizeOf 84).run Try.prog w = .ok 2 w := by simp [sizeOf, Try.typeInfo84]; rfl
instance : TyAgg Try.prog 84 2 := ⟨Try.isAgg84, sz84⟩
instance : TySize Try.prog 84 2 := ⟨sz84⟩
instance : TyZero Try.prog 84 (.agg #[.int .i64 0, .int .i64 0]) := ⟨Try.zeroValue84⟩
-- 88 []impl.part
theorem sz88 (w : World) : (sizeOf 88).run Try.prog w = .ok 1 w := by simp [sizeOf, Try.typeInfo88]; rfl
instance : TyCell Try.prog 88 := ⟨Try.isAgg88⟩
instance : TySize Try.prog 88 1 := ⟨sz88⟩
instance : TyUnd Try.prog 88 (.slice 91) := ⟨Try.underlying88, Try.runUnderlying88⟩
instance : TyZero Try.prog 88 (.slice none 0 0) := ⟨Try.zeroValue88⟩
-- 90 struct { plan impl.Plan; box impl.Box }
theorem sz90 (w : World) : (sizeOf 90).run Try.prog w = .ok 9 w := by simp [sizeOf, Try.typeInfo90]; rfl
instance : TyAgg Try.prog 90 9 := ⟨Try.isAgg90, sz90⟩
instance : TySize Try.prog 90 9 := ⟨sz90⟩
instance : TyZero Try.prog 90 (.agg #[.int .i64 0, .int .i64 0, .int .i64 0, .bool false, .slice none 0 0, .int .i64 0, .int .i64 0, .int .i64 0, .int .i64 0]) := ⟨Try.zeroValue90⟩
-- 91 impl.part
theorem sz91 (w : World) : (sizeOf 91).run Try.prog w = .ok 9 w := by simp [sizeOf, Try.typeInfo91]; rfl
instance : TyAgg Try.prog 91 9 := ⟨Try.isAgg91, sz91⟩
instance : TySize Try.prog 91 9 := ⟨sz91⟩
instance : TyZero Try.prog 91 (.agg #[.int .i64 0, .int .i64 0, .int .i64 0, .bool false, .slice none 0 0, .int .i64 0, .int .i64 0, .int .i64 0, .int .i64 0]) := ⟨Try.zeroValue91⟩
-- 92 struct { Pane int; Turned bool; Box impl.Box }
theorem sz92 (w : World) : (sizeOf 92).run Try.prog w = .ok 6 w := by simp [sizeOf, Try.typeInfo92]; rfl
instance : TyAgg Try.prog 92 6 := ⟨Try.isAgg92, sz92⟩
instance : TySize Try.prog 92 6 := ⟨sz92⟩
instance : TyZero Try.prog 92 (.agg #[.int .i64 0, .bool false, .int .i64 0, .int .i64 0, .int .i64 0, .int .i64 0]) := ⟨Try.zeroValue92⟩
-- 93 impl.Place
theorem sz93 (w : World) : (sizeOf 93).run Try.prog w = .ok 6 w := by simp [sizeOf, Try.typeInfo93]; rfl
instance : TyAgg Try.prog 93 6 := ⟨Try.isAgg93, sz93⟩
instance : TySize Try.prog 93 6 := ⟨sz93⟩
instance : TyZero Try.prog 93 (.agg #[.int .i64 0, .bool false, .int .i64 0, .int .i64 0, .int .i64 0, .int .i64 0]) := ⟨Try.zeroValue93⟩
-- 113 struct { b []uint8; p int }
theorem sz113 (w : World) : (sizeOf 113).run Try.prog w = .ok 2 w := by simp [sizeOf, Try.typeInfo113]; rfl
instance : TyAgg Try.prog 113 2 := ⟨Try.isAgg113, sz113⟩
instance : TySize Try.prog 113 2 := ⟨sz113⟩
instance : TyZero Try.prog 113 (.agg #[.slice none 0 0, .int .i64 0]) := ⟨Try.zeroValue113⟩
-- 114 spec.reader
theorem sz114 (w : World) : (sizeOf 114).run Try.prog w = .ok 2 w := by simp [sizeOf, Try.typeInfo114]; rfl
instance : TyAgg Try.prog 114 2 := ⟨Try.isAgg114, sz114⟩
instance : TySize Try.prog 114 2 := ⟨sz114⟩
instance : TyZero Try.prog 114 (.agg #[.slice none 0 0, .int .i64 0]) := ⟨Try.zeroValue114⟩
-- 115 struct { W int; H int; Turns bool; Kind int }
theorem sz115 (w : World) : (sizeOf 115).run Try.prog w = .ok 4 w := by simp [sizeOf, Try.typeInfo115]; rfl
instance : TyAgg Try.prog 115 4 := ⟨Try.isAgg115, sz115⟩
instance : TySize Try.prog 115 4 := ⟨sz115⟩
instance : TyZero Try.prog 115 (.agg #[.int .i64 0, .int .i64 0, .bool false, .int .i64 0]) := ⟨Try.zeroValue115⟩
-- 116 impl.Pane
theorem sz116 (w : World) : (sizeOf 116).run Try.prog w = .ok 4 w := by simp [sizeOf, Try.typeInfo116]; rfl
instance : TyAgg Try.prog 116 4 := ⟨Try.isAgg116, sz116⟩
instance : TySize Try.prog 116 4 := ⟨sz116⟩
instance : TyZero Try.prog 116 (.agg #[.int .i64 0, .int .i64 0, .bool false, .int .i64 0]) := ⟨Try.zeroValue116⟩
-- 126 [255]bool
theorem sz126 (w : World) : (sizeOf 126).run Try.prog w = .ok 255 w := by simp [sizeOf, Try.typeInfo126]; rfl
instance : TyAgg Try.prog 126 255 := ⟨Try.isAgg126, sz126⟩
instance : TySize Try.prog 126 255 := ⟨sz126⟩
instance : TyUnd Try.prog 126 (.array 255 4) := ⟨Try.underlying126, Try.runUnderlying126⟩
-- 133 *impl.Work
theorem sz133 (w : World) : (sizeOf 133).run Try.prog w = .ok 1 w := by simp [sizeOf, Try.typeInfo133]; rfl
instance : TyCell Try.prog 133 := ⟨Try.isAgg133⟩
instance : TySize Try.prog 133 1 := ⟨sz133⟩
instance : TyUnd Try.prog 133 (.pointer 33) := ⟨Try.underlying133, Try.runUnderlying133⟩
instance : TyZero Try.prog 133 (.pointer none) := ⟨Try.zeroValue133⟩
-- 142 uint32
theorem sz142 (w : World) : (sizeOf 142).run Try.prog w = .ok 1 w := by simp [sizeOf, Try.typeInfo142]; rfl
instance : TyCell Try.prog 142 := ⟨Try.isAgg142⟩
instance : TySize Try.prog 142 1 := ⟨sz142⟩
instance : TyUnd Try.prog 142 (.int .u32) := ⟨Try.underlying142, Try.runUnderlying142⟩
instance : TyZero Try.prog 142 (.int .u32 0) := ⟨Try.zeroValue142⟩
-- 146 *uint8
theorem sz146 (w : World) : (sizeOf 146).run Try.prog w = .ok 1 w := by simp [sizeOf, Try.typeInfo146]; rfl
instance : TyCell Try.prog 146 := ⟨Try.isAgg146⟩
instance : TySize Try.prog 146 1 := ⟨sz146⟩
instance : TyUnd Try.prog 146 (.pointer 5) := ⟨Try.underlying146, Try.runUnderlying146⟩
instance : TyZero Try.prog 146 (.pointer none) := ⟨Try.zeroValue146⟩
instance : TyField Try.prog 24 0 0 := ⟨fun b o w => by simp [Instr.fieldAt, Try.runUnderlying24, Instr.sureAddr, fieldPlace, add_lit]⟩
instance : TyField Try.prog 24 1 1 := ⟨fun b o w => by simp [Instr.fieldAt, Try.runUnderlying24, Instr.sureAddr, fieldPlace, add_lit]⟩
instance : TyField Try.prog 24 2 2 := ⟨fun b o w => by simp [Instr.fieldAt, Try.runUnderlying24, Instr.sureAddr, fieldPlace, add_lit]⟩
instance : TyField Try.prog 24 3 3 := ⟨fun b o w => by simp [Instr.fieldAt, Try.runUnderlying24, Instr.sureAddr, fieldPlace, add_lit]⟩
instance : TyField Try.prog 24 4 4 := ⟨fun b o w => by simp [Instr.fieldAt, Try.runUnderlying24, Instr.sureAddr, fieldPlace, add_lit]⟩
instance : TyField Try.prog 25 0 0 := ⟨fun b o w => by simp [Instr.fieldAt, Try.runUnderlying25, Instr.sureAddr, fieldPlace, add_lit]⟩
instance : TyField Try.prog 25 1 1 := ⟨fun b o w => by simp [Instr.fieldAt, Try.runUnderlying25, Instr.sureAddr, fieldPlace, add_lit]⟩
instance : TyField Try.prog 25 2 2 := ⟨fun b o w => by simp [Instr.fieldAt, Try.runUnderlying25, Instr.sureAddr, fieldPlace, add_lit]⟩
instance : TyField Try.prog 25 3 3 := ⟨fun b o w => by simp [Instr.fieldAt, Try.runUnderlying25, Instr.sureAddr, fieldPlace, add_lit]⟩
instance : TyField Try.prog 25 4 4 := ⟨fun b o w => by simp [Instr.fieldAt, Try.runUnderlying25, Instr.sureAddr, fieldPlace, add_lit]⟩
instance : TyField Try.prog 32 0 0 := ⟨fun b o w => by simp [Instr.fieldAt, Try.runUnderlying32, Instr.sureAddr, fieldPlace, add_lit]⟩
instance : TyField Try.prog 32 1 1 := ⟨fun b o w => by simp [Instr.fieldAt, Try.runUnderlying32, Instr.sureAddr, fieldPlace, add_lit]⟩
instance : TyField Try.prog 32 2 2 := ⟨fun b o w => by simp [Instr.fieldAt, Try.runUnderlying32, Instr.sureAddr, fieldPlace, add_lit]⟩
instance : TyField Try.prog 33 0 0 := ⟨fun b o w => by simp [Instr.fieldAt, Try.runUnderlying33, Instr.sureAddr, fieldPlace, add_lit]⟩
instance : TyField Try.prog 33 1 1 := ⟨fun b o w => by simp [Instr.fieldAt, Try.runUnderlying33, Instr.sureAddr, fieldPlace, add_lit]⟩
instance : TyField Try.prog 33 2 2 := ⟨fun b o w => by simp [Instr.fieldAt, Try.runUnderlying33, Instr.sureAddr, fieldPlace, add_lit]⟩
instance : TyField Try.prog 50 0 0 := ⟨fun b o w => by simp [Instr.fieldAt, Try.runUnderlying50, Instr.sureAddr, fieldPlace, add_lit]⟩
instance : TyField Try.prog 50 1 1 := ⟨fun b o w => by simp [Instr.fieldAt, Try.runUnderlying50, Instr.sureAddr, fieldPlace, add_lit]⟩
instance : TyField Try.prog 50 2 2 := ⟨fun b o w => by simp [Instr.fieldAt, Try.runUnderlying50, Instr.sureAddr, fieldPlace, add_lit]⟩
instance : TyField Try.prog 50 3 3 := ⟨fun b o w => by simp [Instr.fieldAt, Try.runUnderlying50, Instr.sureAddr, fieldPlace, add_lit]⟩
instance : TyField Try.prog 51 0 0 := ⟨fun b o w => by simp [Instr.fieldAt, Try.runUnderlying51, Instr.sureAddr, fieldPlace, add_lit]⟩
instance : TyField Try.prog 51 1 1 := ⟨fun b o w => by simp [Instr.fieldAt, Try.runUnderlying51, Instr.sureAddr, fieldPlace, add_lit]⟩
instance : TyField Try.prog 51 2 2 := ⟨fun b o w => by simp [Instr.fieldAt, Try.runUnderlying51, Instr.sureAddr, fieldPlace, add_lit]⟩
instance : TyField Try.prog 51 3 3 := ⟨fun b o w => by simp [Instr.fieldAt, Try.runUnderlying51, Instr.sureAddr, fieldPlace, add_lit]⟩
instance : TyField Try.prog 83 0 0 := ⟨fun b o w => by simp [Instr.fieldAt, Try.runUnderlying83, Instr.sureAddr, fieldPlace, add_lit]⟩
instance : TyField Try.prog 83 1 1 := ⟨fun b o w => by simp [Instr.fieldAt, Try.runUnderlying83, Instr.sureAddr, fieldPlace, add_lit]⟩
instance : TyField Try.prog 84 0 0 := ⟨fun b o w => by simp [Instr.fieldAt, Try.runUnderlying84, Instr.sureAddr, fieldPlace, add_lit]⟩
instance : TyField Try.prog 84 1 1 := ⟨fun b o w => by simp [Instr.fieldAt, Try.runUnderlying84, Instr.sureAddr, fieldPlace, add_lit]⟩
instance : TyField Try.prog 90 0 0 := ⟨fun b o w => by simp [Instr.fieldAt, Try.runUnderlying90, Instr.sureAddr, fieldPlace, add_lit]⟩
instance : TyField Try.prog 90 1 5 := ⟨fun b o w => by simp [Instr.fieldAt, Try.runUnderlying90, Instr.sureAddr, fieldPlace, add_lit]⟩
instance : TyField Try.prog 91 0 0 := ⟨fun b o w => by simp [Instr.fieldAt, Try.runUnderlying91, Instr.sureAddr, fieldPlace, add_lit]⟩
instance : TyField Try.prog 91 1 5 := ⟨fun b o w => by simp [Instr.fieldAt, Try.runUnderlying91, Instr.sureAddr, fieldPlace, add_lit]⟩
instance : TyField Try.prog 92 0 0 := ⟨fun b o w => by simp [Instr.fieldAt, Try.runUnderlying92, Instr.sureAddr, fieldPlace, add_lit]⟩
instance : TyField Try.prog 92 1 1 := ⟨fun b o w => by simp [Instr.fieldAt, Try.runUnderlying92, Instr.sureAddr, fieldPlace, add_lit]⟩
instance : TyField Try.prog 92 2 2 := ⟨fun b o w => by simp [Instr.fieldAt, Try.runUnderlying92, Instr.sureAddr, fieldPlace, add_lit]⟩
instance : TyField Try.prog 93 0 0 := ⟨fun b o w => by simp [Instr.fieldAt, Try.runUnderlying93, Instr.sureAddr, fieldPlace, add_lit]⟩
instance : TyField Try.prog 93 1 1 := ⟨fun b o w => by simp [Instr.fieldAt, Try.runUnderlying93, Instr.sureAddr, fieldPlace, add_lit]⟩
instance : TyField Try.prog 93 2 2 := ⟨fun b o w => by simp [Instr.fieldAt, Try.runUnderlying93, Instr.sureAddr, fieldPlace, add_lit]⟩
instance : TyField Try.prog 113 0 0 := ⟨fun b o w => by simp [Instr.fieldAt, Try.runUnderlying113, Instr.sureAddr, fieldPlace, add_lit]⟩
instance : TyField Try.prog 113 1 1 := ⟨fun b o w => by simp [Instr.fieldAt, Try.runUnderlying113, Instr.sureAddr, fieldPlace, add_lit]⟩
instance : TyField Try.prog 114 0 0 := ⟨fun b o w => by simp [Instr.fieldAt, Try.runUnderlying114, Instr.sureAddr, fieldPlace, add_lit]⟩
instance : TyField Try.prog 114 1 1 := ⟨fun b o w => by simp [Instr.fieldAt, Try.runUnderlying114, Instr.sureAddr, fieldPlace, add_lit]⟩
instance : TyField Try.prog 115 0 0 := ⟨fun b o w => by simp [Instr.fieldAt, Try.runUnderlying115, Instr.sureAddr, fieldPlace, add_lit]⟩
instance : TyField Try.prog 115 1 1 := ⟨fun b o w => by simp [Instr.fieldAt, Try.runUnderlying115, Instr.sureAddr, fieldPlace, add_lit]⟩
instance : TyField Try.prog 115 2 2 := ⟨fun b o w => by simp [Instr.fieldAt, Try.runUnderlying115, Instr.sureAddr, fieldPlace, add_lit]⟩
instance : TyField Try.prog 115 3 3 := ⟨fun b o w => by simp [Instr.fieldAt, Try.runUnderlying115, Instr.sureAddr, fieldPlace, add_lit]⟩
instance : TyField Try.prog 116 0 0 := ⟨fun b o w => by simp [Instr.fieldAt, Try.runUnderlying116, Instr.sureAddr, fieldPlace, add_lit]⟩
instance : TyField Try.prog 116 1 1 := ⟨fun b o w => by simp [Instr.fieldAt, Try.runUnderlying116, Instr.sureAddr, fieldPlace, add_lit]⟩
instance : TyField Try.prog 116 2 2 := ⟨fun b o w => by simp [Instr.fieldAt, Try.runUnderlying116, Instr.sureAddr, fieldPlace, add_lit]⟩
instance : TyField Try.prog 116 3 3 := ⟨fun b o w => by simp [Instr.fieldAt, Try.runUnderlying116, Instr.sureAddr, fieldPlace, add_lit]⟩
instance : TyElem Try.prog 22 5 1 [.int .u8 0] := ⟨Try.underlying22, Try.runUnderlying22, sz5, ⟨_, Try.zeroValue5, rfl⟩, rfl, by decide, ⟨Try.t5, _, by kernel_rfl, rfl, rfl, rfl, by decide⟩⟩
instance : TyElem Try.prog 23 25 5 [.int .i64 0, .int .i64 0, .int .i64 0, .bool false, .slice none 0 0] := ⟨Try.underlying23, Try.runUnderlying23, sz25, ⟨_, Try.zeroValue25, rfl⟩, rfl, by decide, ⟨Try.t25, _, by kernel_rfl, rfl, rfl, rfl, by decide⟩⟩
instance : TyBuild Try.prog 24 [.int .i64 0, .int .i64 0, .int .i64 0, .bool false, .slice none 0 0] [(0, 1), (1, 1), (2, 1), (3, 1), (4, 1)] := TyBuild.of Try.zeroValue24 Try.runUnderlying24 (fun w => by simp)
instance : TyBuild Try.prog 25 [.int .i64 0, .int .i64 0, .int .i64 0, .bool false, .slice none 0 0] [(0, 1), (1, 1), (2, 1), (3, 1), (4, 1)] := TyBuild.of Try.zeroValue25 Try.runUnderlying25 (fun w => by simp)
instance : TyElem Try.prog 31 116 4 [.int .i64 0, .int .i64 0, .bool false, .int .i64 0] := ⟨Try.underlying31, Try.runUnderlying31, sz116, ⟨_, Try.zeroValue116, rfl⟩, rfl, by decide, ⟨Try.t116, _, by kernel_rfl, rfl, rfl, rfl, by decide⟩⟩
instance : TyBuild Try.prog 32 [.int .i64 0, .int .i64 0, .slice none 0 0] [(0, 1), (1, 1), (2, 1)] := TyBuild.of Try.zeroValue32 Try.runUnderlying32 (fun w => by simp)
instance : TyBuild Try.prog 33 [.int .i64 0, .int .i64 0, .slice none 0 0] [(0, 1), (1, 1), (2, 1)] := TyBuild.of Try.zeroValue33 Try.runUnderlying33 (fun w => by simp)
instance : TyElem Try.prog 41 3 1 [.int .i64 0] := ⟨Try.underlying41, Try.runUnderlying41, sz3, ⟨_, Try.zeroValue3, rfl⟩, rfl, by decide, ⟨Try.t3, _, by kernel_rfl, rfl, rfl, rfl, by decide⟩⟩
instance : TyElem Try.prog 45 51 4 [.int .i64 0, .int .i64 0, .int .i64 0, .int .i64 0] := ⟨Try.underlying45, Try.runUnderlying45, sz51, ⟨_, Try.zeroValue51, rfl⟩, rfl, by decide, ⟨Try.t51, _, by kernel_rfl, rfl, rfl, rfl, by decide⟩⟩
instance : TyElem Try.prog 47 93 6 [.int .i64 0, .bool false, .int .i64 0, .int .i64 0, .int .i64 0, .int .i64 0] := ⟨Try.underlying47, Try.runUnderlying47, sz93, ⟨_, Try.zeroValue93, rfl⟩, rfl, by decide, ⟨Try.t93, _, by kernel_rfl, rfl, rfl, rfl, by decide⟩⟩
instance : TyBuild Try.prog 50 [.int .i64 0, .int .i64 0, .int .i64 0, .int .i64 0] [(0, 1), (1, 1), (2, 1), (3, 1)] := TyBuild.of Try.zeroValue50 Try.runUnderlying50 (fun w => by simp)
instance : TyBuild Try.prog 51 [.int .i64 0, .int .i64 0, .int .i64 0, .int .i64 0] [(0, 1), (1, 1), (2, 1), (3, 1)] := TyBuild.of Try.zeroValue51 Try.runUnderlying51 (fun w => by simp)
instance : TyElem Try.prog 55 41 1 [.slice none 0 0] := ⟨Try.underlying55, Try.runUnderlying55, sz41, ⟨_, Try.zeroValue41, rfl⟩, rfl, by decide, ⟨Try.t41, _, by kernel_rfl, rfl, rfl, rfl, by decide⟩⟩
instance : TyElem Try.prog 79 84 2 [.int .i64 0, .int .i64 0] := ⟨Try.underlying79, Try.runUnderlying79, sz84, ⟨_, Try.zeroValue84, rfl⟩, rfl, by decide, ⟨Try.t84, _, by kernel_rfl, rfl, rfl, rfl, by decide⟩⟩
instance : TyBuild Try.prog 83 [.int .i64 0, .int .i64 0] [(0, 1), (1, 1)] := TyBuild.of Try.zeroValue83 Try.runUnderlying83 (fun w => by simp)
instance : TyBuild Try.prog 84 [.int .i64 0, .int .i64 0] [(0, 1), (1, 1)] := TyBuild.of Try.zeroValue84 Try.runUnderlying84 (fun w => by simp)
instance : TyElem Try.prog 88 91 9 [.int .i64 0, .int .i64 0, .int .i64 0, .bool false, .slice none 0 0, .int .i64 0, .int .i64 0, .int .i64 0, .int .i64 0] := ⟨Try.underlying88, Try.runUnderlying88, sz91, ⟨_, Try.zeroValue91, rfl⟩, rfl, by decide, ⟨Try.t91, _, by kernel_rfl, rfl, rfl, rfl, by decide⟩⟩
instance : TyBuild Try.prog 90 [.int .i64 0, .int .i64 0, .int .i64 0, .bool false, .slice none 0 0, .int .i64 0, .int .i64 0, .int .i64 0, .int .i64 0] [(0, 5), (5, 4)] := TyBuild.of Try.zeroValue90 Try.runUnderlying90 (fun w => by simp)
instance : TyBuild Try.prog 91 [.int .i64 0, .int .i64 0, .int .i64 0, .bool false, .slice none 0 0, .int .i64 0, .int .i64 0, .int .i64 0, .int .i64 0] [(0, 5), (5, 4)] := TyBuild.of Try.zeroValue91 Try.runUnderlying91 (fun w => by simp)
instance : TyBuild Try.prog 92 [.int .i64 0, .bool false, .int .i64 0, .int .i64 0, .int .i64 0, .int .i64 0] [(0, 1), (1, 1), (2, 4)] := TyBuild.of Try.zeroValue92 Try.runUnderlying92 (fun w => by simp)
instance : TyBuild Try.prog 93 [.int .i64 0, .bool false, .int .i64 0, .int .i64 0, .int .i64 0, .int .i64 0] [(0, 1), (1, 1), (2, 4)] := TyBuild.of Try.zeroValue93 Try.runUnderlying93 (fun w => by simp)
instance : TyBuild Try.prog 113 [.slice none 0 0, .int .i64 0] [(0, 1), (1, 1)] := TyBuild.of Try.zeroValue113 Try.runUnderlying113 (fun w => by simp)
instance : TyBuild Try.prog 114 [.slice none 0 0, .int .i64 0] [(0, 1), (1, 1)] := TyBuild.of Try.zeroValue114 Try.runUnderlying114 (fun w => by simp)
instance : TyBuild Try.prog 115 [.int .i64 0, .int .i64 0, .bool false, .int .i64 0] [(0, 1), (1, 1), (2, 1), (3, 1)] := TyBuild.of Try.zeroValue115 Try.runUnderlying115 (fun w => by simp)
instance : TyBuild Try.prog 116 [.int .i64 0, .int .i64 0, .bool false, .int .i64 0] [(0, 1), (1, 1), (2, 1), (3, 1)] := TyBuild.of Try.zeroValue116 Try.runUnderlying116 (fun w => by simp)
-- loop.example/panecutter/laws.FnPrunePlan
instance : TyFn Try.prog 3 := TyFn.of Try.func3 (by kernel_rfl) rfl
-- loop.example/panecutter/laws.FnValidPlan
instance : TyFn Try.prog 4 := TyFn.of Try.func4 (by kernel_rfl) rfl
-- loop.example/panecutter/laws.FnAboveOf
instance : TyFn Try.prog 5 := TyFn.of Try.func5 (by kernel_rfl) rfl
-- loop.example/panecutter/laws.FnCutLengths
instance : TyFn Try.prog 6 := TyFn.of Try.func6 (by kernel_rfl) rfl
-- loop.example/panecutter/laws.FnNumbersOf
instance : TyFn Try.prog 7 := TyFn.of Try.func7 (by kernel_rfl) rfl
-- loop.example/panecutter/laws.FnAllSteps
instance : TyFn Try.prog 8 := TyFn.of Try.func8 (by kernel_rfl) rfl
-- loop.example/panecutter/laws.FnBestSteps
instance : TyFn Try.prog 9 := TyFn.of Try.func9 (by kernel_rfl) rfl
-- loop.example/panecutter/laws.FnValidSteps
instance : TyFn Try.prog 10 := TyFn.of Try.func10 (by kernel_rfl) rfl
-- loop.example/panecutter/laws.FnMirrorPlanPlaces
instance : TyFn Try.prog 11 := TyFn.of Try.func11 (by kernel_rfl) rfl
-- loop.example/panecutter/laws.FnLostArea
instance : TyFn Try.prog 12 := TyFn.of Try.func12 (by kernel_rfl) rfl
-- loop.example/panecutter/laws.FnValidPlaces
instance : TyFn Try.prog 13 := TyFn.of Try.func13 (by kernel_rfl) rfl
-- loop.example/panecutter/spec.DrawPrunePlan
instance : TyFn Try.prog 14 := TyFn.of Try.func14 (by kernel_rfl) rfl
-- loop.example/panecutter/impl.PrunePlan
instance : TyFn Try.prog 15 := TyFn.of Try.func15 (by kernel_rfl) rfl
-- loop.example/panecutter/laws.equalPlan
instance : TyFn Try.prog 16 := TyFn.of Try.func16 (by kernel_rfl) rfl
-- loop.example/panecutter/spec.PrunePlan
instance : TyFn Try.prog 17 := TyFn.of Try.func17 (by kernel_rfl) rfl
-- loop.example/panecutter/impl.PlanSize
instance : TyFn Try.prog 18 := TyFn.of Try.func18 (by kernel_rfl) rfl
-- loop.example/panecutter/impl.CutsOf
instance : TyFn Try.prog 19 := TyFn.of Try.func19 (by kernel_rfl) rfl
-- loop.example/panecutter/impl.StagesOf
instance : TyFn Try.prog 20 := TyFn.of Try.func20 (by kernel_rfl) rfl
-- loop.example/panecutter/spec.DrawValidPlan
instance : TyFn Try.prog 21 := TyFn.of Try.func21 (by kernel_rfl) rfl
-- loop.example/panecutter/impl.ValidPlan
instance : TyFn Try.prog 22 := TyFn.of Try.func22 (by kernel_rfl) rfl
-- loop.example/panecutter/spec.ValidPlan
instance : TyFn Try.prog 23 := TyFn.of Try.func23 (by kernel_rfl) rfl
-- loop.example/panecutter/spec.DrawAboveOf
instance : TyFn Try.prog 24 := TyFn.of Try.func24 (by kernel_rfl) rfl
-- loop.example/panecutter/impl.AboveOf
instance : TyFn Try.prog 25 := TyFn.of Try.func25 (by kernel_rfl) rfl
-- loop.example/panecutter/spec.AboveOf
instance : TyFn Try.prog 26 := TyFn.of Try.func26 (by kernel_rfl) rfl
-- loop.example/panecutter/laws.isIn
instance : TyFn Try.prog 27 := TyFn.of Try.func27 (by kernel_rfl) rfl
-- loop.example/panecutter/impl.NumbersOf
instance : TyFn Try.prog 28 := TyFn.of Try.func28 (by kernel_rfl) rfl
-- loop.example/panecutter/spec.DrawCutLengths
instance : TyFn Try.prog 29 := TyFn.of Try.func29 (by kernel_rfl) rfl
-- loop.example/panecutter/impl.CutLengths
instance : TyFn Try.prog 30 := TyFn.of Try.func30 (by kernel_rfl) rfl
-- loop.example/panecutter/laws.equalInts
instance : TyFn Try.prog 31 := TyFn.of Try.func31 (by kernel_rfl) rfl
-- loop.example/panecutter/spec.CutLengths
instance : TyFn Try.prog 32 := TyFn.of Try.func32 (by kernel_rfl) rfl
-- loop.example/panecutter/laws.boxesOf
instance : TyFn Try.prog 33 := TyFn.of Try.func33 (by kernel_rfl) rfl
-- loop.example/panecutter/impl.PlacesOf
instance : TyFn Try.prog 34 := TyFn.of Try.func34 (by kernel_rfl) rfl
-- loop.example/panecutter/impl.WastesOf
instance : TyFn Try.prog 35 := TyFn.of Try.func35 (by kernel_rfl) rfl
-- loop.example/panecutter/laws.total
instance : TyFn Try.prog 36 := TyFn.of Try.func36 (by kernel_rfl) rfl
-- loop.example/panecutter/spec.DrawNumbersOf
instance : TyFn Try.prog 37 := TyFn.of Try.func37 (by kernel_rfl) rfl
-- loop.example/panecutter/spec.NumbersOf
instance : TyFn Try.prog 38 := TyFn.of Try.func38 (by kernel_rfl) rfl
-- loop.example/panecutter/laws.ascends
instance : TyFn Try.prog 39 := TyFn.of Try.func39 (by kernel_rfl) rfl
-- loop.example/panecutter/impl.ValidSteps
instance : TyFn Try.prog 40 := TyFn.of Try.func40 (by kernel_rfl) rfl
-- loop.example/panecutter/spec.DrawAllSteps
instance : TyFn Try.prog 41 := TyFn.of Try.func41 (by kernel_rfl) rfl
-- loop.example/panecutter/impl.AllSteps
instance : TyFn Try.prog 42 := TyFn.of Try.func42 (by kernel_rfl) rfl
-- loop.example/panecutter/laws.equalLists
instance : TyFn Try.prog 43 := TyFn.of Try.func43 (by kernel_rfl) rfl
-- loop.example/panecutter/spec.AllSteps
instance : TyFn Try.prog 44 := TyFn.of Try.func44 (by kernel_rfl) rfl
-- loop.example/panecutter/impl.CountSteps
instance : TyFn Try.prog 45 := TyFn.of Try.func45 (by kernel_rfl) rfl
-- loop.example/panecutter/spec.DrawBestSteps
instance : TyFn Try.prog 46 := TyFn.of Try.func46 (by kernel_rfl) rfl
-- loop.example/panecutter/impl.BestSteps
instance : TyFn Try.prog 47 := TyFn.of Try.func47 (by kernel_rfl) rfl
-- loop.example/panecutter/spec.BestSteps
instance : TyFn Try.prog 48 := TyFn.of Try.func48 (by kernel_rfl) rfl
-- loop.example/panecutter/laws.highest
instance : TyFn Try.prog 49 := TyFn.of Try.func49 (by kernel_rfl) rfl
-- loop.example/panecutter/impl.WaitingOf
instance : TyFn Try.prog 50 := TyFn.of Try.func50 (by kernel_rfl) rfl
-- loop.example/panecutter/impl.LeastTable
instance : TyFn Try.prog 51 := TyFn.of Try.func51 (by kernel_rfl) rfl
-- loop.example/panecutter/spec.DrawValidSteps
instance : TyFn Try.prog 52 := TyFn.of Try.func52 (by kernel_rfl) rfl
-- loop.example/panecutter/spec.ValidSteps
instance : TyFn Try.prog 53 := TyFn.of Try.func53 (by kernel_rfl) rfl
-- loop.example/panecutter/spec.DrawMirrorPlan
instance : TyFn Try.prog 54 := TyFn.of Try.func54 (by kernel_rfl) rfl
-- loop.example/panecutter/impl.MirrorPlan
instance : TyFn Try.prog 55 := TyFn.of Try.func55 (by kernel_rfl) rfl
-- loop.example/panecutter/spec.MirrorPlan
instance : TyFn Try.prog 56 := TyFn.of Try.func56 (by kernel_rfl) rfl
-- loop.example/panecutter/laws.sameBoxes
instance : TyFn Try.prog 57 := TyFn.of Try.func57 (by kernel_rfl) rfl
-- loop.example/panecutter/spec.DrawLostArea
instance : TyFn Try.prog 58 := TyFn.of Try.func58 (by kernel_rfl) rfl
-- loop.example/panecutter/impl.LostArea
instance : TyFn Try.prog 59 := TyFn.of Try.func59 (by kernel_rfl) rfl
-- loop.example/panecutter/spec.LostArea
instance : TyFn Try.prog 60 := TyFn.of Try.func60 (by kernel_rfl) rfl
-- loop.example/panecutter/laws.area
instance : TyFn Try.prog 61 := TyFn.of Try.func61 (by kernel_rfl) rfl
-- loop.example/panecutter/spec.DrawValidPlaces
instance : TyFn Try.prog 62 := TyFn.of Try.func62 (by kernel_rfl) rfl
-- loop.example/panecutter/impl.ValidPlaces
instance : TyFn Try.prog 63 := TyFn.of Try.func63 (by kernel_rfl) rfl
-- loop.example/panecutter/spec.ValidPlaces
instance : TyFn Try.prog 64 := TyFn.of Try.func64 (by kernel_rfl) rfl
-- loop.example/panecutter/spec.DrawPlanSize
instance : TyFn Try.prog 65 := TyFn.of Try.func65 (by kernel_rfl) rfl
-- loop.example/panecutter/impl.pruned
instance : TyFn Try.prog 66 := TyFn.of Try.func66 (by kernel_rfl) rfl
-- loop.example/panecutter/spec.planSize
instance : TyFn Try.prog 67 := TyFn.of Try.func67 (by kernel_rfl) rfl
-- loop.example/panecutter/spec.prune
instance : TyFn Try.prog 68 := TyFn.of Try.func68 (by kernel_rfl) rfl
-- loop.example/panecutter/impl.countParts
instance : TyFn Try.prog 69 := TyFn.of Try.func69 (by kernel_rfl) rfl
-- loop.example/panecutter/impl.stagesBelow
instance : TyFn Try.prog 70 := TyFn.of Try.func70 (by kernel_rfl) rfl
-- loop.example/panecutter/spec.anyPlan
instance : TyFn Try.prog 71 := TyFn.of Try.func71 (by kernel_rfl) rfl
-- loop.example/panecutter/spec.newReader
instance : TyFn Try.prog 72 := TyFn.of Try.func72 (by kernel_rfl) rfl
-- loop.example/panecutter/impl.ValidWork
instance : TyFn Try.prog 73 := TyFn.of Try.func73 (by kernel_rfl) rfl
-- loop.example/panecutter/impl.planFits
instance : TyFn Try.prog 74 := TyFn.of Try.func74 (by kernel_rfl) rfl
-- loop.example/panecutter/impl.sheetOf
instance : TyFn Try.prog 75 := TyFn.of Try.func75 (by kernel_rfl) rfl
-- loop.example/panecutter/spec.validPlan
instance : TyFn Try.prog 76 := TyFn.of Try.func76 (by kernel_rfl) rfl
-- (*loop.example/panecutter/spec.reader).one
instance : TyFn Try.prog 77 := TyFn.of Try.func77 (by kernel_rfl) rfl
-- (*loop.example/panecutter/spec.reader).pick
instance : TyFn Try.prog 78 := TyFn.of Try.func78 (by kernel_rfl) rfl
-- loop.example/panecutter/impl.knotsOf
instance : TyFn Try.prog 79 := TyFn.of Try.func79 (by kernel_rfl) rfl
-- loop.example/panecutter/impl.findKnot
instance : TyFn Try.prog 80 := TyFn.of Try.func80 (by kernel_rfl) rfl
-- loop.example/panecutter/spec.placeIn
instance : TyFn Try.prog 81 := TyFn.of Try.func81 (by kernel_rfl) rfl
-- loop.example/panecutter/spec.innerNodes
instance : TyFn Try.prog 82 := TyFn.of Try.func82 (by kernel_rfl) rfl
-- loop.example/panecutter/spec.aboves
instance : TyFn Try.prog 83 := TyFn.of Try.func83 (by kernel_rfl) rfl
-- loop.example/panecutter/impl.partsOf
instance : TyFn Try.prog 84 := TyFn.of Try.func84 (by kernel_rfl) rfl
-- loop.example/panecutter/spec.cutLengths
instance : TyFn Try.prog 85 := TyFn.of Try.func85 (by kernel_rfl) rfl
-- loop.example/panecutter/impl.beginsOrder
instance : TyFn Try.prog 86 := TyFn.of Try.func86 (by kernel_rfl) rfl
-- loop.example/panecutter/spec.cutsPlan
instance : TyFn Try.prog 87 := TyFn.of Try.func87 (by kernel_rfl) rfl
-- loop.example/panecutter/impl.addOrders
instance : TyFn Try.prog 88 := TyFn.of Try.func88 (by kernel_rfl) rfl
-- loop.example/panecutter/spec.cutsOf
instance : TyFn Try.prog 89 := TyFn.of Try.func89 (by kernel_rfl) rfl
-- loop.example/panecutter/spec.allSteps
instance : TyFn Try.prog 90 := TyFn.of Try.func90 (by kernel_rfl) rfl
-- loop.example/panecutter/impl.ordersOf
instance : TyFn Try.prog 91 := TyFn.of Try.func91 (by kernel_rfl) rfl
-- loop.example/panecutter/impl.addBest
instance : TyFn Try.prog 92 := TyFn.of Try.func92 (by kernel_rfl) rfl
-- loop.example/panecutter/spec.bestSteps
instance : TyFn Try.prog 93 := TyFn.of Try.func93 (by kernel_rfl) rfl
-- loop.example/panecutter/impl.tableFor
instance : TyFn Try.prog 94 := TyFn.of Try.func94 (by kernel_rfl) rfl
-- loop.example/panecutter/spec.anySteps
instance : TyFn Try.prog 95 := TyFn.of Try.func95 (by kernel_rfl) rfl
-- loop.example/panecutter/spec.validSteps
instance : TyFn Try.prog 96 := TyFn.of Try.func96 (by kernel_rfl) rfl
-- loop.example/panecutter/impl.mirrored
instance : TyFn Try.prog 97 := TyFn.of Try.func97 (by kernel_rfl) rfl
-- loop.example/panecutter/spec.mirrorPlan
instance : TyFn Try.prog 98 := TyFn.of Try.func98 (by kernel_rfl) rfl
-- loop.example/panecutter/impl.boxArea
instance : TyFn Try.prog 99 := TyFn.of Try.func99 (by kernel_rfl) rfl
-- loop.example/panecutter/spec.inRange
instance : TyFn Try.prog 100 := TyFn.of Try.func100 (by kernel_rfl) rfl
-- loop.example/panecutter/spec.wastesOf
instance : TyFn Try.prog 101 := TyFn.of Try.func101 (by kernel_rfl) rfl
-- loop.example/panecutter/spec.isRemnant
instance : TyFn Try.prog 102 := TyFn.of Try.func102 (by kernel_rfl) rfl
-- loop.example/panecutter/spec.somePlaces
instance : TyFn Try.prog 103 := TyFn.of Try.func103 (by kernel_rfl) rfl
-- loop.example/panecutter/impl.ValidBox
instance : TyFn Try.prog 104 := TyFn.of Try.func104 (by kernel_rfl) rfl
-- loop.example/panecutter/impl.InsideOf
instance : TyFn Try.prog 105 := TyFn.of Try.func105 (by kernel_rfl) rfl
-- loop.example/panecutter/impl.paneFills
instance : TyFn Try.prog 106 := TyFn.of Try.func106 (by kernel_rfl) rfl
-- loop.example/panecutter/impl.ApartBoxes
instance : TyFn Try.prog 107 := TyFn.of Try.func107 (by kernel_rfl) rfl
-- loop.example/panecutter/spec.validPlaces
instance : TyFn Try.prog 108 := TyFn.of Try.func108 (by kernel_rfl) rfl
-- loop.example/panecutter/impl.isCut
instance : TyFn Try.prog 109 := TyFn.of Try.func109 (by kernel_rfl) rfl
-- loop.example/panecutter/spec.isCut
instance : TyFn Try.prog 110 := TyFn.of Try.func110 (by kernel_rfl) rfl
-- loop.example/panecutter/spec.hasPane
instance : TyFn Try.prog 111 := TyFn.of Try.func111 (by kernel_rfl) rfl
-- loop.example/panecutter/spec.workPlan
instance : TyFn Try.prog 112 := TyFn.of Try.func112 (by kernel_rfl) rfl
-- loop.example/panecutter/impl.ValidPane
instance : TyFn Try.prog 113 := TyFn.of Try.func113 (by kernel_rfl) rfl
-- loop.example/panecutter/impl.splitBox
instance : TyFn Try.prog 114 := TyFn.of Try.func114 (by kernel_rfl) rfl
-- loop.example/panecutter/spec.validWork
instance : TyFn Try.prog 115 := TyFn.of Try.func115 (by kernel_rfl) rfl
-- loop.example/panecutter/spec.fitsPlan
instance : TyFn Try.prog 116 := TyFn.of Try.func116 (by kernel_rfl) rfl
-- loop.example/panecutter/impl.addKnots
instance : TyFn Try.prog 117 := TyFn.of Try.func117 (by kernel_rfl) rfl
-- slices.IndexFunc[[]loop.example/panecutter/impl.knot,loop.example/panecutter/impl.knot]
instance : TyFn Try.prog 118 := TyFn.of Try.func118 (by kernel_rfl) rfl
-- loop.example/panecutter/impl.findKnot$1
instance : TyFn Try.prog 119 := TyFn.of Try.func119 (by kernel_rfl) rfl
-- loop.example/panecutter/impl.addParts
instance : TyFn Try.prog 120 := TyFn.of Try.func120 (by kernel_rfl) rfl
-- loop.example/panecutter/spec.copyInts
instance : TyFn Try.prog 121 := TyFn.of Try.func121 (by kernel_rfl) rfl
-- loop.example/panecutter/impl.choose
instance : TyFn Try.prog 122 := TyFn.of Try.func122 (by kernel_rfl) rfl
-- loop.example/panecutter/spec.least
instance : TyFn Try.prog 123 := TyFn.of Try.func123 (by kernel_rfl) rfl
-- loop.example/panecutter/spec.someSteps
instance : TyFn Try.prog 124 := TyFn.of Try.func124 (by kernel_rfl) rfl
-- loop.example/panecutter/spec.spread
instance : TyFn Try.prog 125 := TyFn.of Try.func125 (by kernel_rfl) rfl
-- loop.example/panecutter/spec.placesOf
instance : TyFn Try.prog 126 := TyFn.of Try.func126 (by kernel_rfl) rfl
-- loop.example/panecutter/impl.MeetOf
instance : TyFn Try.prog 127 := TyFn.of Try.func127 (by kernel_rfl) rfl
-- loop.example/panecutter/impl.validBoxes
instance : TyFn Try.prog 128 := TyFn.of Try.func128 (by kernel_rfl) rfl
-- loop.example/panecutter/spec.validBox
instance : TyFn Try.prog 129 := TyFn.of Try.func129 (by kernel_rfl) rfl
-- loop.example/panecutter/spec.insideOf
instance : TyFn Try.prog 130 := TyFn.of Try.func130 (by kernel_rfl) rfl
-- loop.example/panecutter/spec.apart
instance : TyFn Try.prog 131 := TyFn.of Try.func131 (by kernel_rfl) rfl
-- loop.example/panecutter/spec.grow
instance : TyFn Try.prog 132 := TyFn.of Try.func132 (by kernel_rfl) rfl
-- loop.example/panecutter/spec.validPanes
instance : TyFn Try.prog 133 := TyFn.of Try.func133 (by kernel_rfl) rfl
-- loop.example/panecutter/spec.meetOf
instance : TyFn Try.prog 134 := TyFn.of Try.func134 (by kernel_rfl) rfl
-- loop.example/panecutter/spec.validPane
instance : TyFn Try.prog 135 := TyFn.of Try.func135 (by kernel_rfl) rfl
end Go.Proofs.Ytolhdpjhibgfiaa
