/-
  The facts on the types of this seat's translation, by program.
-/
import Derived.Test.YtkojheinklgdeaaV7
import Derived.Test.YtkojheinklgdeaaProg
import Derived.KernelRfl
namespace Go.Proofs.Ytkojheinklgdeaa
open Go

-- 2 int64
theorem sz2 (w : World) : (sizeOf 2).run Try.prog w = .ok 1 w := by simp [sizeOf, Try.typeInfo2]; rfl
instance : TyCell Try.prog 2 := ⟨Try.isAgg2⟩
instance : TySize Try.prog 2 1 := ⟨sz2⟩
instance : TyUnd Try.prog 2 (.int .i64) := ⟨Try.underlying2, Try.runUnderlying2⟩
instance : TyZero Try.prog 2 (.int .i64 0) := ⟨Try.zeroValue2⟩
-- 3 int
theorem sz3 (w : World) : (sizeOf 3).run Try.prog w = .ok 1 w := by simp [sizeOf, Try.typeInfo3]; rfl
instance : TyCell Try.prog 3 := ⟨Try.isAgg3⟩
instance : TySize Try.prog 3 1 := ⟨sz3⟩
instance : TyUnd Try.prog 3 (.int .i64) := ⟨Try.underlying3, Try.runUnderlying3⟩
instance : TyZero Try.prog 3 (.int .i64 0) := ⟨Try.zeroValue3⟩
-- 4 bool
theorem sz4 (w : World) : (sizeOf 4).run Try.prog w = .ok 1 w := by simp [sizeOf, Try.typeInfo4]; rfl
instance : TyCell Try.prog 4 := ⟨Try.isAgg4⟩
instance : TySize Try.prog 4 1 := ⟨sz4⟩
instance : TyUnd Try.prog 4 (.bool) := ⟨Try.underlying4, Try.runUnderlying4⟩
instance : TyZero Try.prog 4 (.bool false) := ⟨Try.zeroValue4⟩
-- 5 uint8
theorem sz5 (w : World) : (sizeOf 5).run Try.prog w = .ok 1 w := by simp [sizeOf, Try.typeInfo5]; rfl
instance : TyCell Try.prog 5 := ⟨Try.isAgg5⟩
instance : TySize Try.prog 5 1 := ⟨sz5⟩
instance : TyUnd Try.prog 5 (.int .u8) := ⟨Try.underlying5, Try.runUnderlying5⟩
instance : TyZero Try.prog 5 (.int .u8 0) := ⟨Try.zeroValue5⟩
-- 9 string
theorem sz9 (w : World) : (sizeOf 9).run Try.prog w = .ok 1 w := by simp [sizeOf, Try.typeInfo9]; rfl
instance : TyCell Try.prog 9 := ⟨Try.isAgg9⟩
instance : TySize Try.prog 9 1 := ⟨sz9⟩
instance : TyUnd Try.prog 9 (.string) := ⟨Try.underlying9, Try.runUnderlying9⟩
instance : TyZero Try.prog 9 (.string ByteArray.empty) := ⟨Try.zeroValue9⟩
-- 12 uintptr
theorem sz12 (w : World) : (sizeOf 12).run Try.prog w = .ok 1 w := by simp [sizeOf, Try.typeInfo12]; rfl
instance : TyCell Try.prog 12 := ⟨Try.isAgg12⟩
instance : TySize Try.prog 12 1 := ⟨sz12⟩
instance : TyUnd Try.prog 12 (.int .u64) := ⟨Try.underlying12, Try.runUnderlying12⟩
instance : TyZero Try.prog 12 (.int .u64 0) := ⟨Try.zeroValue12⟩
-- 21 int32
theorem sz21 (w : World) : (sizeOf 21).run Try.prog w = .ok 1 w := by simp [sizeOf, Try.typeInfo21]; rfl
instance : TyCell Try.prog 21 := ⟨Try.isAgg21⟩
instance : TySize Try.prog 21 1 := ⟨sz21⟩
instance : TyUnd Try.prog 21 (.int .i32) := ⟨Try.underlying21, Try.runUnderlying21⟩
instance : TyZero Try.prog 21 (.int .i32 0) := ⟨Try.zeroValue21⟩
-- 22 []uint8
theorem sz22 (w : World) : (sizeOf 22).run Try.prog w = .ok 1 w := by simp [sizeOf, Try.typeInfo22]; rfl
instance : TyCell Try.prog 22 := ⟨Try.isAgg22⟩
instance : TySize Try.prog 22 1 := ⟨sz22⟩
instance : TyUnd Try.prog 22 (.slice 5) := ⟨Try.underlying22, Try.runUnderlying22⟩
instance : TyZero Try.prog 22 (.slice none 0 0) := ⟨Try.zeroValue22⟩
-- 23 []impl.Pane
theorem sz23 (w : World) : (sizeOf 23).run Try.prog w = .ok 1 w := by simp [sizeOf, Try.typeInfo23]; rfl
instance : TyCell Try.prog 23 := ⟨Try.isAgg23⟩
instance : TySize Try.prog 23 1 := ⟨sz23⟩
instance : TyUnd Try.prog 23 (.slice 28) := ⟨Try.underlying23, Try.runUnderlying23⟩
instance : TyZero Try.prog 23 (.slice none 0 0) := ⟨Try.zeroValue23⟩
-- 27 struct { W int; H int; Turns bool; Kind int }
theorem sz27 (w : World) : (sizeOf 27).run Try.prog w = .ok 4 w := by simp [sizeOf, Try.typeInfo27]; rfl
instance : TyAgg Try.prog 27 4 := ⟨Try.isAgg27, sz27⟩
instance : TySize Try.prog 27 4 := ⟨sz27⟩
instance : TyZero Try.prog 27 (.agg #[.int .i64 0, .int .i64 0, .bool false, .int .i64 0]) := ⟨Try.zeroValue27⟩
-- 28 impl.Pane
theorem sz28 (w : World) : (sizeOf 28).run Try.prog w = .ok 4 w := by simp [sizeOf, Try.typeInfo28]; rfl
instance : TyAgg Try.prog 28 4 := ⟨Try.isAgg28, sz28⟩
instance : TySize Try.prog 28 4 := ⟨sz28⟩
instance : TyZero Try.prog 28 (.agg #[.int .i64 0, .int .i64 0, .bool false, .int .i64 0]) := ⟨Try.zeroValue28⟩
-- 30 []laws.Pane
theorem sz30 (w : World) : (sizeOf 30).run Try.prog w = .ok 1 w := by simp [sizeOf, Try.typeInfo30]; rfl
instance : TyCell Try.prog 30 := ⟨Try.isAgg30⟩
instance : TySize Try.prog 30 1 := ⟨sz30⟩
instance : TyUnd Try.prog 30 (.slice 70) := ⟨Try.underlying30, Try.runUnderlying30⟩
instance : TyZero Try.prog 30 (.slice none 0 0) := ⟨Try.zeroValue30⟩
-- 35 []int
theorem sz35 (w : World) : (sizeOf 35).run Try.prog w = .ok 1 w := by simp [sizeOf, Try.typeInfo35]; rfl
instance : TyCell Try.prog 35 := ⟨Try.isAgg35⟩
instance : TySize Try.prog 35 1 := ⟨sz35⟩
instance : TyUnd Try.prog 35 (.slice 3) := ⟨Try.underlying35, Try.runUnderlying35⟩
instance : TyZero Try.prog 35 (.slice none 0 0) := ⟨Try.zeroValue35⟩
-- 41 struct { W int; H int; Panes []laws.Pane }
theorem sz41 (w : World) : (sizeOf 41).run Try.prog w = .ok 3 w := by simp [sizeOf, Try.typeInfo41]; rfl
instance : TyAgg Try.prog 41 3 := ⟨Try.isAgg41, sz41⟩
instance : TySize Try.prog 41 3 := ⟨sz41⟩
instance : TyZero Try.prog 41 (.agg #[.int .i64 0, .int .i64 0, .slice none 0 0]) := ⟨Try.zeroValue41⟩
-- 42 laws.Work
theorem sz42 (w : World) : (sizeOf 42).run Try.prog w = .ok 3 w := by simp [sizeOf, Try.typeInfo42]; rfl
instance : TyAgg Try.prog 42 3 := ⟨Try.isAgg42, sz42⟩
instance : TySize Try.prog 42 3 := ⟨sz42⟩
instance : TyZero Try.prog 42 (.agg #[.int .i64 0, .int .i64 0, .slice none 0 0]) := ⟨Try.zeroValue42⟩
-- 45 struct { W int; H int; Panes []impl.Pane }
theorem sz45 (w : World) : (sizeOf 45).run Try.prog w = .ok 3 w := by simp [sizeOf, Try.typeInfo45]; rfl
instance : TyAgg Try.prog 45 3 := ⟨Try.isAgg45, sz45⟩
instance : TySize Try.prog 45 3 := ⟨sz45⟩
instance : TyZero Try.prog 45 (.agg #[.int .i64 0, .int .i64 0, .slice none 0 0]) := ⟨Try.zeroValue45⟩
-- 46 impl.Work
theorem sz46 (w : World) : (sizeOf 46).run Try.prog w = .ok 3 w := by simp [sizeOf, Try.typeInfo46]; rfl
instance : TyAgg Try.prog 46 3 := ⟨Try.isAgg46, sz46⟩
instance : TySize Try.prog 46 3 := ⟨sz46⟩
instance : TyZero Try.prog 46 (.agg #[.int .i64 0, .int .i64 0, .slice none 0 0]) := ⟨Try.zeroValue46⟩
-- 57 *spec.reader
theorem sz57 (w : World) : (sizeOf 57).run Try.prog w = .ok 1 w := by simp [sizeOf, Try.typeInfo57]; rfl
instance : TyCell Try.prog 57 := ⟨Try.isAgg57⟩
instance : TySize Try.prog 57 1 := ⟨sz57⟩
instance : TyUnd Try.prog 57 (.pointer 94) := ⟨Try.underlying57, Try.runUnderlying57⟩
instance : TyZero Try.prog 57 (.pointer none) := ⟨Try.zeroValue57⟩
-- 61 [10][]int
theorem sz61 (w : World) : (sizeOf 61).run Try.prog w = .ok 10 w := by simp [sizeOf, Try.typeInfo61]; rfl
instance : TyAgg Try.prog 61 10 := ⟨Try.isAgg61, sz61⟩
instance : TySize Try.prog 61 10 := ⟨sz61⟩
instance : TyUnd Try.prog 61 (.array 10 35) := ⟨Try.underlying61, Try.runUnderlying61⟩
instance : TyZero Try.prog 61 (.agg #[.slice none 0 0, .slice none 0 0, .slice none 0 0, .slice none 0 0, .slice none 0 0, .slice none 0 0, .slice none 0 0, .slice none 0 0, .slice none 0 0, .slice none 0 0]) := ⟨Try.zeroValue61⟩
-- 65 [][]int
theorem sz65 (w : World) : (sizeOf 65).run Try.prog w = .ok 1 w := by simp [sizeOf, Try.typeInfo65]; rfl
instance : TyCell Try.prog 65 := ⟨Try.isAgg65⟩
instance : TySize Try.prog 65 1 := ⟨sz65⟩
instance : TyUnd Try.prog 65 (.slice 35) := ⟨Try.underlying65, Try.runUnderlying65⟩
instance : TyZero Try.prog 65 (.slice none 0 0) := ⟨Try.zeroValue65⟩
-- 70 laws.Pane
theorem sz70 (w : World) : (sizeOf 70).run Try.prog w = .ok 4 w := by simp [sizeOf, Try.typeInfo70]; rfl
instance : TyAgg Try.prog 70 4 := ⟨Try.isAgg70, sz70⟩
instance : TySize Try.prog 70 4 := ⟨sz70⟩
instance : TyZero Try.prog 70 (.agg #[.int .i64 0, .int .i64 0, .bool false, .int .i64 0]) := ⟨Try.zeroValue70⟩
-- 80 [17]int
theorem sz80 (w : World) : (sizeOf 80).run Try.prog w = .ok 17 w := by simp [sizeOf, Try.typeInfo80]; rfl
instance : TyAgg Try.prog 80 17 := ⟨Try.isAgg80, sz80⟩
instance : TySize Try.prog 80 17 := ⟨sz80⟩
instance : TyUnd Try.prog 80 (.array 17 3) := ⟨Try.underlying80, Try.runUnderlying80⟩
instance : TyZero Try.prog 80 (.agg #[.int .i64 0, .int .i64 0, .int .i64 0, .int .i64 0, .int .i64 0, .int .i64 0, .int .i64 0, .int .i64 0, .int .i64 0, .int .i64 0, .int .i64 0, .int .i64 0, .int .i64 0, .int .i64 0, .int .i64 0, .int .i64 0, .int .i64 0]) := ⟨Try.zeroValue80⟩
-- 81 [17][17]int
theorem sz81 (w : World) : (sizeOf 81).run Try.prog w = .ok 289 w := by simp [sizeOf, Try.typeInfo81]; rfl
instance : TyAgg Try.prog 81 289 := ⟨Try.isAgg81, sz81⟩
instance : TySize Try.prog 81 289 := ⟨sz81⟩
instance : TyUnd Try.prog 81 (.array 17 80) := ⟨Try.underlying81, Try.runUnderlying81⟩
instance : TyZero Try.prog 81 (.agg (Array.replicate 289 (.int .i64 0))) := ⟨fun w => (Try.zeroValue81 w).trans (congrArg (fun z => Result.ok (Value.agg z) w) (by kernel_rfl))⟩
-- 82 impl.valueTable
theorem sz82 (w : World) : (sizeOf 82).run Try.prog w = .ok 289 w := by simp [sizeOf, Try.typeInfo82]; rfl
instance : TyAgg Try.prog 82 289 := ⟨Try.isAgg82, sz82⟩
instance : TySize Try.prog 82 289 := ⟨sz82⟩
instance : TyUnd Try.prog 82 (.array 17 80) := ⟨Try.underlying82, Try.runUnderlying82⟩
instance : TyZero Try.prog 82 (.agg (Array.replicate 289 (.int .i64 0))) := ⟨fun w => (Try.zeroValue82 w).trans (congrArg (fun z => Result.ok (Value.agg z) w) (by kernel_rfl))⟩
-- 85 [17]bool
theorem sz85 (w : World) : (sizeOf 85).run Try.prog w = .ok 17 w := by simp [sizeOf, Try.typeInfo85]; rfl
instance : TyAgg Try.prog 85 17 := ⟨Try.isAgg85, sz85⟩
instance : TySize Try.prog 85 17 := ⟨sz85⟩
instance : TyUnd Try.prog 85 (.array 17 4) := ⟨Try.underlying85, Try.runUnderlying85⟩
instance : TyZero Try.prog 85 (.agg #[.bool false, .bool false, .bool false, .bool false, .bool false, .bool false, .bool false, .bool false, .bool false, .bool false, .bool false, .bool false, .bool false, .bool false, .bool false, .bool false, .bool false]) := ⟨Try.zeroValue85⟩
-- 86 [17][17]bool
theorem sz86 (w : World) : (sizeOf 86).run Try.prog w = .ok 289 w := by simp [sizeOf, Try.typeInfo86]; rfl
instance : TyAgg Try.prog 86 289 := ⟨Try.isAgg86, sz86⟩
instance : TySize Try.prog 86 289 := ⟨sz86⟩
instance : TyUnd Try.prog 86 (.array 17 85) := ⟨Try.underlying86, Try.runUnderlying86⟩
instance : TyZero Try.prog 86 (.agg (Array.replicate 289 (.bool false))) := ⟨fun w => (Try.zeroValue86 w).trans (congrArg (fun z => Result.ok (Value.agg z) w) (by kernel_rfl))⟩
-- 87 *impl.setTable
theorem sz87 (w : World) : (sizeOf 87).run Try.prog w = .ok 1 w := by simp [sizeOf, Try.typeInfo87]; rfl
instance : TyCell Try.prog 87 := ⟨Try.isAgg87⟩
instance : TySize Try.prog 87 1 := ⟨sz87⟩
instance : TyUnd Try.prog 87 (.pointer 105) := ⟨Try.underlying87, Try.runUnderlying87⟩
instance : TyZero Try.prog 87 (.pointer none) := ⟨Try.zeroValue87⟩
-- 89 [][]bool
theorem sz89 (w : World) : (sizeOf 89).run Try.prog w = .ok 1 w := by simp [sizeOf, Try.typeInfo89]; rfl
instance : TyCell Try.prog 89 := ⟨Try.isAgg89⟩
instance : TySize Try.prog 89 1 := ⟨sz89⟩
instance : TyUnd Try.prog 89 (.slice 91) := ⟨Try.underlying89, Try.runUnderlying89⟩
instance : TyZero Try.prog 89 (.slice none 0 0) := ⟨Try.zeroValue89⟩
-- 91 []bool
theorem sz91 (w : World) : (sizeOf 91).run Try.prog w = .ok 1 w := by simp [sizeOf, Try.typeInfo91]; rfl
instance : TyCell Try.prog 91 := ⟨Try.isAgg91⟩
instance : TySize Try.prog 91 1 := ⟨sz91⟩
instance : TyUnd Try.prog 91 (.slice 4) := ⟨Try.underlying91, Try.runUnderlying91⟩
instance : TyZero Try.prog 91 (.slice none 0 0) := ⟨Try.zeroValue91⟩
-- 93 struct { b []uint8; p int }
theorem sz93 (w : World) : (sizeOf 93).run Try.prog w = .ok 2 w := by simp [sizeOf, Try.typeInfo93]; rfl
instance : TyAgg Try.prog 93 2 := ⟨Try.isAgg93, sz93⟩
instance : TySize Try.prog 93 2 := ⟨sz93⟩
instance : TyZero Try.prog 93 (.agg #[.slice none 0 0, .int .i64 0]) := ⟨Try.zeroValue93⟩
-- 94 spec.reader
theorem sz94 (w : World) : (sizeOf 94).run Try.prog w = .ok 2 w := by simp [sizeOf, Try.typeInfo94]; rfl
instance : TyAgg Try.prog 94 2 := ⟨Try.isAgg94, sz94⟩
instance : TySize Try.prog 94 2 := ⟨sz94⟩
instance : TyZero Try.prog 94 (.agg #[.slice none 0 0, .int .i64 0]) := ⟨Try.zeroValue94⟩
-- 97 []impl.Plan
theorem sz97 (w : World) : (sizeOf 97).run Try.prog w = .ok 1 w := by simp [sizeOf, Try.typeInfo97]; rfl
instance : TyCell Try.prog 97 := ⟨Try.isAgg97⟩
instance : TySize Try.prog 97 1 := ⟨sz97⟩
instance : TyUnd Try.prog 97 (.slice 99) := ⟨Try.underlying97, Try.runUnderlying97⟩
instance : TyZero Try.prog 97 (.slice none 0 0) := ⟨Try.zeroValue97⟩
-- 98 struct { Op int; At int; Pane int; Turned bool; Kids []impl.Plan }
theorem sz98 (w : World) : (sizeOf 98).run Try.prog w = .ok 5 w := by simp [sizeOf, Try.typeInfo98]; rfl
instance : TyAgg Try.prog 98 5 := ⟨Try.isAgg98, sz98⟩
instance : TySize Try.prog 98 5 := ⟨sz98⟩
instance : TyZero Try.prog 98 (.agg #[.int .i64 0, .int .i64 0, .int .i64 0, .bool false, .slice none 0 0]) := ⟨Try.zeroValue98⟩
-- 99 impl.Plan
theorem sz99 (w : World) : (sizeOf 99).run Try.prog w = .ok 5 w := by simp [sizeOf, Try.typeInfo99]; rfl
instance : TyAgg Try.prog 99 5 := ⟨Try.isAgg99, sz99⟩
instance : TySize Try.prog 99 5 := ⟨sz99⟩
instance : TyZero Try.prog 99 (.agg #[.int .i64 0, .int .i64 0, .int .i64 0, .bool false, .slice none 0 0]) := ⟨Try.zeroValue99⟩
-- 104 [16][17][17]bool
theorem sz104 (w : World) : (sizeOf 104).run Try.prog w = .ok 4624 w := by simp [sizeOf, Try.typeInfo104]; rfl
instance : TyAgg Try.prog 104 4624 := ⟨Try.isAgg104, sz104⟩
instance : TySize Try.prog 104 4624 := ⟨sz104⟩
instance : TyUnd Try.prog 104 (.array 16 86) := ⟨Try.underlying104, Try.runUnderlying104⟩
instance : TyZero Try.prog 104 (.agg (Array.replicate 4624 (.bool false))) := ⟨fun w => (Try.zeroValue104 w).trans (congrArg (fun z => Result.ok (Value.agg z) w) (by kernel_rfl))⟩
-- 105 impl.setTable
theorem sz105 (w : World) : (sizeOf 105).run Try.prog w = .ok 4624 w := by simp [sizeOf, Try.typeInfo105]; rfl
instance : TyAgg Try.prog 105 4624 := ⟨Try.isAgg105, sz105⟩
instance : TySize Try.prog 105 4624 := ⟨sz105⟩
instance : TyUnd Try.prog 105 (.array 16 86) := ⟨Try.underlying105, Try.runUnderlying105⟩
instance : TyZero Try.prog 105 (.agg (Array.replicate 4624 (.bool false))) := ⟨fun w => (Try.zeroValue105 w).trans (congrArg (fun z => Result.ok (Value.agg z) w) (by kernel_rfl))⟩
-- 113 uint
theorem sz113 (w : World) : (sizeOf 113).run Try.prog w = .ok 1 w := by simp [sizeOf, Try.typeInfo113]; rfl
instance : TyCell Try.prog 113 := ⟨Try.isAgg113⟩
instance : TySize Try.prog 113 1 := ⟨sz113⟩
instance : TyUnd Try.prog 113 (.int .u64) := ⟨Try.underlying113, Try.runUnderlying113⟩
instance : TyZero Try.prog 113 (.int .u64 0) := ⟨Try.zeroValue113⟩
-- 121 uint32
theorem sz121 (w : World) : (sizeOf 121).run Try.prog w = .ok 1 w := by simp [sizeOf, Try.typeInfo121]; rfl
instance : TyCell Try.prog 121 := ⟨Try.isAgg121⟩
instance : TySize Try.prog 121 1 := ⟨sz121⟩
instance : TyUnd Try.prog 121 (.int .u32) := ⟨Try.underlying121, Try.runUnderlying121⟩
instance : TyZero Try.prog 121 (.int .u32 0) := ⟨Try.zeroValue121⟩
-- 125 *uint8
theorem sz125 (w : World) : (sizeOf 125).run Try.prog w = .ok 1 w := by simp [sizeOf, Try.typeInfo125]; rfl
instance : TyCell Try.prog 125 := ⟨Try.isAgg125⟩
instance : TySize Try.prog 125 1 := ⟨sz125⟩
instance : TyUnd Try.prog 125 (.pointer 5) := ⟨Try.underlying125, Try.runUnderlying125⟩
instance : TyZero Try.prog 125 (.pointer none) := ⟨Try.zeroValue125⟩
instance : TyField Try.prog 27 0 0 := ⟨fun b o w => by simp [Instr.fieldAt, Try.runUnderlying27, Instr.sureAddr, fieldPlace, add_lit]⟩
instance : TyField Try.prog 27 1 1 := ⟨fun b o w => by simp [Instr.fieldAt, Try.runUnderlying27, Instr.sureAddr, fieldPlace, add_lit]⟩
instance : TyField Try.prog 27 2 2 := ⟨fun b o w => by simp [Instr.fieldAt, Try.runUnderlying27, Instr.sureAddr, fieldPlace, add_lit]⟩
instance : TyField Try.prog 27 3 3 := ⟨fun b o w => by simp [Instr.fieldAt, Try.runUnderlying27, Instr.sureAddr, fieldPlace, add_lit]⟩
instance : TyField Try.prog 28 0 0 := ⟨fun b o w => by simp [Instr.fieldAt, Try.runUnderlying28, Instr.sureAddr, fieldPlace, add_lit]⟩
instance : TyField Try.prog 28 1 1 := ⟨fun b o w => by simp [Instr.fieldAt, Try.runUnderlying28, Instr.sureAddr, fieldPlace, add_lit]⟩
instance : TyField Try.prog 28 2 2 := ⟨fun b o w => by simp [Instr.fieldAt, Try.runUnderlying28, Instr.sureAddr, fieldPlace, add_lit]⟩
instance : TyField Try.prog 28 3 3 := ⟨fun b o w => by simp [Instr.fieldAt, Try.runUnderlying28, Instr.sureAddr, fieldPlace, add_lit]⟩
instance : TyField Try.prog 41 0 0 := ⟨fun b o w => by simp [Instr.fieldAt, Try.runUnderlying41, Instr.sureAddr, fieldPlace, add_lit]⟩
instance : TyField Try.prog 41 1 1 := ⟨fun b o w => by simp [Instr.fieldAt, Try.runUnderlying41, Instr.sureAddr, fieldPlace, add_lit]⟩
instance : TyField Try.prog 41 2 2 := ⟨fun b o w => by simp [Instr.fieldAt, Try.runUnderlying41, Instr.sureAddr, fieldPlace, add_lit]⟩
instance : TyField Try.prog 42 0 0 := ⟨fun b o w => by simp [Instr.fieldAt, Try.runUnderlying42, Instr.sureAddr, fieldPlace, add_lit]⟩
instance : TyField Try.prog 42 1 1 := ⟨fun b o w => by simp [Instr.fieldAt, Try.runUnderlying42, Instr.sureAddr, fieldPlace, add_lit]⟩
instance : TyField Try.prog 42 2 2 := ⟨fun b o w => by simp [Instr.fieldAt, Try.runUnderlying42, Instr.sureAddr, fieldPlace, add_lit]⟩
instance : TyField Try.prog 45 0 0 := ⟨fun b o w => by simp [Instr.fieldAt, Try.runUnderlying45, Instr.sureAddr, fieldPlace, add_lit]⟩
instance : TyField Try.prog 45 1 1 := ⟨fun b o w => by simp [Instr.fieldAt, Try.runUnderlying45, Instr.sureAddr, fieldPlace, add_lit]⟩
instance : TyField Try.prog 45 2 2 := ⟨fun b o w => by simp [Instr.fieldAt, Try.runUnderlying45, Instr.sureAddr, fieldPlace, add_lit]⟩
instance : TyField Try.prog 46 0 0 := ⟨fun b o w => by simp [Instr.fieldAt, Try.runUnderlying46, Instr.sureAddr, fieldPlace, add_lit]⟩
instance : TyField Try.prog 46 1 1 := ⟨fun b o w => by simp [Instr.fieldAt, Try.runUnderlying46, Instr.sureAddr, fieldPlace, add_lit]⟩
instance : TyField Try.prog 46 2 2 := ⟨fun b o w => by simp [Instr.fieldAt, Try.runUnderlying46, Instr.sureAddr, fieldPlace, add_lit]⟩
instance : TyField Try.prog 70 0 0 := ⟨fun b o w => by simp [Instr.fieldAt, Try.runUnderlying70, Instr.sureAddr, fieldPlace, add_lit]⟩
instance : TyField Try.prog 70 1 1 := ⟨fun b o w => by simp [Instr.fieldAt, Try.runUnderlying70, Instr.sureAddr, fieldPlace, add_lit]⟩
instance : TyField Try.prog 70 2 2 := ⟨fun b o w => by simp [Instr.fieldAt, Try.runUnderlying70, Instr.sureAddr, fieldPlace, add_lit]⟩
instance : TyField Try.prog 70 3 3 := ⟨fun b o w => by simp [Instr.fieldAt, Try.runUnderlying70, Instr.sureAddr, fieldPlace, add_lit]⟩
instance : TyField Try.prog 93 0 0 := ⟨fun b o w => by simp [Instr.fieldAt, Try.runUnderlying93, Instr.sureAddr, fieldPlace, add_lit]⟩
instance : TyField Try.prog 93 1 1 := ⟨fun b o w => by simp [Instr.fieldAt, Try.runUnderlying93, Instr.sureAddr, fieldPlace, add_lit]⟩
instance : TyField Try.prog 94 0 0 := ⟨fun b o w => by simp [Instr.fieldAt, Try.runUnderlying94, Instr.sureAddr, fieldPlace, add_lit]⟩
instance : TyField Try.prog 94 1 1 := ⟨fun b o w => by simp [Instr.fieldAt, Try.runUnderlying94, Instr.sureAddr, fieldPlace, add_lit]⟩
instance : TyField Try.prog 98 0 0 := ⟨fun b o w => by simp [Instr.fieldAt, Try.runUnderlying98, Instr.sureAddr, fieldPlace, add_lit]⟩
instance : TyField Try.prog 98 1 1 := ⟨fun b o w => by simp [Instr.fieldAt, Try.runUnderlying98, Instr.sureAddr, fieldPlace, add_lit]⟩
instance : TyField Try.prog 98 2 2 := ⟨fun b o w => by simp [Instr.fieldAt, Try.runUnderlying98, Instr.sureAddr, fieldPlace, add_lit]⟩
instance : TyField Try.prog 98 3 3 := ⟨fun b o w => by simp [Instr.fieldAt, Try.runUnderlying98, Instr.sureAddr, fieldPlace, add_lit]⟩
instance : TyField Try.prog 98 4 4 := ⟨fun b o w => by simp [Instr.fieldAt, Try.runUnderlying98, Instr.sureAddr, fieldPlace, add_lit]⟩
instance : TyField Try.prog 99 0 0 := ⟨fun b o w => by simp [Instr.fieldAt, Try.runUnderlying99, Instr.sureAddr, fieldPlace, add_lit]⟩
instance : TyField Try.prog 99 1 1 := ⟨fun b o w => by simp [Instr.fieldAt, Try.runUnderlying99, Instr.sureAddr, fieldPlace, add_lit]⟩
instance : TyField Try.prog 99 2 2 := ⟨fun b o w => by simp [Instr.fieldAt, Try.runUnderlying99, Instr.sureAddr, fieldPlace, add_lit]⟩
instance : TyField Try.prog 99 3 3 := ⟨fun b o w => by simp [Instr.fieldAt, Try.runUnderlying99, Instr.sureAddr, fieldPlace, add_lit]⟩
instance : TyField Try.prog 99 4 4 := ⟨fun b o w => by simp [Instr.fieldAt, Try.runUnderlying99, Instr.sureAddr, fieldPlace, add_lit]⟩
instance : TyElem Try.prog 22 5 1 [.int .u8 0] := ⟨Try.underlying22, Try.runUnderlying22, sz5, ⟨_, Try.zeroValue5, rfl⟩, rfl, by decide, ⟨Try.t5, _, by kernel_rfl, rfl, rfl, rfl, by decide⟩⟩
instance : TyElem Try.prog 23 28 4 [.int .i64 0, .int .i64 0, .bool false, .int .i64 0] := ⟨Try.underlying23, Try.runUnderlying23, sz28, ⟨_, Try.zeroValue28, rfl⟩, rfl, by decide, ⟨Try.t28, _, by kernel_rfl, rfl, rfl, rfl, by decide⟩⟩
instance : TyBuild Try.prog 27 [.int .i64 0, .int .i64 0, .bool false, .int .i64 0] [(0, 1), (1, 1), (2, 1), (3, 1)] := TyBuild.of Try.zeroValue27 Try.runUnderlying27 (fun w => by simp)
instance : TyBuild Try.prog 28 [.int .i64 0, .int .i64 0, .bool false, .int .i64 0] [(0, 1), (1, 1), (2, 1), (3, 1)] := TyBuild.of Try.zeroValue28 Try.runUnderlying28 (fun w => by simp)
instance : TyElem Try.prog 30 70 4 [.int .i64 0, .int .i64 0, .bool false, .int .i64 0] := ⟨Try.underlying30, Try.runUnderlying30, sz70, ⟨_, Try.zeroValue70, rfl⟩, rfl, by decide, ⟨Try.t70, _, by kernel_rfl, rfl, rfl, rfl, by decide⟩⟩
instance : TyElem Try.prog 35 3 1 [.int .i64 0] := ⟨Try.underlying35, Try.runUnderlying35, sz3, ⟨_, Try.zeroValue3, rfl⟩, rfl, by decide, ⟨Try.t3, _, by kernel_rfl, rfl, rfl, rfl, by decide⟩⟩
instance : TyBuild Try.prog 41 [.int .i64 0, .int .i64 0, .slice none 0 0] [(0, 1), (1, 1), (2, 1)] := TyBuild.of Try.zeroValue41 Try.runUnderlying41 (fun w => by simp)
instance : TyBuild Try.prog 42 [.int .i64 0, .int .i64 0, .slice none 0 0] [(0, 1), (1, 1), (2, 1)] := TyBuild.of Try.zeroValue42 Try.runUnderlying42 (fun w => by simp)
instance : TyBuild Try.prog 45 [.int .i64 0, .int .i64 0, .slice none 0 0] [(0, 1), (1, 1), (2, 1)] := TyBuild.of Try.zeroValue45 Try.runUnderlying45 (fun w => by simp)
instance : TyBuild Try.prog 46 [.int .i64 0, .int .i64 0, .slice none 0 0] [(0, 1), (1, 1), (2, 1)] := TyBuild.of Try.zeroValue46 Try.runUnderlying46 (fun w => by simp)
instance : TyElem Try.prog 65 35 1 [.slice none 0 0] := ⟨Try.underlying65, Try.runUnderlying65, sz35, ⟨_, Try.zeroValue35, rfl⟩, rfl, by decide, ⟨Try.t35, _, by kernel_rfl, rfl, rfl, rfl, by decide⟩⟩
instance : TyBuild Try.prog 70 [.int .i64 0, .int .i64 0, .bool false, .int .i64 0] [(0, 1), (1, 1), (2, 1), (3, 1)] := TyBuild.of Try.zeroValue70 Try.runUnderlying70 (fun w => by simp)
instance : TyElem Try.prog 89 91 1 [.slice none 0 0] := ⟨Try.underlying89, Try.runUnderlying89, sz91, ⟨_, Try.zeroValue91, rfl⟩, rfl, by decide, ⟨Try.t91, _, by kernel_rfl, rfl, rfl, rfl, by decide⟩⟩
instance : TyElem Try.prog 91 4 1 [.bool false] := ⟨Try.underlying91, Try.runUnderlying91, sz4, ⟨_, Try.zeroValue4, rfl⟩, rfl, by decide, ⟨Try.t4, _, by kernel_rfl, rfl, rfl, rfl, by decide⟩⟩
instance : TyBuild Try.prog 93 [.slice none 0 0, .int .i64 0] [(0, 1), (1, 1)] := TyBuild.of Try.zeroValue93 Try.runUnderlying93 (fun w => by simp)
instance : TyBuild Try.prog 94 [.slice none 0 0, .int .i64 0] [(0, 1), (1, 1)] := TyBuild.of Try.zeroValue94 Try.runUnderlying94 (fun w => by simp)
instance : TyElem Try.prog 97 99 5 [.int .i64 0, .int .i64 0, .int .i64 0, .bool false, .slice none 0 0] := ⟨Try.underlying97, Try.runUnderlying97, sz99, ⟨_, Try.zeroValue99, rfl⟩, rfl, by decide, ⟨Try.t99, _, by kernel_rfl, rfl, rfl, rfl, by decide⟩⟩
instance : TyBuild Try.prog 98 [.int .i64 0, .int .i64 0, .int .i64 0, .bool false, .slice none 0 0] [(0, 1), (1, 1), (2, 1), (3, 1), (4, 1)] := TyBuild.of Try.zeroValue98 Try.runUnderlying98 (fun w => by simp)
instance : TyBuild Try.prog 99 [.int .i64 0, .int .i64 0, .int .i64 0, .bool false, .slice none 0 0] [(0, 1), (1, 1), (2, 1), (3, 1), (4, 1)] := TyBuild.of Try.zeroValue99 Try.runUnderlying99 (fun w => by simp)
-- loop.example/panecutter/laws.FnBatchesFor
instance : TyFn Try.prog 3 := TyFn.of Try.func3 (by kernel_rfl) rfl
-- loop.example/panecutter/laws.FnExactBatchesFor
instance : TyFn Try.prog 4 := TyFn.of Try.func4 (by kernel_rfl) rfl
-- loop.example/panecutter/laws.FnFewestBars
instance : TyFn Try.prog 5 := TyFn.of Try.func5 (by kernel_rfl) rfl
-- loop.example/panecutter/laws.FnExactBestValue
instance : TyFn Try.prog 6 := TyFn.of Try.func6 (by kernel_rfl) rfl
-- loop.example/panecutter/laws.FnCutsFromTurned
instance : TyFn Try.prog 7 := TyFn.of Try.func7 (by kernel_rfl) rfl
-- loop.example/panecutter/laws.FnCutsFrom
instance : TyFn Try.prog 8 := TyFn.of Try.func8 (by kernel_rfl) rfl
-- loop.example/panecutter/laws.FnExactCutsFrom
instance : TyFn Try.prog 9 := TyFn.of Try.func9 (by kernel_rfl) rfl
-- loop.example/panecutter/laws.FnFewestSheetsLess
instance : TyFn Try.prog 10 := TyFn.of Try.func10 (by kernel_rfl) rfl
-- loop.example/panecutter/laws.FnExactFewestSheets
instance : TyFn Try.prog 11 := TyFn.of Try.func11 (by kernel_rfl) rfl
-- loop.example/panecutter/spec.DrawBatchesFor
instance : TyFn Try.prog 12 := TyFn.of Try.func12 (by kernel_rfl) rfl
-- loop.example/panecutter/impl.BatchesFor
instance : TyFn Try.prog 13 := TyFn.of Try.func13 (by kernel_rfl) rfl
-- loop.example/panecutter/spec.BatchesFor
instance : TyFn Try.prog 14 := TyFn.of Try.func14 (by kernel_rfl) rfl
-- loop.example/panecutter/laws.szPaneS
instance : TyFn Try.prog 15 := TyFn.of Try.func15 (by kernel_rfl) rfl
-- loop.example/panecutter/laws.toPaneS
instance : TyFn Try.prog 16 := TyFn.of Try.func16 (by kernel_rfl) rfl
-- loop.example/panecutter/laws.eqPaneS
instance : TyFn Try.prog 17 := TyFn.of Try.func17 (by kernel_rfl) rfl
-- loop.example/panecutter/spec.DrawFewestBars
instance : TyFn Try.prog 18 := TyFn.of Try.func18 (by kernel_rfl) rfl
-- loop.example/panecutter/impl.FewestBars
instance : TyFn Try.prog 19 := TyFn.of Try.func19 (by kernel_rfl) rfl
-- loop.example/panecutter/spec.FewestBars
instance : TyFn Try.prog 20 := TyFn.of Try.func20 (by kernel_rfl) rfl
-- loop.example/panecutter/laws.highest
instance : TyFn Try.prog 21 := TyFn.of Try.func21 (by kernel_rfl) rfl
-- loop.example/panecutter/impl.FirstFit
instance : TyFn Try.prog 22 := TyFn.of Try.func22 (by kernel_rfl) rfl
-- loop.example/panecutter/impl.FirstFitDown
instance : TyFn Try.prog 23 := TyFn.of Try.func23 (by kernel_rfl) rfl
-- loop.example/panecutter/laws.total
instance : TyFn Try.prog 24 := TyFn.of Try.func24 (by kernel_rfl) rfl
-- loop.example/panecutter/laws.szWork
instance : TyFn Try.prog 25 := TyFn.of Try.func25 (by kernel_rfl) rfl
-- loop.example/panecutter/spec.BestValue
instance : TyFn Try.prog 26 := TyFn.of Try.func26 (by kernel_rfl) rfl
-- loop.example/panecutter/laws.toWork
instance : TyFn Try.prog 27 := TyFn.of Try.func27 (by kernel_rfl) rfl
-- loop.example/panecutter/laws.toIntS
instance : TyFn Try.prog 28 := TyFn.of Try.func28 (by kernel_rfl) rfl
-- loop.example/panecutter/impl.BestValue
instance : TyFn Try.prog 29 := TyFn.of Try.func29 (by kernel_rfl) rfl
-- loop.example/panecutter/laws.eqWork
instance : TyFn Try.prog 30 := TyFn.of Try.func30 (by kernel_rfl) rfl
-- loop.example/panecutter/laws.eqIntS
instance : TyFn Try.prog 31 := TyFn.of Try.func31 (by kernel_rfl) rfl
-- loop.example/panecutter/spec.DrawCutsFrom
instance : TyFn Try.prog 32 := TyFn.of Try.func32 (by kernel_rfl) rfl
-- loop.example/panecutter/impl.CutsFrom
instance : TyFn Try.prog 33 := TyFn.of Try.func33 (by kernel_rfl) rfl
-- loop.example/panecutter/spec.CutsFrom
instance : TyFn Try.prog 34 := TyFn.of Try.func34 (by kernel_rfl) rfl
-- loop.example/panecutter/impl.ValidWork
instance : TyFn Try.prog 35 := TyFn.of Try.func35 (by kernel_rfl) rfl
-- loop.example/panecutter/impl.TurnPane
instance : TyFn Try.prog 36 := TyFn.of Try.func36 (by kernel_rfl) rfl
-- loop.example/panecutter/impl.AreaBound
instance : TyFn Try.prog 37 := TyFn.of Try.func37 (by kernel_rfl) rfl
-- loop.example/panecutter/spec.DrawFewestSheets
instance : TyFn Try.prog 38 := TyFn.of Try.func38 (by kernel_rfl) rfl
-- loop.example/panecutter/impl.FewestSheets
instance : TyFn Try.prog 39 := TyFn.of Try.func39 (by kernel_rfl) rfl
-- loop.example/panecutter/spec.FewestSheets
instance : TyFn Try.prog 40 := TyFn.of Try.func40 (by kernel_rfl) rfl
-- loop.example/panecutter/spec.newReader
instance : TyFn Try.prog 41 := TyFn.of Try.func41 (by kernel_rfl) rfl
-- (*loop.example/panecutter/spec.reader).one
instance : TyFn Try.prog 42 := TyFn.of Try.func42 (by kernel_rfl) rfl
-- loop.example/panecutter/spec.somePane
instance : TyFn Try.prog 43 := TyFn.of Try.func43 (by kernel_rfl) rfl
-- (*loop.example/panecutter/spec.reader).pick
instance : TyFn Try.prog 44 := TyFn.of Try.func44 (by kernel_rfl) rfl
-- loop.example/panecutter/spec.anyPane
instance : TyFn Try.prog 45 := TyFn.of Try.func45 (by kernel_rfl) rfl
-- loop.example/panecutter/impl.ValidPane
instance : TyFn Try.prog 46 := TyFn.of Try.func46 (by kernel_rfl) rfl
-- loop.example/panecutter/spec.validPanes
instance : TyFn Try.prog 47 := TyFn.of Try.func47 (by kernel_rfl) rfl
-- loop.example/panecutter/spec.inRange
instance : TyFn Try.prog 48 := TyFn.of Try.func48 (by kernel_rfl) rfl
-- loop.example/panecutter/spec.kindBatches
instance : TyFn Try.prog 49 := TyFn.of Try.func49 (by kernel_rfl) rfl
-- loop.example/panecutter/spec.validBars
instance : TyFn Try.prog 50 := TyFn.of Try.func50 (by kernel_rfl) rfl
-- loop.example/panecutter/spec.stacksFor
instance : TyFn Try.prog 51 := TyFn.of Try.func51 (by kernel_rfl) rfl
-- loop.example/panecutter/spec.firstFit
instance : TyFn Try.prog 52 := TyFn.of Try.func52 (by kernel_rfl) rfl
-- loop.example/panecutter/spec.falling
instance : TyFn Try.prog 53 := TyFn.of Try.func53 (by kernel_rfl) rfl
-- loop.example/panecutter/laws.toPane
instance : TyFn Try.prog 54 := TyFn.of Try.func54 (by kernel_rfl) rfl
-- loop.example/panecutter/laws.eqPane
instance : TyFn Try.prog 55 := TyFn.of Try.func55 (by kernel_rfl) rfl
-- loop.example/panecutter/spec.barLengths
instance : TyFn Try.prog 56 := TyFn.of Try.func56 (by kernel_rfl) rfl
-- loop.example/panecutter/impl.barLengths
instance : TyFn Try.prog 57 := TyFn.of Try.func57 (by kernel_rfl) rfl
-- loop.example/panecutter/impl.fewestGroups
instance : TyFn Try.prog 58 := TyFn.of Try.func58 (by kernel_rfl) rfl
-- loop.example/panecutter/impl.FewestBars$1
instance : TyFn Try.prog 59 := TyFn.of Try.func59 (by kernel_rfl) rfl
-- loop.example/panecutter/impl.sumIn
instance : TyFn Try.prog 60 := TyFn.of Try.func60 (by kernel_rfl) rfl
-- loop.example/panecutter/spec.fewest
instance : TyFn Try.prog 61 := TyFn.of Try.func61 (by kernel_rfl) rfl
-- loop.example/panecutter/impl.fitInOrder
instance : TyFn Try.prog 62 := TyFn.of Try.func62 (by kernel_rfl) rfl
-- loop.example/panecutter/impl.indicesBy
instance : TyFn Try.prog 63 := TyFn.of Try.func63 (by kernel_rfl) rfl
-- loop.example/panecutter/impl.FirstFit$1
instance : TyFn Try.prog 64 := TyFn.of Try.func64 (by kernel_rfl) rfl
-- loop.example/panecutter/impl.falling
instance : TyFn Try.prog 65 := TyFn.of Try.func65 (by kernel_rfl) rfl
-- loop.example/panecutter/spec.validValues
instance : TyFn Try.prog 66 := TyFn.of Try.func66 (by kernel_rfl) rfl
-- loop.example/panecutter/spec.valueTable
instance : TyFn Try.prog 67 := TyFn.of Try.func67 (by kernel_rfl) rfl
-- loop.example/panecutter/impl.bestTold
instance : TyFn Try.prog 68 := TyFn.of Try.func68 (by kernel_rfl) rfl
-- loop.example/panecutter/impl.valuesOf
instance : TyFn Try.prog 69 := TyFn.of Try.func69 (by kernel_rfl) rfl
-- loop.example/panecutter/spec.fewWork
instance : TyFn Try.prog 70 := TyFn.of Try.func70 (by kernel_rfl) rfl
-- loop.example/panecutter/impl.cutsTold
instance : TyFn Try.prog 71 := TyFn.of Try.func71 (by kernel_rfl) rfl
-- loop.example/panecutter/impl.setsOf
instance : TyFn Try.prog 72 := TyFn.of Try.func72 (by kernel_rfl) rfl
-- loop.example/panecutter/spec.validFew
instance : TyFn Try.prog 73 := TyFn.of Try.func73 (by kernel_rfl) rfl
-- loop.example/panecutter/spec.cutTable
instance : TyFn Try.prog 74 := TyFn.of Try.func74 (by kernel_rfl) rfl
-- loop.example/panecutter/impl.swapSides
instance : TyFn Try.prog 75 := TyFn.of Try.func75 (by kernel_rfl) rfl
-- loop.example/panecutter/impl.roundUp
instance : TyFn Try.prog 76 := TyFn.of Try.func76 (by kernel_rfl) rfl
-- loop.example/panecutter/impl.FewestSheets$1
instance : TyFn Try.prog 77 := TyFn.of Try.func77 (by kernel_rfl) rfl
-- loop.example/panecutter/spec.sheetTable
instance : TyFn Try.prog 78 := TyFn.of Try.func78 (by kernel_rfl) rfl
-- loop.example/panecutter/spec.validPane
instance : TyFn Try.prog 79 := TyFn.of Try.func79 (by kernel_rfl) rfl
-- loop.example/panecutter/spec.copyInts
instance : TyFn Try.prog 80 := TyFn.of Try.func80 (by kernel_rfl) rfl
-- loop.example/panecutter/spec.power
instance : TyFn Try.prog 81 := TyFn.of Try.func81 (by kernel_rfl) rfl
-- loop.example/panecutter/spec.has
instance : TyFn Try.prog 82 := TyFn.of Try.func82 (by kernel_rfl) rfl
-- loop.example/panecutter/spec.inside
instance : TyFn Try.prog 83 := TyFn.of Try.func83 (by kernel_rfl) rfl
-- slices.SortStableFunc[[]int,int]
instance : TyFn Try.prog 84 := TyFn.of Try.func84 (by kernel_rfl) rfl
-- loop.example/panecutter/impl.falling$1
instance : TyFn Try.prog 85 := TyFn.of Try.func85 (by kernel_rfl) rfl
-- loop.example/panecutter/spec.validWork
instance : TyFn Try.prog 86 := TyFn.of Try.func86 (by kernel_rfl) rfl
-- loop.example/panecutter/spec.leafValue
instance : TyFn Try.prog 87 := TyFn.of Try.func87 (by kernel_rfl) rfl
-- loop.example/panecutter/impl.bestPane
instance : TyFn Try.prog 88 := TyFn.of Try.func88 (by kernel_rfl) rfl
-- loop.example/panecutter/spec.anySheetWork
instance : TyFn Try.prog 89 := TyFn.of Try.func89 (by kernel_rfl) rfl
-- loop.example/panecutter/impl.WaysIn
instance : TyFn Try.prog 90 := TyFn.of Try.func90 (by kernel_rfl) rfl
-- (*loop.example/panecutter/impl.setTable).partsInto
instance : TyFn Try.prog 91 := TyFn.of Try.func91 (by kernel_rfl) rfl
-- loop.example/panecutter/spec.waysIn
instance : TyFn Try.prog 92 := TyFn.of Try.func92 (by kernel_rfl) rfl
-- loop.example/panecutter/spec.onlyPane
instance : TyFn Try.prog 93 := TyFn.of Try.func93 (by kernel_rfl) rfl
-- loop.example/panecutter/spec.twoSets
instance : TyFn Try.prog 94 := TyFn.of Try.func94 (by kernel_rfl) rfl
-- slices.stableCmpFunc[int]
instance : TyFn Try.prog 95 := TyFn.of Try.func95 (by kernel_rfl) rfl
-- loop.example/panecutter/spec.fitsPlan
instance : TyFn Try.prog 96 := TyFn.of Try.func96 (by kernel_rfl) rfl
-- loop.example/panecutter/impl.paneFills
instance : TyFn Try.prog 97 := TyFn.of Try.func97 (by kernel_rfl) rfl
-- loop.example/panecutter/spec.sheetWork
instance : TyFn Try.prog 98 := TyFn.of Try.func98 (by kernel_rfl) rfl
-- slices.insertionSortCmpFunc[int]
instance : TyFn Try.prog 99 := TyFn.of Try.func99 (by kernel_rfl) rfl
-- slices.symMergeCmpFunc[int]
instance : TyFn Try.prog 100 := TyFn.of Try.func100 (by kernel_rfl) rfl
-- slices.rotateCmpFunc[int]
instance : TyFn Try.prog 101 := TyFn.of Try.func101 (by kernel_rfl) rfl
-- slices.swapRangeCmpFunc[int]
instance : TyFn Try.prog 102 := TyFn.of Try.func102 (by kernel_rfl) rfl
end Go.Proofs.Ytkojheinklgdeaa
