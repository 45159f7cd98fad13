/-
  The facts on the types of this seat's translation, by program.
-/
import Derived.Test.YtlpjienaennmaaaV7
import Derived.Test.YtlpjienaennmaaaProg
import Derived.KernelRfl
namespace Go.Proofs.Ytlpjienaennmaaa
open Go

-- 2 int64
theorem sz2 (w : World) : (sizeOf 2).run Try.prog w = .ok 1 w := by simp [sizeOf, Try.typeInfo2]; rfl
instance : TyCell Try.prog 2 := ⟨Try.isAgg2⟩
instance : TySize Try.prog 2 1 := ⟨sz2⟩
instance : TyUnd Try.prog 2 (.int .i64) := ⟨Try.underlying2, Try.runUnderlying2⟩
instance : TyZero Try.prog 2 (.int .i64 0) := ⟨Try.zeroValue2⟩
-- 3 int
theorem sz3 (w : World) : (sizeOf 3).run Try.prog w = .ok 1 w := by simp [sizeOf, Try.typeInfo3]; rfl
instance : TyCell Try.prog 3 := ⟨Try.isAgg3⟩
instance : TySize Try.prog 3 1 := ⟨sz3⟩
instance : TyUnd Try.prog 3 (.int .i64) := ⟨Try.underlying3, Try.runUnderlying3⟩
instance : TyZero Try.prog 3 (.int .i64 0) := ⟨Try.zeroValue3⟩
-- 4 bool
theorem sz4 (w : World) : (sizeOf 4).run Try.prog w = .ok 1 w := by simp [sizeOf, Try.typeInfo4]; rfl
instance : TyCell Try.prog 4 := ⟨Try.isAgg4⟩
instance : TySize Try.prog 4 1 := ⟨sz4⟩
instance : TyUnd Try.prog 4 (.bool) := ⟨Try.underlying4, Try.runUnderlying4⟩
instance : TyZero Try.prog 4 (.bool false) := ⟨Try.zeroValue4⟩
-- 5 uint8
theorem sz5 (w : World) : (sizeOf 5).run Try.prog w = .ok 1 w := by simp [sizeOf, Try.typeInfo5]; rfl
instance : TyCell Try.prog 5 := ⟨Try.isAgg5⟩
instance : TySize Try.prog 5 1 := ⟨sz5⟩
instance : TyUnd Try.prog 5 (.int .u8) := ⟨Try.underlying5, Try.runUnderlying5⟩
instance : TyZero Try.prog 5 (.int .u8 0) := ⟨Try.zeroValue5⟩
-- 9 string
theorem sz9 (w : World) : (sizeOf 9).run Try.prog w = .ok 1 w := by simp [sizeOf, Try.typeInfo9]; rfl
instance : TyCell Try.prog 9 := ⟨Try.isAgg9⟩
instance : TySize Try.prog 9 1 := ⟨sz9⟩
instance : TyUnd Try.prog 9 (.string) := ⟨Try.underlying9, Try.runUnderlying9⟩
instance : TyZero Try.prog 9 (.string ByteArray.empty) := ⟨Try.zeroValue9⟩
-- 12 uintptr
theorem sz12 (w : World) : (sizeOf 12).run Try.prog w = .ok 1 w := by simp [sizeOf, Try.typeInfo12]; rfl
instance : TyCell Try.prog 12 := ⟨Try.isAgg12⟩
instance : TySize Try.prog 12 1 := ⟨sz12⟩
instance : TyUnd Try.prog 12 (.int .u64) := ⟨Try.underlying12, Try.runUnderlying12⟩
instance : TyZero Try.prog 12 (.int .u64 0) := ⟨Try.zeroValue12⟩
-- 21 int32
theorem sz21 (w : World) : (sizeOf 21).run Try.prog w = .ok 1 w := by simp [sizeOf, Try.typeInfo21]; rfl
instance : TyCell Try.prog 21 := ⟨Try.isAgg21⟩
instance : TySize Try.prog 21 1 := ⟨sz21⟩
instance : TyUnd Try.prog 21 (.int .i32) := ⟨Try.underlying21, Try.runUnderlying21⟩
instance : TyZero Try.prog 21 (.int .i32 0) := ⟨Try.zeroValue21⟩
-- 22 []uint8
theorem sz22 (w : World) : (sizeOf 22).run Try.prog w = .ok 1 w := by simp [sizeOf, Try.typeInfo22]; rfl
instance : TyCell Try.prog 22 := ⟨Try.isAgg22⟩
instance : TySize Try.prog 22 1 := ⟨sz22⟩
instance : TyUnd Try.prog 22 (.slice 5) := ⟨Try.underlying22, Try.runUnderlying22⟩
instance : TyZero Try.prog 22 (.slice none 0 0) := ⟨Try.zeroValue22⟩
-- 23 []impl.Pane
theorem sz23 (w : World) : (sizeOf 23).run Try.prog w = .ok 1 w := by simp [sizeOf, Try.typeInfo23]; rfl
instance : TyCell Try.prog 23 := ⟨Try.isAgg23⟩
instance : TySize Try.prog 23 1 := ⟨sz23⟩
instance : TyUnd Try.prog 23 (.slice 120) := ⟨Try.underlying23, Try.runUnderlying23⟩
instance : TyZero Try.prog 23 (.slice none 0 0) := ⟨Try.zeroValue23⟩
-- 24 struct { W int; H int; Panes []impl.Pane }
theorem sz24 (w : World) : (sizeOf 24).run Try.prog w = .ok 3 w := by simp [sizeOf, Try.typeInfo24]; rfl
instance : TyAgg Try.prog 24 3 := ⟨Try.isAgg24, sz24⟩
instance : TySize Try.prog 24 3 := ⟨sz24⟩
instance : TyZero Try.prog 24 (.agg #[.int .i64 0, .int .i64 0, .slice none 0 0]) := ⟨Try.zeroValue24⟩
-- 25 impl.Work
theorem sz25 (w : World) : (sizeOf 25).run Try.prog w = .ok 3 w := by simp [sizeOf, Try.typeInfo25]; rfl
instance : TyAgg Try.prog 25 3 := ⟨Try.isAgg25, sz25⟩
instance : TySize Try.prog 25 3 := ⟨sz25⟩
instance : TyZero Try.prog 25 (.agg #[.int .i64 0, .int .i64 0, .slice none 0 0]) := ⟨Try.zeroValue25⟩
-- 26 []impl.Plan
theorem sz26 (w : World) : (sizeOf 26).run Try.prog w = .ok 1 w := by simp [sizeOf, Try.typeInfo26]; rfl
instance : TyCell Try.prog 26 := ⟨Try.isAgg26⟩
instance : TySize Try.prog 26 1 := ⟨sz26⟩
instance : TyUnd Try.prog 26 (.slice 28) := ⟨Try.underlying26, Try.runUnderlying26⟩
instance : TyZero Try.prog 26 (.slice none 0 0) := ⟨Try.zeroValue26⟩
-- 27 struct { Op int; At int; Pane int; Turned bool; Kids []impl.Plan }
theorem sz27 (w : World) : (sizeOf 27).run Try.prog w = .ok 5 w := by simp [sizeOf, Try.typeInfo27]; rfl
instance : TyAgg Try.prog 27 5 := ⟨Try.isAgg27, sz27⟩
instance : TySize Try.prog 27 5 := ⟨sz27⟩
instance : TyZero Try.prog 27 (.agg #[.int .i64 0, .int .i64 0, .int .i64 0, .bool false, .slice none 0 0]) := ⟨Try.zeroValue27⟩
-- 28 impl.Plan
theorem sz28 (w : World) : (sizeOf 28).run Try.prog w = .ok 5 w := by simp [sizeOf, Try.typeInfo28]; rfl
instance : TyAgg Try.prog 28 5 := ⟨Try.isAgg28, sz28⟩
instance : TySize Try.prog 28 5 := ⟨sz28⟩
instance : TyZero Try.prog 28 (.agg #[.int .i64 0, .int .i64 0, .int .i64 0, .bool false, .slice none 0 0]) := ⟨Try.zeroValue28⟩
-- 31 []int
theorem sz31 (w : World) : (sizeOf 31).run Try.prog w = .ok 1 w := by simp [sizeOf, Try.typeInfo31]; rfl
instance : TyCell Try.prog 31 := ⟨Try.isAgg31⟩
instance : TySize Try.prog 31 1 := ⟨sz31⟩
instance : TyUnd Try.prog 31 (.slice 3) := ⟨Try.underlying31, Try.runUnderlying31⟩
instance : TyZero Try.prog 31 (.slice none 0 0) := ⟨Try.zeroValue31⟩
-- 35 []impl.Box
theorem sz35 (w : World) : (sizeOf 35).run Try.prog w = .ok 1 w := by simp [sizeOf, Try.typeInfo35]; rfl
instance : TyCell Try.prog 35 := ⟨Try.isAgg35⟩
instance : TySize Try.prog 35 1 := ⟨sz35⟩
instance : TyUnd Try.prog 35 (.slice 41) := ⟨Try.underlying35, Try.runUnderlying35⟩
instance : TyZero Try.prog 35 (.slice none 0 0) := ⟨Try.zeroValue35⟩
-- 37 []impl.Place
theorem sz37 (w : World) : (sizeOf 37).run Try.prog w = .ok 1 w := by simp [sizeOf, Try.typeInfo37]; rfl
instance : TyCell Try.prog 37 := ⟨Try.isAgg37⟩
instance : TySize Try.prog 37 1 := ⟨sz37⟩
instance : TyUnd Try.prog 37 (.slice 88) := ⟨Try.underlying37, Try.runUnderlying37⟩
instance : TyZero Try.prog 37 (.slice none 0 0) := ⟨Try.zeroValue37⟩
-- 40 struct { X int; Y int; W int; H int }
theorem sz40 (w : World) : (sizeOf 40).run Try.prog w = .ok 4 w := by simp [sizeOf, Try.typeInfo40]; rfl
instance : TyAgg Try.prog 40 4 := ⟨Try.isAgg40, sz40⟩
instance : TySize Try.prog 40 4 := ⟨sz40⟩
instance : TyZero Try.prog 40 (.agg #[.int .i64 0, .int .i64 0, .int .i64 0, .int .i64 0]) := ⟨Try.zeroValue40⟩
-- 41 impl.Box
theorem sz41 (w : World) : (sizeOf 41).run Try.prog w = .ok 4 w := by simp [sizeOf, Try.typeInfo41]; rfl
instance : TyAgg Try.prog 41 4 := ⟨Try.isAgg41, sz41⟩
instance : TySize Try.prog 41 4 := ⟨sz41⟩
instance : TyZero Try.prog 41 (.agg #[.int .i64 0, .int .i64 0, .int .i64 0, .int .i64 0]) := ⟨Try.zeroValue41⟩
-- 59 []laws.Pane
theorem sz59 (w : World) : (sizeOf 59).run Try.prog w = .ok 1 w := by simp [sizeOf, Try.typeInfo59]; rfl
instance : TyCell Try.prog 59 := ⟨Try.isAgg59⟩
instance : TySize Try.prog 59 1 := ⟨sz59⟩
instance : TyUnd Try.prog 59 (.slice 137) := ⟨Try.underlying59, Try.runUnderlying59⟩
instance : TyZero Try.prog 59 (.slice none 0 0) := ⟨Try.zeroValue59⟩
-- 60 struct { W int; H int; Panes []laws.Pane }
theorem sz60 (w : World) : (sizeOf 60).run Try.prog w = .ok 3 w := by simp [sizeOf, Try.typeInfo60]; rfl
instance : TyAgg Try.prog 60 3 := ⟨Try.isAgg60, sz60⟩
instance : TySize Try.prog 60 3 := ⟨sz60⟩
instance : TyZero Try.prog 60 (.agg #[.int .i64 0, .int .i64 0, .slice none 0 0]) := ⟨Try.zeroValue60⟩
-- 61 laws.Work
theorem sz61 (w : World) : (sizeOf 61).run Try.prog w = .ok 3 w := by simp [sizeOf, Try.typeInfo61]; rfl
instance : TyAgg Try.prog 61 3 := ⟨Try.isAgg61, sz61⟩
instance : TySize Try.prog 61 3 := ⟨sz61⟩
instance : TyZero Try.prog 61 (.agg #[.int .i64 0, .int .i64 0, .slice none 0 0]) := ⟨Try.zeroValue61⟩
-- 62 []laws.Plan
theorem sz62 (w : World) : (sizeOf 62).run Try.prog w = .ok 1 w := by simp [sizeOf, Try.typeInfo62]; rfl
instance : TyCell Try.prog 62 := ⟨Try.isAgg62⟩
instance : TySize Try.prog 62 1 := ⟨sz62⟩
instance : TyUnd Try.prog 62 (.slice 64) := ⟨Try.underlying62, Try.runUnderlying62⟩
instance : TyZero Try.prog 62 (.slice none 0 0) := ⟨Try.zeroValue62⟩
-- 63 struct { Op int; At int; Pane int; Turned bool; Kids []laws.Plan }
theorem sz63 (w : World) : (sizeOf 63).run Try.prog w = .ok 5 w := by simp [sizeOf, Try.typeInfo63]; rfl
instance : TyAgg Try.prog 63 5 := ⟨Try.isAgg63, sz63⟩
instance : TySize Try.prog 63 5 := ⟨sz63⟩
instance : TyZero Try.prog 63 (.agg #[.int .i64 0, .int .i64 0, .int .i64 0, .bool false, .slice none 0 0]) := ⟨Try.zeroValue63⟩
-- 64 laws.Plan
theorem sz64 (w : World) : (sizeOf 64).run Try.prog w = .ok 5 w := by simp [sizeOf, Try.typeInfo64]; rfl
instance : TyAgg Try.prog 64 5 := ⟨Try.isAgg64, sz64⟩
instance : TySize Try.prog 64 5 := ⟨sz64⟩
instance : TyZero Try.prog 64 (.agg #[.int .i64 0, .int .i64 0, .int .i64 0, .bool false, .slice none 0 0]) := ⟨Try.zeroValue64⟩
-- 71 []laws.Place
theorem sz71 (w : World) : (sizeOf 71).run Try.prog w = .ok 1 w := by simp [sizeOf, Try.typeInfo71]; rfl
instance : TyCell Try.prog 71 := ⟨Try.isAgg71⟩
instance : TySize Try.prog 71 1 := ⟨sz71⟩
instance : TyUnd Try.prog 71 (.slice 113) := ⟨Try.underlying71, Try.runUnderlying71⟩
instance : TyZero Try.prog 71 (.slice none 0 0) := ⟨Try.zeroValue71⟩
-- 77 *spec.reader
theorem sz77 (w : World) : (sizeOf 77).run Try.prog w = .ok 1 w := by simp [sizeOf, Try.typeInfo77]; rfl
instance : TyCell Try.prog 77 := ⟨Try.isAgg77⟩
instance : TySize Try.prog 77 1 := ⟨sz77⟩
instance : TyUnd Try.prog 77 (.pointer 116) := ⟨Try.underlying77, Try.runUnderlying77⟩
instance : TyZero Try.prog 77 (.pointer none) := ⟨Try.zeroValue77⟩
-- 79 []impl.part
theorem sz79 (w : World) : (sizeOf 79).run Try.prog w = .ok 1 w := by simp [sizeOf, Try.typeInfo79]; rfl
instance : TyCell Try.prog 79 := ⟨Try.isAgg79⟩
instance : TySize Try.prog 79 1 := ⟨sz79⟩
instance : TyUnd Try.prog 79 (.slice 82) := ⟨Try.underlying79, Try.runUnderlying79⟩
instance : TyZero Try.prog 79 (.slice none 0 0) := ⟨Try.zeroValue79⟩
-- 81 struct { plan impl.Plan; box impl.Box }
theorem sz81 (w : World) : (sizeOf 81).run Try.prog w = .ok 9 w := by simp [sizeOf, Try.typeInfo81]; rfl
instance : TyAgg Try.prog 81 9 := ⟨Try.isAgg81, sz81⟩
instance : TySize Try.prog 81 9 := ⟨sz81⟩
instance : TyZero Try.prog 81 (.agg #[.int .i64 0, .int .i64 0, .int .i64 0, .bool false, .slice none 0 0, .int .i64 0, .int .i64 0, .int .i64 0, .int .i64 0]) := ⟨Try.zeroValue81⟩
-- 82 impl.part
theorem sz82 (w : World) : (sizeOf 82).run Try.prog w = .ok 9 w := by simp [sizeOf, Try.typeInfo82]; rfl
instance : TyAgg Try.prog 82 9 := ⟨Try.isAgg82, sz82⟩
instance : TySize Try.prog 82 9 := ⟨sz82⟩
instance : TyZero Try.prog 82 (.agg #[.int .i64 0, .int .i64 0, .int .i64 0, .bool false, .slice none 0 0, .int .i64 0, .int .i64 0, .int .i64 0, .int .i64 0]) := ⟨Try.zeroValue82⟩
-- 87 struct { Pane int; Turned bool; Box impl.Box }
theorem sz87 (w : World) : (sizeOf 87).run Try.prog w = .ok 6 w := by simp [sizeOf, Try.typeInfo87]; rfl
instance : TyAgg Try.prog 87 6 := ⟨Try.isAgg87, sz87⟩
instance : TySize Try.prog 87 6 := ⟨sz87⟩
instance : TyZero Try.prog 87 (.agg #[.int .i64 0, .bool false, .int .i64 0, .int .i64 0, .int .i64 0, .int .i64 0]) := ⟨Try.zeroValue87⟩
-- 88 impl.Place
theorem sz88 (w : World) : (sizeOf 88).run Try.prog w = .ok 6 w := by simp [sizeOf, Try.typeInfo88]; rfl
instance : TyAgg Try.prog 88 6 := ⟨Try.isAgg88, sz88⟩
instance : TySize Try.prog 88 6 := ⟨sz88⟩
instance : TyZero Try.prog 88 (.agg #[.int .i64 0, .bool false, .int .i64 0, .int .i64 0, .int .i64 0, .int .i64 0]) := ⟨Try.zeroValue88⟩
-- 111 laws.Box
theorem sz111 (w : World) : (sizeOf 111).run Try.prog w = .ok 4 w := by simp [sizeOf, Try.typeInfo111]; rfl
instance : TyAgg Try.prog 111 4 := ⟨Try.isAgg111, sz111⟩
instance : TySize Try.prog 111 4 := ⟨sz111⟩
instance : TyZero Try.prog 111 (.agg #[.int .i64 0, .int .i64 0, .int .i64 0, .int .i64 0]) := ⟨Try.zeroValue111⟩
-- 112 struct { Pane int; Turned bool; Box laws.Box }
theorem sz112 (w : World) : (sizeOf 112).run Try.prog w = .ok 6 w := by simp [sizeOf, Try.typeInfo112]; rfl
instance : TyAgg Try.prog 112 6 := ⟨Try.isAgg112, sz112⟩
instance : TySize Try.prog 112 6 := ⟨sz112⟩
instance : TyZero Try.prog 112 (.agg #[.int .i64 0, .bool false, .int .i64 0, .int .i64 0, .int .i64 0, .int .i64 0]) := ⟨Try.zeroValue112⟩
-- 113 laws.Place
theorem sz113 (w : World) : (sizeOf 113).run Try.prog w = .ok 6 w := by simp [sizeOf, Try.typeInfo113]; rfl
instance : TyAgg Try.prog 113 6 := ⟨Try.isAgg113, sz113⟩
instance : TySize Try.prog 113 6 := ⟨sz113⟩
instance : TyZero Try.prog 113 (.agg #[.int .i64 0, .bool false, .int .i64 0, .int .i64 0, .int .i64 0, .int .i64 0]) := ⟨Try.zeroValue113⟩
-- 115 struct { b []uint8; p int }
theorem sz115 (w : World) : (sizeOf 115).run Try.prog w = .ok 2 w := by simp [sizeOf, Try.typeInfo115]; rfl
instance : TyAgg Try.prog 115 2 := ⟨Try.isAgg115, sz115⟩
instance : TySize Try.prog 115 2 := ⟨sz115⟩
instance : TyZero Try.prog 115 (.agg #[.slice none 0 0, .int .i64 0]) := ⟨Try.zeroValue115⟩
-- 116 spec.reader
theorem sz116 (w : World) : (sizeOf 116).run Try.prog w = .ok 2 w := by simp [sizeOf, Try.typeInfo116]; rfl
instance : TyAgg Try.prog 116 2 := ⟨Try.isAgg116, sz116⟩
instance : TySize Try.prog 116 2 := ⟨sz116⟩
instance : TyZero Try.prog 116 (.agg #[.slice none 0 0, .int .i64 0]) := ⟨Try.zeroValue116⟩
-- 119 struct { W int; H int; Turns bool; Kind int }
theorem sz119 (w : World) : (sizeOf 119).run Try.prog w = .ok 4 w := by simp [sizeOf, Try.typeInfo119]; rfl
instance : TyAgg Try.prog 119 4 := ⟨Try.isAgg119, sz119⟩
instance : TySize Try.prog 119 4 := ⟨sz119⟩
instance : TyZero Try.prog 119 (.agg #[.int .i64 0, .int .i64 0, .bool false, .int .i64 0]) := ⟨Try.zeroValue119⟩
-- 120 impl.Pane
theorem sz120 (w : World) : (sizeOf 120).run Try.prog w = .ok 4 w := by simp [sizeOf, Try.typeInfo120]; rfl
instance : TyAgg Try.prog 120 4 := ⟨Try.isAgg120, sz120⟩
instance : TySize Try.prog 120 4 := ⟨sz120⟩
instance : TyZero Try.prog 120 (.agg #[.int .i64 0, .int .i64 0, .bool false, .int .i64 0]) := ⟨Try.zeroValue120⟩
-- 127 *spec.planText
theorem sz127 (w : World) : (sizeOf 127).run Try.prog w = .ok 1 w := by simp [sizeOf, Try.typeInfo127]; rfl
instance : TyCell Try.prog 127 := ⟨Try.isAgg127⟩
instance : TySize Try.prog 127 1 := ⟨sz127⟩
instance : TyUnd Try.prog 127 (.pointer 129) := ⟨Try.underlying127, Try.runUnderlying127⟩
instance : TyZero Try.prog 127 (.pointer none) := ⟨Try.zeroValue127⟩
-- 128 struct { text string; at int; bad bool }
theorem sz128 (w : World) : (sizeOf 128).run Try.prog w = .ok 3 w := by simp [sizeOf, Try.typeInfo128]; rfl
instance : TyAgg Try.prog 128 3 := ⟨Try.isAgg128, sz128⟩
instance : TySize Try.prog 128 3 := ⟨sz128⟩
instance : TyZero Try.prog 128 (.agg #[.string ByteArray.empty, .int .i64 0, .bool false]) := ⟨Try.zeroValue128⟩
-- 129 spec.planText
theorem sz129 (w : World) : (sizeOf 129).run Try.prog w = .ok 3 w := by simp [sizeOf, Try.typeInfo129]; rfl
instance : TyAgg Try.prog 129 3 := ⟨Try.isAgg129, sz129⟩
instance : TySize Try.prog 129 3 := ⟨sz129⟩
instance : TyZero Try.prog 129 (.agg #[.string ByteArray.empty, .int .i64 0, .bool false]) := ⟨Try.zeroValue129⟩
-- 137 laws.Pane
theorem sz137 (w : World) : (sizeOf 137).run Try.prog w = .ok 4 w := by simp [sizeOf, Try.typeInfo137]; rfl
instance : TyAgg Try.prog 137 4 := ⟨Try.isAgg137, sz137⟩
instance : TySize Try.prog 137 4 := ⟨sz137⟩
instance : TyZero Try.prog 137 (.agg #[.int .i64 0, .int .i64 0, .bool false, .int .i64 0]) := ⟨Try.zeroValue137⟩
-- 141 *impl.Work
theorem sz141 (w : World) : (sizeOf 141).run Try.prog w = .ok 1 w := by simp [sizeOf, Try.typeInfo141]; rfl
instance : TyCell Try.prog 141 := ⟨Try.isAgg141⟩
instance : TySize Try.prog 141 1 := ⟨sz141⟩
instance : TyUnd Try.prog 141 (.pointer 25) := ⟨Try.underlying141, Try.runUnderlying141⟩
instance : TyZero Try.prog 141 (.pointer none) := ⟨Try.zeroValue141⟩
-- 157 uint32
theorem sz157 (w : World) : (sizeOf 157).run Try.prog w = .ok 1 w := by simp [sizeOf, Try.typeInfo157]; rfl
instance : TyCell Try.prog 157 := ⟨Try.isAgg157⟩
instance : TySize Try.prog 157 1 := ⟨sz157⟩
instance : TyUnd Try.prog 157 (.int .u32) := ⟨Try.underlying157, Try.runUnderlying157⟩
instance : TyZero Try.prog 157 (.int .u32 0) := ⟨Try.zeroValue157⟩
-- 161 *uint8
theorem sz161 (w : World) : (sizeOf 161).run Try.prog w = .ok 1 w := by simp [sizeOf, Try.typeInfo161]; rfl
instance : TyCell Try.prog 161 := ⟨Try.isAgg161⟩
instance : TySize Try.prog 161 1 := ⟨sz161⟩
instance : TyUnd Try.prog 161 (.pointer 5) := ⟨Try.underlying161, Try.runUnderlying161⟩
instance : TyZero Try.prog 161 (.pointer none) := ⟨Try.zeroValue161⟩
instance : TyField Try.prog 24 0 0 := ⟨fun b o w => by simp [Instr.fieldAt, Try.runUnderlying24, Instr.sureAddr, fieldPlace, add_lit]⟩
instance : TyField Try.prog 24 1 1 := ⟨fun b o w => by simp [Instr.fieldAt, Try.runUnderlying24, Instr.sureAddr, fieldPlace, add_lit]⟩
instance : TyField Try.prog 24 2 2 := ⟨fun b o w => by simp [Instr.fieldAt, Try.runUnderlying24, Instr.sureAddr, fieldPlace, add_lit]⟩
instance : TyField Try.prog 25 0 0 := ⟨fun b o w => by simp [Instr.fieldAt, Try.runUnderlying25, Instr.sureAddr, fieldPlace, add_lit]⟩
instance : TyField Try.prog 25 1 1 := ⟨fun b o w => by simp [Instr.fieldAt, Try.runUnderlying25, Instr.sureAddr, fieldPlace, add_lit]⟩
instance : TyField Try.prog 25 2 2 := ⟨fun b o w => by simp [Instr.fieldAt, Try.runUnderlying25, Instr.sureAddr, fieldPlace, add_lit]⟩
instance : TyField Try.prog 27 0 0 := ⟨fun b o w => by simp [Instr.fieldAt, Try.runUnderlying27, Instr.sureAddr, fieldPlace, add_lit]⟩
instance : TyField Try.prog 27 1 1 := ⟨fun b o w => by simp [Instr.fieldAt, Try.runUnderlying27, Instr.sureAddr, fieldPlace, add_lit]⟩
instance : TyField Try.prog 27 2 2 := ⟨fun b o w => by simp [Instr.fieldAt, Try.runUnderlying27, Instr.sureAddr, fieldPlace, add_lit]⟩
instance : TyField Try.prog 27 3 3 := ⟨fun b o w => by simp [Instr.fieldAt, Try.runUnderlying27, Instr.sureAddr, fieldPlace, add_lit]⟩
instance : TyField Try.prog 27 4 4 := ⟨fun b o w => by simp [Instr.fieldAt, Try.runUnderlying27, Instr.sureAddr, fieldPlace, add_lit]⟩
instance : TyField Try.prog 28 0 0 := ⟨fun b o w => by simp [Instr.fieldAt, Try.runUnderlying28, Instr.sureAddr, fieldPlace, add_lit]⟩
instance : TyField Try.prog 28 1 1 := ⟨fun b o w => by simp [Instr.fieldAt, Try.runUnderlying28, Instr.sureAddr, fieldPlace, add_lit]⟩
instance : TyField Try.prog 28 2 2 := ⟨fun b o w => by simp [Instr.fieldAt, Try.runUnderlying28, Instr.sureAddr, fieldPlace, add_lit]⟩
instance : TyField Try.prog 28 3 3 := ⟨fun b o w => by simp [Instr.fieldAt, Try.runUnderlying28, Instr.sureAddr, fieldPlace, add_lit]⟩
instance : TyField Try.prog 28 4 4 := ⟨fun b o w => by simp [Instr.fieldAt, Try.runUnderlying28, Instr.sureAddr, fieldPlace, add_lit]⟩
instance : TyField Try.prog 40 0 0 := ⟨fun b o w => by simp [Instr.fieldAt, Try.runUnderlying40, Instr.sureAddr, fieldPlace, add_lit]⟩
instance : TyField Try.prog 40 1 1 := ⟨fun b o w => by simp [Instr.fieldAt, Try.runUnderlying40, Instr.sureAddr, fieldPlace, add_lit]⟩
instance : TyField Try.prog 40 2 2 := ⟨fun b o w => by simp [Instr.fieldAt, Try.runUnderlying40, Instr.sureAddr, fieldPlace, add_lit]⟩
instance : TyField Try.prog 40 3 3 := ⟨fun b o w => by simp [Instr.fieldAt, Try.runUnderlying40, Instr.sureAddr, fieldPlace, add_lit]⟩
instance : TyField Try.prog 41 0 0 := ⟨fun b o w => by simp [Instr.fieldAt, Try.runUnderlying41, Instr.sureAddr, fieldPlace, add_lit]⟩
instance : TyField Try.prog 41 1 1 := ⟨fun b o w => by simp [Instr.fieldAt, Try.runUnderlying41, Instr.sureAddr, fieldPlace, add_lit]⟩
instance : TyField Try.prog 41 2 2 := ⟨fun b o w => by simp [Instr.fieldAt, Try.runUnderlying41, Instr.sureAddr, fieldPlace, add_lit]⟩
instance : TyField Try.prog 41 3 3 := ⟨fun b o w => by simp [Instr.fieldAt, Try.runUnderlying41, Instr.sureAddr, fieldPlace, add_lit]⟩
instance : TyField Try.prog 60 0 0 := ⟨fun b o w => by simp [Instr.fieldAt, Try.runUnderlying60, Instr.sureAddr, fieldPlace, add_lit]⟩
instance : TyField Try.prog 60 1 1 := ⟨fun b o w => by simp [Instr.fieldAt, Try.runUnderlying60, Instr.sureAddr, fieldPlace, add_lit]⟩
instance : TyField Try.prog 60 2 2 := ⟨fun b o w => by simp [Instr.fieldAt, Try.runUnderlying60, Instr.sureAddr, fieldPlace, add_lit]⟩
instance : TyField Try.prog 61 0 0 := ⟨fun b o w => by simp [Instr.fieldAt, Try.runUnderlying61, Instr.sureAddr, fieldPlace, add_lit]⟩
instance : TyField Try.prog 61 1 1 := ⟨fun b o w => by simp [Instr.fieldAt, Try.runUnderlying61, Instr.sureAddr, fieldPlace, add_lit]⟩
instance : TyField Try.prog 61 2 2 := ⟨fun b o w => by simp [Instr.fieldAt, Try.runUnderlying61, Instr.sureAddr, fieldPlace, add_lit]⟩
instance : TyField Try.prog 63 0 0 := ⟨fun b o w => by simp [Instr.fieldAt, Try.runUnderlying63, Instr.sureAddr, fieldPlace, add_lit]⟩
instance : TyField Try.prog 63 1 1 := ⟨fun b o w => by simp [Instr.fieldAt, Try.runUnderlying63, Instr.sureAddr, fieldPlace, add_lit]⟩
instance : TyField Try.prog 63 2 2 := ⟨fun b o w => by simp [Instr.fieldAt, Try.runUnderlying63, Instr.sureAddr, fieldPlace, add_lit]⟩
instance : TyField Try.prog 63 3 3 := ⟨fun b o w => by simp [Instr.fieldAt, Try.runUnderlying63, Instr.sureAddr, fieldPlace, add_lit]⟩
instance : TyField Try.prog 63 4 4 := ⟨fun b o w => by simp [Instr.fieldAt, Try.runUnderlying63, Instr.sureAddr, fieldPlace, add_lit]⟩
instance : TyField Try.prog 64 0 0 := ⟨fun b o w => by simp [Instr.fieldAt, Try.runUnderlying64, Instr.sureAddr, fieldPlace, add_lit]⟩
instance : TyField Try.prog 64 1 1 := ⟨fun b o w => by simp [Instr.fieldAt, Try.runUnderlying64, Instr.sureAddr, fieldPlace, add_lit]⟩
instance : TyField Try.prog 64 2 2 := ⟨fun b o w => by simp [Instr.fieldAt, Try.runUnderlying64, Instr.sureAddr, fieldPlace, add_lit]⟩
instance : TyField Try.prog 64 3 3 := ⟨fun b o w => by simp [Instr.fieldAt, Try.runUnderlying64, Instr.sureAddr, fieldPlace, add_lit]⟩
instance : TyField Try.prog 64 4 4 := ⟨fun b o w => by simp [Instr.fieldAt, Try.runUnderlying64, Instr.sureAddr, fieldPlace, add_lit]⟩
instance : TyField Try.prog 81 0 0 := ⟨fun b o w => by simp [Instr.fieldAt, Try.runUnderlying81, Instr.sureAddr, fieldPlace, add_lit]⟩
instance : TyField Try.prog 81 1 5 := ⟨fun b o w => by simp [Instr.fieldAt, Try.runUnderlying81, Instr.sureAddr, fieldPlace, add_lit]⟩
instance : TyField Try.prog 82 0 0 := ⟨fun b o w => by simp [Instr.fieldAt, Try.runUnderlying82, Instr.sureAddr, fieldPlace, add_lit]⟩
instance : TyField Try.prog 82 1 5 := ⟨fun b o w => by simp [Instr.fieldAt, Try.runUnderlying82, Instr.sureAddr, fieldPlace, add_lit]⟩
instance : TyField Try.prog 87 0 0 := ⟨fun b o w => by simp [Instr.fieldAt, Try.runUnderlying87, Instr.sureAddr, fieldPlace, add_lit]⟩
instance : TyField Try.prog 87 1 1 := ⟨fun b o w => by simp [Instr.fieldAt, Try.runUnderlying87, Instr.sureAddr, fieldPlace, add_lit]⟩
instance : TyField Try.prog 87 2 2 := ⟨fun b o w => by simp [Instr.fieldAt, Try.runUnderlying87, Instr.sureAddr, fieldPlace, add_lit]⟩
instance : TyField Try.prog 88 0 0 := ⟨fun b o w => by simp [Instr.fieldAt, Try.runUnderlying88, Instr.sureAddr, fieldPlace, add_lit]⟩
instance : TyField Try.prog 88 1 1 := ⟨fun b o w => by simp [Instr.fieldAt, Try.runUnderlying88, Instr.sureAddr, fieldPlace, add_lit]⟩
instance : TyField Try.prog 88 2 2 := ⟨fun b o w => by simp [Instr.fieldAt, Try.runUnderlying88, Instr.sureAddr, fieldPlace, add_lit]⟩
instance : TyField Try.prog 111 0 0 := ⟨fun b o w => by simp [Instr.fieldAt, Try.runUnderlying111, Instr.sureAddr, fieldPlace, add_lit]⟩
instance : TyField Try.prog 111 1 1 := ⟨fun b o w => by simp [Instr.fieldAt, Try.runUnderlying111, Instr.sureAddr, fieldPlace, add_lit]⟩
instance : TyField Try.prog 111 2 2 := ⟨fun b o w => by simp [Instr.fieldAt, Try.runUnderlying111, Instr.sureAddr, fieldPlace, add_lit]⟩
instance : TyField Try.prog 111 3 3 := ⟨fun b o w => by simp [Instr.fieldAt, Try.runUnderlying111, Instr.sureAddr, fieldPlace, add_lit]⟩
instance : TyField Try.prog 112 0 0 := ⟨fun b o w => by simp [Instr.fieldAt, Try.runUnderlying112, Instr.sureAddr, fieldPlace, add_lit]⟩
instance : TyField Try.prog 112 1 1 := ⟨fun b o w => by simp [Instr.fieldAt, Try.runUnderlying112, Instr.sureAddr, fieldPlace, add_lit]⟩
instance : TyField Try.prog 112 2 2 := ⟨fun b o w => by simp [Instr.fieldAt, Try.runUnderlying112, Instr.sureAddr, fieldPlace, add_lit]⟩
instance : TyField Try.prog 113 0 0 := ⟨fun b o w => by simp [Instr.fieldAt, Try.runUnderlying113, Instr.sureAddr, fieldPlace, add_lit]⟩
instance : TyField Try.prog 113 1 1 := ⟨fun b o w => by simp [Instr.fieldAt, Try.runUnderlying113, Instr.sureAddr, fieldPlace, add_lit]⟩
instance : TyField Try.prog 113 2 2 := ⟨fun b o w => by simp [Instr.fieldAt, Try.runUnderlying113, Instr.sureAddr, fieldPlace, add_lit]⟩
instance : TyField Try.prog 115 0 0 := ⟨fun b o w => by simp [Instr.fieldAt, Try.runUnderlying115, Instr.sureAddr, fieldPlace, add_lit]⟩
instance : TyField Try.prog 115 1 1 := ⟨fun b o w => by simp [Instr.fieldAt, Try.runUnderlying115, Instr.sureAddr, fieldPlace, add_lit]⟩
instance : TyField Try.prog 116 0 0 := ⟨fun b o w => by simp [Instr.fieldAt, Try.runUnderlying116, Instr.sureAddr, fieldPlace, add_lit]⟩
instance : TyField Try.prog 116 1 1 := ⟨fun b o w => by simp [Instr.fieldAt, Try.runUnderlying116, Instr.sureAddr, fieldPlace, add_lit]⟩
instance : TyField Try.prog 119 0 0 := ⟨fun b o w => by simp [Instr.fieldAt, Try.runUnderlying119, Instr.sureAddr, fieldPlace, add_lit]⟩
instance : TyField Try.prog 119 1 1 := ⟨fun b o w => by simp [Instr.fieldAt, Try.runUnderlying119, Instr.sureAddr, fieldPlace, add_lit]⟩
instance : TyField Try.prog 119 2 2 := ⟨fun b o w => by simp [Instr.fieldAt, Try.runUnderlying119, Instr.sureAddr, fieldPlace, add_lit]⟩
instance : TyField Try.prog 119 3 3 := ⟨fun b o w => by simp [Instr.fieldAt, Try.runUnderlying119, Instr.sureAddr, fieldPlace, add_lit]⟩
instance : TyField Try.prog 120 0 0 := ⟨fun b o w => by simp [Instr.fieldAt, Try.runUnderlying120, Instr.sureAddr, fieldPlace, add_lit]⟩
instance : TyField Try.prog 120 1 1 := ⟨fun b o w => by simp [Instr.fieldAt, Try.runUnderlying120, Instr.sureAddr, fieldPlace, add_lit]⟩
instance : TyField Try.prog 120 2 2 := ⟨fun b o w => by simp [Instr.fieldAt, Try.runUnderlying120, Instr.sureAddr, fieldPlace, add_lit]⟩
instance : TyField Try.prog 120 3 3 := ⟨fun b o w => by simp [Instr.fieldAt, Try.runUnderlying120, Instr.sureAddr, fieldPlace, add_lit]⟩
instance : TyField Try.prog 128 0 0 := ⟨fun b o w => by simp [Instr.fieldAt, Try.runUnderlying128, Instr.sureAddr, fieldPlace, add_lit]⟩
instance : TyField Try.prog 128 1 1 := ⟨fun b o w => by simp [Instr.fieldAt, Try.runUnderlying128, Instr.sureAddr, fieldPlace, add_lit]⟩
instance : TyField Try.prog 128 2 2 := ⟨fun b o w => by simp [Instr.fieldAt, Try.runUnderlying128, Instr.sureAddr, fieldPlace, add_lit]⟩
instance : TyField Try.prog 129 0 0 := ⟨fun b o w => by simp [Instr.fieldAt, Try.runUnderlying129, Instr.sureAddr, fieldPlace, add_lit]⟩
instance : TyField Try.prog 129 1 1 := ⟨fun b o w => by simp [Instr.fieldAt, Try.runUnderlying129, Instr.sureAddr, fieldPlace, add_lit]⟩
instance : TyField Try.prog 129 2 2 := ⟨fun b o w => by simp [Instr.fieldAt, Try.runUnderlying129, Instr.sureAddr, fieldPlace, add_lit]⟩
instance : TyField Try.prog 137 0 0 := ⟨fun b o w => by simp [Instr.fieldAt, Try.runUnderlying137, Instr.sureAddr, fieldPlace, add_lit]⟩
instance : TyField Try.prog 137 1 1 := ⟨fun b o w => by simp [Instr.fieldAt, Try.runUnderlying137, Instr.sureAddr, fieldPlace, add_lit]⟩
instance : TyField Try.prog 137 2 2 := ⟨fun b o w => by simp [Instr.fieldAt, Try.runUnderlying137, Instr.sureAddr, fieldPlace, add_lit]⟩
instance : TyField Try.prog 137 3 3 := ⟨fun b o w => by simp [Instr.fieldAt, Try.runUnderlying137, Instr.sureAddr, fieldPlace, add_lit]⟩
instance : TyElem Try.prog 22 5 1 [.int .u8 0] := ⟨Try.underlying22, Try.runUnderlying22, sz5, ⟨_, Try.zeroValue5, rfl⟩, rfl, by decide, ⟨Try.t5, _, by kernel_rfl, rfl, rfl, rfl, by decide⟩⟩
instance : TyElem Try.prog 23 120 4 [.int .i64 0, .int .i64 0, .bool false, .int .i64 0] := ⟨Try.underlying23, Try.runUnderlying23, sz120, ⟨_, Try.zeroValue120, rfl⟩, rfl, by decide, ⟨Try.t120, _, by kernel_rfl, rfl, rfl, rfl, by decide⟩⟩
instance : TyBuild Try.prog 24 [.int .i64 0, .int .i64 0, .slice none 0 0] [(0, 1), (1, 1), (2, 1)] := TyBuild.of Try.zeroValue24 Try.runUnderlying24 (fun w => by simp)
instance : TyBuild Try.prog 25 [.int .i64 0, .int .i64 0, .slice none 0 0] [(0, 1), (1, 1), (2, 1)] := TyBuild.of Try.zeroValue25 Try.runUnderlying25 (fun w => by simp)
instance : TyElem Try.prog 26 28 5 [.int .i64 0, .int .i64 0, .int .i64 0, .bool false, .slice none 0 0] := ⟨Try.underlying26, Try.runUnderlying26, sz28, ⟨_, Try.zeroValue28, rfl⟩, rfl, by decide, ⟨Try.t28, _, by kernel_rfl, rfl, rfl, rfl, by decide⟩⟩
instance : TyBuild Try.prog 27 [.int .i64 0, .int .i64 0, .int .i64 0, .bool false, .slice none 0 0] [(0, 1), (1, 1), (2, 1), (3, 1), (4, 1)] := TyBuild.of Try.zeroValue27 Try.runUnderlying27 (fun w => by simp)
instance : TyBuild Try.prog 28 [.int .i64 0, .int .i64 0, .int .i64 0, .bool false, .slice none 0 0] [(0, 1), (1, 1), (2, 1), (3, 1), (4, 1)] := TyBuild.of Try.zeroValue28 Try.runUnderlying28 (fun w => by simp)
instance : TyElem Try.prog 31 3 1 [.int .i64 0] := ⟨Try.underlying31, Try.runUnderlying31, sz3, ⟨_, Try.zeroValue3, rfl⟩, rfl, by decide, ⟨Try.t3, _, by kernel_rfl, rfl, rfl, rfl, by decide⟩⟩
instance : TyElem Try.prog 35 41 4 [.int .i64 0, .int .i64 0, .int .i64 0, .int .i64 0] := ⟨Try.underlying35, Try.runUnderlying35, sz41, ⟨_, Try.zeroValue41, rfl⟩, rfl, by decide, ⟨Try.t41, _, by kernel_rfl, rfl, rfl, rfl, by decide⟩⟩
instance : TyElem Try.prog 37 88 6 [.int .i64 0, .bool false, .int .i64 0, .int .i64 0, .int .i64 0, .int .i64 0] := ⟨Try.underlying37, Try.runUnderlying37, sz88, ⟨_, Try.zeroValue88, rfl⟩, rfl, by decide, ⟨Try.t88, _, by kernel_rfl, rfl, rfl, rfl, by decide⟩⟩
instance : TyBuild Try.prog 40 [.int .i64 0, .int .i64 0, .int .i64 0, .int .i64 0] [(0, 1), (1, 1), (2, 1), (3, 1)] := TyBuild.of Try.zeroValue40 Try.runUnderlying40 (fun w => by simp)
instance : TyBuild Try.prog 41 [.int .i64 0, .int .i64 0, .int .i64 0, .int .i64 0] [(0, 1), (1, 1), (2, 1), (3, 1)] := TyBuild.of Try.zeroValue41 Try.runUnderlying41 (fun w => by simp)
instance : TyElem Try.prog 59 137 4 [.int .i64 0, .int .i64 0, .bool false, .int .i64 0] := ⟨Try.underlying59, Try.runUnderlying59, sz137, ⟨_, Try.zeroValue137, rfl⟩, rfl, by decide, ⟨Try.t137, _, by kernel_rfl, rfl, rfl, rfl, by decide⟩⟩
instance : TyBuild Try.prog 60 [.int .i64 0, .int .i64 0, .slice none 0 0] [(0, 1), (1, 1), (2, 1)] := TyBuild.of Try.zeroValue60 Try.runUnderlying60 (fun w => by simp)
instance : TyBuild Try.prog 61 [.int .i64 0, .int .i64 0, .slice none 0 0] [(0, 1), (1, 1), (2, 1)] := TyBuild.of Try.zeroValue61 Try.runUnderlying61 (fun w => by simp)
instance : TyElem Try.prog 62 64 5 [.int .i64 0, .int .i64 0, .int .i64 0, .bool false, .slice none 0 0] := ⟨Try.underlying62, Try.runUnderlying62, sz64, ⟨_, Try.zeroValue64, rfl⟩, rfl, by decide, ⟨Try.t64, _, by kernel_rfl, rfl, rfl, rfl, by decide⟩⟩
instance : TyBuild Try.prog 63 [.int .i64 0, .int .i64 0, .int .i64 0, .bool false, .slice none 0 0] [(0, 1), (1, 1), (2, 1), (3, 1), (4, 1)] := TyBuild.of Try.zeroValue63 Try.runUnderlying63 (fun w => by simp)
instance : TyBuild Try.prog 64 [.int .i64 0, .int .i64 0, .int .i64 0, .bool false, .slice none 0 0] [(0, 1), (1, 1), (2, 1), (3, 1), (4, 1)] := TyBuild.of Try.zeroValue64 Try.runUnderlying64 (fun w => by simp)
instance : TyElem Try.prog 71 113 6 [.int .i64 0, .bool false, .int .i64 0, .int .i64 0, .int .i64 0, .int .i64 0] := ⟨Try.underlying71, Try.runUnderlying71, sz113, ⟨_, Try.zeroValue113, rfl⟩, rfl, by decide, ⟨Try.t113, _, by kernel_rfl, rfl, rfl, rfl, by decide⟩⟩
instance : TyElem Try.prog 79 82 9 [.int .i64 0, .int .i64 0, .int .i64 0, .bool false, .slice none 0 0, .int .i64 0, .int .i64 0, .int .i64 0, .int .i64 0] := ⟨Try.underlying79, Try.runUnderlying79, sz82, ⟨_, Try.zeroValue82, rfl⟩, rfl, by decide, ⟨Try.t82, _, by kernel_rfl, rfl, rfl, rfl, by decide⟩⟩
instance : TyBuild Try.prog 81 [.int .i64 0, .int .i64 0, .int .i64 0, .bool false, .slice none 0 0, .int .i64 0, .int .i64 0, .int .i64 0, .int .i64 0] [(0, 5), (5, 4)] := TyBuild.of Try.zeroValue81 Try.runUnderlying81 (fun w => by simp)
instance : TyBuild Try.prog 82 [.int .i64 0, .int .i64 0, .int .i64 0, .bool false, .slice none 0 0, .int .i64 0, .int .i64 0, .int .i64 0, .int .i64 0] [(0, 5), (5, 4)] := TyBuild.of Try.zeroValue82 Try.runUnderlying82 (fun w => by simp)
instance : TyBuild Try.prog 87 [.int .i64 0, .bool false, .int .i64 0, .int .i64 0, .int .i64 0, .int .i64 0] [(0, 1), (1, 1), (2, 4)] := TyBuild.of Try.zeroValue87 Try.runUnderlying87 (fun w => by simp)
instance : TyBuild Try.prog 88 [.int .i64 0, .bool false, .int .i64 0, .int .i64 0, .int .i64 0, .int .i64 0] [(0, 1), (1, 1), (2, 4)] := TyBuild.of Try.zeroValue88 Try.runUnderlying88 (fun w => by simp)
instance : TyBuild Try.prog 111 [.int .i64 0, .int .i64 0, .int .i64 0, .int .i64 0] [(0, 1), (1, 1), (2, 1), (3, 1)] := TyBuild.of Try.zeroValue111 Try.runUnderlying111 (fun w => by simp)
instance : TyBuild Try.prog 112 [.int .i64 0, .bool false, .int .i64 0, .int .i64 0, .int .i64 0, .int .i64 0] [(0, 1), (1, 1), (2, 4)] := TyBuild.of Try.zeroValue112 Try.runUnderlying112 (fun w => by simp)
instance : TyBuild Try.prog 113 [.int .i64 0, .bool false, .int .i64 0, .int .i64 0, .int .i64 0, .int .i64 0] [(0, 1), (1, 1), (2, 4)] := TyBuild.of Try.zeroValue113 Try.runUnderlying113 (fun w => by simp)
instance : TyBuild Try.prog 115 [.slice none 0 0, .int .i64 0] [(0, 1), (1, 1)] := TyBuild.of Try.zeroValue115 Try.runUnderlying115 (fun w => by simp)
instance : TyBuild Try.prog 116 [.slice none 0 0, .int .i64 0] [(0, 1), (1, 1)] := TyBuild.of Try.zeroValue116 Try.runUnderlying116 (fun w => by simp)
instance : TyBuild Try.prog 119 [.int .i64 0, .int .i64 0, .bool false, .int .i64 0] [(0, 1), (1, 1), (2, 1), (3, 1)] := TyBuild.of Try.zeroValue119 Try.runUnderlying119 (fun w => by simp)
instance : TyBuild Try.prog 120 [.int .i64 0, .int .i64 0, .bool false, .int .i64 0] [(0, 1), (1, 1), (2, 1), (3, 1)] := TyBuild.of Try.zeroValue120 Try.runUnderlying120 (fun w => by simp)
instance : TyBuild Try.prog 128 [.string ByteArray.empty, .int .i64 0, .bool false] [(0, 1), (1, 1), (2, 1)] := TyBuild.of Try.zeroValue128 Try.runUnderlying128 (fun w => by simp)
instance : TyBuild Try.prog 129 [.string ByteArray.empty, .int .i64 0, .bool false] [(0, 1), (1, 1), (2, 1)] := TyBuild.of Try.zeroValue129 Try.runUnderlying129 (fun w => by simp)
instance : TyBuild Try.prog 137 [.int .i64 0, .int .i64 0, .bool false, .int .i64 0] [(0, 1), (1, 1), (2, 1), (3, 1)] := TyBuild.of Try.zeroValue137 Try.runUnderlying137 (fun w => by simp)
-- loop.example/panecutter/laws.FnCutLengths
instance : TyFn Try.prog 3 := TyFn.of Try.func3 (by kernel_rfl) rfl
-- loop.example/panecutter/laws.FnMirrorPlanPlaces
instance : TyFn Try.prog 4 := TyFn.of Try.func4 (by kernel_rfl) rfl
-- loop.example/panecutter/laws.FnLostArea
instance : TyFn Try.prog 5 := TyFn.of Try.func5 (by kernel_rfl) rfl
-- loop.example/panecutter/laws.FnValidPlaces
instance : TyFn Try.prog 6 := TyFn.of Try.func6 (by kernel_rfl) rfl
-- loop.example/panecutter/laws.FnExactParsePlan
instance : TyFn Try.prog 7 := TyFn.of Try.func7 (by kernel_rfl) rfl
-- loop.example/panecutter/laws.FnExactValidPlan
instance : TyFn Try.prog 8 := TyFn.of Try.func8 (by kernel_rfl) rfl
-- loop.example/panecutter/laws.FnExactValidPlaces
instance : TyFn Try.prog 9 := TyFn.of Try.func9 (by kernel_rfl) rfl
-- loop.example/panecutter/spec.DrawCutLengths
instance : TyFn Try.prog 10 := TyFn.of Try.func10 (by kernel_rfl) rfl
-- loop.example/panecutter/impl.CutLengths
instance : TyFn Try.prog 11 := TyFn.of Try.func11 (by kernel_rfl) rfl
-- loop.example/panecutter/laws.equalInts
instance : TyFn Try.prog 12 := TyFn.of Try.func12 (by kernel_rfl) rfl
-- loop.example/panecutter/spec.CutLengths
instance : TyFn Try.prog 13 := TyFn.of Try.func13 (by kernel_rfl) rfl
-- loop.example/panecutter/impl.ValidPlan
instance : TyFn Try.prog 14 := TyFn.of Try.func14 (by kernel_rfl) rfl
-- loop.example/panecutter/laws.boxesOf
instance : TyFn Try.prog 15 := TyFn.of Try.func15 (by kernel_rfl) rfl
-- loop.example/panecutter/impl.PlacesOf
instance : TyFn Try.prog 16 := TyFn.of Try.func16 (by kernel_rfl) rfl
-- loop.example/panecutter/impl.WastesOf
instance : TyFn Try.prog 17 := TyFn.of Try.func17 (by kernel_rfl) rfl
-- loop.example/panecutter/laws.total
instance : TyFn Try.prog 18 := TyFn.of Try.func18 (by kernel_rfl) rfl
-- loop.example/panecutter/impl.CutsOf
instance : TyFn Try.prog 19 := TyFn.of Try.func19 (by kernel_rfl) rfl
-- loop.example/panecutter/spec.DrawMirrorPlan
instance : TyFn Try.prog 20 := TyFn.of Try.func20 (by kernel_rfl) rfl
-- loop.example/panecutter/impl.MirrorPlan
instance : TyFn Try.prog 21 := TyFn.of Try.func21 (by kernel_rfl) rfl
-- loop.example/panecutter/laws.equalPlan
instance : TyFn Try.prog 22 := TyFn.of Try.func22 (by kernel_rfl) rfl
-- loop.example/panecutter/spec.MirrorPlan
instance : TyFn Try.prog 23 := TyFn.of Try.func23 (by kernel_rfl) rfl
-- loop.example/panecutter/laws.sameBoxes
instance : TyFn Try.prog 24 := TyFn.of Try.func24 (by kernel_rfl) rfl
-- loop.example/panecutter/spec.DrawLostArea
instance : TyFn Try.prog 25 := TyFn.of Try.func25 (by kernel_rfl) rfl
-- loop.example/panecutter/impl.LostArea
instance : TyFn Try.prog 26 := TyFn.of Try.func26 (by kernel_rfl) rfl
-- loop.example/panecutter/spec.LostArea
instance : TyFn Try.prog 27 := TyFn.of Try.func27 (by kernel_rfl) rfl
-- loop.example/panecutter/laws.area
instance : TyFn Try.prog 28 := TyFn.of Try.func28 (by kernel_rfl) rfl
-- loop.example/panecutter/spec.DrawValidPlaces
instance : TyFn Try.prog 29 := TyFn.of Try.func29 (by kernel_rfl) rfl
-- loop.example/panecutter/impl.ValidPlaces
instance : TyFn Try.prog 30 := TyFn.of Try.func30 (by kernel_rfl) rfl
-- loop.example/panecutter/spec.ValidPlaces
instance : TyFn Try.prog 31 := TyFn.of Try.func31 (by kernel_rfl) rfl
-- loop.example/panecutter/spec.ParsePlan
instance : TyFn Try.prog 32 := TyFn.of Try.func32 (by kernel_rfl) rfl
-- loop.example/panecutter/impl.ParsePlan
instance : TyFn Try.prog 33 := TyFn.of Try.func33 (by kernel_rfl) rfl
-- loop.example/panecutter/laws.eqPlan
instance : TyFn Try.prog 34 := TyFn.of Try.func34 (by kernel_rfl) rfl
-- loop.example/panecutter/laws.markPlan
instance : TyFn Try.prog 35 := TyFn.of Try.func35 (by kernel_rfl) rfl
-- loop.example/panecutter/laws.heldPlan
instance : TyFn Try.prog 36 := TyFn.of Try.func36 (by kernel_rfl) rfl
-- loop.example/panecutter/laws.szWork
instance : TyFn Try.prog 37 := TyFn.of Try.func37 (by kernel_rfl) rfl
-- loop.example/panecutter/laws.szPlan
instance : TyFn Try.prog 38 := TyFn.of Try.func38 (by kernel_rfl) rfl
-- loop.example/panecutter/spec.ValidPlan
instance : TyFn Try.prog 39 := TyFn.of Try.func39 (by kernel_rfl) rfl
-- loop.example/panecutter/laws.toWork
instance : TyFn Try.prog 40 := TyFn.of Try.func40 (by kernel_rfl) rfl
-- loop.example/panecutter/laws.toPlan
instance : TyFn Try.prog 41 := TyFn.of Try.func41 (by kernel_rfl) rfl
-- loop.example/panecutter/laws.eqWork
instance : TyFn Try.prog 42 := TyFn.of Try.func42 (by kernel_rfl) rfl
-- loop.example/panecutter/laws.szPlaceS
instance : TyFn Try.prog 43 := TyFn.of Try.func43 (by kernel_rfl) rfl
-- loop.example/panecutter/laws.toPlaceS
instance : TyFn Try.prog 44 := TyFn.of Try.func44 (by kernel_rfl) rfl
-- loop.example/panecutter/laws.eqPlaceS
instance : TyFn Try.prog 45 := TyFn.of Try.func45 (by kernel_rfl) rfl
-- loop.example/panecutter/spec.anyPlan
instance : TyFn Try.prog 46 := TyFn.of Try.func46 (by kernel_rfl) rfl
-- loop.example/panecutter/spec.newReader
instance : TyFn Try.prog 47 := TyFn.of Try.func47 (by kernel_rfl) rfl
-- loop.example/panecutter/impl.partsOf
instance : TyFn Try.prog 48 := TyFn.of Try.func48 (by kernel_rfl) rfl
-- loop.example/panecutter/spec.validPlan
instance : TyFn Try.prog 49 := TyFn.of Try.func49 (by kernel_rfl) rfl
-- loop.example/panecutter/spec.cutLengths
instance : TyFn Try.prog 50 := TyFn.of Try.func50 (by kernel_rfl) rfl
-- loop.example/panecutter/impl.ValidWork
instance : TyFn Try.prog 51 := TyFn.of Try.func51 (by kernel_rfl) rfl
-- loop.example/panecutter/impl.PlanSize
instance : TyFn Try.prog 52 := TyFn.of Try.func52 (by kernel_rfl) rfl
-- loop.example/panecutter/impl.planFits
instance : TyFn Try.prog 53 := TyFn.of Try.func53 (by kernel_rfl) rfl
-- loop.example/panecutter/impl.sheetOf
instance : TyFn Try.prog 54 := TyFn.of Try.func54 (by kernel_rfl) rfl
-- loop.example/panecutter/impl.mirrored
instance : TyFn Try.prog 55 := TyFn.of Try.func55 (by kernel_rfl) rfl
-- loop.example/panecutter/spec.mirrorPlan
instance : TyFn Try.prog 56 := TyFn.of Try.func56 (by kernel_rfl) rfl
-- (*loop.example/panecutter/spec.reader).one
instance : TyFn Try.prog 57 := TyFn.of Try.func57 (by kernel_rfl) rfl
-- loop.example/panecutter/impl.boxArea
instance : TyFn Try.prog 58 := TyFn.of Try.func58 (by kernel_rfl) rfl
-- loop.example/panecutter/spec.inRange
instance : TyFn Try.prog 59 := TyFn.of Try.func59 (by kernel_rfl) rfl
-- loop.example/panecutter/spec.wastesOf
instance : TyFn Try.prog 60 := TyFn.of Try.func60 (by kernel_rfl) rfl
-- loop.example/panecutter/spec.isRemnant
instance : TyFn Try.prog 61 := TyFn.of Try.func61 (by kernel_rfl) rfl
-- loop.example/panecutter/spec.somePlaces
instance : TyFn Try.prog 62 := TyFn.of Try.func62 (by kernel_rfl) rfl
-- (*loop.example/panecutter/spec.reader).pick
instance : TyFn Try.prog 63 := TyFn.of Try.func63 (by kernel_rfl) rfl
-- loop.example/panecutter/impl.ValidBox
instance : TyFn Try.prog 64 := TyFn.of Try.func64 (by kernel_rfl) rfl
-- loop.example/panecutter/impl.InsideOf
instance : TyFn Try.prog 65 := TyFn.of Try.func65 (by kernel_rfl) rfl
-- loop.example/panecutter/impl.paneFills
instance : TyFn Try.prog 66 := TyFn.of Try.func66 (by kernel_rfl) rfl
-- loop.example/panecutter/impl.ApartBoxes
instance : TyFn Try.prog 67 := TyFn.of Try.func67 (by kernel_rfl) rfl
-- loop.example/panecutter/spec.validPlaces
instance : TyFn Try.prog 68 := TyFn.of Try.func68 (by kernel_rfl) rfl
-- loop.example/panecutter/spec.parsePlan
instance : TyFn Try.prog 69 := TyFn.of Try.func69 (by kernel_rfl) rfl
-- loop.example/panecutter/impl.takePlan
instance : TyFn Try.prog 70 := TyFn.of Try.func70 (by kernel_rfl) rfl
-- loop.example/panecutter/impl.numbersFit
instance : TyFn Try.prog 71 := TyFn.of Try.func71 (by kernel_rfl) rfl
-- loop.example/panecutter/laws.eqPlanS
instance : TyFn Try.prog 72 := TyFn.of Try.func72 (by kernel_rfl) rfl
-- loop.example/panecutter/laws.markPlanS
instance : TyFn Try.prog 73 := TyFn.of Try.func73 (by kernel_rfl) rfl
-- loop.example/panecutter/laws.heldPlanS
instance : TyFn Try.prog 74 := TyFn.of Try.func74 (by kernel_rfl) rfl
-- loop.example/panecutter/laws.szPaneS
instance : TyFn Try.prog 75 := TyFn.of Try.func75 (by kernel_rfl) rfl
-- loop.example/panecutter/laws.szPlanS
instance : TyFn Try.prog 76 := TyFn.of Try.func76 (by kernel_rfl) rfl
-- loop.example/panecutter/laws.toPaneS
instance : TyFn Try.prog 77 := TyFn.of Try.func77 (by kernel_rfl) rfl
-- loop.example/panecutter/laws.toPlanS
instance : TyFn Try.prog 78 := TyFn.of Try.func78 (by kernel_rfl) rfl
-- loop.example/panecutter/laws.eqPaneS
instance : TyFn Try.prog 79 := TyFn.of Try.func79 (by kernel_rfl) rfl
-- loop.example/panecutter/laws.toPlace
instance : TyFn Try.prog 80 := TyFn.of Try.func80 (by kernel_rfl) rfl
-- loop.example/panecutter/laws.eqPlace
instance : TyFn Try.prog 81 := TyFn.of Try.func81 (by kernel_rfl) rfl
-- loop.example/panecutter/spec.workPlan
instance : TyFn Try.prog 82 := TyFn.of Try.func82 (by kernel_rfl) rfl
-- loop.example/panecutter/impl.addParts
instance : TyFn Try.prog 83 := TyFn.of Try.func83 (by kernel_rfl) rfl
-- loop.example/panecutter/spec.validWork
instance : TyFn Try.prog 84 := TyFn.of Try.func84 (by kernel_rfl) rfl
-- loop.example/panecutter/spec.planSize
instance : TyFn Try.prog 85 := TyFn.of Try.func85 (by kernel_rfl) rfl
-- loop.example/panecutter/spec.fitsPlan
instance : TyFn Try.prog 86 := TyFn.of Try.func86 (by kernel_rfl) rfl
-- loop.example/panecutter/impl.ValidPane
instance : TyFn Try.prog 87 := TyFn.of Try.func87 (by kernel_rfl) rfl
-- loop.example/panecutter/impl.countParts
instance : TyFn Try.prog 88 := TyFn.of Try.func88 (by kernel_rfl) rfl
-- loop.example/panecutter/impl.splitBox
instance : TyFn Try.prog 89 := TyFn.of Try.func89 (by kernel_rfl) rfl
-- loop.example/panecutter/spec.spread
instance : TyFn Try.prog 90 := TyFn.of Try.func90 (by kernel_rfl) rfl
-- loop.example/panecutter/spec.placesOf
instance : TyFn Try.prog 91 := TyFn.of Try.func91 (by kernel_rfl) rfl
-- loop.example/panecutter/impl.MeetOf
instance : TyFn Try.prog 92 := TyFn.of Try.func92 (by kernel_rfl) rfl
-- loop.example/panecutter/impl.validBoxes
instance : TyFn Try.prog 93 := TyFn.of Try.func93 (by kernel_rfl) rfl
-- loop.example/panecutter/spec.validBox
instance : TyFn Try.prog 94 := TyFn.of Try.func94 (by kernel_rfl) rfl
-- loop.example/panecutter/spec.insideOf
instance : TyFn Try.prog 95 := TyFn.of Try.func95 (by kernel_rfl) rfl
-- loop.example/panecutter/spec.apart
instance : TyFn Try.prog 96 := TyFn.of Try.func96 (by kernel_rfl) rfl
-- (*loop.example/panecutter/spec.planText).plan
instance : TyFn Try.prog 97 := TyFn.of Try.func97 (by kernel_rfl) rfl
-- loop.example/panecutter/spec.countable
instance : TyFn Try.prog 98 := TyFn.of Try.func98 (by kernel_rfl) rfl
-- loop.example/panecutter/spec.showPlan
instance : TyFn Try.prog 99 := TyFn.of Try.func99 (by kernel_rfl) rfl
-- loop.example/panecutter/impl.takeNumber
instance : TyFn Try.prog 100 := TyFn.of Try.func100 (by kernel_rfl) rfl
-- strings.CutPrefix
instance : TyFn Try.prog 101 := TyFn.of Try.func101 (by kernel_rfl) rfl
-- loop.example/panecutter/laws.toPane
instance : TyFn Try.prog 102 := TyFn.of Try.func102 (by kernel_rfl) rfl
-- loop.example/panecutter/laws.eqPane
instance : TyFn Try.prog 103 := TyFn.of Try.func103 (by kernel_rfl) rfl
-- loop.example/panecutter/laws.toBox
instance : TyFn Try.prog 104 := TyFn.of Try.func104 (by kernel_rfl) rfl
-- loop.example/panecutter/laws.eqBox
instance : TyFn Try.prog 105 := TyFn.of Try.func105 (by kernel_rfl) rfl
-- loop.example/panecutter/spec.grow
instance : TyFn Try.prog 106 := TyFn.of Try.func106 (by kernel_rfl) rfl
-- loop.example/panecutter/impl.isCut
instance : TyFn Try.prog 107 := TyFn.of Try.func107 (by kernel_rfl) rfl
-- loop.example/panecutter/spec.validPanes
instance : TyFn Try.prog 108 := TyFn.of Try.func108 (by kernel_rfl) rfl
-- loop.example/panecutter/spec.isCut
instance : TyFn Try.prog 109 := TyFn.of Try.func109 (by kernel_rfl) rfl
-- loop.example/panecutter/spec.meetOf
instance : TyFn Try.prog 110 := TyFn.of Try.func110 (by kernel_rfl) rfl
-- (*loop.example/panecutter/spec.planText).next
instance : TyFn Try.prog 111 := TyFn.of Try.func111 (by kernel_rfl) rfl
-- (*loop.example/panecutter/spec.planText).count
instance : TyFn Try.prog 112 := TyFn.of Try.func112 (by kernel_rfl) rfl
-- (*loop.example/panecutter/spec.planText).skip
instance : TyFn Try.prog 113 := TyFn.of Try.func113 (by kernel_rfl) rfl
-- loop.example/panecutter/spec.number
instance : TyFn Try.prog 114 := TyFn.of Try.func114 (by kernel_rfl) rfl
-- loop.example/panecutter/impl.readNumber
instance : TyFn Try.prog 115 := TyFn.of Try.func115 (by kernel_rfl) rfl
-- internal/stringslite.CutPrefix
instance : TyFn Try.prog 116 := TyFn.of Try.func116 (by kernel_rfl) rfl
-- loop.example/panecutter/spec.validPane
instance : TyFn Try.prog 117 := TyFn.of Try.func117 (by kernel_rfl) rfl
-- loop.example/panecutter/spec.readNumber
instance : TyFn Try.prog 118 := TyFn.of Try.func118 (by kernel_rfl) rfl
-- internal/stringslite.HasPrefix
instance : TyFn Try.prog 119 := TyFn.of Try.func119 (by kernel_rfl) rfl
end Go.Proofs.Ytlpjienaennmaaa
