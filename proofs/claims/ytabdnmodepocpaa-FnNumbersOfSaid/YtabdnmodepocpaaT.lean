/-
  The facts on the types of this seat's translation, by program.
-/
import Derived.Test.YtabdnmodepocpaaV7
import Derived.Test.YtabdnmodepocpaaProg
import Derived.KernelRfl
namespace Go.Proofs.Ytabdnmodepocpaa
open Go

-- 2 int64
theorem sz2 (w : World) : (sizeOf 2).run Try.prog w = .ok 1 w := by simp [sizeOf, Try.typeInfo2]; rfl
instance : TyCell Try.prog 2 := ⟨Try.isAgg2⟩
instance : TySize Try.prog 2 1 := ⟨sz2⟩
instance : TyUnd Try.prog 2 (.int .i64) := ⟨Try.underlying2, Try.runUnderlying2⟩
instance : TyZero Try.prog 2 (.int .i64 0) := ⟨Try.zeroValue2⟩
-- 3 int
theorem sz3 (w : World) : (sizeOf 3).run Try.prog w = .ok 1 w := by simp [sizeOf, Try.typeInfo3]; rfl
instance : TyCell Try.prog 3 := ⟨Try.isAgg3⟩
instance : TySize Try.prog 3 1 := ⟨sz3⟩
instance : TyUnd Try.prog 3 (.int .i64) := ⟨Try.underlying3, Try.runUnderlying3⟩
instance : TyZero Try.prog 3 (.int .i64 0) := ⟨Try.zeroValue3⟩
-- 4 bool
theorem sz4 (w : World) : (sizeOf 4).run Try.prog w = .ok 1 w := by simp [sizeOf, Try.typeInfo4]; rfl
instance : TyCell Try.prog 4 := ⟨Try.isAgg4⟩
instance : TySize Try.prog 4 1 := ⟨sz4⟩
instance : TyUnd Try.prog 4 (.bool) := ⟨Try.underlying4, Try.runUnderlying4⟩
instance : TyZero Try.prog 4 (.bool false) := ⟨Try.zeroValue4⟩
-- 5 uint8
theorem sz5 (w : World) : (sizeOf 5).run Try.prog w = .ok 1 w := by simp [sizeOf, Try.typeInfo5]; rfl
instance : TyCell Try.prog 5 := ⟨Try.isAgg5⟩
instance : TySize Try.prog 5 1 := ⟨sz5⟩
instance : TyUnd Try.prog 5 (.int .u8) := ⟨Try.underlying5, Try.runUnderlying5⟩
instance : TyZero Try.prog 5 (.int .u8 0) := ⟨Try.zeroValue5⟩
-- 9 string
theorem sz9 (w : World) : (sizeOf 9).run Try.prog w = .ok 1 w := by simp [sizeOf, Try.typeInfo9]; rfl
instance : TyCell Try.prog 9 := ⟨Try.isAgg9⟩
instance : TySize Try.prog 9 1 := ⟨sz9⟩
instance : TyUnd Try.prog 9 (.string) := ⟨Try.underlying9, Try.runUnderlying9⟩
instance : TyZero Try.prog 9 (.string ByteArray.empty) := ⟨Try.zeroValue9⟩
-- 12 uintptr
theorem sz12 (w : World) : (sizeOf 12).run Try.prog w = .ok 1 w := by simp [sizeOf, Try.typeInfo12]; rfl
instance : TyCell Try.prog 12 := ⟨Try.isAgg12⟩
instance : TySize Try.prog 12 1 := ⟨sz12⟩
instance : TyUnd Try.prog 12 (.int .u64) := ⟨Try.underlying12, Try.runUnderlying12⟩
instance : TyZero Try.prog 12 (.int .u64 0) := ⟨Try.zeroValue12⟩
-- 21 int32
theorem sz21 (w : World) : (sizeOf 21).run Try.prog w = .ok 1 w := by simp [sizeOf, Try.typeInfo21]; rfl
instance : TyCell Try.prog 21 := ⟨Try.isAgg21⟩
instance : TySize Try.prog 21 1 := ⟨sz21⟩
instance : TyUnd Try.prog 21 (.int .i32) := ⟨Try.underlying21, Try.runUnderlying21⟩
instance : TyZero Try.prog 21 (.int .i32 0) := ⟨Try.zeroValue21⟩
-- 22 []uint8
theorem sz22 (w : World) : (sizeOf 22).run Try.prog w = .ok 1 w := by simp [sizeOf, Try.typeInfo22]; rfl
instance : TyCell Try.prog 22 := ⟨Try.isAgg22⟩
instance : TySize Try.prog 22 1 := ⟨sz22⟩
instance : TyUnd Try.prog 22 (.slice 5) := ⟨Try.underlying22, Try.runUnderlying22⟩
instance : TyZero Try.prog 22 (.slice none 0 0) := ⟨Try.zeroValue22⟩
-- 23 []impl.Plan
theorem sz23 (w : World) : (sizeOf 23).run Try.prog w = .ok 1 w := by simp [sizeOf, Try.typeInfo23]; rfl
instance : TyCell Try.prog 23 := ⟨Try.isAgg23⟩
instance : TySize Try.prog 23 1 := ⟨sz23⟩
instance : TyUnd Try.prog 23 (.slice 25) := ⟨Try.underlying23, Try.runUnderlying23⟩
instance : TyZero Try.prog 23 (.slice none 0 0) := ⟨Try.zeroValue23⟩
-- 24 struct { Op int; At int; Pane int; Turned bool; Kids []impl.Plan }
theorem sz24 (w : World) : (sizeOf 24).run Try.prog w = .ok 5 w := by simp [sizeOf, Try.typeInfo24]; rfl
instance : TyAgg Try.prog 24 5 := ⟨Try.isAgg24, sz24⟩
instance : TySize Try.prog 24 5 := ⟨sz24⟩
instance : TyZero Try.prog 24 (.agg #[.int .i64 0, .int .i64 0, .int .i64 0, .bool false, .slice none 0 0]) := ⟨Try.zeroValue24⟩
-- 25 impl.Plan
theorem sz25 (w : World) : (sizeOf 25).run Try.prog w = .ok 5 w := by simp [sizeOf, Try.typeInfo25]; rfl
instance : TyAgg Try.prog 25 5 := ⟨Try.isAgg25, sz25⟩
instance : TySize Try.prog 25 5 := ⟨sz25⟩
instance : TyZero Try.prog 25 (.agg #[.int .i64 0, .int .i64 0, .int .i64 0, .bool false, .slice none 0 0]) := ⟨Try.zeroValue25⟩
-- 30 []int
theorem sz30 (w : World) : (sizeOf 30).run Try.prog w = .ok 1 w := by simp [sizeOf, Try.typeInfo30]; rfl
instance : TyCell Try.prog 30 := ⟨Try.isAgg30⟩
instance : TySize Try.prog 30 1 := ⟨sz30⟩
instance : TyUnd Try.prog 30 (.slice 3) := ⟨Try.underlying30, Try.runUnderlying30⟩
instance : TyZero Try.prog 30 (.slice none 0 0) := ⟨Try.zeroValue30⟩
-- 33 []impl.Pane
theorem sz33 (w : World) : (sizeOf 33).run Try.prog w = .ok 1 w := by simp [sizeOf, Try.typeInfo33]; rfl
instance : TyCell Try.prog 33 := ⟨Try.isAgg33⟩
instance : TySize Try.prog 33 1 := ⟨sz33⟩
instance : TyUnd Try.prog 33 (.slice 160) := ⟨Try.underlying33, Try.runUnderlying33⟩
instance : TyZero Try.prog 33 (.slice none 0 0) := ⟨Try.zeroValue33⟩
-- 34 struct { W int; H int; Panes []impl.Pane }
theorem sz34 (w : World) : (sizeOf 34).run Try.prog w = .ok 3 w := by simp [sizeOf, Try.typeInfo34]; rfl
instance : TyAgg Try.prog 34 3 := ⟨Try.isAgg34, sz34⟩
instance : TySize Try.prog 34 3 := ⟨sz34⟩
instance : TyZero Try.prog 34 (.agg #[.int .i64 0, .int .i64 0, .slice none 0 0]) := ⟨Try.zeroValue34⟩
-- 35 impl.Work
theorem sz35 (w : World) : (sizeOf 35).run Try.prog w = .ok 3 w := by simp [sizeOf, Try.typeInfo35]; rfl
instance : TyAgg Try.prog 35 3 := ⟨Try.isAgg35, sz35⟩
instance : TySize Try.prog 35 3 := ⟨sz35⟩
instance : TyZero Try.prog 35 (.agg #[.int .i64 0, .int .i64 0, .slice none 0 0]) := ⟨Try.zeroValue35⟩
-- 41 []impl.Box
theorem sz41 (w : World) : (sizeOf 41).run Try.prog w = .ok 1 w := by simp [sizeOf, Try.typeInfo41]; rfl
instance : TyCell Try.prog 41 := ⟨Try.isAgg41⟩
instance : TySize Try.prog 41 1 := ⟨sz41⟩
instance : TyUnd Try.prog 41 (.slice 47) := ⟨Try.underlying41, Try.runUnderlying41⟩
instance : TyZero Try.prog 41 (.slice none 0 0) := ⟨Try.zeroValue41⟩
-- 43 []impl.Place
theorem sz43 (w : World) : (sizeOf 43).run Try.prog w = .ok 1 w := by simp [sizeOf, Try.typeInfo43]; rfl
instance : TyCell Try.prog 43 := ⟨Try.isAgg43⟩
instance : TySize Try.prog 43 1 := ⟨sz43⟩
instance : TyUnd Try.prog 43 (.slice 117) := ⟨Try.underlying43, Try.runUnderlying43⟩
instance : TyZero Try.prog 43 (.slice none 0 0) := ⟨Try.zeroValue43⟩
-- 46 struct { X int; Y int; W int; H int }
theorem sz46 (w : World) : (sizeOf 46).run Try.prog w = .ok 4 w := by simp [sizeOf, Try.typeInfo46]; rfl
instance : TyAgg Try.prog 46 4 := ⟨Try.isAgg46, sz46⟩
instance : TySize Try.prog 46 4 := ⟨sz46⟩
instance : TyZero Try.prog 46 (.agg #[.int .i64 0, .int .i64 0, .int .i64 0, .int .i64 0]) := ⟨Try.zeroValue46⟩
-- 47 impl.Box
theorem sz47 (w : World) : (sizeOf 47).run Try.prog w = .ok 4 w := by simp [sizeOf, Try.typeInfo47]; rfl
instance : TyAgg Try.prog 47 4 := ⟨Try.isAgg47, sz47⟩
instance : TySize Try.prog 47 4 := ⟨sz47⟩
instance : TyZero Try.prog 47 (.agg #[.int .i64 0, .int .i64 0, .int .i64 0, .int .i64 0]) := ⟨Try.zeroValue47⟩
-- 53 [][]int
theorem sz53 (w : World) : (sizeOf 53).run Try.prog w = .ok 1 w := by simp [sizeOf, Try.typeInfo53]; rfl
instance : TyCell Try.prog 53 := ⟨Try.isAgg53⟩
instance : TySize Try.prog 53 1 := ⟨sz53⟩
instance : TyUnd Try.prog 53 (.slice 30) := ⟨Try.underlying53, Try.runUnderlying53⟩
instance : TyZero Try.prog 53 (.slice none 0 0) := ⟨Try.zeroValue53⟩
-- 72 []laws.Plan
theorem sz72 (w : World) : (sizeOf 72).run Try.prog w = .ok 1 w := by simp [sizeOf, Try.typeInfo72]; rfl
instance : TyCell Try.prog 72 := ⟨Try.isAgg72⟩
instance : TySize Try.prog 72 1 := ⟨sz72⟩
instance : TyUnd Try.prog 72 (.slice 74) := ⟨Try.underlying72, Try.runUnderlying72⟩
instance : TyZero Try.prog 72 (.slice none 0 0) := ⟨Try.zeroValue72⟩
-- 73 struct { Op int; At int; Pane int; Turned bool; Kids []laws.Plan }
theorem sz73 (w : World) : (sizeOf 73).run Try.prog w = .ok 5 w := by simp [sizeOf, Try.typeInfo73]; rfl
instance : TyAgg Try.prog 73 5 := ⟨Try.isAgg73, sz73⟩
instance : TySize Try.prog 73 5 := ⟨sz73⟩
instance : TyZero Try.prog 73 (.agg #[.int .i64 0, .int .i64 0, .int .i64 0, .bool false, .slice none 0 0]) := ⟨Try.zeroValue73⟩
-- 74 laws.Plan
theorem sz74 (w : World) : (sizeOf 74).run Try.prog w = .ok 5 w := by simp [sizeOf, Try.typeInfo74]; rfl
instance : TyAgg Try.prog 74 5 := ⟨Try.isAgg74, sz74⟩
instance : TySize Try.prog 74 5 := ⟨sz74⟩
instance : TyZero Try.prog 74 (.agg #[.int .i64 0, .int .i64 0, .int .i64 0, .bool false, .slice none 0 0]) := ⟨Try.zeroValue74⟩
-- 83 []laws.Pane
theorem sz83 (w : World) : (sizeOf 83).run Try.prog w = .ok 1 w := by simp [sizeOf, Try.typeInfo83]; rfl
instance : TyCell Try.prog 83 := ⟨Try.isAgg83⟩
instance : TySize Try.prog 83 1 := ⟨sz83⟩
instance : TyUnd Try.prog 83 (.slice 179) := ⟨Try.underlying83, Try.runUnderlying83⟩
instance : TyZero Try.prog 83 (.slice none 0 0) := ⟨Try.zeroValue83⟩
-- 84 struct { W int; H int; Panes []laws.Pane }
theorem sz84 (w : World) : (sizeOf 84).run Try.prog w = .ok 3 w := by simp [sizeOf, Try.typeInfo84]; rfl
instance : TyAgg Try.prog 84 3 := ⟨Try.isAgg84, sz84⟩
instance : TySize Try.prog 84 3 := ⟨sz84⟩
instance : TyZero Try.prog 84 (.agg #[.int .i64 0, .int .i64 0, .slice none 0 0]) := ⟨Try.zeroValue84⟩
-- 85 laws.Work
theorem sz85 (w : World) : (sizeOf 85).run Try.prog w = .ok 3 w := by simp [sizeOf, Try.typeInfo85]; rfl
instance : TyAgg Try.prog 85 3 := ⟨Try.isAgg85, sz85⟩
instance : TySize Try.prog 85 3 := ⟨sz85⟩
instance : TyZero Try.prog 85 (.agg #[.int .i64 0, .int .i64 0, .slice none 0 0]) := ⟨Try.zeroValue85⟩
-- 92 []laws.Place
theorem sz92 (w : World) : (sizeOf 92).run Try.prog w = .ok 1 w := by simp [sizeOf, Try.typeInfo92]; rfl
instance : TyCell Try.prog 92 := ⟨Try.isAgg92⟩
instance : TySize Try.prog 92 1 := ⟨sz92⟩
instance : TyUnd Try.prog 92 (.slice 149) := ⟨Try.underlying92, Try.runUnderlying92⟩
instance : TyZero Try.prog 92 (.slice none 0 0) := ⟨Try.zeroValue92⟩
-- 97 *spec.reader
theorem sz97 (w : World) : (sizeOf 97).run Try.prog w = .ok 1 w := by simp [sizeOf, Try.typeInfo97]; rfl
instance : TyCell Try.prog 97 := ⟨Try.isAgg97⟩
instance : TySize Try.prog 97 1 := ⟨sz97⟩
instance : TyUnd Try.prog 97 (.pointer 152) := ⟨Try.underlying97, Try.runUnderlying97⟩
instance : TyZero Try.prog 97 (.pointer none) := ⟨Try.zeroValue97⟩
-- 101 []impl.knot
theorem sz101 (w : World) : (sizeOf 101).run Try.prog w = .ok 1 w := by simp [sizeOf, Try.typeInfo101]; rfl
instance : TyCell Try.prog 101 := ⟨Try.isAgg101⟩
instance : TySize Try.prog 101 1 := ⟨sz101⟩
instance : TyUnd Try.prog 101 (.slice 106) := ⟨Try.underlying101, Try.runUnderlying101⟩
instance : TyZero Try.prog 101 (.slice none 0 0) := ⟨Try.zeroValue101⟩
-- 105 struct { number int; above int }
theorem sz105 (w : World) : (sizeOf 105).run Try.prog w = .ok 2 w := by simp [sizeOf, Try.typeInfo105]; rfl
instance : TyAgg Try.prog 105 2 := ⟨Try.isAgg105, sz105⟩
instance : TySize Try.prog 105 2 := ⟨sz105⟩
instance : TyZero Try.prog 105 (.agg #[.int .i64 0, .int .i64 0]) := ⟨Try.zeroValue105⟩
-- 106 impl.knot
theorem sz106 (w : World) : (sizeOf 106).run Try.prog w = .ok 2 w := by simp [sizeOf, Try.typeInfo106]; rfl
instance : TyAgg Try.prog 106 2 := ⟨Try.isAgg106, sz106⟩
instance : TySize Try.prog 106 2 := ⟨sz106⟩
instance : TyZero Try.prog 106 (.agg #[.int .i64 0, .int .i64 0]) := ⟨Try.zeroValue106⟩
-- 109 []impl.part
theorem sz109 (w : World) : (sizeOf 109).run Try.prog w = .ok 1 w := by simp [sizeOf, Try.typeInfo109]; rfl
instance : TyCell Try.prog 109 := ⟨Try.isAgg109⟩
instance : TySize Try.prog 109 1 := ⟨sz109⟩
instance : TyUnd Try.prog 109 (.slice 112) := ⟨Try.underlying109, Try.runUnderlying109⟩
instance : TyZero Try.prog 109 (.slice none 0 0) := ⟨Try.zeroValue109⟩
-- 111 struct { plan impl.Plan; box impl.Box }
theorem sz111 (w : World) : (sizeOf 111).run Try.prog w = .ok 9 w := by simp [sizeOf, Try.typeInfo111]; rfl
instance : TyAgg Try.prog 111 9 := ⟨Try.isAgg111, sz111⟩
instance : TySize Try.prog 111 9 := ⟨sz111⟩
instance : TyZero Try.prog 111 (.agg #[.int .i64 0, .int .i64 0, .int .i64 0, .bool false, .slice none 0 0, .int .i64 0, .int .i64 0, .int .i64 0, .int .i64 0]) := ⟨Try.zeroValue111⟩
-- 112 impl.part
theorem sz112 (w : World) : (sizeOf 112).run Try.prog w = .ok 9 w := by simp [sizeOf, Try.typeInfo112]; rfl
instance : TyAgg Try.prog 112 9 := ⟨Try.isAgg112, sz112⟩
instance : TySize Try.prog 112 9 := ⟨sz112⟩
instance : TyZero Try.prog 112 (.agg #[.int .i64 0, .int .i64 0, .int .i64 0, .bool false, .slice none 0 0, .int .i64 0, .int .i64 0, .int .i64 0, .int .i64 0]) := ⟨Try.zeroValue112⟩
-- 116 struct { Pane int; Turned bool; Box impl.Box }
theorem sz116 (w : World) : (sizeOf 116).run Try.prog w = .ok 6 w := by simp [sizeOf, Try.typeInfo116]; rfl
instance : TyAgg Try.prog 116 6 := ⟨Try.isAgg116, sz116⟩
instance : TySize Try.prog 116 6 := ⟨sz116⟩
instance : TyZero Try.prog 116 (.agg #[.int .i64 0, .bool false, .int .i64 0, .int .i64 0, .int .i64 0, .int .i64 0]) := ⟨Try.zeroValue116⟩
-- 117 impl.Place
theorem sz117 (w : World) : (sizeOf 117).run Try.prog w = .ok 6 w := by simp [sizeOf, Try.typeInfo117]; rfl
instance : TyAgg Try.prog 117 6 := ⟨Try.isAgg117, sz117⟩
instance : TySize Try.prog 117 6 := ⟨sz117⟩
instance : TyZero Try.prog 117 (.agg #[.int .i64 0, .bool false, .int .i64 0, .int .i64 0, .int .i64 0, .int .i64 0]) := ⟨Try.zeroValue117⟩
-- 147 laws.Box
theorem sz147 (w : World) : (sizeOf 147).run Try.prog w = .ok 4 w := by simp [sizeOf, Try.typeInfo147]; rfl
instance : TyAgg Try.prog 147 4 := ⟨Try.isAgg147, sz147⟩
instance : TySize Try.prog 147 4 := ⟨sz147⟩
instance : TyZero Try.prog 147 (.agg #[.int .i64 0, .int .i64 0, .int .i64 0, .int .i64 0]) := ⟨Try.zeroValue147⟩
-- 148 struct { Pane int; Turned bool; Box laws.Box }
theorem sz148 (w : World) : (sizeOf 148).run Try.prog w = .ok 6 w := by simp [sizeOf, Try.typeInfo148]; rfl
instance : TyAgg Try.prog 148 6 := ⟨Try.isAgg148, sz148⟩
instance : TySize Try.prog 148 6 := ⟨sz148⟩
instance : TyZero Try.prog 148 (.agg #[.int .i64 0, .bool false, .int .i64 0, .int .i64 0, .int .i64 0, .int .i64 0]) := ⟨Try.zeroValue148⟩
-- 149 laws.Place
theorem sz149 (w : World) : (sizeOf 149).run Try.prog w = .ok 6 w := by simp [sizeOf, Try.typeInfo149]; rfl
instance : TyAgg Try.prog 149 6 := ⟨Try.isAgg149, sz149⟩
instance : TySize Try.prog 149 6 := ⟨sz149⟩
instance : TyZero Try.prog 149 (.agg #[.int .i64 0, .bool false, .int .i64 0, .int .i64 0, .int .i64 0, .int .i64 0]) := ⟨Try.zeroValue149⟩
-- 151 struct { b []uint8; p int }
theorem sz151 (w : World) : (sizeOf 151).run Try.prog w = .ok 2 w := by simp [sizeOf, Try.typeInfo151]; rfl
instance : TyAgg Try.prog 151 2 := ⟨Try.isAgg151, sz151⟩
instance : TySize Try.prog 151 2 := ⟨sz151⟩
instance : TyZero Try.prog 151 (.agg #[.slice none 0 0, .int .i64 0]) := ⟨Try.zeroValue151⟩
-- 152 spec.reader
theorem sz152 (w : World) : (sizeOf 152).run Try.prog w = .ok 2 w := by simp [sizeOf, Try.typeInfo152]; rfl
instance : TyAgg Try.prog 152 2 := ⟨Try.isAgg152, sz152⟩
instance : TySize Try.prog 152 2 := ⟨sz152⟩
instance : TyZero Try.prog 152 (.agg #[.slice none 0 0, .int .i64 0]) := ⟨Try.zeroValue152⟩
-- 159 struct { W int; H int; Turns bool; Kind int }
theorem sz159 (w : World) : (sizeOf 159).run Try.prog w = .ok 4 w := by simp [sizeOf, Try.typeInfo159]; rfl
instance : TyAgg Try.prog 159 4 := ⟨Try.isAgg159, sz159⟩
instance : TySize Try.prog 159 4 := ⟨sz159⟩
instance : TyZero Try.prog 159 (.agg #[.int .i64 0, .int .i64 0, .bool false, .int .i64 0]) := ⟨Try.zeroValue159⟩
-- 160 impl.Pane
theorem sz160 (w : World) : (sizeOf 160).run Try.prog w = .ok 4 w := by simp [sizeOf, Try.typeInfo160]; rfl
instance : TyAgg Try.prog 160 4 := ⟨Try.isAgg160, sz160⟩
instance : TySize Try.prog 160 4 := ⟨sz160⟩
instance : TyZero Try.prog 160 (.agg #[.int .i64 0, .int .i64 0, .bool false, .int .i64 0]) := ⟨Try.zeroValue160⟩
-- 164 [255]bool
theorem sz164 (w : World) : (sizeOf 164).run Try.prog w = .ok 255 w := by simp [sizeOf, Try.typeInfo164]; rfl
instance : TyAgg Try.prog 164 255 := ⟨Try.isAgg164, sz164⟩
instance : TySize Try.prog 164 255 := ⟨sz164⟩
instance : TyUnd Try.prog 164 (.array 255 4) := ⟨Try.underlying164, Try.runUnderlying164⟩
instance : TyZero Try.prog 164 (.agg (Array.replicate 255 (.bool false))) := ⟨fun w => (Try.zeroValue164 w).trans (congrArg (fun z => Result.ok (Value.agg z) w) (by kernel_rfl))⟩
-- 169 *spec.planText
theorem sz169 (w : World) : (sizeOf 169).run Try.prog w = .ok 1 w := by simp [sizeOf, Try.typeInfo169]; rfl
instance : TyCell Try.prog 169 := ⟨Try.isAgg169⟩
instance : TySize Try.prog 169 1 := ⟨sz169⟩
instance : TyUnd Try.prog 169 (.pointer 171) := ⟨Try.underlying169, Try.runUnderlying169⟩
instance : TyZero Try.prog 169 (.pointer none) := ⟨Try.zeroValue169⟩
-- 170 struct { text string; at int; bad bool }
theorem sz170 (w : World) : (sizeOf 170).run Try.prog w = .ok 3 w := by simp [sizeOf, Try.typeInfo170]; rfl
instance : TyAgg Try.prog 170 3 := ⟨Try.isAgg170, sz170⟩
instance : TySize Try.prog 170 3 := ⟨sz170⟩
instance : TyZero Try.prog 170 (.agg #[.string ByteArray.empty, .int .i64 0, .bool false]) := ⟨Try.zeroValue170⟩
-- 171 spec.planText
theorem sz171 (w : World) : (sizeOf 171).run Try.prog w = .ok 3 w := by simp [sizeOf, Try.typeInfo171]; rfl
instance : TyAgg Try.prog 171 3 := ⟨Try.isAgg171, sz171⟩
instance : TySize Try.prog 171 3 := ⟨sz171⟩
instance : TyZero Try.prog 171 (.agg #[.string ByteArray.empty, .int .i64 0, .bool false]) := ⟨Try.zeroValue171⟩
-- 179 laws.Pane
theorem sz179 (w : World) : (sizeOf 179).run Try.prog w = .ok 4 w := by simp [sizeOf, Try.typeInfo179]; rfl
instance : TyAgg Try.prog 179 4 := ⟨Try.isAgg179, sz179⟩
instance : TySize Try.prog 179 4 := ⟨sz179⟩
instance : TyZero Try.prog 179 (.agg #[.int .i64 0, .int .i64 0, .bool false, .int .i64 0]) := ⟨Try.zeroValue179⟩
-- 183 *impl.Work
theorem sz183 (w : World) : (sizeOf 183).run Try.prog w = .ok 1 w := by simp [sizeOf, Try.typeInfo183]; rfl
instance : TyCell Try.prog 183 := ⟨Try.isAgg183⟩
instance : TySize Try.prog 183 1 := ⟨sz183⟩
instance : TyUnd Try.prog 183 (.pointer 35) := ⟨Try.underlying183, Try.runUnderlying183⟩
instance : TyZero Try.prog 183 (.pointer none) := ⟨Try.zeroValue183⟩
-- 199 uint32
theorem sz199 (w : World) : (sizeOf 199).run Try.prog w = .ok 1 w := by simp [sizeOf, Try.typeInfo199]; rfl
instance : TyCell Try.prog 199 := ⟨Try.isAgg199⟩
instance : TySize Try.prog 199 1 := ⟨sz199⟩
instance : TyUnd Try.prog 199 (.int .u32) := ⟨Try.underlying199, Try.runUnderlying199⟩
instance : TyZero Try.prog 199 (.int .u32 0) := ⟨Try.zeroValue199⟩
-- 203 *uint8
theorem sz203 (w : World) : (sizeOf 203).run Try.prog w = .ok 1 w := by simp [sizeOf, Try.typeInfo203]; rfl
instance : TyCell Try.prog 203 := ⟨Try.isAgg203⟩
instance : TySize Try.prog 203 1 := ⟨sz203⟩
instance : TyUnd Try.prog 203 (.pointer 5) := ⟨Try.underlying203, Try.runUnderlying203⟩
instance : TyZero Try.prog 203 (.pointer none) := ⟨Try.zeroValue203⟩
instance : TyField Try.prog 24 0 0 := ⟨fun b o w => by simp [Instr.fieldAt, Try.runUnderlying24, Instr.sureAddr, fieldPlace, add_lit]⟩
instance : TyField Try.prog 24 1 1 := ⟨fun b o w => by simp [Instr.fieldAt, Try.runUnderlying24, Instr.sureAddr, fieldPlace, add_lit]⟩
instance : TyField Try.prog 24 2 2 := ⟨fun b o w => by simp [Instr.fieldAt, Try.runUnderlying24, Instr.sureAddr, fieldPlace, add_lit]⟩
instance : TyField Try.prog 24 3 3 := ⟨fun b o w => by simp [Instr.fieldAt, Try.runUnderlying24, Instr.sureAddr, fieldPlace, add_lit]⟩
instance : TyField Try.prog 24 4 4 := ⟨fun b o w => by simp [Instr.fieldAt, Try.runUnderlying24, Instr.sureAddr, fieldPlace, add_lit]⟩
instance : TyField Try.prog 25 0 0 := ⟨fun b o w => by simp [Instr.fieldAt, Try.runUnderlying25, Instr.sureAddr, fieldPlace, add_lit]⟩
instance : TyField Try.prog 25 1 1 := ⟨fun b o w => by simp [Instr.fieldAt, Try.runUnderlying25, Instr.sureAddr, fieldPlace, add_lit]⟩
instance : TyField Try.prog 25 2 2 := ⟨fun b o w => by simp [Instr.fieldAt, Try.runUnderlying25, Instr.sureAddr, fieldPlace, add_lit]⟩
instance : TyField Try.prog 25 3 3 := ⟨fun b o w => by simp [Instr.fieldAt, Try.runUnderlying25, Instr.sureAddr, fieldPlace, add_lit]⟩
instance : TyField Try.prog 25 4 4 := ⟨fun b o w => by simp [Instr.fieldAt, Try.runUnderlying25, Instr.sureAddr, fieldPlace, add_lit]⟩
instance : TyField Try.prog 34 0 0 := ⟨fun b o w => by simp [Instr.fieldAt, Try.runUnderlying34, Instr.sureAddr, fieldPlace, add_lit]⟩
instance : TyField Try.prog 34 1 1 := ⟨fun b o w => by simp [Instr.fieldAt, Try.runUnderlying34, Instr.sureAddr, fieldPlace, add_lit]⟩
instance : TyField Try.prog 34 2 2 := ⟨fun b o w => by simp [Instr.fieldAt, Try.runUnderlying34, Instr.sureAddr, fieldPlace, add_lit]⟩
instance : TyField Try.prog 35 0 0 := ⟨fun b o w => by simp [Instr.fieldAt, Try.runUnderlying35, Instr.sureAddr, fieldPlace, add_lit]⟩
instance : TyField Try.prog 35 1 1 := ⟨fun b o w => by simp [Instr.fieldAt, Try.runUnderlying35, Instr.sureAddr, fieldPlace, add_lit]⟩
instance : TyField Try.prog 35 2 2 := ⟨fun b o w => by simp [Instr.fieldAt, Try.runUnderlying35, Instr.sureAddr, fieldPlace, add_lit]⟩
instance : TyField Try.prog 46 0 0 := ⟨fun b o w => by simp [Instr.fieldAt, Try.runUnderlying46, Instr.sureAddr, fieldPlace, add_lit]⟩
instance : TyField Try.prog 46 1 1 := ⟨fun b o w => by simp [Instr.fieldAt, Try.runUnderlying46, Instr.sureAddr, fieldPlace, add_lit]⟩
instance : TyField Try.prog 46 2 2 := ⟨fun b o w => by simp [Instr.fieldAt, Try.runUnderlying46, Instr.sureAddr, fieldPlace, add_lit]⟩
instance : TyField Try.prog 46 3 3 := ⟨fun b o w => by simp [Instr.fieldAt, Try.runUnderlying46, Instr.sureAddr, fieldPlace, add_lit]⟩
instance : TyField Try.prog 47 0 0 := ⟨fun b o w => by simp [Instr.fieldAt, Try.runUnderlying47, Instr.sureAddr, fieldPlace, add_lit]⟩
instance : TyField Try.prog 47 1 1 := ⟨fun b o w => by simp [Instr.fieldAt, Try.runUnderlying47, Instr.sureAddr, fieldPlace, add_lit]⟩
instance : TyField Try.prog 47 2 2 := ⟨fun b o w => by simp [Instr.fieldAt, Try.runUnderlying47, Instr.sureAddr, fieldPlace, add_lit]⟩
instance : TyField Try.prog 47 3 3 := ⟨fun b o w => by simp [Instr.fieldAt, Try.runUnderlying47, Instr.sureAddr, fieldPlace, add_lit]⟩
instance : TyField Try.prog 73 0 0 := ⟨fun b o w => by simp [Instr.fieldAt, Try.runUnderlying73, Instr.sureAddr, fieldPlace, add_lit]⟩
instance : TyField Try.prog 73 1 1 := ⟨fun b o w => by simp [Instr.fieldAt, Try.runUnderlying73, Instr.sureAddr, fieldPlace, add_lit]⟩
instance : TyField Try.prog 73 2 2 := ⟨fun b o w => by simp [Instr.fieldAt, Try.runUnderlying73, Instr.sureAddr, fieldPlace, add_lit]⟩
instance : TyField Try.prog 73 3 3 := ⟨fun b o w => by simp [Instr.fieldAt, Try.runUnderlying73, Instr.sureAddr, fieldPlace, add_lit]⟩
instance : TyField Try.prog 73 4 4 := ⟨fun b o w => by simp [Instr.fieldAt, Try.runUnderlying73, Instr.sureAddr, fieldPlace, add_lit]⟩
instance : TyField Try.prog 74 0 0 := ⟨fun b o w => by simp [Instr.fieldAt, Try.runUnderlying74, Instr.sureAddr, fieldPlace, add_lit]⟩
instance : TyField Try.prog 74 1 1 := ⟨fun b o w => by simp [Instr.fieldAt, Try.runUnderlying74, Instr.sureAddr, fieldPlace, add_lit]⟩
instance : TyField Try.prog 74 2 2 := ⟨fun b o w => by simp [Instr.fieldAt, Try.runUnderlying74, Instr.sureAddr, fieldPlace, add_lit]⟩
instance : TyField Try.prog 74 3 3 := ⟨fun b o w => by simp [Instr.fieldAt, Try.runUnderlying74, Instr.sureAddr, fieldPlace, add_lit]⟩
instance : TyField Try.prog 74 4 4 := ⟨fun b o w => by simp [Instr.fieldAt, Try.runUnderlying74, Instr.sureAddr, fieldPlace, add_lit]⟩
instance : TyField Try.prog 84 0 0 := ⟨fun b o w => by simp [Instr.fieldAt, Try.runUnderlying84, Instr.sureAddr, fieldPlace, add_lit]⟩
instance : TyField Try.prog 84 1 1 := ⟨fun b o w => by simp [Instr.fieldAt, Try.runUnderlying84, Instr.sureAddr, fieldPlace, add_lit]⟩
instance : TyField Try.prog 84 2 2 := ⟨fun b o w => by simp [Instr.fieldAt, Try.runUnderlying84, Instr.sureAddr, fieldPlace, add_lit]⟩
instance : TyField Try.prog 85 0 0 := ⟨fun b o w => by simp [Instr.fieldAt, Try.runUnderlying85, Instr.sureAddr, fieldPlace, add_lit]⟩
instance : TyField Try.prog 85 1 1 := ⟨fun b o w => by simp [Instr.fieldAt, Try.runUnderlying85, Instr.sureAddr, fieldPlace, add_lit]⟩
instance : TyField Try.prog 85 2 2 := ⟨fun b o w => by simp [Instr.fieldAt, Try.runUnderlying85, Instr.sureAddr, fieldPlace, add_lit]⟩
instance : TyField Try.prog 105 0 0 := ⟨fun b o w => by simp [Instr.fieldAt, Try.runUnderlying105, Instr.sureAddr, fieldPlace, add_lit]⟩
instance : TyField Try.prog 105 1 1 := ⟨fun b o w => by simp [Instr.fieldAt, Try.runUnderlying105, Instr.sureAddr, fieldPlace, add_lit]⟩
instance : TyField Try.prog 106 0 0 := ⟨fun b o w => by simp [Instr.fieldAt, Try.runUnderlying106, Instr.sureAddr, fieldPlace, add_lit]⟩
instance : TyField Try.prog 106 1 1 := ⟨fun b o w => by simp [Instr.fieldAt, Try.runUnderlying106, Instr.sureAddr, fieldPlace, add_lit]⟩
instance : TyField Try.prog 111 0 0 := ⟨fun b o w => by simp [Instr.fieldAt, Try.runUnderlying111, Instr.sureAddr, fieldPlace, add_lit]⟩
instance : TyField Try.prog 111 1 5 := ⟨fun b o w => by simp [Instr.fieldAt, Try.runUnderlying111, Instr.sureAddr, fieldPlace, add_lit]⟩
instance : TyField Try.prog 112 0 0 := ⟨fun b o w => by simp [Instr.fieldAt, Try.runUnderlying112, Instr.sureAddr, fieldPlace, add_lit]⟩
instance : TyField Try.prog 112 1 5 := ⟨fun b o w => by simp [Instr.fieldAt, Try.runUnderlying112, Instr.sureAddr, fieldPlace, add_lit]⟩
instance : TyField Try.prog 116 0 0 := ⟨fun b o w => by simp [Instr.fieldAt, Try.runUnderlying116, Instr.sureAddr, fieldPlace, add_lit]⟩
instance : TyField Try.prog 116 1 1 := ⟨fun b o w => by simp [Instr.fieldAt, Try.runUnderlying116, Instr.sureAddr, fieldPlace, add_lit]⟩
instance : TyField Try.prog 116 2 2 := ⟨fun b o w => by simp [Instr.fieldAt, Try.runUnderlying116, Instr.sureAddr, fieldPlace, add_lit]⟩
instance : TyField Try.prog 117 0 0 := ⟨fun b o w => by simp [Instr.fieldAt, Try.runUnderlying117, Instr.sureAddr, fieldPlace, add_lit]⟩
instance : TyField Try.prog 117 1 1 := ⟨fun b o w => by simp [Instr.fieldAt, Try.runUnderlying117, Instr.sureAddr, fieldPlace, add_lit]⟩
instance : TyField Try.prog 117 2 2 := ⟨fun b o w => by simp [Instr.fieldAt, Try.runUnderlying117, Instr.sureAddr, fieldPlace, add_lit]⟩
instance : TyField Try.prog 147 0 0 := ⟨fun b o w => by simp [Instr.fieldAt, Try.runUnderlying147, Instr.sureAddr, fieldPlace, add_lit]⟩
instance : TyField Try.prog 147 1 1 := ⟨fun b o w => by simp [Instr.fieldAt, Try.runUnderlying147, Instr.sureAddr, fieldPlace, add_lit]⟩
instance : TyField Try.prog 147 2 2 := ⟨fun b o w => by simp [Instr.fieldAt, Try.runUnderlying147, Instr.sureAddr, fieldPlace, add_lit]⟩
instance : TyField Try.prog 147 3 3 := ⟨fun b o w => by simp [Instr.fieldAt, Try.runUnderlying147, Instr.sureAddr, fieldPlace, add_lit]⟩
instance : TyField Try.prog 148 0 0 := ⟨fun b o w => by simp [Instr.fieldAt, Try.runUnderlying148, Instr.sureAddr, fieldPlace, add_lit]⟩
instance : TyField Try.prog 148 1 1 := ⟨fun b o w => by simp [Instr.fieldAt, Try.runUnderlying148, Instr.sureAddr, fieldPlace, add_lit]⟩
instance : TyField Try.prog 148 2 2 := ⟨fun b o w => by simp [Instr.fieldAt, Try.runUnderlying148, Instr.sureAddr, fieldPlace, add_lit]⟩
instance : TyField Try.prog 149 0 0 := ⟨fun b o w => by simp [Instr.fieldAt, Try.runUnderlying149, Instr.sureAddr, fieldPlace, add_lit]⟩
instance : TyField Try.prog 149 1 1 := ⟨fun b o w => by simp [Instr.fieldAt, Try.runUnderlying149, Instr.sureAddr, fieldPlace, add_lit]⟩
instance : TyField Try.prog 149 2 2 := ⟨fun b o w => by simp [Instr.fieldAt, Try.runUnderlying149, Instr.sureAddr, fieldPlace, add_lit]⟩
instance : TyField Try.prog 151 0 0 := ⟨fun b o w => by simp [Instr.fieldAt, Try.runUnderlying151, Instr.sureAddr, fieldPlace, add_lit]⟩
instance : TyField Try.prog 151 1 1 := ⟨fun b o w => by simp [Instr.fieldAt, Try.runUnderlying151, Instr.sureAddr, fieldPlace, add_lit]⟩
instance : TyField Try.prog 152 0 0 := ⟨fun b o w => by simp [Instr.fieldAt, Try.runUnderlying152, Instr.sureAddr, fieldPlace, add_lit]⟩
instance : TyField Try.prog 152 1 1 := ⟨fun b o w => by simp [Instr.fieldAt, Try.runUnderlying152, Instr.sureAddr, fieldPlace, add_lit]⟩
instance : TyField Try.prog 159 0 0 := ⟨fun b o w => by simp [Instr.fieldAt, Try.runUnderlying159, Instr.sureAddr, fieldPlace, add_lit]⟩
instance : TyField Try.prog 159 1 1 := ⟨fun b o w => by simp [Instr.fieldAt, Try.runUnderlying159, Instr.sureAddr, fieldPlace, add_lit]⟩
instance : TyField Try.prog 159 2 2 := ⟨fun b o w => by simp [Instr.fieldAt, Try.runUnderlying159, Instr.sureAddr, fieldPlace, add_lit]⟩
instance : TyField Try.prog 159 3 3 := ⟨fun b o w => by simp [Instr.fieldAt, Try.runUnderlying159, Instr.sureAddr, fieldPlace, add_lit]⟩
instance : TyField Try.prog 160 0 0 := ⟨fun b o w => by simp [Instr.fieldAt, Try.runUnderlying160, Instr.sureAddr, fieldPlace, add_lit]⟩
instance : TyField Try.prog 160 1 1 := ⟨fun b o w => by simp [Instr.fieldAt, Try.runUnderlying160, Instr.sureAddr, fieldPlace, add_lit]⟩
instance : TyField Try.prog 160 2 2 := ⟨fun b o w => by simp [Instr.fieldAt, Try.runUnderlying160, Instr.sureAddr, fieldPlace, add_lit]⟩
instance : TyField Try.prog 160 3 3 := ⟨fun b o w => by simp [Instr.fieldAt, Try.runUnderlying160, Instr.sureAddr, fieldPlace, add_lit]⟩
instance : TyField Try.prog 170 0 0 := ⟨fun b o w => by simp [Instr.fieldAt, Try.runUnderlying170, Instr.sureAddr, fieldPlace, add_lit]⟩
instance : TyField Try.prog 170 1 1 := ⟨fun b o w => by simp [Instr.fieldAt, Try.runUnderlying170, Instr.sureAddr, fieldPlace, add_lit]⟩
instance : TyField Try.prog 170 2 2 := ⟨fun b o w => by simp [Instr.fieldAt, Try.runUnderlying170, Instr.sureAddr, fieldPlace, add_lit]⟩
instance : TyField Try.prog 171 0 0 := ⟨fun b o w => by simp [Instr.fieldAt, Try.runUnderlying171, Instr.sureAddr, fieldPlace, add_lit]⟩
instance : TyField Try.prog 171 1 1 := ⟨fun b o w => by simp [Instr.fieldAt, Try.runUnderlying171, Instr.sureAddr, fieldPlace, add_lit]⟩
instance : TyField Try.prog 171 2 2 := ⟨fun b o w => by simp [Instr.fieldAt, Try.runUnderlying171, Instr.sureAddr, fieldPlace, add_lit]⟩
instance : TyField Try.prog 179 0 0 := ⟨fun b o w => by simp [Instr.fieldAt, Try.runUnderlying179, Instr.sureAddr, fieldPlace, add_lit]⟩
instance : TyField Try.prog 179 1 1 := ⟨fun b o w => by simp [Instr.fieldAt, Try.runUnderlying179, Instr.sureAddr, fieldPlace, add_lit]⟩
instance : TyField Try.prog 179 2 2 := ⟨fun b o w => by simp [Instr.fieldAt, Try.runUnderlying179, Instr.sureAddr, fieldPlace, add_lit]⟩
instance : TyField Try.prog 179 3 3 := ⟨fun b o w => by simp [Instr.fieldAt, Try.runUnderlying179, Instr.sureAddr, fieldPlace, add_lit]⟩
instance : TyElem Try.prog 22 5 1 [.int .u8 0] := ⟨Try.underlying22, Try.runUnderlying22, sz5, ⟨_, Try.zeroValue5, rfl⟩, rfl, by decide, ⟨Try.t5, _, by kernel_rfl, rfl, rfl, rfl, by decide⟩⟩
instance : TyElem Try.prog 23 25 5 [.int .i64 0, .int .i64 0, .int .i64 0, .bool false, .slice none 0 0] := ⟨Try.underlying23, Try.runUnderlying23, sz25, ⟨_, Try.zeroValue25, rfl⟩, rfl, by decide, ⟨Try.t25, _, by kernel_rfl, rfl, rfl, rfl, by decide⟩⟩
instance : TyBuild Try.prog 24 [.int .i64 0, .int .i64 0, .int .i64 0, .bool false, .slice none 0 0] [(0, 1), (1, 1), (2, 1), (3, 1), (4, 1)] := TyBuild.of Try.zeroValue24 Try.runUnderlying24 (fun w => by simp)
instance : TyBuild Try.prog 25 [.int .i64 0, .int .i64 0, .int .i64 0, .bool false, .slice none 0 0] [(0, 1), (1, 1), (2, 1), (3, 1), (4, 1)] := TyBuild.of Try.zeroValue25 Try.runUnderlying25 (fun w => by simp)
instance : TyElem Try.prog 30 3 1 [.int .i64 0] := ⟨Try.underlying30, Try.runUnderlying30, sz3, ⟨_, Try.zeroValue3, rfl⟩, rfl, by decide, ⟨Try.t3, _, by kernel_rfl, rfl, rfl, rfl, by decide⟩⟩
instance : TyElem Try.prog 33 160 4 [.int .i64 0, .int .i64 0, .bool false, .int .i64 0] := ⟨Try.underlying33, Try.runUnderlying33, sz160, ⟨_, Try.zeroValue160, rfl⟩, rfl, by decide, ⟨Try.t160, _, by kernel_rfl, rfl, rfl, rfl, by decide⟩⟩
instance : TyBuild Try.prog 34 [.int .i64 0, .int .i64 0, .slice none 0 0] [(0, 1), (1, 1), (2, 1)] := TyBuild.of Try.zeroValue34 Try.runUnderlying34 (fun w => by simp)
instance : TyBuild Try.prog 35 [.int .i64 0, .int .i64 0, .slice none 0 0] [(0, 1), (1, 1), (2, 1)] := TyBuild.of Try.zeroValue35 Try.runUnderlying35 (fun w => by simp)
instance : TyElem Try.prog 41 47 4 [.int .i64 0, .int .i64 0, .int .i64 0, .int .i64 0] := ⟨Try.underlying41, Try.runUnderlying41, sz47, ⟨_, Try.zeroValue47, rfl⟩, rfl, by decide, ⟨Try.t47, _, by kernel_rfl, rfl, rfl, rfl, by decide⟩⟩
instance : TyElem Try.prog 43 117 6 [.int .i64 0, .bool false, .int .i64 0, .int .i64 0, .int .i64 0, .int .i64 0] := ⟨Try.underlying43, Try.runUnderlying43, sz117, ⟨_, Try.zeroValue117, rfl⟩, rfl, by decide, ⟨Try.t117, _, by kernel_rfl, rfl, rfl, rfl, by decide⟩⟩
instance : TyBuild Try.prog 46 [.int .i64 0, .int .i64 0, .int .i64 0, .int .i64 0] [(0, 1), (1, 1), (2, 1), (3, 1)] := TyBuild.of Try.zeroValue46 Try.runUnderlying46 (fun w => by simp)
instance : TyBuild Try.prog 47 [.int .i64 0, .int .i64 0, .int .i64 0, .int .i64 0] [(0, 1), (1, 1), (2, 1), (3, 1)] := TyBuild.of Try.zeroValue47 Try.runUnderlying47 (fun w => by simp)
instance : TyElem Try.prog 53 30 1 [.slice none 0 0] := ⟨Try.underlying53, Try.runUnderlying53, sz30, ⟨_, Try.zeroValue30, rfl⟩, rfl, by decide, ⟨Try.t30, _, by kernel_rfl, rfl, rfl, rfl, by decide⟩⟩
instance : TyElem Try.prog 72 74 5 [.int .i64 0, .int .i64 0, .int .i64 0, .bool false, .slice none 0 0] := ⟨Try.underlying72, Try.runUnderlying72, sz74, ⟨_, Try.zeroValue74, rfl⟩, rfl, by decide, ⟨Try.t74, _, by kernel_rfl, rfl, rfl, rfl, by decide⟩⟩
instance : TyBuild Try.prog 73 [.int .i64 0, .int .i64 0, .int .i64 0, .bool false, .slice none 0 0] [(0, 1), (1, 1), (2, 1), (3, 1), (4, 1)] := TyBuild.of Try.zeroValue73 Try.runUnderlying73 (fun w => by simp)
instance : TyBuild Try.prog 74 [.int .i64 0, .int .i64 0, .int .i64 0, .bool false, .slice none 0 0] [(0, 1), (1, 1), (2, 1), (3, 1), (4, 1)] := TyBuild.of Try.zeroValue74 Try.runUnderlying74 (fun w => by simp)
instance : TyElem Try.prog 83 179 4 [.int .i64 0, .int .i64 0, .bool false, .int .i64 0] := ⟨Try.underlying83, Try.runUnderlying83, sz179, ⟨_, Try.zeroValue179, rfl⟩, rfl, by decide, ⟨Try.t179, _, by kernel_rfl, rfl, rfl, rfl, by decide⟩⟩
instance : TyBuild Try.prog 84 [.int .i64 0, .int .i64 0, .slice none 0 0] [(0, 1), (1, 1), (2, 1)] := TyBuild.of Try.zeroValue84 Try.runUnderlying84 (fun w => by simp)
instance : TyBuild Try.prog 85 [.int .i64 0, .int .i64 0, .slice none 0 0] [(0, 1), (1, 1), (2, 1)] := TyBuild.of Try.zeroValue85 Try.runUnderlying85 (fun w => by simp)
instance : TyElem Try.prog 92 149 6 [.int .i64 0, .bool false, .int .i64 0, .int .i64 0, .int .i64 0, .int .i64 0] := ⟨Try.underlying92, Try.runUnderlying92, sz149, ⟨_, Try.zeroValue149, rfl⟩, rfl, by decide, ⟨Try.t149, _, by kernel_rfl, rfl, rfl, rfl, by decide⟩⟩
instance : TyElem Try.prog 101 106 2 [.int .i64 0, .int .i64 0] := ⟨Try.underlying101, Try.runUnderlying101, sz106, ⟨_, Try.zeroValue106, rfl⟩, rfl, by decide, ⟨Try.t106, _, by kernel_rfl, rfl, rfl, rfl, by decide⟩⟩
instance : TyBuild Try.prog 105 [.int .i64 0, .int .i64 0] [(0, 1), (1, 1)] := TyBuild.of Try.zeroValue105 Try.runUnderlying105 (fun w => by simp)
instance : TyBuild Try.prog 106 [.int .i64 0, .int .i64 0] [(0, 1), (1, 1)] := TyBuild.of Try.zeroValue106 Try.runUnderlying106 (fun w => by simp)
instance : TyElem Try.prog 109 112 9 [.int .i64 0, .int .i64 0, .int .i64 0, .bool false, .slice none 0 0, .int .i64 0, .int .i64 0, .int .i64 0, .int .i64 0] := ⟨Try.underlying109, Try.runUnderlying109, sz112, ⟨_, Try.zeroValue112, rfl⟩, rfl, by decide, ⟨Try.t112, _, by kernel_rfl, rfl, rfl, rfl, by decide⟩⟩
instance : TyBuild Try.prog 111 [.int .i64 0, .int .i64 0, .int .i64 0, .bool false, .slice none 0 0, .int .i64 0, .int .i64 0, .int .i64 0, .int .i64 0] [(0, 5), (5, 4)] := TyBuild.of Try.zeroValue111 Try.runUnderlying111 (fun w => by simp)
instance : TyBuild Try.prog 112 [.int .i64 0, .int .i64 0, .int .i64 0, .bool false, .slice none 0 0, .int .i64 0, .int .i64 0, .int .i64 0, .int .i64 0] [(0, 5), (5, 4)] := TyBuild.of Try.zeroValue112 Try.runUnderlying112 (fun w => by simp)
instance : TyBuild Try.prog 116 [.int .i64 0, .bool false, .int .i64 0, .int .i64 0, .int .i64 0, .int .i64 0] [(0, 1), (1, 1), (2, 4)] := TyBuild.of Try.zeroValue116 Try.runUnderlying116 (fun w => by simp)
instance : TyBuild Try.prog 117 [.int .i64 0, .bool false, .int .i64 0, .int .i64 0, .int .i64 0, .int .i64 0] [(0, 1), (1, 1), (2, 4)] := TyBuild.of Try.zeroValue117 Try.runUnderlying117 (fun w => by simp)
instance : TyBuild Try.prog 147 [.int .i64 0, .int .i64 0, .int .i64 0, .int .i64 0] [(0, 1), (1, 1), (2, 1), (3, 1)] := TyBuild.of Try.zeroValue147 Try.runUnderlying147 (fun w => by simp)
instance : TyBuild Try.prog 148 [.int .i64 0, .bool false, .int .i64 0, .int .i64 0, .int .i64 0, .int .i64 0] [(0, 1), (1, 1), (2, 4)] := TyBuild.of Try.zeroValue148 Try.runUnderlying148 (fun w => by simp)
instance : TyBuild Try.prog 149 [.int .i64 0, .bool false, .int .i64 0, .int .i64 0, .int .i64 0, .int .i64 0] [(0, 1), (1, 1), (2, 4)] := TyBuild.of Try.zeroValue149 Try.runUnderlying149 (fun w => by simp)
instance : TyBuild Try.prog 151 [.slice none 0 0, .int .i64 0] [(0, 1), (1, 1)] := TyBuild.of Try.zeroValue151 Try.runUnderlying151 (fun w => by simp)
instance : TyBuild Try.prog 152 [.slice none 0 0, .int .i64 0] [(0, 1), (1, 1)] := TyBuild.of Try.zeroValue152 Try.runUnderlying152 (fun w => by simp)
instance : TyBuild Try.prog 159 [.int .i64 0, .int .i64 0, .bool false, .int .i64 0] [(0, 1), (1, 1), (2, 1), (3, 1)] := TyBuild.of Try.zeroValue159 Try.runUnderlying159 (fun w => by simp)
instance : TyBuild Try.prog 160 [.int .i64 0, .int .i64 0, .bool false, .int .i64 0] [(0, 1), (1, 1), (2, 1), (3, 1)] := TyBuild.of Try.zeroValue160 Try.runUnderlying160 (fun w => by simp)
instance : TyBuild Try.prog 170 [.string ByteArray.empty, .int .i64 0, .bool false] [(0, 1), (1, 1), (2, 1)] := TyBuild.of Try.zeroValue170 Try.runUnderlying170 (fun w => by simp)
instance : TyBuild Try.prog 171 [.string ByteArray.empty, .int .i64 0, .bool false] [(0, 1), (1, 1), (2, 1)] := TyBuild.of Try.zeroValue171 Try.runUnderlying171 (fun w => by simp)
instance : TyBuild Try.prog 179 [.int .i64 0, .int .i64 0, .bool false, .int .i64 0] [(0, 1), (1, 1), (2, 1), (3, 1)] := TyBuild.of Try.zeroValue179 Try.runUnderlying179 (fun w => by simp)
-- loop.example/panecutter/laws.FnAboveOf
instance : TyFn Try.prog 3 := TyFn.of Try.func3 (by kernel_rfl) rfl
-- loop.example/panecutter/laws.FnCutLengths
instance : TyFn Try.prog 4 := TyFn.of Try.func4 (by kernel_rfl) rfl
-- loop.example/panecutter/laws.FnNumbersOf
instance : TyFn Try.prog 5 := TyFn.of Try.func5 (by kernel_rfl) rfl
-- loop.example/panecutter/laws.FnAllSteps
instance : TyFn Try.prog 6 := TyFn.of Try.func6 (by kernel_rfl) rfl
-- loop.example/panecutter/laws.FnBestSteps
instance : TyFn Try.prog 7 := TyFn.of Try.func7 (by kernel_rfl) rfl
-- loop.example/panecutter/laws.FnValidSteps
instance : TyFn Try.prog 8 := TyFn.of Try.func8 (by kernel_rfl) rfl
-- loop.example/panecutter/laws.FnMirrorPlanPlaces
instance : TyFn Try.prog 9 := TyFn.of Try.func9 (by kernel_rfl) rfl
-- loop.example/panecutter/laws.FnLostArea
instance : TyFn Try.prog 10 := TyFn.of Try.func10 (by kernel_rfl) rfl
-- loop.example/panecutter/laws.FnValidPlaces
instance : TyFn Try.prog 11 := TyFn.of Try.func11 (by kernel_rfl) rfl
-- loop.example/panecutter/laws.FnExactParsePlan
instance : TyFn Try.prog 12 := TyFn.of Try.func12 (by kernel_rfl) rfl
-- loop.example/panecutter/laws.FnExactSwapSteps
instance : TyFn Try.prog 13 := TyFn.of Try.func13 (by kernel_rfl) rfl
-- loop.example/panecutter/laws.FnExactWaitingOf
instance : TyFn Try.prog 14 := TyFn.of Try.func14 (by kernel_rfl) rfl
-- loop.example/panecutter/laws.FnExactValidPlan
instance : TyFn Try.prog 15 := TyFn.of Try.func15 (by kernel_rfl) rfl
-- loop.example/panecutter/laws.FnExactAllSteps
instance : TyFn Try.prog 16 := TyFn.of Try.func16 (by kernel_rfl) rfl
-- loop.example/panecutter/laws.FnExactValidPlaces
instance : TyFn Try.prog 17 := TyFn.of Try.func17 (by kernel_rfl) rfl
-- loop.example/panecutter/spec.DrawAboveOf
instance : TyFn Try.prog 18 := TyFn.of Try.func18 (by kernel_rfl) rfl
-- loop.example/panecutter/impl.AboveOf
instance : TyFn Try.prog 19 := TyFn.of Try.func19 (by kernel_rfl) rfl
-- loop.example/panecutter/spec.AboveOf
instance : TyFn Try.prog 20 := TyFn.of Try.func20 (by kernel_rfl) rfl
-- loop.example/panecutter/laws.isIn
instance : TyFn Try.prog 21 := TyFn.of Try.func21 (by kernel_rfl) rfl
-- loop.example/panecutter/impl.NumbersOf
instance : TyFn Try.prog 22 := TyFn.of Try.func22 (by kernel_rfl) rfl
-- loop.example/panecutter/spec.DrawCutLengths
instance : TyFn Try.prog 23 := TyFn.of Try.func23 (by kernel_rfl) rfl
-- loop.example/panecutter/impl.CutLengths
instance : TyFn Try.prog 24 := TyFn.of Try.func24 (by kernel_rfl) rfl
-- loop.example/panecutter/laws.equalInts
instance : TyFn Try.prog 25 := TyFn.of Try.func25 (by kernel_rfl) rfl
-- loop.example/panecutter/spec.CutLengths
instance : TyFn Try.prog 26 := TyFn.of Try.func26 (by kernel_rfl) rfl
-- loop.example/panecutter/impl.ValidPlan
instance : TyFn Try.prog 27 := TyFn.of Try.func27 (by kernel_rfl) rfl
-- loop.example/panecutter/laws.boxesOf
instance : TyFn Try.prog 28 := TyFn.of Try.func28 (by kernel_rfl) rfl
-- loop.example/panecutter/impl.PlacesOf
instance : TyFn Try.prog 29 := TyFn.of Try.func29 (by kernel_rfl) rfl
-- loop.example/panecutter/impl.WastesOf
instance : TyFn Try.prog 30 := TyFn.of Try.func30 (by kernel_rfl) rfl
-- loop.example/panecutter/laws.total
instance : TyFn Try.prog 31 := TyFn.of Try.func31 (by kernel_rfl) rfl
-- loop.example/panecutter/impl.CutsOf
instance : TyFn Try.prog 32 := TyFn.of Try.func32 (by kernel_rfl) rfl
-- loop.example/panecutter/spec.DrawNumbersOf
instance : TyFn Try.prog 33 := TyFn.of Try.func33 (by kernel_rfl) rfl
-- loop.example/panecutter/spec.NumbersOf
instance : TyFn Try.prog 34 := TyFn.of Try.func34 (by kernel_rfl) rfl
-- loop.example/panecutter/impl.PlanSize
instance : TyFn Try.prog 35 := TyFn.of Try.func35 (by kernel_rfl) rfl
-- loop.example/panecutter/laws.ascends
instance : TyFn Try.prog 36 := TyFn.of Try.func36 (by kernel_rfl) rfl
-- loop.example/panecutter/impl.ValidSteps
instance : TyFn Try.prog 37 := TyFn.of Try.func37 (by kernel_rfl) rfl
-- loop.example/panecutter/spec.DrawAllSteps
instance : TyFn Try.prog 38 := TyFn.of Try.func38 (by kernel_rfl) rfl
-- loop.example/panecutter/impl.AllSteps
instance : TyFn Try.prog 39 := TyFn.of Try.func39 (by kernel_rfl) rfl
-- loop.example/panecutter/laws.equalLists
instance : TyFn Try.prog 40 := TyFn.of Try.func40 (by kernel_rfl) rfl
-- loop.example/panecutter/spec.AllSteps
instance : TyFn Try.prog 41 := TyFn.of Try.func41 (by kernel_rfl) rfl
-- loop.example/panecutter/impl.CountSteps
instance : TyFn Try.prog 42 := TyFn.of Try.func42 (by kernel_rfl) rfl
-- loop.example/panecutter/spec.DrawBestSteps
instance : TyFn Try.prog 43 := TyFn.of Try.func43 (by kernel_rfl) rfl
-- loop.example/panecutter/impl.BestSteps
instance : TyFn Try.prog 44 := TyFn.of Try.func44 (by kernel_rfl) rfl
-- loop.example/panecutter/spec.BestSteps
instance : TyFn Try.prog 45 := TyFn.of Try.func45 (by kernel_rfl) rfl
-- loop.example/panecutter/laws.highest
instance : TyFn Try.prog 46 := TyFn.of Try.func46 (by kernel_rfl) rfl
-- loop.example/panecutter/impl.WaitingOf
instance : TyFn Try.prog 47 := TyFn.of Try.func47 (by kernel_rfl) rfl
-- loop.example/panecutter/impl.LeastTable
instance : TyFn Try.prog 48 := TyFn.of Try.func48 (by kernel_rfl) rfl
-- loop.example/panecutter/spec.DrawValidSteps
instance : TyFn Try.prog 49 := TyFn.of Try.func49 (by kernel_rfl) rfl
-- loop.example/panecutter/spec.ValidSteps
instance : TyFn Try.prog 50 := TyFn.of Try.func50 (by kernel_rfl) rfl
-- loop.example/panecutter/spec.DrawMirrorPlan
instance : TyFn Try.prog 51 := TyFn.of Try.func51 (by kernel_rfl) rfl
-- loop.example/panecutter/impl.MirrorPlan
instance : TyFn Try.prog 52 := TyFn.of Try.func52 (by kernel_rfl) rfl
-- loop.example/panecutter/laws.equalPlan
instance : TyFn Try.prog 53 := TyFn.of Try.func53 (by kernel_rfl) rfl
-- loop.example/panecutter/spec.MirrorPlan
instance : TyFn Try.prog 54 := TyFn.of Try.func54 (by kernel_rfl) rfl
-- loop.example/panecutter/laws.sameBoxes
instance : TyFn Try.prog 55 := TyFn.of Try.func55 (by kernel_rfl) rfl
-- loop.example/panecutter/spec.DrawLostArea
instance : TyFn Try.prog 56 := TyFn.of Try.func56 (by kernel_rfl) rfl
-- loop.example/panecutter/impl.LostArea
instance : TyFn Try.prog 57 := TyFn.of Try.func57 (by kernel_rfl) rfl
-- loop.example/panecutter/spec.LostArea
instance : TyFn Try.prog 58 := TyFn.of Try.func58 (by kernel_rfl) rfl
-- loop.example/panecutter/laws.area
instance : TyFn Try.prog 59 := TyFn.of Try.func59 (by kernel_rfl) rfl
-- loop.example/panecutter/spec.DrawValidPlaces
instance : TyFn Try.prog 60 := TyFn.of Try.func60 (by kernel_rfl) rfl
-- loop.example/panecutter/impl.ValidPlaces
instance : TyFn Try.prog 61 := TyFn.of Try.func61 (by kernel_rfl) rfl
-- loop.example/panecutter/spec.ValidPlaces
instance : TyFn Try.prog 62 := TyFn.of Try.func62 (by kernel_rfl) rfl
-- loop.example/panecutter/spec.ParsePlan
instance : TyFn Try.prog 63 := TyFn.of Try.func63 (by kernel_rfl) rfl
-- loop.example/panecutter/impl.ParsePlan
instance : TyFn Try.prog 64 := TyFn.of Try.func64 (by kernel_rfl) rfl
-- loop.example/panecutter/laws.eqPlan
instance : TyFn Try.prog 65 := TyFn.of Try.func65 (by kernel_rfl) rfl
-- loop.example/panecutter/laws.markPlan
instance : TyFn Try.prog 66 := TyFn.of Try.func66 (by kernel_rfl) rfl
-- loop.example/panecutter/laws.heldPlan
instance : TyFn Try.prog 67 := TyFn.of Try.func67 (by kernel_rfl) rfl
-- loop.example/panecutter/laws.szPlan
instance : TyFn Try.prog 68 := TyFn.of Try.func68 (by kernel_rfl) rfl
-- loop.example/panecutter/spec.SwapSteps
instance : TyFn Try.prog 69 := TyFn.of Try.func69 (by kernel_rfl) rfl
-- loop.example/panecutter/laws.toPlan
instance : TyFn Try.prog 70 := TyFn.of Try.func70 (by kernel_rfl) rfl
-- loop.example/panecutter/laws.toIntS
instance : TyFn Try.prog 71 := TyFn.of Try.func71 (by kernel_rfl) rfl
-- loop.example/panecutter/impl.SwapSteps
instance : TyFn Try.prog 72 := TyFn.of Try.func72 (by kernel_rfl) rfl
-- loop.example/panecutter/laws.eqIntS
instance : TyFn Try.prog 73 := TyFn.of Try.func73 (by kernel_rfl) rfl
-- loop.example/panecutter/laws.markIntS
instance : TyFn Try.prog 74 := TyFn.of Try.func74 (by kernel_rfl) rfl
-- loop.example/panecutter/laws.heldIntS
instance : TyFn Try.prog 75 := TyFn.of Try.func75 (by kernel_rfl) rfl
-- loop.example/panecutter/spec.WaitingOf
instance : TyFn Try.prog 76 := TyFn.of Try.func76 (by kernel_rfl) rfl
-- loop.example/panecutter/laws.szWork
instance : TyFn Try.prog 77 := TyFn.of Try.func77 (by kernel_rfl) rfl
-- loop.example/panecutter/spec.ValidPlan
instance : TyFn Try.prog 78 := TyFn.of Try.func78 (by kernel_rfl) rfl
-- loop.example/panecutter/laws.toWork
instance : TyFn Try.prog 79 := TyFn.of Try.func79 (by kernel_rfl) rfl
-- loop.example/panecutter/laws.eqWork
instance : TyFn Try.prog 80 := TyFn.of Try.func80 (by kernel_rfl) rfl
-- loop.example/panecutter/laws.eqIntSS
instance : TyFn Try.prog 81 := TyFn.of Try.func81 (by kernel_rfl) rfl
-- loop.example/panecutter/laws.markIntSS
instance : TyFn Try.prog 82 := TyFn.of Try.func82 (by kernel_rfl) rfl
-- loop.example/panecutter/laws.heldIntSS
instance : TyFn Try.prog 83 := TyFn.of Try.func83 (by kernel_rfl) rfl
-- loop.example/panecutter/laws.szPlaceS
instance : TyFn Try.prog 84 := TyFn.of Try.func84 (by kernel_rfl) rfl
-- loop.example/panecutter/laws.toPlaceS
instance : TyFn Try.prog 85 := TyFn.of Try.func85 (by kernel_rfl) rfl
-- loop.example/panecutter/laws.eqPlaceS
instance : TyFn Try.prog 86 := TyFn.of Try.func86 (by kernel_rfl) rfl
-- loop.example/panecutter/spec.newReader
instance : TyFn Try.prog 87 := TyFn.of Try.func87 (by kernel_rfl) rfl
-- loop.example/panecutter/spec.anyPlan
instance : TyFn Try.prog 88 := TyFn.of Try.func88 (by kernel_rfl) rfl
-- (*loop.example/panecutter/spec.reader).one
instance : TyFn Try.prog 89 := TyFn.of Try.func89 (by kernel_rfl) rfl
-- (*loop.example/panecutter/spec.reader).pick
instance : TyFn Try.prog 90 := TyFn.of Try.func90 (by kernel_rfl) rfl
-- loop.example/panecutter/impl.knotsOf
instance : TyFn Try.prog 91 := TyFn.of Try.func91 (by kernel_rfl) rfl
-- loop.example/panecutter/impl.findKnot
instance : TyFn Try.prog 92 := TyFn.of Try.func92 (by kernel_rfl) rfl
-- loop.example/panecutter/spec.planSize
instance : TyFn Try.prog 93 := TyFn.of Try.func93 (by kernel_rfl) rfl
-- loop.example/panecutter/spec.placeIn
instance : TyFn Try.prog 94 := TyFn.of Try.func94 (by kernel_rfl) rfl
-- loop.example/panecutter/spec.innerNodes
instance : TyFn Try.prog 95 := TyFn.of Try.func95 (by kernel_rfl) rfl
-- loop.example/panecutter/spec.aboves
instance : TyFn Try.prog 96 := TyFn.of Try.func96 (by kernel_rfl) rfl
-- loop.example/panecutter/impl.partsOf
instance : TyFn Try.prog 97 := TyFn.of Try.func97 (by kernel_rfl) rfl
-- loop.example/panecutter/spec.validPlan
instance : TyFn Try.prog 98 := TyFn.of Try.func98 (by kernel_rfl) rfl
-- loop.example/panecutter/spec.cutLengths
instance : TyFn Try.prog 99 := TyFn.of Try.func99 (by kernel_rfl) rfl
-- loop.example/panecutter/impl.ValidWork
instance : TyFn Try.prog 100 := TyFn.of Try.func100 (by kernel_rfl) rfl
-- loop.example/panecutter/impl.planFits
instance : TyFn Try.prog 101 := TyFn.of Try.func101 (by kernel_rfl) rfl
-- loop.example/panecutter/impl.sheetOf
instance : TyFn Try.prog 102 := TyFn.of Try.func102 (by kernel_rfl) rfl
-- loop.example/panecutter/spec.DrawPlanSize
instance : TyFn Try.prog 103 := TyFn.of Try.func103 (by kernel_rfl) rfl
-- loop.example/panecutter/impl.countParts
instance : TyFn Try.prog 104 := TyFn.of Try.func104 (by kernel_rfl) rfl
-- loop.example/panecutter/impl.beginsOrder
instance : TyFn Try.prog 105 := TyFn.of Try.func105 (by kernel_rfl) rfl
-- loop.example/panecutter/spec.cutsPlan
instance : TyFn Try.prog 106 := TyFn.of Try.func106 (by kernel_rfl) rfl
-- loop.example/panecutter/impl.addOrders
instance : TyFn Try.prog 107 := TyFn.of Try.func107 (by kernel_rfl) rfl
-- loop.example/panecutter/spec.cutsOf
instance : TyFn Try.prog 108 := TyFn.of Try.func108 (by kernel_rfl) rfl
-- loop.example/panecutter/spec.allSteps
instance : TyFn Try.prog 109 := TyFn.of Try.func109 (by kernel_rfl) rfl
-- loop.example/panecutter/impl.ordersOf
instance : TyFn Try.prog 110 := TyFn.of Try.func110 (by kernel_rfl) rfl
-- loop.example/panecutter/impl.addBest
instance : TyFn Try.prog 111 := TyFn.of Try.func111 (by kernel_rfl) rfl
-- loop.example/panecutter/spec.bestSteps
instance : TyFn Try.prog 112 := TyFn.of Try.func112 (by kernel_rfl) rfl
-- loop.example/panecutter/impl.tableFor
instance : TyFn Try.prog 113 := TyFn.of Try.func113 (by kernel_rfl) rfl
-- loop.example/panecutter/spec.anySteps
instance : TyFn Try.prog 114 := TyFn.of Try.func114 (by kernel_rfl) rfl
-- loop.example/panecutter/spec.validSteps
instance : TyFn Try.prog 115 := TyFn.of Try.func115 (by kernel_rfl) rfl
-- loop.example/panecutter/impl.mirrored
instance : TyFn Try.prog 116 := TyFn.of Try.func116 (by kernel_rfl) rfl
-- loop.example/panecutter/spec.mirrorPlan
instance : TyFn Try.prog 117 := TyFn.of Try.func117 (by kernel_rfl) rfl
-- loop.example/panecutter/impl.boxArea
instance : TyFn Try.prog 118 := TyFn.of Try.func118 (by kernel_rfl) rfl
-- loop.example/panecutter/spec.inRange
instance : TyFn Try.prog 119 := TyFn.of Try.func119 (by kernel_rfl) rfl
-- loop.example/panecutter/spec.wastesOf
instance : TyFn Try.prog 120 := TyFn.of Try.func120 (by kernel_rfl) rfl
-- loop.example/panecutter/spec.isRemnant
instance : TyFn Try.prog 121 := TyFn.of Try.func121 (by kernel_rfl) rfl
-- loop.example/panecutter/spec.somePlaces
instance : TyFn Try.prog 122 := TyFn.of Try.func122 (by kernel_rfl) rfl
-- loop.example/panecutter/impl.ValidBox
instance : TyFn Try.prog 123 := TyFn.of Try.func123 (by kernel_rfl) rfl
-- loop.example/panecutter/impl.InsideOf
instance : TyFn Try.prog 124 := TyFn.of Try.func124 (by kernel_rfl) rfl
-- loop.example/panecutter/impl.paneFills
instance : TyFn Try.prog 125 := TyFn.of Try.func125 (by kernel_rfl) rfl
-- loop.example/panecutter/impl.ApartBoxes
instance : TyFn Try.prog 126 := TyFn.of Try.func126 (by kernel_rfl) rfl
-- loop.example/panecutter/spec.validPlaces
instance : TyFn Try.prog 127 := TyFn.of Try.func127 (by kernel_rfl) rfl
-- loop.example/panecutter/spec.parsePlan
instance : TyFn Try.prog 128 := TyFn.of Try.func128 (by kernel_rfl) rfl
-- loop.example/panecutter/impl.takePlan
instance : TyFn Try.prog 129 := TyFn.of Try.func129 (by kernel_rfl) rfl
-- loop.example/panecutter/impl.numbersFit
instance : TyFn Try.prog 130 := TyFn.of Try.func130 (by kernel_rfl) rfl
-- loop.example/panecutter/laws.eqPlanS
instance : TyFn Try.prog 131 := TyFn.of Try.func131 (by kernel_rfl) rfl
-- loop.example/panecutter/laws.markPlanS
instance : TyFn Try.prog 132 := TyFn.of Try.func132 (by kernel_rfl) rfl
-- loop.example/panecutter/laws.heldPlanS
instance : TyFn Try.prog 133 := TyFn.of Try.func133 (by kernel_rfl) rfl
-- loop.example/panecutter/laws.szPlanS
instance : TyFn Try.prog 134 := TyFn.of Try.func134 (by kernel_rfl) rfl
-- loop.example/panecutter/spec.copyInts
instance : TyFn Try.prog 135 := TyFn.of Try.func135 (by kernel_rfl) rfl
-- loop.example/panecutter/laws.toPlanS
instance : TyFn Try.prog 136 := TyFn.of Try.func136 (by kernel_rfl) rfl
-- slices.Clone[[]int,int]
instance : TyFn Try.prog 137 := TyFn.of Try.func137 (by kernel_rfl) rfl
-- loop.example/panecutter/spec.waiting
instance : TyFn Try.prog 138 := TyFn.of Try.func138 (by kernel_rfl) rfl
-- loop.example/panecutter/laws.szPaneS
instance : TyFn Try.prog 139 := TyFn.of Try.func139 (by kernel_rfl) rfl
-- loop.example/panecutter/laws.toPaneS
instance : TyFn Try.prog 140 := TyFn.of Try.func140 (by kernel_rfl) rfl
-- loop.example/panecutter/laws.eqPaneS
instance : TyFn Try.prog 141 := TyFn.of Try.func141 (by kernel_rfl) rfl
-- loop.example/panecutter/laws.toPlace
instance : TyFn Try.prog 142 := TyFn.of Try.func142 (by kernel_rfl) rfl
-- loop.example/panecutter/laws.eqPlace
instance : TyFn Try.prog 143 := TyFn.of Try.func143 (by kernel_rfl) rfl
-- loop.example/panecutter/spec.workPlan
instance : TyFn Try.prog 144 := TyFn.of Try.func144 (by kernel_rfl) rfl
-- loop.example/panecutter/impl.addKnots
instance : TyFn Try.prog 145 := TyFn.of Try.func145 (by kernel_rfl) rfl
-- slices.IndexFunc[[]loop.example/panecutter/impl.knot,loop.example/panecutter/impl.knot]
instance : TyFn Try.prog 146 := TyFn.of Try.func146 (by kernel_rfl) rfl
-- loop.example/panecutter/impl.findKnot$1
instance : TyFn Try.prog 147 := TyFn.of Try.func147 (by kernel_rfl) rfl
-- loop.example/panecutter/spec.isCut
instance : TyFn Try.prog 148 := TyFn.of Try.func148 (by kernel_rfl) rfl
-- loop.example/panecutter/impl.addParts
instance : TyFn Try.prog 149 := TyFn.of Try.func149 (by kernel_rfl) rfl
-- loop.example/panecutter/spec.validWork
instance : TyFn Try.prog 150 := TyFn.of Try.func150 (by kernel_rfl) rfl
-- loop.example/panecutter/spec.fitsPlan
instance : TyFn Try.prog 151 := TyFn.of Try.func151 (by kernel_rfl) rfl
-- loop.example/panecutter/impl.ValidPane
instance : TyFn Try.prog 152 := TyFn.of Try.func152 (by kernel_rfl) rfl
-- loop.example/panecutter/impl.splitBox
instance : TyFn Try.prog 153 := TyFn.of Try.func153 (by kernel_rfl) rfl
-- loop.example/panecutter/impl.isCut
instance : TyFn Try.prog 154 := TyFn.of Try.func154 (by kernel_rfl) rfl
-- loop.example/panecutter/impl.choose
instance : TyFn Try.prog 155 := TyFn.of Try.func155 (by kernel_rfl) rfl
-- loop.example/panecutter/spec.least
instance : TyFn Try.prog 156 := TyFn.of Try.func156 (by kernel_rfl) rfl
-- loop.example/panecutter/spec.someSteps
instance : TyFn Try.prog 157 := TyFn.of Try.func157 (by kernel_rfl) rfl
-- loop.example/panecutter/spec.spread
instance : TyFn Try.prog 158 := TyFn.of Try.func158 (by kernel_rfl) rfl
-- loop.example/panecutter/spec.placesOf
instance : TyFn Try.prog 159 := TyFn.of Try.func159 (by kernel_rfl) rfl
-- loop.example/panecutter/impl.MeetOf
instance : TyFn Try.prog 160 := TyFn.of Try.func160 (by kernel_rfl) rfl
-- loop.example/panecutter/impl.validBoxes
instance : TyFn Try.prog 161 := TyFn.of Try.func161 (by kernel_rfl) rfl
-- loop.example/panecutter/spec.validBox
instance : TyFn Try.prog 162 := TyFn.of Try.func162 (by kernel_rfl) rfl
-- loop.example/panecutter/spec.insideOf
instance : TyFn Try.prog 163 := TyFn.of Try.func163 (by kernel_rfl) rfl
-- loop.example/panecutter/spec.apart
instance : TyFn Try.prog 164 := TyFn.of Try.func164 (by kernel_rfl) rfl
-- (*loop.example/panecutter/spec.planText).plan
instance : TyFn Try.prog 165 := TyFn.of Try.func165 (by kernel_rfl) rfl
-- loop.example/panecutter/spec.countable
instance : TyFn Try.prog 166 := TyFn.of Try.func166 (by kernel_rfl) rfl
-- loop.example/panecutter/spec.showPlan
instance : TyFn Try.prog 167 := TyFn.of Try.func167 (by kernel_rfl) rfl
-- loop.example/panecutter/impl.takeNumber
instance : TyFn Try.prog 168 := TyFn.of Try.func168 (by kernel_rfl) rfl
-- strings.CutPrefix
instance : TyFn Try.prog 169 := TyFn.of Try.func169 (by kernel_rfl) rfl
-- loop.example/panecutter/laws.toPane
instance : TyFn Try.prog 170 := TyFn.of Try.func170 (by kernel_rfl) rfl
-- loop.example/panecutter/laws.eqPane
instance : TyFn Try.prog 171 := TyFn.of Try.func171 (by kernel_rfl) rfl
-- loop.example/panecutter/laws.toBox
instance : TyFn Try.prog 172 := TyFn.of Try.func172 (by kernel_rfl) rfl
-- loop.example/panecutter/laws.eqBox
instance : TyFn Try.prog 173 := TyFn.of Try.func173 (by kernel_rfl) rfl
-- loop.example/panecutter/spec.grow
instance : TyFn Try.prog 174 := TyFn.of Try.func174 (by kernel_rfl) rfl
-- loop.example/panecutter/spec.validPanes
instance : TyFn Try.prog 175 := TyFn.of Try.func175 (by kernel_rfl) rfl
-- loop.example/panecutter/spec.meetOf
instance : TyFn Try.prog 176 := TyFn.of Try.func176 (by kernel_rfl) rfl
-- (*loop.example/panecutter/spec.planText).next
instance : TyFn Try.prog 177 := TyFn.of Try.func177 (by kernel_rfl) rfl
-- (*loop.example/panecutter/spec.planText).count
instance : TyFn Try.prog 178 := TyFn.of Try.func178 (by kernel_rfl) rfl
-- (*loop.example/panecutter/spec.planText).skip
instance : TyFn Try.prog 179 := TyFn.of Try.func179 (by kernel_rfl) rfl
-- loop.example/panecutter/spec.number
instance : TyFn Try.prog 180 := TyFn.of Try.func180 (by kernel_rfl) rfl
-- loop.example/panecutter/impl.readNumber
instance : TyFn Try.prog 181 := TyFn.of Try.func181 (by kernel_rfl) rfl
-- internal/stringslite.CutPrefix
instance : TyFn Try.prog 182 := TyFn.of Try.func182 (by kernel_rfl) rfl
-- loop.example/panecutter/spec.validPane
instance : TyFn Try.prog 183 := TyFn.of Try.func183 (by kernel_rfl) rfl
-- loop.example/panecutter/spec.readNumber
instance : TyFn Try.prog 184 := TyFn.of Try.func184 (by kernel_rfl) rfl
-- internal/stringslite.HasPrefix
instance : TyFn Try.prog 185 := TyFn.of Try.func185 (by kernel_rfl) rfl
end Go.Proofs.Ytabdnmodepocpaa
