/-
  Plans as trees.
-/
import Derived.Test.YtlpjienaennmaaaP1
namespace Go.Proofs.Ytlpjienaennmaaa
open Go

/-- a plan as a tree -/
def toBT : Plan → BT
  | .mk o a p t kids => if o = 1 then .p p t else match kids with
    | [k0, k1] => .c (decide (o = 2)) a (toBT k0) (toBT k1)
    | _ => .w
theorem toBT_plan : ∀ b : BT, toBT b.plan = b
  | .w => by simp [BT.plan, toBT]
  | .p i t => by simp [BT.plan, toBT]
  | .c d a l r => by
    have h1 := toBT_plan l
    have h2 := toBT_plan r
    cases d <;> simp [BT.plan, toBT, opOf, h1, h2]
theorem sz_of_psz {b : BT} (h : ¬ psz b.plan < 0) : b.sz ≤ 255 ∧ psz b.plan = b.sz := by
  rw [psz_BT] at *; split at h <;> simp_all
theorem toBT_rd {h : Hp} {cs : List Value} {q : Plan} (r : RdPlan h cs q) (h0 : 0 < psz q) : RdT h cs (toBT q) := by
  obtain ⟨b, rfl⟩ := BT.of_psz q (by omega)
  rw [toBT_plan]; exact RdT.of b r
theorem RdT.i64 {h : Hp} {cs : List Value} {b : BT} (r : RdT h cs b) : ∃ o a p t x n c, cs = [vI o, vI a, vI p, .bool t, .slice x n c] := by cases r <;> exact ⟨_, _, _, _, _, _, _, rfl⟩
end Go.Proofs.Ytlpjienaennmaaa
