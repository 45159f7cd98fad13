/-
  Works with plans, drawn by laws: contracts.
-/
import Derived.Test.YtolhdpjhibgfiaaG5
import Derived.Test.YtolhdpjhibgfiaaP4
namespace Go.Proofs.Ytolhdpjhibgfiaa
open Go
set_option maxRecDepth 20000
set_option maxHeartbeats 2000000

/-- a work and a plan, owned -/
def WPR (v : Value) (fs : List HProp) : Prop :=
  ∃ (W H : Int) (ka : Option Addr) (km kc : Nat) (o e i : Int) (t : Bool) (x : Option Addr) (m l : Nat) (pl : Plan) (ps : List Pane), v = .tuple #[.agg #[vI W, vI H, .slice ka km kc], .agg #[vI o, vI e, vI i, .bool t, .slice x m l]] ∧
    fs = [fun h => RdPanes h (.slice ka km kc) ps, fun h => RdPlan h [vI o, vI e, vI i, .bool t, .slice x m l] pl] ∧ 0 ≤ W ∧ W ≤ 201 ∧ 1 ≤ H ∧ H ≤ 30 ∧ ps.length ≤ 24 ∧ ∀ z ∈ ps, z.wf
theorem DrawValidPlan_ok {A : Amb} {a : Option Addr} {n c : Nat} (h : Code A.h a n c) : Ctr Try.prog 21 #[.slice a n c] A [] WPR := by
  obtain ⟨hcode, hn, ha, hs⟩ := h
  refine Ctr.body (args := [_]) Try.func21 rfl Try.ntmps21 Try.results21 (by simp) ?_
  refine CJ.seq ?_
  refine CJ.region ?_
  refine LJ.alloc ([_, _, _] : List Value) rfl rfl (fun b1 => ?_)
  refine LJ.alloc ([_, _, _, _, _] : List Value) rfl rfl (fun b2 => ?_)
  refine LJ.nil ?_
  refine CJ.seq ?_
  refine CJ.region ?_
  refine LJ.yd rfl (Yd.mvS rfl) ?_
  refine LJ.call0 rfl (fun k hk dk => newReader_ok hn hcode.up ha hs) ?_
  rintro _ _ ⟨rb, n2, rfl, hn1, hn2, rfl⟩
  have hcode2 := hcode.le hn2
  refine LJ.call (pickF _ [0, 1]) (pickF _ [2]) rfl (perm_pickF _ [0, 1] [2] rfl) (fun k hk dk => anyPlan_ok hcode2.up (by omega) (by omega)) ?_
  rintro _ _ ⟨W, H, ka, km, kc, o, e, i, t, x, m, l, pl, q, ps, rfl, rfl, hq1, hq2, hW1, hW2, hH1, hH2, hl1, hw1⟩
  refine LJ.norm [_, _, _, _, _] rfl ?_
  refine LJ.yd rfl (Yd.extract rfl rfl) ?_
  refine LJ.yd rfl (Yd.extract rfl rfl) ?_
  refine LJ.store (v := .agg #[_, _, _]) (us := [_, _, _]) 0 rfl rfl rfl rfl rfl rfl rfl rfl ?_
  refine LJ.store (v := .agg #[_, _, _, _, _]) (us := [_, _, _, _, _]) 1 rfl rfl rfl rfl rfl rfl rfl rfl ?_
  refine LJ.nil ?_
  refine CJ.ret ?_
  exact Fin.R [_, _] (Res.two (ResV.cell (us := [_, _, _]) 0 rfl rfl rfl rfl) (ResV.cell (us := [_, _, _, _, _]) 1 rfl rfl rfl rfl)) ⟨_, _, _, _, _, _, _, _, _, _, _, _, _, _, rfl, rfl, by omega, by omega, by omega, by omega, hl1, hw1⟩ (Ent.pick [3, 4] [0, 1, 2] rfl)
end Go.Proofs.Ytolhdpjhibgfiaa
