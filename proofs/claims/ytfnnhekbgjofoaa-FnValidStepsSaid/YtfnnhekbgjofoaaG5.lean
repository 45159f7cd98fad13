/-
  Plans, drawn: contracts.
-/
import Derived.Test.YtfnnhekbgjofoaaG4
namespace Go.Proofs.Ytfnnhekbgjofoaa
open Go
set_option maxRecDepth 20000
set_option maxHeartbeats 4000000

/-- any plan, owned -/
def AnyR (v : Value) (fs : List HProp) : Prop := ∃ (o e i : Int) (t : Bool) (x : Option Addr) (m l : Nat) (pl : Plan), v = .agg #[vI o, vI e, vI i, .bool t, .slice x m l] ∧ fs = [fun h => RdPlan h [vI o, vI e, vI i, .bool t, .slice x m l] pl]
theorem DrawPlanSize_ok {A : Amb} {a : Option Addr} {n c : Nat} (h : Code A.h a n c) : Ctr Try.prog 60 #[.slice a n c] A [] AnyR := by
  obtain ⟨hcode, hn, ha, hs⟩ := h
  refine Ctr.body (args := [_]) Try.func60 rfl Try.ntmps60 Try.results60 (by simp) ?_
  refine CJ.seq ?_
  refine CJ.region ?_
  refine LJ.alloc ([_, _, _, _, _] : List Value) rfl rfl (fun b1 => ?_)
  refine LJ.nil ?_
  refine CJ.seq ?_
  refine CJ.region ?_
  refine LJ.yd rfl (Yd.mvS rfl) ?_
  refine LJ.call0 rfl (fun k hk dk => newReader_ok hn hcode.up ha hs) ?_
  rintro _ _ ⟨rb, n2, rfl, hn1, hn2, rfl⟩
  have hcode2 := hcode.le hn2
  refine LJ.call (pickF _ [0]) (pickF _ [1]) rfl (perm_pickF _ [0] [1] rfl) (fun k hk dk => anyPlan_ok hcode2.up (by omega) (by omega)) ?_
  rintro _ _ ⟨W, H, ka, km, kc, o, e, i, t, x, m, l, pl, q, ps, rfl, rfl, hq1, hq2, hW1, hW2, hH1, hH2, hl1, hw1⟩
  refine LJ.norm [_, _, _, _] rfl ?_
  refine LJ.yd rfl (Yd.mvU rfl) ?_
  refine LJ.yd rfl (Yd.extract rfl rfl) ?_
  refine LJ.yd rfl (Yd.extract rfl rfl) ?_
  refine LJ.alloc ([_, _, _] : List Value) rfl rfl (fun b2 => ?_)
  refine LJ.alloc ([_, _, _, _, _] : List Value) rfl rfl (fun b3 => ?_)
  refine LJ.store (v := .agg #[_, _, _]) (us := [_, _, _]) 4 rfl rfl rfl rfl rfl rfl rfl rfl ?_
  refine LJ.store (v := .agg #[_, _, _, _, _]) (us := [_, _, _, _, _]) 5 rfl rfl rfl rfl rfl rfl rfl rfl ?_
  refine LJ.nil ?_
  refine CJ.seq ?_
  refine CJ.region ?_
  refine LJ.yd rfl (Yd.loadG (us := [_, _, _, _, _]) 5 rfl rfl rfl rfl) ?_
  refine LJ.store (v := .agg #[_, _, _, _, _]) (us := [_, _, _, _, _]) 0 rfl rfl rfl rfl rfl rfl rfl rfl ?_
  refine LJ.nil ?_
  refine CJ.ret ?_
  exact Fin.R [_] (Res.one (ResV.cell (us := [_, _, _, _, _]) 0 rfl rfl rfl rfl)) ⟨_, _, _, _, _, _, _, _, rfl, rfl⟩ (Ent.pick [3] [0, 1, 2, 4, 5] rfl)
end Go.Proofs.Ytfnnhekbgjofoaa
