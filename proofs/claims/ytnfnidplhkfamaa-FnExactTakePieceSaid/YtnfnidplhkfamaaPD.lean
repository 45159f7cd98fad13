/-
  Panes, drawn: contracts.
-/
import Derived.Test.YtnfnidplhkfamaaRD
import Derived.Test.YtnfnidplhkfamaaA1
namespace Go.Proofs.Ytnfnidplhkfamaa
open Go
set_option maxRecDepth 20000
set_option maxHeartbeats 1000000

def PaneR (rb : Nat) (a : Option Addr) (n c : Nat) (p k : Int) (v : Value) (gs : List HProp) : Prop :=
  ∃ (W H K q : Int) (t : Bool), v = .agg #[vI W, vI H, .bool t, vI K] ∧ gs = [Rd rb a n c q] ∧ p ≤ q ∧ q ≤ p + k ∧ -1 ≤ W ∧ W ≤ 201 ∧ -1 ≤ H ∧ H ≤ 201
theorem somePane_ok {A : Amb} {rb n c : Nat} {a : Option Addr} {p : Int} (hcode : RdCode A.h a n) (hp0 : 0 ≤ p) (hp1 : p ≤ 10000) :
    Ctr Try.prog 76 #[.pointer (some ⟨rb, 0, none⟩)] A [Rd rb a n c p] (PaneR rb a n c p 10) := by
  refine Ctr.body (args := [_]) Try.func76 rfl Try.ntmps76 Try.results76 (by simp) ?_
  refine CJ.seq ?_
  refine CJ.region ?_
  refine LJ.alloc ([_, _, _, _] : List Value) rfl rfl (fun b1 => ?_)
  refine LJ.nil ?_
  refine CJ.seq ?_
  refine CJ.region ?_
  refine LJ.yd rfl (Yd.mvP rfl) ?_
  refine LJ.call (pickF _ [1]) (pickF _ [0]) rfl (perm_pickF _ [1] [0] rfl) (fun k hk dk => pick_ok (hcode.up) (by omega) (by omega)) ?_
  rintro _ _ ⟨x4, rfl, hx4, hy4, rfl⟩
  refine LJ.norm [_, _] rfl ?_
  refine LJ.yd rfl (Yd.add rfl rfl (by unfold I64; omega)) ?_
  refine LJ.yd rfl (Yd.mvP rfl) ?_
  refine LJ.call (pickF _ [0]) (pickF _ [1]) rfl (perm_pickF _ [0] [1] rfl) (fun k hk dk => pick_ok (hcode.up) (by omega) (by omega)) ?_
  rintro _ _ ⟨x7, rfl, hx7, hy7, rfl⟩
  refine LJ.norm [_, _] rfl ?_
  refine LJ.yd rfl (Yd.add rfl rfl (by unfold I64; omega)) ?_
  refine LJ.yd rfl (Yd.mvP rfl) ?_
  refine LJ.call (pickF _ [0]) (pickF _ [1]) rfl (perm_pickF _ [0] [1] rfl) (fun k hk dk => pick_ok (hcode.up) (by omega) (by omega)) ?_
  rintro _ _ ⟨x10, rfl, hx10, hy10, rfl⟩
  refine LJ.norm [_, _] rfl ?_
  refine LJ.yd rfl (Yd.eql rfl rfl) ?_
  refine LJ.yd rfl (Yd.mvP rfl) ?_
  refine LJ.call (pickF _ [0]) (pickF _ [1]) rfl (perm_pickF _ [0] [1] rfl) (fun k hk dk => pick_ok (hcode.up) (by omega) (by omega)) ?_
  rintro _ _ ⟨x13, rfl, hx13, hy13, rfl⟩
  refine LJ.norm [_, _] rfl ?_
  refine LJ.yd rfl (Yd.build (cs := [_, _, _, _]) rfl) ?_
  refine LJ.store (v := .agg #[_, _, _, _]) (us := [_, _, _, _]) 0 rfl rfl rfl rfl rfl rfl rfl rfl ?_
  refine LJ.nil ?_
  refine CJ.ret ?_
  exact Fin.R [_] (Res.one (ResV.cell (us := [_, _, _, _]) 0 rfl rfl rfl rfl)) ⟨_, _, _, _, _, rfl, rfl, by omega, by omega, by omega, by omega, by omega, by omega⟩ (Ent.pick [1] [0] rfl)
theorem anyPane_ok {A : Amb} {rb n c : Nat} {a : Option Addr} {p : Int} (hcode : RdCode A.h a n) (hp0 : 0 ≤ p) (hp1 : p ≤ 5000) :
    Ctr Try.prog 43 #[.pointer (some ⟨rb, 0, none⟩)] A [Rd rb a n c p] (PaneR rb a n c p 20) := by
  refine Ctr.body (args := [_]) Try.func43 rfl Try.ntmps43 Try.results43 (by simp) ?_
  refine CJ.seq ?_
  refine CJ.region ?_
  refine LJ.alloc ([_, _, _, _] : List Value) rfl rfl (fun b1 => ?_)
  refine LJ.nil ?_
  refine CJ.seq ?_
  refine CJ.region ?_
  refine LJ.yd rfl (Yd.mvP rfl) ?_
  refine LJ.call (pickF _ [1]) (pickF _ [0]) rfl (perm_pickF _ [1] [0] rfl) (fun k hk dk => somePane_ok hcode.up (by omega) (by omega)) ?_
  rintro _ _ ⟨pW, pH, pK, q1, pT, rfl, rfl, hq1, hq2, hb1, hb2, hb3, hb4⟩
  refine LJ.norm [_, _] rfl ?_
  refine LJ.alloc ([_, _, _, _] : List Value) rfl rfl (fun b2 => ?_)
  refine LJ.store (v := .agg #[_, _, _, _]) (us := [_, _, _, _]) 2 rfl rfl rfl rfl rfl rfl rfl rfl ?_
  refine LJ.nil ?_
  refine CJ.seq ?_
  refine CJ.seq ?_
  refine CJ.region ?_
  refine LJ.yd rfl (Yd.mvP rfl) ?_
  refine LJ.call (pickF _ [0, 2]) (pickF _ [1]) rfl (perm_pickF _ [0, 2] [1] rfl) (fun k hk dk => pick_ok (hcode.up) (by omega) (by omega)) ?_
  rintro _ _ ⟨x7, rfl, hx7, hy7, rfl⟩
  refine LJ.norm [_, _, _] rfl ?_
  refine LJ.nil ?_
  refine CJ.block ?_
  refine CJ.seq ?_
  refine CJ.region ?_
  refine LJ.splitD rfl (Yd.eql rfl rfl) (fun h9 => ?_) (fun h9 => ?_)
  · refine LJ.yd rfl (Yd.asB rfl) ?_
    refine LJ.nil ?_
    refine CJ.condT rfl ?_
    refine CJ.region ?_
    refine LJ.yd rfl (Yd.mvP rfl) ?_
    refine LJ.op rfl (OpR.buildSlice (cs := [_, _, _]) rfl rfl) ?_
    rintro _ _ ⟨b3, rfl, rfl⟩
    refine LJ.call (pickF _ [0, 1, 3]) (pickF _ [2]) rfl (perm_pickF _ [0, 1, 3] [2] rfl) (fun k hk dk => one_ok (l := [0, 201, 200]) (hcode.up) (LitAt.of (l := [0, 201, 200]) hk dk 2 rfl) (by simp) (by omega) (by omega)) ?_
    rintro _ _ ⟨x12, rfl, hx12, rfl⟩
    simp only [List.mem_cons, List.not_mem_nil, or_false] at hx12
    refine LJ.norm [_, _, _, _] rfl ?_
    refine LJ.yd rfl (Yd.fieldAddr rfl) ?_
    refine LJ.store (v := .int _ _) (us := [_, _, _, _]) 1 rfl rfl rfl rfl rfl rfl rfl rfl ?_
    refine LJ.nil ?_
    refine CJ.seq ?_
    refine CJ.region ?_
    refine LJ.yd rfl (Yd.loadG (us := [_, _, _, _]) 1 rfl rfl rfl rfl) ?_
    refine LJ.store (v := .agg #[_, _, _, _]) (us := [_, _, _, _]) 0 rfl rfl rfl rfl rfl rfl rfl rfl ?_
    refine LJ.nil ?_
    refine CJ.ret ?_
    exact Fin.R [_] (Res.one (ResV.cell (us := [_, _, _, _]) 0 rfl rfl rfl rfl)) ⟨_, _, _, _, _, rfl, rfl, by omega, by omega, by omega, by omega, by omega, by omega⟩ (Ent.pick [3] [0, 1, 2] rfl)
  · refine LJ.yd rfl (Yd.asB rfl) ?_
    refine LJ.nil ?_
    refine CJ.condF rfl ?_
    refine CJ.seq ?_
    refine CJ.region ?_
    refine LJ.splitD rfl (Yd.eql rfl rfl) (fun h15 => ?_) (fun h15 => ?_)
    · refine LJ.yd rfl (Yd.asB rfl) ?_
      refine LJ.nil ?_
      refine CJ.condT rfl ?_
      refine CJ.region ?_
      refine LJ.yd rfl (Yd.mvP rfl) ?_
      refine LJ.op rfl (OpR.buildSlice (cs := [_, _, _]) rfl rfl) ?_
      rintro _ _ ⟨b4, rfl, rfl⟩
      refine LJ.call (pickF _ [0, 1, 3]) (pickF _ [2]) rfl (perm_pickF _ [0, 1, 3] [2] rfl) (fun k hk dk => one_ok (l := [-1, 10, 9]) (hcode.up) (LitAt.of (l := [-1, 10, 9]) hk dk 2 rfl) (by simp) (by omega) (by omega)) ?_
      rintro _ _ ⟨x18, rfl, hx18, rfl⟩
      simp only [List.mem_cons, List.not_mem_nil, or_false] at hx18
      refine LJ.norm [_, _, _, _] rfl ?_
      refine LJ.yd rfl (Yd.fieldAddr rfl) ?_
      refine LJ.store (v := .int _ _) (us := [_, _, _, _]) 1 rfl rfl rfl rfl rfl rfl rfl rfl ?_
      refine LJ.nil ?_
      refine CJ.seq ?_
      refine CJ.region ?_
      refine LJ.yd rfl (Yd.loadG (us := [_, _, _, _]) 1 rfl rfl rfl rfl) ?_
      refine LJ.store (v := .agg #[_, _, _, _]) (us := [_, _, _, _]) 0 rfl rfl rfl rfl rfl rfl rfl rfl ?_
      refine LJ.nil ?_
      refine CJ.ret ?_
      exact Fin.R [_] (Res.one (ResV.cell (us := [_, _, _, _]) 0 rfl rfl rfl rfl)) ⟨_, _, _, _, _, rfl, rfl, by omega, by omega, by omega, by omega, by omega, by omega⟩ (Ent.pick [3] [0, 1, 2] rfl)
    · refine LJ.yd rfl (Yd.asB rfl) ?_
      refine LJ.nil ?_
      refine CJ.condF rfl ?_
      refine CJ.skip ?_
      refine CJ.seq ?_
      refine CJ.region ?_
      refine LJ.yd rfl (Yd.loadG (us := [_, _, _, _]) 1 rfl rfl rfl rfl) ?_
      refine LJ.store (v := .agg #[_, _, _, _]) (us := [_, _, _, _]) 0 rfl rfl rfl rfl rfl rfl rfl rfl ?_
      refine LJ.nil ?_
      refine CJ.ret ?_
      exact Fin.R [_] (Res.one (ResV.cell (us := [_, _, _, _]) 0 rfl rfl rfl rfl)) ⟨_, _, _, _, _, rfl, rfl, by omega, by omega, by omega, by omega, by omega, by omega⟩ (Ent.pick [2] [0, 1] rfl)
end Go.Proofs.Ytnfnidplhkfamaa
