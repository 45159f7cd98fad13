/-
  The exact law on valid plans.
-/
import Derived.Test.YtlpjienaennmaaaEP1
import Derived.Test.YtlpjienaennmaaaEW
import Derived.Test.YtlpjienaennmaaaP4
namespace Go.Proofs.Ytlpjienaennmaaa
open Go
set_option maxRecDepth 20000
set_option maxHeartbeats 1000000

theorem Sts.plO {A : Amb} {fr : List HProp} {k : Hp} {u : PE} {q : Plan} (hk : Sts fr k) (dk : A.h.Dj k) (i : Nat) (hi : fr[i]? = some (fun h => PlO h u q)) : RdPlan (A.ext k).h (encP u) q := by
  obtain ⟨m, hm, lm⟩ := hk.get hi
  exact RdPlan.mono (lm.trans (Amb.ext_own dk)) (PlO.rd hm)
theorem FnExactValidPlan_ok {A : Amb} {W H : Int} {a : Option Addr} {n c : Nat} {ps : List Pane} {u : PE} (hn : n ≤ 9223372036854775807) (hp : n ≤ 1048576 → RdL Pane.enc 4 A.h (.slice a n c) ps ∧ n = ps.length) (hu : PlF A.h u) :
    Ctr Try.prog 8 #[.agg #[vI W, vI H, .slice a n c], .agg (encP u).toArray] A [] (Val (.bool true)) := by
  refine Ctr.body (args := [_, _]) Try.func8 rfl Try.ntmps8 Try.results8 (by simp) ?_
  refine CJ.seq ?_
  refine CJ.region ?_
  refine LJ.boxG (vs := [_, _, _]) rfl rfl (fun b1 => ?_)
  refine LJ.boxG (vs := [_, _, _, _, _]) rfl rfl (fun b2 => ?_)
  refine LJ.yd rfl (Yd.asB rfl) ?_
  refine LJ.nil ?_
  refine CJ.seq ?_
  refine CJ.region ?_
  refine LJ.yd rfl (Yd.asI rfl) ?_
  refine LJ.nil ?_
  refine CJ.seq ?_
  refine CJ.region ?_
  refine LJ.yd rfl (Yd.loadG (us := [_, _, _]) 0 rfl rfl rfl rfl) ?_
  refine LJ.yd rfl (Yd.mvI rfl) ?_
  refine LJ.callV rfl (fun k hk dk => szWork_ok hn (by omega) (by omega)) ?_
  refine LJ.yd rfl (Yd.asI rfl) ?_
  refine LJ.nil ?_
  refine CJ.seq ?_
  refine CJ.seq ?_
  refine CJ.region ?_
  refine LJ.yd rfl (Yd.mvI rfl) ?_
  refine LJ.splitD rfl (Yd.lss rfl rfl) (fun h14 => ?_) (fun h14 => ?_)
  · refine LJ.nil ?_
    refine CJ.condT rfl ?_
    refine CJ.seq ?_
    refine CJ.region ?_
    refine LJ.yd rfl (Yd.asB rfl) ?_
    refine LJ.nil ?_
    refine CJ.ret ?_
    refine Fin.V (Res.one (ResV.tmp (v := .bool true) rfl)) ?_
    rfl
  · refine LJ.nil ?_
    refine CJ.condF rfl ?_
    refine CJ.skip ?_
    refine CJ.seq ?_
    have hn1 : n ≤ 1048576 := by by_cases hz : (1048576 : Int) - n < 0 <;> omega
    obtain ⟨hps, hnl⟩ := hp hn1
    rw [if_neg (by omega)]
    refine CJ.region ?_
    refine LJ.yd rfl (Yd.loadG (us := [_, _, _, _, _]) 1 rfl rfl rfl rfl) ?_
    refine LJ.yd rfl (Yd.mvI rfl) ?_
    refine LJ.call0 rfl (fun k hk dk => szPlan_ok hu _ _ up (by omega) (by omega)) ?_
    rintro _ _ ⟨r17, rfl, rfl, hr17⟩
    refine LJ.yd rfl (Yd.asI rfl) ?_
    refine LJ.nil ?_
    refine CJ.seq ?_
    refine CJ.seq ?_
    refine CJ.region ?_
    refine LJ.yd rfl (Yd.mvI rfl) ?_
    refine LJ.splitD rfl (Yd.lss rfl rfl) (fun h19 => ?_) (fun h19 => ?_)
    · refine LJ.nil ?_
      refine CJ.condT rfl ?_
      refine CJ.seq ?_
      refine CJ.region ?_
      refine LJ.yd rfl (Yd.asB rfl) ?_
      refine LJ.nil ?_
      refine CJ.ret ?_
      refine Fin.V (Res.one (ResV.tmp (v := .bool true) rfl)) ?_
      rfl
    · refine LJ.nil ?_
      refine CJ.condF rfl ?_
      refine CJ.skip ?_
      refine CJ.seq ?_
      obtain ⟨hr1, hr2, pq, hpq, hnq⟩ := hr17.resolve_left (by omega)
      refine CJ.regionD [0, 1] [] (by kernel_rfl) rfl ?_
      refine DJ.norm [_, _] [] rfl rfl ?_
      refine DJ.yd 0 rfl (by kernel_rfl) (by kernel_rfl) (by kernel_rfl) rfl rfl (Yd.loadG (us := [_, _, _]) 0 rfl rfl rfl rfl) ?_
      refine DJ.yd 2 rfl (by kernel_rfl) (by kernel_rfl) (by kernel_rfl) rfl rfl (Yd.loadG (us := [_, _, _, _, _]) 1 rfl rfl rfl rfl) ?_
      refine DJ.one (i := 1) (by kernel_rfl) ?_
      refine DO.call0 rfl rfl rfl (fun k0 hk0 dk0 k hk dk => toWork_ok hps.up (by omega)) ?_
      rintro _ _ ⟨xa21, xc21, rfl, rfl⟩
      refine DJ.norm [_, _] [_] rfl rfl ?_
      refine DJ.one (i := 3) (by kernel_rfl) ?_
      refine DO.call0 rfl rfl rfl (fun k0 hk0 dk0 k hk dk => toPlan_ok hpq.up (by omega)) ?_
      rintro _ _ ⟨w23, rfl, rfl⟩
      refine DJ.norm [_, _] [_, _] rfl rfl ?_
      refine DJ.one (i := 4) (by kernel_rfl) ?_
      refine DO.callV rfl rfl rfl (fun k0 hk0 dk0 k hk dk => ValidPlanS_ok (Sts.lr hk dk 0 (by omega) rfl) (Sts.plO hk dk 1 rfl)) ?_
      refine DJ.yd 5 rfl (by kernel_rfl) (by kernel_rfl) (by kernel_rfl) rfl rfl (Yd.asB rfl) ?_
      refine DJ.done (by kernel_rfl) ?_
      refine CJ.seq ?_
      refine CJ.region ?_
      refine LJ.yd rfl (Yd.loadG (us := [_, _, _]) 0 rfl rfl rfl rfl) ?_
      refine LJ.call0 rfl (fun k hk dk => toWork_ok hps.up (by omega)) ?_
      rintro _ _ ⟨xa26, xc26, rfl, rfl⟩
      refine LJ.norm [_, _, _, _, _] rfl ?_
      refine LJ.alloc ([_, _, _] : List Value) rfl rfl (fun b3 => ?_)
      refine LJ.store (v := .agg #[_, _, _]) (us := [_, _, _]) 5 rfl rfl rfl rfl rfl rfl rfl rfl ?_
      refine LJ.nil ?_
      refine CJ.seq ?_
      refine CJ.region ?_
      refine LJ.yd rfl (Yd.loadG (us := [_, _, _, _, _]) 1 rfl rfl rfl rfl) ?_
      refine LJ.call0 rfl (fun k hk dk => toPlan_ok hpq.up (by omega)) ?_
      rintro _ _ ⟨w28, rfl, rfl⟩
      refine LJ.norm [_, _, _, _, _, _, _] rfl ?_
      refine LJ.alloc ([_, _, _, _, _] : List Value) rfl rfl (fun b4 => ?_)
      refine LJ.store (v := .agg #[_, _, _, _, _]) (us := [_, _, _, _, _]) 7 rfl rfl rfl rfl rfl rfl rfl rfl ?_
      refine LJ.nil ?_
      refine CJ.seq ?_
      refine CJ.region ?_
      refine LJ.yd rfl (Yd.loadG (us := [_, _, _]) 5 rfl rfl rfl rfl) ?_
      refine LJ.yd rfl (Yd.loadG (us := [_, _, _, _, _]) 7 rfl rfl rfl rfl) ?_
      refine LJ.callV rfl (fun k hk dk => ValidPlanI_ok (Sts.lr hk dk 4 (by omega) rfl) (Sts.plO hk dk 6 rfl)) ?_
      refine LJ.yd rfl (Yd.asB rfl) ?_
      refine LJ.nil ?_
      refine CJ.seq ?_
      refine CJ.seq ?_
      refine CJ.region ?_
      refine LJ.yd rfl (Yd.mvB rfl) ?_
      refine LJ.yd rfl (Yd.mvB rfl) ?_
      refine LJ.yd rfl (Yd.cmpNF (Yd.neqB rfl rfl) (by simp)) ?_
      refine LJ.nil ?_
      refine CJ.condF rfl ?_
      refine CJ.skip ?_
      refine CJ.seq ?_
      refine CJ.seq ?_
      refine CJ.regionD [0, 1, 2, 3, 4, 5, 6, 7] [] (by kernel_rfl) rfl ?_
      refine DJ.norm [_, _, _, _, _, _, _, _] [] rfl rfl ?_
      refine DJ.yd 0 rfl (by kernel_rfl) (by kernel_rfl) (by kernel_rfl) rfl rfl (Yd.loadG (us := [_, _, _]) 5 rfl rfl rfl rfl) ?_
      refine DJ.yd 1 rfl (by kernel_rfl) (by kernel_rfl) (by kernel_rfl) rfl rfl (Yd.loadG (us := [_, _, _]) 0 rfl rfl rfl rfl) ?_
      refine DJ.one (i := 2) (by kernel_rfl) ?_
      refine DO.call0 rfl rfl rfl (fun k0 hk0 dk0 k hk dk => toWork_ok hps.up (by omega)) ?_
      rintro _ _ ⟨xa37, xc37, rfl, rfl⟩
      refine DJ.norm [_, _, _, _, _, _, _, _] [_] rfl rfl ?_
      refine DJ.one (i := 3) (by kernel_rfl) ?_
      refine DO.callV rfl rfl rfl (fun k0 hk0 dk0 k hk dk => eqWork_T ((Sts.lr hk0 dk0 4 (by omega) rfl).up) (Sts.lr hk dk 0 (by omega) rfl)) ?_
      refine DJ.yd 4 rfl (by kernel_rfl) (by kernel_rfl) (by kernel_rfl) rfl rfl (Yd.not rfl) ?_
      refine DJ.done (by kernel_rfl) ?_
      refine CJ.condF rfl ?_
      refine CJ.skip ?_
      refine CJ.seq ?_
      refine CJ.seq ?_
      refine CJ.regionD [0, 1, 2, 3, 4, 5, 6, 7, 8] [] (by kernel_rfl) rfl ?_
      refine DJ.norm [_, _, _, _, _, _, _, _, _] [] rfl rfl ?_
      refine DJ.yd 0 rfl (by kernel_rfl) (by kernel_rfl) (by kernel_rfl) rfl rfl (Yd.loadG (us := [_, _, _, _, _]) 7 rfl rfl rfl rfl) ?_
      refine DJ.yd 1 rfl (by kernel_rfl) (by kernel_rfl) (by kernel_rfl) rfl rfl (Yd.loadG (us := [_, _, _, _, _]) 1 rfl rfl rfl rfl) ?_
      refine DJ.one (i := 2) (by kernel_rfl) ?_
      refine DO.call0 rfl rfl rfl (fun k0 hk0 dk0 k hk dk => toPlan_ok hpq.up (by omega)) ?_
      rintro _ _ ⟨w42, rfl, rfl⟩
      refine DJ.norm [_, _, _, _, _, _, _, _, _] [_] rfl rfl ?_
      refine DJ.one (i := 3) (by kernel_rfl) ?_
      refine DO.callV rfl rfl rfl (fun k0 hk0 dk0 k hk dk => eqPlan_T ((Sts.plO hk0 dk0 6 rfl).up) (Sts.plO hk dk 0 rfl)) ?_
      refine DJ.yd 4 rfl (by kernel_rfl) (by kernel_rfl) (by kernel_rfl) rfl rfl (Yd.not rfl) ?_
      refine DJ.done (by kernel_rfl) ?_
      refine CJ.condF rfl ?_
      refine CJ.skip ?_
      refine CJ.seq ?_
      refine CJ.region ?_
      refine LJ.yd rfl (Yd.asB rfl) ?_
      refine LJ.nil ?_
      refine CJ.ret ?_
      refine Fin.V (Res.one (ResV.tmp (v := .bool true) rfl)) ?_
      rfl
end Go.Proofs.Ytlpjienaennmaaa
