/-
  The exact law on plans read from texts.
-/
import Derived.Test.YtlpjienaennmaaaPS9
namespace Go.Proofs.Ytlpjienaennmaaa
open Go
set_option maxRecDepth 20000
set_option maxHeartbeats 1000000

theorem nds_BT : ∀ b : BT, nds b.plan = b.sz - 1
  | .w => by simp [BT.plan, nds, ndss, BT.sz]
  | .p i t => by simp [BT.plan, nds, ndss, BT.sz]
  | .c d a l r => by
    simp only [BT.plan, nds, ndss, nds_BT l, nds_BT r, BT.sz]; omega
theorem ppP_sz (s : List UInt8) : (ppP s).sz ≤ 255 := by
  rw [ppP]
  cases h : ppB s with
  | none => simp [BT.sz]
  | some b =>
    simp only [Option.getD_some]
    unfold ppB at h
    split at h
    · cases h
    · split at h
      · split at h
        · rename_i hc
          injection h with h; subst h; exact hc.1
        · cases h
      · cases h
theorem Sts.rdB {A : Amb} {fr : List HProp} {k : Hp} {cs : List Value} {b : BT} (hk : Sts fr k) (dk : A.h.Dj k) (i : Nat) (hi : fr[i]? = some (fun h => RdT h cs b)) : RdPlan (A.ext k).h cs b.plan := by
  obtain ⟨m, hm, lm⟩ := hk.get hi
  exact RdPlan.of_BT (hm.mono (lm.trans (Amb.ext_own dk)))
theorem FnExactParsePlan_ok {A : Amb} {s : List UInt8} : Ctr Try.prog 7 #[vT s] A [] (Val (.bool true)) := by
  have hsz := ppP_sz s
  have hpos := (ppP s).sz_pos
  have hnd := nds_BT (ppP s)
  refine Ctr.body (args := [_]) Try.func7 rfl Try.ntmps7 Try.results7 (by simp) ?_
  refine CJ.seq ?_
  refine CJ.region ?_
  refine LJ.yd rfl (Yd.asB rfl) ?_
  refine LJ.nil ?_
  refine CJ.seq ?_
  refine CJ.seq ?_
  refine CJ.region ?_
  refine LJ.yd rfl (Yd.mvT rfl) ?_
  refine LJ.yd rfl (Yd.lenT rfl) ?_
  refine LJ.splitD rfl (Yd.gtr rfl rfl) (fun h13 => ?_) (fun h13 => ?_)
  · refine LJ.nil ?_
    refine CJ.condT rfl ?_
    refine CJ.seq ?_
    refine CJ.region ?_
    refine LJ.yd rfl (Yd.asB rfl) ?_
    refine LJ.nil ?_
    refine CJ.ret ?_
    refine Fin.V (Res.one (ResV.tmp (v := .bool true) rfl)) ?_
    rfl
  · refine LJ.nil ?_
    refine CJ.condF rfl ?_
    refine CJ.skip ?_
    refine CJ.seq ?_
    refine CJ.region ?_
    refine LJ.yd rfl (Yd.mvT rfl) ?_
    refine LJ.call0 rfl (fun k hk dk => ParsePlanS_ok (by omega)) ?_
    rintro _ _ ⟨w, rfl, rfl⟩
    refine LJ.norm [_] rfl ?_
    refine LJ.yd rfl (Yd.mvU rfl) ?_
    refine LJ.yd rfl (Yd.extract rfl rfl) ?_
    refine LJ.yd rfl (Yd.extract (v := .bool (ppB s).isSome) rfl rfl) ?_
    refine LJ.alloc ([_, _, _, _, _] : List Value) rfl rfl (fun b1 => ?_)
    refine LJ.store (v := .agg #[_, _, _, _, _]) (us := [_, _, _, _, _]) 1 rfl rfl rfl rfl rfl rfl rfl rfl ?_
    refine LJ.yd rfl (Yd.asB rfl) ?_
    refine LJ.nil ?_
    refine CJ.seq ?_
    refine CJ.region ?_
    refine LJ.yd rfl (Yd.mvT rfl) ?_
    refine LJ.call0 rfl (fun k hk dk => ParsePlanI_ok (by omega)) ?_
    rintro _ _ ⟨g, rfl, rfl⟩
    refine LJ.norm [_, _, _] rfl ?_
    refine LJ.yd rfl (Yd.mvU rfl) ?_
    refine LJ.yd rfl (Yd.extract rfl rfl) ?_
    refine LJ.yd rfl (Yd.extract (v := .bool (ppB s).isSome) rfl rfl) ?_
    refine LJ.alloc ([_, _, _, _, _] : List Value) rfl rfl (fun b2 => ?_)
    refine LJ.store (v := .agg #[_, _, _, _, _]) (us := [_, _, _, _, _]) 3 rfl rfl rfl rfl rfl rfl rfl rfl ?_
    refine LJ.yd rfl (Yd.asB rfl) ?_
    refine LJ.nil ?_
    refine CJ.seq ?_
    refine CJ.seq ?_
    refine CJ.region ?_
    refine LJ.yd rfl (Yd.loadG (us := [_, _, _, _, _]) 3 rfl rfl rfl rfl) ?_
    refine LJ.yd rfl (Yd.loadG (us := [_, _, _, _, _]) 1 rfl rfl rfl rfl) ?_
    refine LJ.callV rfl (fun k hk dk => eqPlan_T (Sts.plO hk dk 2 rfl) (Sts.rdB hk dk 0 rfl)) ?_
    refine LJ.yd rfl (Yd.not rfl) ?_
    refine LJ.yd rfl (Yd.mvB rfl) ?_
    refine LJ.gT rfl ?_
    refine LJ.yd rfl (Yd.mvB rfl) ?_
    refine LJ.gT rfl ?_
    refine LJ.yd rfl (Yd.mvB rfl) ?_
    refine LJ.gT rfl ?_
    refine LJ.yd rfl (Yd.cmpNF (Yd.neqB rfl rfl) rfl) ?_
    refine LJ.yd rfl (Yd.pickFB rfl rfl) ?_
    refine LJ.nil ?_
    refine CJ.condF rfl ?_
    refine CJ.skip ?_
    refine CJ.seq ?_
    refine CJ.region ?_
    refine LJ.yd rfl (Yd.asI rfl) ?_
    refine LJ.nil ?_
    refine CJ.seq ?_
    refine CJ.know 2 rfl (fun _ r => PlO.i64 r) (fun hg64 => ?_)
    refine CJ.region ?_
    refine LJ.yd rfl (Yd.loadG (us := [_, _, _, _, _]) 3 rfl rfl rfl rfl) ?_
    refine LJ.yd rfl (Yd.mvI rfl) ?_
    refine LJ.call (pickF _ [0, 1, 3]) (pickF _ [2]) rfl (perm_pickF _ [0, 1, 3] [2] rfl) (fun k hk dk => markPlan_m hg64 (by omega) (by omega) (by omega)) ?_
    rintro _ _ ⟨rfl, rfl⟩
    refine LJ.norm [_, _, _, _] rfl ?_
    refine LJ.yd rfl (Yd.asI rfl) ?_
    refine LJ.nil ?_
    refine CJ.seq ?_
    refine CJ.region ?_
    refine LJ.yd rfl (Yd.asI rfl) ?_
    refine LJ.nil ?_
    refine CJ.seq ?_
    refine CJ.region ?_
    refine LJ.yd rfl (Yd.loadG (us := [_, _, _, _, _]) 2 rfl rfl rfl rfl) ?_
    refine LJ.yd rfl (Yd.mvI rfl) ?_
    refine LJ.callV rfl (fun k hk dk => heldPlan_m (Sts.plO hk dk 3 rfl) (by omega) (by omega) (by omega)) ?_
    refine LJ.yd rfl (Yd.asI rfl) ?_
    refine LJ.nil ?_
    refine CJ.seq ?_
    refine CJ.seq ?_
    refine CJ.region ?_
    refine LJ.yd rfl (Yd.mvI rfl) ?_
    refine LJ.splitD rfl (Yd.lss rfl rfl) (fun h40 => ?_) (fun h40 => ?_)
    · exfalso; omega
    · refine LJ.nil ?_
      refine CJ.condF rfl ?_
      refine CJ.skip ?_
      refine CJ.seq ?_
      refine CJ.seq ?_
      refine CJ.region ?_
      refine LJ.yd rfl (Yd.mvI rfl) ?_
      refine LJ.yd rfl (Yd.mvI rfl) ?_
      refine LJ.splitN rfl (Yd.neq rfl rfl) (fun h43 => ?_) (fun h43 => ?_)
      · exfalso; omega
      · refine LJ.nil ?_
        refine CJ.condF rfl ?_
        refine CJ.skip ?_
        refine CJ.seq ?_
        refine CJ.region ?_
        refine LJ.yd rfl (Yd.mvT rfl) ?_
        refine LJ.call0 rfl (fun k hk dk => ParsePlanI_ok (by omega)) ?_
        rintro _ _ ⟨h, rfl, rfl⟩
        refine LJ.norm [_, _, _, _, _] rfl ?_
        refine LJ.yd rfl (Yd.mvU rfl) ?_
        refine LJ.yd rfl (Yd.extract rfl rfl) ?_
        refine LJ.yd rfl (Yd.extract (v := .bool (ppB s).isSome) rfl rfl) ?_
        refine LJ.alloc ([_, _, _, _, _] : List Value) rfl rfl (fun b3 => ?_)
        refine LJ.store (v := .agg #[_, _, _, _, _]) (us := [_, _, _, _, _]) 5 rfl rfl rfl rfl rfl rfl rfl rfl ?_
        refine LJ.yd rfl (Yd.asB rfl) ?_
        refine LJ.nil ?_
        refine CJ.seq ?_
        refine CJ.seq ?_
        refine CJ.region ?_
        refine LJ.yd rfl (Yd.loadG (us := [_, _, _, _, _]) 5 rfl rfl rfl rfl) ?_
        refine LJ.yd rfl (Yd.loadG (us := [_, _, _, _, _]) 1 rfl rfl rfl rfl) ?_
        refine LJ.callV rfl (fun k hk dk => eqPlan_T (Sts.plO hk dk 4 rfl) (Sts.rdB hk dk 0 rfl)) ?_
        refine LJ.yd rfl (Yd.not rfl) ?_
        refine LJ.yd rfl (Yd.mvB rfl) ?_
        refine LJ.gT rfl ?_
        refine LJ.yd rfl (Yd.mvB rfl) ?_
        refine LJ.gT rfl ?_
        refine LJ.yd rfl (Yd.mvB rfl) ?_
        refine LJ.gT rfl ?_
        refine LJ.yd rfl (Yd.cmpNF (Yd.neqB rfl rfl) rfl) ?_
        refine LJ.yd rfl (Yd.pickFB rfl rfl) ?_
        refine LJ.nil ?_
        refine CJ.condF rfl ?_
        refine CJ.skip ?_
        refine CJ.seq ?_
        refine CJ.region ?_
        refine LJ.yd rfl (Yd.asI rfl) ?_
        refine LJ.nil ?_
        refine CJ.seq ?_
        refine CJ.region ?_
        refine LJ.yd rfl (Yd.loadG (us := [_, _, _, _, _]) 2 rfl rfl rfl rfl) ?_
        refine LJ.yd rfl (Yd.mvI rfl) ?_
        refine LJ.callV rfl (fun k hk dk => heldPlan_m (Sts.plO hk dk 3 rfl) (by omega) (by omega) (by omega)) ?_
        refine LJ.yd rfl (Yd.asI rfl) ?_
        refine LJ.nil ?_
        refine CJ.seq ?_
        refine CJ.seq ?_
        refine CJ.region ?_
        refine LJ.yd rfl (Yd.mvI rfl) ?_
        refine LJ.splitD rfl (Yd.lss rfl rfl) (fun h62 => ?_) (fun h62 => ?_)
        · exfalso; omega
        · refine LJ.nil ?_
          refine CJ.condF rfl ?_
          refine CJ.skip ?_
          refine CJ.seq ?_
          refine CJ.seq ?_
          refine CJ.region ?_
          refine LJ.yd rfl (Yd.mvI rfl) ?_
          refine LJ.yd rfl (Yd.mvI rfl) ?_
          refine LJ.splitN rfl (Yd.neq rfl rfl) (fun h65 => ?_) (fun h65 => ?_)
          · exfalso; omega
          · refine LJ.nil ?_
            refine CJ.condF rfl ?_
            refine CJ.skip ?_
            refine CJ.seq ?_
            refine CJ.region ?_
            refine LJ.yd rfl (Yd.asB rfl) ?_
            refine LJ.nil ?_
            refine CJ.ret ?_
            refine Fin.V (Res.one (ResV.tmp (v := .bool true) rfl)) ?_
            rfl
end Go.Proofs.Ytlpjienaennmaaa
