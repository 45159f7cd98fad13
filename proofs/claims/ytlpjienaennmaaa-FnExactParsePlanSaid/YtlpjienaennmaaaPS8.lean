/-
  The given answer to a text of a plan: contracts.
-/
import Derived.Test.YtlpjienaennmaaaPS7
namespace Go.Proofs.Ytlpjienaennmaaa
open Go
set_option maxRecDepth 20000
set_option maxHeartbeats 1000000

theorem pp_end {s : List UInt8} {b : BT} {z : Int} (h : tkP (s.length + 1) s = some (b, s.drop z.toNat)) (hz : z = s.length) : tkP (s.length + 1) s = some (b, []) := by
  rw [h, List.drop_of_length_le (by omega)]
theorem pp_rest2 {s : List UInt8} {b : BT} {z : Int} (h0 : ¬ 1600 < s.length) (h : tkP (s.length + 1) s = some (b, s.drop z.toNat)) (hz00 : 0 ≤ z) (hz0 : z ≤ s.length) (hz : ¬ z = s.length) : ppB s = none :=
  pp_rest h0 h (fun e => by
    have := congrArg List.length e
    rw [List.length_drop, List.length_nil] at this
    omega)
theorem pp_shw {s : List UInt8} {b : BT} (h : tkP (s.length + 1) s = some (b, [])) : b.shw = s := by
  have := tkP_show _ _ _ _ h
  rw [List.append_nil] at this; exact this.symm
theorem parsePlan_ok {A : Amb} {s : List UInt8} (hs : s.length ≤ 1048576) : Ctr Try.prog 69 #[vT s] A [] (SppR s) := by
  refine Ctr.body (args := [_]) Try.func69 rfl Try.ntmps69 Try.results69 (by simp) ?_
  refine CJ.seq ?_
  refine CJ.region ?_
  refine LJ.alloc ([_, _, _, _, _] : List Value) rfl rfl (fun b1 => ?_)
  refine LJ.yd rfl (Yd.asB rfl) ?_
  refine LJ.nil ?_
  refine CJ.seq ?_
  refine CJ.seq ?_
  refine CJ.region ?_
  refine LJ.yd rfl (Yd.mvT rfl) ?_
  refine LJ.yd rfl (Yd.lenT rfl) ?_
  refine LJ.splitD rfl (Yd.gtr rfl rfl) (fun h8 => ?_) (fun h8 => ?_)
  · refine LJ.nil ?_
    refine CJ.condT rfl ?_
    refine CJ.seq ?_
    refine CJ.region ?_
    refine LJ.yd rfl (Yd.build (cs := [_, _, _, _, _]) rfl) ?_
    refine LJ.store (v := .agg #[_, _, _, _, _]) (us := [_, _, _, _, _]) 0 rfl rfl rfl rfl rfl rfl rfl rfl ?_
    refine LJ.yd rfl (Yd.asB rfl) ?_
    refine LJ.nil ?_
    refine CJ.ret ?_
    have hn : ppB s = none := by
      first
        | exact pp_len (by omega)
        | exact pp_no (by omega) (hF h18)
        | exact pp_rest2 (by omega) (hT h18).2.2 (hT h18).1 (hT h18).2.1 h26
        | exact pp_sz (by omega) (pp_end (hT h18).2.2 h26) rfl h31
        | exact pp_cn (by omega) (pp_end (hT h18).2.2 h26) rfl h35
    exact Fin.R [_] (Res.two (ResV.cell (us := [_, _, _, _, _]) 0 rfl rfl rfl rfl) (ResV.tmp (v := .bool false) rfl)) ⟨⟨0, 0, 0, false, none, 0, 0⟩, by rw [hn]; rfl, rfl⟩ (by rw [ppP, hn]; exact Ent.pure fun _ => RdT.w)
  · refine LJ.nil ?_
    refine CJ.condF rfl ?_
    refine CJ.skip ?_
    refine CJ.seq ?_
    refine CJ.region ?_
    refine LJ.yd rfl (Yd.mvT rfl) ?_
    refine LJ.yd rfl (Yd.build (cs := [_, _, _]) rfl) ?_
    refine LJ.boxG (vs := [_, _, _]) rfl rfl (fun b2 => ?_)
    refine LJ.yd rfl (Yd.asP rfl) ?_
    refine LJ.nil ?_
    refine CJ.seq ?_
    refine CJ.region ?_
    refine LJ.yd rfl (Yd.mvP rfl) ?_
    refine LJ.call (pickF _ [0]) (pickF _ [1]) rfl (perm_pickF _ [0] [1] rfl) (fun k hk dk => plan_ok (s.length + 1) _ _ s 0 (by omega) (by omega) (by omega) (by omega) (by omega)) ?_
    rintro _ _ ⟨u, b, z, bad, rfl, rfl, hT, hF, hz0, hz1⟩
    rw [show List.drop (0 : Int).toNat s = s from rfl] at hT hF
    refine LJ.norm [_, _, _] rfl ?_
    refine LJ.alloc ([_, _, _, _, _] : List Value) rfl rfl (fun b3 => ?_)
    refine LJ.store (v := .agg #[_, _, _, _, _]) (us := [_, _, _, _, _]) 3 rfl rfl rfl rfl rfl rfl rfl rfl ?_
    refine LJ.nil ?_
    refine CJ.seq ?_
    refine CJ.seq ?_
    refine CJ.region ?_
    refine LJ.yd rfl (Yd.mvP rfl) ?_
    refine LJ.yd rfl (Yd.nilCheck rfl) ?_
    refine LJ.yd rfl (Yd.fieldAddr rfl) ?_
    refine LJ.split rfl (Yd.loadC 1 rfl rfl rfl) (fun h18 => ?_) (fun h18 => ?_)
    · refine LJ.yd rfl (Yd.mvB rfl) ?_
      refine LJ.gF rfl rfl ?_
      refine LJ.gF rfl rfl ?_
      refine LJ.gF rfl rfl ?_
      refine LJ.gF rfl rfl ?_
      refine LJ.gF rfl rfl ?_
      refine LJ.gF rfl rfl ?_
      refine LJ.gF rfl rfl ?_
      refine LJ.yd rfl (Yd.pickTB rfl rfl) ?_
      refine LJ.yd rfl (Yd.mvB rfl) ?_
      refine LJ.gF rfl rfl ?_
      refine LJ.gF rfl rfl ?_
      refine LJ.gF rfl rfl ?_
      refine LJ.yd rfl (Yd.pickTB rfl rfl) ?_
      refine LJ.yd rfl (Yd.mvB rfl) ?_
      refine LJ.gF rfl rfl ?_
      refine LJ.gF rfl rfl ?_
      refine LJ.gF rfl rfl ?_
      refine LJ.yd rfl (Yd.pickTB rfl rfl) ?_
      refine LJ.yd rfl (Yd.mvB rfl) ?_
      refine LJ.gF rfl rfl ?_
      refine LJ.gF rfl rfl ?_
      refine LJ.gF rfl rfl ?_
      refine LJ.gF rfl rfl ?_
      refine LJ.yd rfl (Yd.pickTB rfl rfl) ?_
      refine LJ.nil ?_
      refine CJ.condT rfl ?_
      refine CJ.seq ?_
      refine CJ.region ?_
      refine LJ.yd rfl (Yd.build (cs := [_, _, _, _, _]) rfl) ?_
      refine LJ.store (v := .agg #[_, _, _, _, _]) (us := [_, _, _, _, _]) 0 rfl rfl rfl rfl rfl rfl rfl rfl ?_
      refine LJ.yd rfl (Yd.asB rfl) ?_
      refine LJ.nil ?_
      refine CJ.ret ?_
      have hn : ppB s = none := by
        first
          | exact pp_len (by omega)
          | exact pp_no (by omega) (hF h18)
          | exact pp_rest2 (by omega) (hT h18).2.2 (hT h18).1 (hT h18).2.1 h26
          | exact pp_sz (by omega) (pp_end (hT h18).2.2 h26) rfl h31
          | exact pp_cn (by omega) (pp_end (hT h18).2.2 h26) rfl h35
      exact Fin.R [_] (Res.two (ResV.cell (us := [_, _, _, _, _]) 0 rfl rfl rfl rfl) (ResV.tmp (v := .bool false) rfl)) ⟨⟨0, 0, 0, false, none, 0, 0⟩, by rw [hn]; rfl, rfl⟩ (by rw [ppP, hn]; exact Ent.pure fun _ => RdT.w)
    · refine LJ.yd rfl (Yd.mvB rfl) ?_
      refine LJ.gT rfl ?_
      refine LJ.yd rfl (Yd.mvP rfl) ?_
      refine LJ.gT rfl ?_
      refine LJ.yd rfl (Yd.nilCheck rfl) ?_
      refine LJ.gT rfl ?_
      refine LJ.yd rfl (Yd.fieldAddr rfl) ?_
      refine LJ.gT rfl ?_
      refine LJ.yd rfl (Yd.loadC 1 rfl rfl rfl) ?_
      refine LJ.gT rfl ?_
      refine LJ.yd rfl (Yd.mvT rfl) ?_
      refine LJ.gT rfl ?_
      refine LJ.yd rfl (Yd.lenT rfl) ?_
      refine LJ.gT rfl ?_
      refine LJ.splitN rfl (Yd.neq rfl rfl) (fun h26 => ?_) (fun h26 => ?_)
      · refine LJ.yd rfl (Yd.pickFB rfl rfl) ?_
        refine LJ.yd rfl (Yd.mvB rfl) ?_
        refine LJ.gF rfl rfl ?_
        refine LJ.gF rfl rfl ?_
        refine LJ.gF rfl rfl ?_
        refine LJ.yd rfl (Yd.pickTB rfl rfl) ?_
        refine LJ.yd rfl (Yd.mvB rfl) ?_
        refine LJ.gF rfl rfl ?_
        refine LJ.gF rfl rfl ?_
        refine LJ.gF rfl rfl ?_
        refine LJ.yd rfl (Yd.pickTB rfl rfl) ?_
        refine LJ.yd rfl (Yd.mvB rfl) ?_
        refine LJ.gF rfl rfl ?_
        refine LJ.gF rfl rfl ?_
        refine LJ.gF rfl rfl ?_
        refine LJ.gF rfl rfl ?_
        refine LJ.yd rfl (Yd.pickTB rfl rfl) ?_
        refine LJ.nil ?_
        refine CJ.condT rfl ?_
        refine CJ.seq ?_
        refine CJ.region ?_
        refine LJ.yd rfl (Yd.build (cs := [_, _, _, _, _]) rfl) ?_
        refine LJ.store (v := .agg #[_, _, _, _, _]) (us := [_, _, _, _, _]) 0 rfl rfl rfl rfl rfl rfl rfl rfl ?_
        refine LJ.yd rfl (Yd.asB rfl) ?_
        refine LJ.nil ?_
        refine CJ.ret ?_
        have hn : ppB s = none := by
          first
            | exact pp_len (by omega)
            | exact pp_no (by omega) (hF h18)
            | exact pp_rest2 (by omega) (hT h18).2.2 (hT h18).1 (hT h18).2.1 h26
            | exact pp_sz (by omega) (pp_end (hT h18).2.2 h26) rfl h31
            | exact pp_cn (by omega) (pp_end (hT h18).2.2 h26) rfl h35
        exact Fin.R [_] (Res.two (ResV.cell (us := [_, _, _, _, _]) 0 rfl rfl rfl rfl) (ResV.tmp (v := .bool false) rfl)) ⟨⟨0, 0, 0, false, none, 0, 0⟩, by rw [hn]; rfl, rfl⟩ (by rw [ppP, hn]; exact Ent.pure fun _ => RdT.w)
      · refine LJ.yd rfl (Yd.pickFB rfl rfl) ?_
        refine LJ.yd rfl (Yd.mvB rfl) ?_
        refine LJ.gT rfl ?_
        refine LJ.yd rfl (Yd.loadG (us := [_, _, _, _, _]) 3 rfl rfl rfl rfl) ?_
        refine LJ.gT rfl ?_
        refine LJ.callV rfl (fun k hk dk => planSizeS_ok (RdPlan.of_BT (Sts.rdC hk dk 2 h18 rfl))) ?_
        refine LJ.gT rfl ?_
        refine LJ.splitD rfl (Yd.lss rfl rfl) (fun h31 => ?_) (fun h31 => ?_)
        · refine LJ.yd rfl (Yd.pickFB rfl rfl) ?_
          refine LJ.yd rfl (Yd.mvB rfl) ?_
          refine LJ.gF rfl rfl ?_
          refine LJ.gF rfl rfl ?_
          refine LJ.gF rfl rfl ?_
          refine LJ.yd rfl (Yd.pickTB rfl rfl) ?_
          refine LJ.yd rfl (Yd.mvB rfl) ?_
          refine LJ.gF rfl rfl ?_
          refine LJ.gF rfl rfl ?_
          refine LJ.gF rfl rfl ?_
          refine LJ.gF rfl rfl ?_
          refine LJ.yd rfl (Yd.pickTB rfl rfl) ?_
          refine LJ.nil ?_
          refine CJ.condT rfl ?_
          refine CJ.seq ?_
          refine CJ.region ?_
          refine LJ.yd rfl (Yd.build (cs := [_, _, _, _, _]) rfl) ?_
          refine LJ.store (v := .agg #[_, _, _, _, _]) (us := [_, _, _, _, _]) 0 rfl rfl rfl rfl rfl rfl rfl rfl ?_
          refine LJ.yd rfl (Yd.asB rfl) ?_
          refine LJ.nil ?_
          refine CJ.ret ?_
          have hn : ppB s = none := by
            first
              | exact pp_len (by omega)
              | exact pp_no (by omega) (hF h18)
              | exact pp_rest2 (by omega) (hT h18).2.2 (hT h18).1 (hT h18).2.1 h26
              | exact pp_sz (by omega) (pp_end (hT h18).2.2 h26) rfl h31
              | exact pp_cn (by omega) (pp_end (hT h18).2.2 h26) rfl h35
          exact Fin.R [_] (Res.two (ResV.cell (us := [_, _, _, _, _]) 0 rfl rfl rfl rfl) (ResV.tmp (v := .bool false) rfl)) ⟨⟨0, 0, 0, false, none, 0, 0⟩, by rw [hn]; rfl, rfl⟩ (by rw [ppP, hn]; exact Ent.pure fun _ => RdT.w)
        · refine LJ.yd rfl (Yd.pickFB rfl rfl) ?_
          refine LJ.yd rfl (Yd.mvB rfl) ?_
          refine LJ.gT rfl ?_
          refine LJ.yd rfl (Yd.loadG (us := [_, _, _, _, _]) 3 rfl rfl rfl rfl) ?_
          refine LJ.gT rfl ?_
          refine LJ.callB rfl (fun k hk dk => countable_ok (RdPlan.of_BT (Sts.rdC hk dk 2 h18 rfl))) (fun h35 => ?_) (fun h35 => ?_)
          · refine LJ.gT rfl ?_
            refine LJ.yd rfl (Yd.not rfl) ?_
            refine LJ.yd rfl (Yd.pickFB rfl rfl) ?_
            refine LJ.yd rfl (Yd.mvB rfl) ?_
            refine LJ.gT rfl ?_
            refine LJ.yd rfl (Yd.loadG (us := [_, _, _, _, _]) 3 rfl rfl rfl rfl) ?_
            refine LJ.gT rfl ?_
            refine LJ.callV rfl (fun k hk dk => showPlan_ok b _ _ (by rw [← cnP_BT]; exact h35) (by have := psz_sz h31; omega) (Sts.rdC hk dk 2 h18 rfl)) ?_
            refine LJ.gT rfl ?_
            refine LJ.yd rfl (Yd.mvT rfl) ?_
            refine LJ.gT rfl ?_
            refine LJ.yd rfl (Yd.cmpNF (Yd.neqT rfl rfl) (pp_shw (pp_end (hT h18).2.2 h26))) ?_
            refine LJ.yd rfl (Yd.pickFB rfl rfl) ?_
            refine LJ.nil ?_
            refine CJ.condF rfl ?_
            refine CJ.skip ?_
            refine CJ.seq ?_
            refine CJ.region ?_
            refine LJ.yd rfl (Yd.loadG (us := [_, _, _, _, _]) 3 rfl rfl rfl rfl) ?_
            refine LJ.store (v := .agg #[_, _, _, _, _]) (us := [_, _, _, _, _]) 0 rfl rfl rfl rfl rfl rfl rfl rfl ?_
            refine LJ.yd rfl (Yd.asB rfl) ?_
            refine LJ.nil ?_
            refine CJ.ret ?_
            have hn := pp_T (by omega) (pp_end (hT h18).2.2 h26) rfl h31 h35
            exact Fin.R [_] (Res.two (ResV.cell (us := [_, _, _, _, _]) 0 rfl rfl rfl rfl) (ResV.tmp (v := .bool true) rfl)) ⟨_, by rw [hn]; rfl, rfl⟩ (by rw [ppP, hn]; exact Ent.thn (Ent.impAt 2 rfl (fun _ r => r h18)) (Ent.pick [2] [0, 1, 3] rfl))
          · refine LJ.gT rfl ?_
            refine LJ.yd rfl (Yd.not rfl) ?_
            refine LJ.yd rfl (Yd.pickFB rfl rfl) ?_
            refine LJ.yd rfl (Yd.mvB rfl) ?_
            refine LJ.gF rfl rfl ?_
            refine LJ.gF rfl rfl ?_
            refine LJ.gF rfl rfl ?_
            refine LJ.gF rfl rfl ?_
            refine LJ.yd rfl (Yd.pickTB rfl rfl) ?_
            refine LJ.nil ?_
            refine CJ.condT rfl ?_
            refine CJ.seq ?_
            refine CJ.region ?_
            refine LJ.yd rfl (Yd.build (cs := [_, _, _, _, _]) rfl) ?_
            refine LJ.store (v := .agg #[_, _, _, _, _]) (us := [_, _, _, _, _]) 0 rfl rfl rfl rfl rfl rfl rfl rfl ?_
            refine LJ.yd rfl (Yd.asB rfl) ?_
            refine LJ.nil ?_
            refine CJ.ret ?_
            have hn : ppB s = none := by
              first
                | exact pp_len (by omega)
                | exact pp_no (by omega) (hF h18)
                | exact pp_rest2 (by omega) (hT h18).2.2 (hT h18).1 (hT h18).2.1 h26
                | exact pp_sz (by omega) (pp_end (hT h18).2.2 h26) rfl h31
                | exact pp_cn (by omega) (pp_end (hT h18).2.2 h26) rfl h35
            exact Fin.R [_] (Res.two (ResV.cell (us := [_, _, _, _, _]) 0 rfl rfl rfl rfl) (ResV.tmp (v := .bool false) rfl)) ⟨⟨0, 0, 0, false, none, 0, 0⟩, by rw [hn]; rfl, rfl⟩ (by rw [ppP, hn]; exact Ent.pure fun _ => RdT.w)
theorem ParsePlanS_ok {A : Amb} {s : List UInt8} (hs : s.length ≤ 1048576) : Ctr Try.prog 32 #[vT s] A [] (SppR s) := by
  refine Ctr.body (args := [_]) Try.func32 rfl Try.ntmps32 Try.results32 (by simp) ?_
  refine CJ.seq ?_
  refine CJ.region ?_
  refine LJ.alloc ([_, _, _, _, _] : List Value) rfl rfl (fun b1 => ?_)
  refine LJ.yd rfl (Yd.asB rfl) ?_
  refine LJ.nil ?_
  refine CJ.seq ?_
  refine CJ.region ?_
  refine LJ.yd rfl (Yd.mvT rfl) ?_
  refine LJ.call0 rfl (fun k hk dk => parsePlan_ok hs) ?_
  rintro _ _ ⟨u, rfl, rfl⟩
  refine LJ.yd rfl (Yd.extract rfl rfl) ?_
  refine LJ.yd rfl (Yd.extract (v := .bool (ppB s).isSome) rfl rfl) ?_
  refine LJ.store (v := .agg #[_, _, _, _, _]) (us := [_, _, _, _, _]) 0 rfl rfl rfl rfl rfl rfl rfl rfl ?_
  refine LJ.yd rfl (Yd.asB rfl) ?_
  refine LJ.nil ?_
  refine CJ.ret ?_
  exact Fin.R [_] (Res.two (ResV.cell (us := [_, _, _, _, _]) 0 rfl rfl rfl rfl) (ResV.tmp (v := .bool _) rfl)) ⟨u, rfl, rfl⟩ (Ent.pick [1] [0] rfl)
end Go.Proofs.Ytlpjienaennmaaa
