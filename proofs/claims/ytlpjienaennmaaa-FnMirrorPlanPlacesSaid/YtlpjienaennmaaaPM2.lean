/-
  Plans with left and right exchanged: contracts, and the law on their places.
-/
import Derived.Test.YtlpjienaennmaaaPM1
import Derived.Test.YtlpjienaennmaaaPC0
namespace Go.Proofs.Ytlpjienaennmaaa
open Go
set_option maxRecDepth 20000
set_option maxHeartbeats 2000000

theorem mirrored_ok {ps : List Pane} (b : BT) : ∀ (A : Amb) (cs : List Value) (w h : Int), b.fits ps w h = true → 0 ≤ w → w ≤ 1000 → 0 ≤ h → h ≤ 1000 → RdT A.h cs b → Ctr Try.prog 55 #[.agg cs.toArray, vI w] A [] (PlanV (b.mir w h)) := by
  induction b with
  | w =>
    intro A cs w h hf hw0 hw1 hh0 hh1 hr
    cases hr
    refine Ctr.body (args := [_, _]) Try.func55 rfl Try.ntmps55 Try.results55 (by simp) ?_
    refine CJ.seq ?_
    refine CJ.region ?_
    refine LJ.boxG (vs := [_, _, _, _, _]) rfl rfl (fun b1 => ?_)
    refine LJ.alloc ([_, _, _, _, _] : List Value) rfl rfl (fun b2 => ?_)
    refine LJ.nil ?_
    refine CJ.seq ?_
    refine CJ.seq ?_
    refine CJ.region ?_
    refine LJ.yd rfl (Yd.fieldAddr rfl) ?_
    refine LJ.yd rfl (Yd.loadC 0 rfl rfl rfl) ?_
    refine LJ.nil ?_
    refine CJ.block ?_
    refine CJ.seq ?_
    refine CJ.region ?_
    refine LJ.yd rfl (Yd.cmpF (Yd.eql rfl rfl) (by decide)) ?_
    refine LJ.yd rfl (Yd.asB rfl) ?_
    refine LJ.nil ?_
    refine CJ.condF rfl ?_
    refine CJ.seq ?_
    refine CJ.region ?_
    refine LJ.yd rfl (Yd.cmpF (Yd.eql rfl rfl) (by decide)) ?_
    refine LJ.yd rfl (Yd.asB rfl) ?_
    refine LJ.nil ?_
    refine CJ.condF rfl ?_
    refine CJ.skip ?_
    refine CJ.seq ?_
    refine CJ.region ?_
    refine LJ.yd rfl (Yd.fieldAddr rfl) ?_
    refine LJ.yd rfl (Yd.loadC 0 rfl rfl rfl) ?_
    refine LJ.yd rfl (Yd.fieldAddr rfl) ?_
    refine LJ.yd rfl (Yd.loadC 0 rfl rfl rfl) ?_
    refine LJ.yd rfl (Yd.fieldAddr rfl) ?_
    refine LJ.yd rfl (Yd.loadC 0 rfl rfl rfl) ?_
    refine LJ.yd rfl (Yd.build (cs := [_, _, _, _, _]) rfl) ?_
    refine LJ.store (v := .agg #[_, _, _, _, _]) (us := [_, _, _, _, _]) 1 rfl rfl rfl rfl rfl rfl rfl rfl ?_
    refine LJ.nil ?_
    refine CJ.ret ?_
    exact Fin.R [_] (Res.one (ResV.cell (us := [_, _, _, _, _]) 1 rfl rfl rfl rfl)) ⟨_, _, _, _, _, _, _, rfl, rfl⟩ (Ent.pure fun _ => .w)
  | p i t =>
    intro A cs w h hf hw0 hw1 hh0 hh1 hr
    obtain _ | hi := hr
    refine Ctr.body (args := [_, _]) Try.func55 rfl Try.ntmps55 Try.results55 (by simp) ?_
    refine CJ.seq ?_
    refine CJ.region ?_
    refine LJ.boxG (vs := [_, _, _, _, _]) rfl rfl (fun b1 => ?_)
    refine LJ.alloc ([_, _, _, _, _] : List Value) rfl rfl (fun b2 => ?_)
    refine LJ.nil ?_
    refine CJ.seq ?_
    refine CJ.seq ?_
    refine CJ.region ?_
    refine LJ.yd rfl (Yd.fieldAddr rfl) ?_
    refine LJ.yd rfl (Yd.loadC 0 rfl rfl rfl) ?_
    refine LJ.nil ?_
    refine CJ.block ?_
    refine CJ.seq ?_
    refine CJ.region ?_
    refine LJ.yd rfl (Yd.cmpF (Yd.eql rfl rfl) (by decide)) ?_
    refine LJ.yd rfl (Yd.asB rfl) ?_
    refine LJ.nil ?_
    refine CJ.condF rfl ?_
    refine CJ.seq ?_
    refine CJ.region ?_
    refine LJ.yd rfl (Yd.cmpF (Yd.eql rfl rfl) (by decide)) ?_
    refine LJ.yd rfl (Yd.asB rfl) ?_
    refine LJ.nil ?_
    refine CJ.condF rfl ?_
    refine CJ.skip ?_
    refine CJ.seq ?_
    refine CJ.region ?_
    refine LJ.yd rfl (Yd.fieldAddr rfl) ?_
    refine LJ.yd rfl (Yd.loadC 0 rfl rfl rfl) ?_
    refine LJ.yd rfl (Yd.fieldAddr rfl) ?_
    refine LJ.yd rfl (Yd.loadC 0 rfl rfl rfl) ?_
    refine LJ.yd rfl (Yd.fieldAddr rfl) ?_
    refine LJ.yd rfl (Yd.loadC 0 rfl rfl rfl) ?_
    refine LJ.yd rfl (Yd.build (cs := [_, _, _, _, _]) rfl) ?_
    refine LJ.store (v := .agg #[_, _, _, _, _]) (us := [_, _, _, _, _]) 1 rfl rfl rfl rfl rfl rfl rfl rfl ?_
    refine LJ.nil ?_
    refine CJ.ret ?_
    exact Fin.R [_] (Res.one (ResV.cell (us := [_, _, _, _, _]) 1 rfl rfl rfl rfl)) ⟨_, _, _, _, _, _, _, rfl, rfl⟩ (Ent.pure fun _ => .p hi)
  | c d a l r ihl ihr =>
    intro A cs w h hf hw0 hw1 hh0 hh1 hr
    obtain _ | _ | ⟨ha, hcap, hrow, hl, hr⟩ := hr
    cases d
    · obtain ⟨hf1, hf2, hf3, hf4⟩ := (fits_c hf).2 rfl
      refine Ctr.body (args := [_, _]) Try.func55 rfl Try.ntmps55 Try.results55 (by simp) ?_
      refine CJ.seq ?_
      refine CJ.region ?_
      refine LJ.boxG (vs := [_, _, _, _, _]) rfl rfl (fun b1 => ?_)
      refine LJ.alloc ([_, _, _, _, _] : List Value) rfl rfl (fun b2 => ?_)
      refine LJ.nil ?_
      refine CJ.seq ?_
      refine CJ.seq ?_
      refine CJ.region ?_
      refine LJ.yd rfl (Yd.fieldAddr rfl) ?_
      refine LJ.yd rfl (Yd.loadC 0 rfl rfl rfl) ?_
      refine LJ.nil ?_
      refine CJ.block ?_
      refine CJ.seq ?_
      refine CJ.region ?_
      refine LJ.yd rfl (Yd.cmpF (Yd.eql rfl rfl) (by decide)) ?_
      refine LJ.yd rfl (Yd.asB rfl) ?_
      refine LJ.nil ?_
      refine CJ.condF rfl ?_
      refine CJ.seq ?_
      refine CJ.region ?_
      refine LJ.yd rfl (Yd.cmpT (Yd.eql rfl rfl) (by decide)) ?_
      refine LJ.yd rfl (Yd.asB rfl) ?_
      refine LJ.nil ?_
      refine CJ.condT rfl ?_
      refine CJ.seq ?_
      refine CJ.regionD [0] [1] (by kernel_rfl) rfl ?_
      refine DJ.norm [_] [_] rfl rfl ?_
      refine DJ.yd 0 rfl (by kernel_rfl) (by kernel_rfl) (by kernel_rfl) rfl rfl (Yd.fieldAddr rfl) ?_
      refine DJ.yd 1 rfl (by kernel_rfl) (by kernel_rfl) (by kernel_rfl) rfl rfl (Yd.loadC 0 rfl rfl rfl) ?_
      refine DJ.yd 2 rfl (by kernel_rfl) (by kernel_rfl) (by kernel_rfl) rfl rfl (Yd.fieldAddr rfl) ?_
      refine DJ.yd 3 rfl (by kernel_rfl) (by kernel_rfl) (by kernel_rfl) rfl rfl (Yd.loadC 0 rfl rfl rfl) ?_
      refine DJ.yd 4 rfl (by kernel_rfl) (by kernel_rfl) (by kernel_rfl) rfl rfl (Yd.indexAddr rfl rfl (by omega) (by simp)) ?_
      refine DJ.yd 5 rfl (by kernel_rfl) (by kernel_rfl) (by kernel_rfl) rfl rfl (Yd.loadRow (i := 0) hrow rfl (by simp) rfl hl.len) ?_
      refine DJ.yd 6 rfl (by kernel_rfl) (by kernel_rfl) (by kernel_rfl) rfl rfl (Yd.mvI rfl) ?_
      refine DJ.yd 8 rfl (by kernel_rfl) (by kernel_rfl) (by kernel_rfl) rfl rfl (Yd.fieldAddr rfl) ?_
      refine DJ.yd 9 rfl (by kernel_rfl) (by kernel_rfl) (by kernel_rfl) rfl rfl (Yd.loadC 0 rfl rfl rfl) ?_
      refine DJ.yd 10 rfl (by kernel_rfl) (by kernel_rfl) (by kernel_rfl) rfl rfl (Yd.indexAddr rfl rfl (by omega) (by simp)) ?_
      refine DJ.yd 11 rfl (by kernel_rfl) (by kernel_rfl) (by kernel_rfl) rfl rfl (Yd.loadRow (i := 1) hrow rfl (by simp) rfl hr.len) ?_
      refine DJ.yd 12 rfl (by kernel_rfl) (by kernel_rfl) (by kernel_rfl) rfl rfl (Yd.mvI rfl) ?_
      refine DJ.one (i := 7) (by kernel_rfl) ?_
      refine DO.call0 rfl rfl rfl (fun k0 hk0 dk0 k hk dk => ihl _ _ w a hf3 (by omega) (by omega) (by omega) (by omega) hl.up) ?_
      rintro _ _ ⟨oK0, aK0, pK0, tK0, xK0, nK0, cK0, rfl, rfl⟩
      refine DJ.one (i := 13) (by kernel_rfl) ?_
      refine DO.call0 rfl rfl rfl (fun k0 hk0 dk0 k hk dk => ihr _ _ w (h - a) hf4 (by omega) (by omega) (by omega) (by omega) hr.up) ?_
      rintro _ _ ⟨oK1, aK1, pK1, tK1, xK1, nK1, cK1, rfl, rfl⟩
      refine DJ.one (i := 14) (by kernel_rfl) ?_
      refine DO.op rfl rfl rfl (fun k0 hk0 dk0 => OpR.buildSlice (cs := [_, _, _, _, _, _, _, _, _, _]) rfl rfl) ?_
      rintro _ _ ⟨b3, rfl, rfl⟩
      refine DJ.yd 15 rfl (by kernel_rfl) (by kernel_rfl) (by kernel_rfl) rfl rfl (Yd.build (cs := [_, _, _, _, _]) rfl) ?_
      refine DJ.one (i := 16) (by kernel_rfl) ?_
      refine DO.store (v := .agg #[_, _, _, _, _]) (us := [_, _, _, _, _]) 0 rfl rfl rfl rfl rfl rfl rfl rfl rfl rfl ?_
      refine DJ.done (by kernel_rfl) ?_
      refine CJ.ret ?_
      exact Fin.R [_] (Res.one (ResV.cell (us := [_, _, _, _, _]) 1 rfl rfl rfl rfl)) ⟨_, _, _, _, _, _, _, rfl, rfl⟩ (Ent.fold [2, 3, 4] [0, 1] rfl (RdT.foldV (d := false) ha))
    · obtain ⟨hf1, hf2, hf3, hf4⟩ := (fits_c hf).1 rfl
      refine Ctr.body (args := [_, _]) Try.func55 rfl Try.ntmps55 Try.results55 (by simp) ?_
      refine CJ.seq ?_
      refine CJ.region ?_
      refine LJ.boxG (vs := [_, _, _, _, _]) rfl rfl (fun b1 => ?_)
      refine LJ.alloc ([_, _, _, _, _] : List Value) rfl rfl (fun b2 => ?_)
      refine LJ.nil ?_
      refine CJ.seq ?_
      refine CJ.seq ?_
      refine CJ.region ?_
      refine LJ.yd rfl (Yd.fieldAddr rfl) ?_
      refine LJ.yd rfl (Yd.loadC 0 rfl rfl rfl) ?_
      refine LJ.nil ?_
      refine CJ.block ?_
      refine CJ.seq ?_
      refine CJ.region ?_
      refine LJ.yd rfl (Yd.cmpT (Yd.eql rfl rfl) (by decide)) ?_
      refine LJ.yd rfl (Yd.asB rfl) ?_
      refine LJ.nil ?_
      refine CJ.condT rfl ?_
      refine CJ.seq ?_
      refine CJ.regionD [0, 1] [] (by kernel_rfl) rfl ?_
      refine DJ.norm [_, _] [] rfl rfl ?_
      refine DJ.yd 0 rfl (by kernel_rfl) (by kernel_rfl) (by kernel_rfl) rfl rfl (Yd.fieldAddr rfl) ?_
      refine DJ.yd 1 rfl (by kernel_rfl) (by kernel_rfl) (by kernel_rfl) rfl rfl (Yd.loadC 0 rfl rfl rfl) ?_
      refine DJ.yd 2 rfl (by kernel_rfl) (by kernel_rfl) (by kernel_rfl) rfl rfl (Yd.indexAddr rfl rfl (by omega) (by simp)) ?_
      refine DJ.yd 3 rfl (by kernel_rfl) (by kernel_rfl) (by kernel_rfl) rfl rfl (Yd.loadRow (i := 1) hrow rfl (by simp) rfl hr.len) ?_
      refine DJ.yd 4 rfl (by kernel_rfl) (by kernel_rfl) (by kernel_rfl) rfl rfl (Yd.mvI rfl) ?_
      refine DJ.yd 5 rfl (by kernel_rfl) (by kernel_rfl) (by kernel_rfl) rfl rfl (Yd.fieldAddr rfl) ?_
      refine DJ.yd 6 rfl (by kernel_rfl) (by kernel_rfl) (by kernel_rfl) rfl rfl (Yd.loadC 0 rfl rfl rfl) ?_
      refine DJ.yd 7 rfl (by kernel_rfl) (by kernel_rfl) (by kernel_rfl) rfl rfl (Yd.sub rfl rfl (by unfold I64; omega)) ?_
      refine DJ.yd 9 rfl (by kernel_rfl) (by kernel_rfl) (by kernel_rfl) rfl rfl (Yd.fieldAddr rfl) ?_
      refine DJ.yd 10 rfl (by kernel_rfl) (by kernel_rfl) (by kernel_rfl) rfl rfl (Yd.loadC 0 rfl rfl rfl) ?_
      refine DJ.yd 11 rfl (by kernel_rfl) (by kernel_rfl) (by kernel_rfl) rfl rfl (Yd.indexAddr rfl rfl (by omega) (by simp)) ?_
      refine DJ.yd 12 rfl (by kernel_rfl) (by kernel_rfl) (by kernel_rfl) rfl rfl (Yd.loadRow (i := 0) hrow rfl (by simp) rfl hl.len) ?_
      refine DJ.yd 13 rfl (by kernel_rfl) (by kernel_rfl) (by kernel_rfl) rfl rfl (Yd.fieldAddr rfl) ?_
      refine DJ.yd 14 rfl (by kernel_rfl) (by kernel_rfl) (by kernel_rfl) rfl rfl (Yd.loadC 0 rfl rfl rfl) ?_
      refine DJ.three (i := 8) (j := 16) (m := 17) (by kernel_rfl) ?_ ?_ ?_
      · refine DO.call0 rfl rfl rfl (fun k0 hk0 dk0 k hk dk => ihr _ _ (w - a) h hf4 (by omega) (by omega) (by omega) (by omega) hr.up) ?_
        rintro _ _ ⟨oK0, aK0, pK0, tK0, xK0, nK0, cK0, rfl, rfl⟩
        refine DJ.three (i := 15) (j := 16) (m := 17) (by kernel_rfl) ?_ ?_ ?_
        · refine DO.call0 rfl rfl rfl (fun k0 hk0 dk0 k hk dk => ihl _ _ a h hf3 (by omega) (by omega) (by omega) (by omega) hl.up) ?_
          rintro _ _ ⟨oK1, aK1, pK1, tK1, xK1, nK1, cK1, rfl, rfl⟩
          refine DJ.two (i := 16) (j := 17) (by kernel_rfl) ?_ ?_
          · refine DO.alloc ([_, _, _, _, _] : List Value) rfl rfl rfl rfl (fun b3 => ?_)
            refine DJ.one (i := 17) (by kernel_rfl) ?_
            refine DO.alloc ([_, _, _, _, _] : List Value) rfl rfl rfl rfl (fun b4 => ?_)
            refine DJ.one (i := 18) (by kernel_rfl) ?_
            refine DO.store (v := .agg #[_, _, _, _, _]) (us := [_, _, _, _, _]) 2 rfl rfl rfl rfl rfl rfl rfl rfl rfl rfl ?_
            refine DJ.one (i := 19) (by kernel_rfl) ?_
            refine DO.store (v := .agg #[_, _, _, _, _]) (us := [_, _, _, _, _]) 3 rfl rfl rfl rfl rfl rfl rfl rfl rfl rfl ?_
            refine DJ.done (by kernel_rfl) ?_
            refine CJ.seq ?_
            refine CJ.region ?_
            refine LJ.yd rfl (Yd.mvI rfl) ?_
            refine LJ.yd rfl (Yd.fieldAddr rfl) ?_
            refine LJ.yd rfl (Yd.loadC 0 rfl rfl rfl) ?_
            refine LJ.yd rfl (Yd.sub rfl rfl (by unfold I64; omega)) ?_
            refine LJ.yd rfl (Yd.loadG (us := [_, _, _, _, _]) 4 rfl rfl rfl rfl) ?_
            refine LJ.yd rfl (Yd.loadG (us := [_, _, _, _, _]) 5 rfl rfl rfl rfl) ?_
            refine LJ.op rfl (OpR.buildSlice (cs := [_, _, _, _, _, _, _, _, _, _]) rfl rfl) ?_
            rintro _ _ ⟨b5, rfl, rfl⟩
            refine LJ.yd rfl (Yd.build (cs := [_, _, _, _, _]) rfl) ?_
            refine LJ.store (v := .agg #[_, _, _, _, _]) (us := [_, _, _, _, _]) 1 rfl rfl rfl rfl rfl rfl rfl rfl ?_
            refine LJ.nil ?_
            refine CJ.ret ?_
            exact Fin.R [_] (Res.one (ResV.cell (us := [_, _, _, _, _]) 1 rfl rfl rfl rfl)) ⟨_, _, _, _, _, _, _, rfl, rfl⟩ (Ent.fold [2, 3, 6] [0, 1, 4, 5] rfl (RdT.foldV (d := true) (by unfold I64; omega)))
          · refine DO.alloc ([_, _, _, _, _] : List Value) rfl rfl rfl rfl (fun b6 => ?_)
            refine DJ.one (i := 16) (by kernel_rfl) ?_
            refine DO.alloc ([_, _, _, _, _] : List Value) rfl rfl rfl rfl (fun b7 => ?_)
            refine DJ.one (i := 18) (by kernel_rfl) ?_
            refine DO.store (v := .agg #[_, _, _, _, _]) (us := [_, _, _, _, _]) 3 rfl rfl rfl rfl rfl rfl rfl rfl rfl rfl ?_
            refine DJ.one (i := 19) (by kernel_rfl) ?_
            refine DO.store (v := .agg #[_, _, _, _, _]) (us := [_, _, _, _, _]) 2 rfl rfl rfl rfl rfl rfl rfl rfl rfl rfl ?_
            refine DJ.done (by kernel_rfl) ?_
            refine CJ.seq ?_
            refine CJ.region ?_
            refine LJ.yd rfl (Yd.mvI rfl) ?_
            refine LJ.yd rfl (Yd.fieldAddr rfl) ?_
            refine LJ.yd rfl (Yd.loadC 0 rfl rfl rfl) ?_
            refine LJ.yd rfl (Yd.sub rfl rfl (by unfold I64; omega)) ?_
            refine LJ.yd rfl (Yd.loadG (us := [_, _, _, _, _]) 5 rfl rfl rfl rfl) ?_
            refine LJ.yd rfl (Yd.loadG (us := [_, _, _, _, _]) 4 rfl rfl rfl rfl) ?_
            refine LJ.op rfl (OpR.buildSlice (cs := [_, _, _, _, _, _, _, _, _, _]) rfl rfl) ?_
            rintro _ _ ⟨b8, rfl, rfl⟩
            refine LJ.yd rfl (Yd.build (cs := [_, _, _, _, _]) rfl) ?_
            refine LJ.store (v := .agg #[_, _, _, _, _]) (us := [_, _, _, _, _]) 1 rfl rfl rfl rfl rfl rfl rfl rfl ?_
            refine LJ.nil ?_
            refine CJ.ret ?_
            exact Fin.R [_] (Res.one (ResV.cell (us := [_, _, _, _, _]) 1 rfl rfl rfl rfl)) ⟨_, _, _, _, _, _, _, rfl, rfl⟩ (Ent.fold [2, 3, 6] [0, 1, 4, 5] rfl (RdT.foldV (d := true) (by unfold I64; omega)))
        · refine DO.alloc ([_, _, _, _, _] : List Value) rfl rfl rfl rfl (fun b9 => ?_)
          refine DJ.two (i := 15) (j := 17) (by kernel_rfl) ?_ ?_
          · refine DO.call0 rfl rfl rfl (fun k0 hk0 dk0 k hk dk => ihl _ _ a h hf3 (by omega) (by omega) (by omega) (by omega) hl.up) ?_
            rintro _ _ ⟨oK1, aK1, pK1, tK1, xK1, nK1, cK1, rfl, rfl⟩
            refine DJ.one (i := 17) (by kernel_rfl) ?_
            refine DO.alloc ([_, _, _, _, _] : List Value) rfl rfl rfl rfl (fun b10 => ?_)
            refine DJ.one (i := 18) (by kernel_rfl) ?_
            refine DO.store (v := .agg #[_, _, _, _, _]) (us := [_, _, _, _, _]) 1 rfl rfl rfl rfl rfl rfl rfl rfl rfl rfl ?_
            refine DJ.one (i := 19) (by kernel_rfl) ?_
            refine DO.store (v := .agg #[_, _, _, _, _]) (us := [_, _, _, _, _]) 3 rfl rfl rfl rfl rfl rfl rfl rfl rfl rfl ?_
            refine DJ.done (by kernel_rfl) ?_
            refine CJ.seq ?_
            refine CJ.region ?_
            refine LJ.yd rfl (Yd.mvI rfl) ?_
            refine LJ.yd rfl (Yd.fieldAddr rfl) ?_
            refine LJ.yd rfl (Yd.loadC 0 rfl rfl rfl) ?_
            refine LJ.yd rfl (Yd.sub rfl rfl (by unfold I64; omega)) ?_
            refine LJ.yd rfl (Yd.loadG (us := [_, _, _, _, _]) 3 rfl rfl rfl rfl) ?_
            refine LJ.yd rfl (Yd.loadG (us := [_, _, _, _, _]) 5 rfl rfl rfl rfl) ?_
            refine LJ.op rfl (OpR.buildSlice (cs := [_, _, _, _, _, _, _, _, _, _]) rfl rfl) ?_
            rintro _ _ ⟨b11, rfl, rfl⟩
            refine LJ.yd rfl (Yd.build (cs := [_, _, _, _, _]) rfl) ?_
            refine LJ.store (v := .agg #[_, _, _, _, _]) (us := [_, _, _, _, _]) 1 rfl rfl rfl rfl rfl rfl rfl rfl ?_
            refine LJ.nil ?_
            refine CJ.ret ?_
            exact Fin.R [_] (Res.one (ResV.cell (us := [_, _, _, _, _]) 1 rfl rfl rfl rfl)) ⟨_, _, _, _, _, _, _, rfl, rfl⟩ (Ent.fold [2, 4, 6] [0, 1, 3, 5] rfl (RdT.foldV (d := true) (by unfold I64; omega)))
          · refine DO.alloc ([_, _, _, _, _] : List Value) rfl rfl rfl rfl (fun b12 => ?_)
            refine DJ.one (i := 15) (by kernel_rfl) ?_
            refine DO.call0 rfl rfl rfl (fun k0 hk0 dk0 k hk dk => ihl _ _ a h hf3 (by omega) (by omega) (by omega) (by omega) hl.up) ?_
            rintro _ _ ⟨oK1, aK1, pK1, tK1, xK1, nK1, cK1, rfl, rfl⟩
            refine DJ.one (i := 18) (by kernel_rfl) ?_
            refine DO.store (v := .agg #[_, _, _, _, _]) (us := [_, _, _, _, _]) 1 rfl rfl rfl rfl rfl rfl rfl rfl rfl rfl ?_
            refine DJ.one (i := 19) (by kernel_rfl) ?_
            refine DO.store (v := .agg #[_, _, _, _, _]) (us := [_, _, _, _, _]) 2 rfl rfl rfl rfl rfl rfl rfl rfl rfl rfl ?_
            refine DJ.done (by kernel_rfl) ?_
            refine CJ.seq ?_
            refine CJ.region ?_
            refine LJ.yd rfl (Yd.mvI rfl) ?_
            refine LJ.yd rfl (Yd.fieldAddr rfl) ?_
            refine LJ.yd rfl (Yd.loadC 0 rfl rfl rfl) ?_
            refine LJ.yd rfl (Yd.sub rfl rfl (by unfold I64; omega)) ?_
            refine LJ.yd rfl (Yd.loadG (us := [_, _, _, _, _]) 3 rfl rfl rfl rfl) ?_
            refine LJ.yd rfl (Yd.loadG (us := [_, _, _, _, _]) 4 rfl rfl rfl rfl) ?_
            refine LJ.op rfl (OpR.buildSlice (cs := [_, _, _, _, _, _, _, _, _, _]) rfl rfl) ?_
            rintro _ _ ⟨b13, rfl, rfl⟩
            refine LJ.yd rfl (Yd.build (cs := [_, _, _, _, _]) rfl) ?_
            refine LJ.store (v := .agg #[_, _, _, _, _]) (us := [_, _, _, _, _]) 1 rfl rfl rfl rfl rfl rfl rfl rfl ?_
            refine LJ.nil ?_
            refine CJ.ret ?_
            exact Fin.R [_] (Res.one (ResV.cell (us := [_, _, _, _, _]) 1 rfl rfl rfl rfl)) ⟨_, _, _, _, _, _, _, rfl, rfl⟩ (Ent.fold [2, 5, 6] [0, 1, 3, 4] rfl (RdT.foldV (d := true) (by unfold I64; omega)))
        · refine DO.alloc ([_, _, _, _, _] : List Value) rfl rfl rfl rfl (fun b14 => ?_)
          refine DJ.two (i := 15) (j := 16) (by kernel_rfl) ?_ ?_
          · refine DO.call0 rfl rfl rfl (fun k0 hk0 dk0 k hk dk => ihl _ _ a h hf3 (by omega) (by omega) (by omega) (by omega) hl.up) ?_
            rintro _ _ ⟨oK1, aK1, pK1, tK1, xK1, nK1, cK1, rfl, rfl⟩
            refine DJ.one (i := 16) (by kernel_rfl) ?_
            refine DO.alloc ([_, _, _, _, _] : List Value) rfl rfl rfl rfl (fun b15 => ?_)
            refine DJ.one (i := 18) (by kernel_rfl) ?_
            refine DO.store (v := .agg #[_, _, _, _, _]) (us := [_, _, _, _, _]) 3 rfl rfl rfl rfl rfl rfl rfl rfl rfl rfl ?_
            refine DJ.one (i := 19) (by kernel_rfl) ?_
            refine DO.store (v := .agg #[_, _, _, _, _]) (us := [_, _, _, _, _]) 1 rfl rfl rfl rfl rfl rfl rfl rfl rfl rfl ?_
            refine DJ.done (by kernel_rfl) ?_
            refine CJ.seq ?_
            refine CJ.region ?_
            refine LJ.yd rfl (Yd.mvI rfl) ?_
            refine LJ.yd rfl (Yd.fieldAddr rfl) ?_
            refine LJ.yd rfl (Yd.loadC 0 rfl rfl rfl) ?_
            refine LJ.yd rfl (Yd.sub rfl rfl (by unfold I64; omega)) ?_
            refine LJ.yd rfl (Yd.loadG (us := [_, _, _, _, _]) 5 rfl rfl rfl rfl) ?_
            refine LJ.yd rfl (Yd.loadG (us := [_, _, _, _, _]) 3 rfl rfl rfl rfl) ?_
            refine LJ.op rfl (OpR.buildSlice (cs := [_, _, _, _, _, _, _, _, _, _]) rfl rfl) ?_
            rintro _ _ ⟨b16, rfl, rfl⟩
            refine LJ.yd rfl (Yd.build (cs := [_, _, _, _, _]) rfl) ?_
            refine LJ.store (v := .agg #[_, _, _, _, _]) (us := [_, _, _, _, _]) 1 rfl rfl rfl rfl rfl rfl rfl rfl ?_
            refine LJ.nil ?_
            refine CJ.ret ?_
            exact Fin.R [_] (Res.one (ResV.cell (us := [_, _, _, _, _]) 1 rfl rfl rfl rfl)) ⟨_, _, _, _, _, _, _, rfl, rfl⟩ (Ent.fold [2, 4, 6] [0, 1, 3, 5] rfl (RdT.foldV (d := true) (by unfold I64; omega)))
          · refine DO.alloc ([_, _, _, _, _] : List Value) rfl rfl rfl rfl (fun b17 => ?_)
            refine DJ.one (i := 15) (by kernel_rfl) ?_
            refine DO.call0 rfl rfl rfl (fun k0 hk0 dk0 k hk dk => ihl _ _ a h hf3 (by omega) (by omega) (by omega) (by omega) hl.up) ?_
            rintro _ _ ⟨oK1, aK1, pK1, tK1, xK1, nK1, cK1, rfl, rfl⟩
            refine DJ.one (i := 18) (by kernel_rfl) ?_
            refine DO.store (v := .agg #[_, _, _, _, _]) (us := [_, _, _, _, _]) 2 rfl rfl rfl rfl rfl rfl rfl rfl rfl rfl ?_
            refine DJ.one (i := 19) (by kernel_rfl) ?_
            refine DO.store (v := .agg #[_, _, _, _, _]) (us := [_, _, _, _, _]) 1 rfl rfl rfl rfl rfl rfl rfl rfl rfl rfl ?_
            refine DJ.done (by kernel_rfl) ?_
            refine CJ.seq ?_
            refine CJ.region ?_
            refine LJ.yd rfl (Yd.mvI rfl) ?_
            refine LJ.yd rfl (Yd.fieldAddr rfl) ?_
            refine LJ.yd rfl (Yd.loadC 0 rfl rfl rfl) ?_
            refine LJ.yd rfl (Yd.sub rfl rfl (by unfold I64; omega)) ?_
            refine LJ.yd rfl (Yd.loadG (us := [_, _, _, _, _]) 4 rfl rfl rfl rfl) ?_
            refine LJ.yd rfl (Yd.loadG (us := [_, _, _, _, _]) 3 rfl rfl rfl rfl) ?_
            refine LJ.op rfl (OpR.buildSlice (cs := [_, _, _, _, _, _, _, _, _, _]) rfl rfl) ?_
            rintro _ _ ⟨b18, rfl, rfl⟩
            refine LJ.yd rfl (Yd.build (cs := [_, _, _, _, _]) rfl) ?_
            refine LJ.store (v := .agg #[_, _, _, _, _]) (us := [_, _, _, _, _]) 1 rfl rfl rfl rfl rfl rfl rfl rfl ?_
            refine LJ.nil ?_
            refine CJ.ret ?_
            exact Fin.R [_] (Res.one (ResV.cell (us := [_, _, _, _, _]) 1 rfl rfl rfl rfl)) ⟨_, _, _, _, _, _, _, rfl, rfl⟩ (Ent.fold [2, 5, 6] [0, 1, 3, 4] rfl (RdT.foldV (d := true) (by unfold I64; omega)))
      · refine DO.alloc ([_, _, _, _, _] : List Value) rfl rfl rfl rfl (fun b19 => ?_)
        refine DJ.two (i := 8) (j := 17) (by kernel_rfl) ?_ ?_
        · refine DO.call0 rfl rfl rfl (fun k0 hk0 dk0 k hk dk => ihr _ _ (w - a) h hf4 (by omega) (by omega) (by omega) (by omega) hr.up) ?_
          rintro _ _ ⟨oK0, aK0, pK0, tK0, xK0, nK0, cK0, rfl, rfl⟩
          refine DJ.two (i := 15) (j := 17) (by kernel_rfl) ?_ ?_
          · refine DO.call0 rfl rfl rfl (fun k0 hk0 dk0 k hk dk => ihl _ _ a h hf3 (by omega) (by omega) (by omega) (by omega) hl.up) ?_
            rintro _ _ ⟨oK1, aK1, pK1, tK1, xK1, nK1, cK1, rfl, rfl⟩
            refine DJ.one (i := 17) (by kernel_rfl) ?_
            refine DO.alloc ([_, _, _, _, _] : List Value) rfl rfl rfl rfl (fun b20 => ?_)
            refine DJ.one (i := 18) (by kernel_rfl) ?_
            refine DO.store (v := .agg #[_, _, _, _, _]) (us := [_, _, _, _, _]) 0 rfl rfl rfl rfl rfl rfl rfl rfl rfl rfl ?_
            refine DJ.one (i := 19) (by kernel_rfl) ?_
            refine DO.store (v := .agg #[_, _, _, _, _]) (us := [_, _, _, _, _]) 3 rfl rfl rfl rfl rfl rfl rfl rfl rfl rfl ?_
            refine DJ.done (by kernel_rfl) ?_
            refine CJ.seq ?_
            refine CJ.region ?_
            refine LJ.yd rfl (Yd.mvI rfl) ?_
            refine LJ.yd rfl (Yd.fieldAddr rfl) ?_
            refine LJ.yd rfl (Yd.loadC 0 rfl rfl rfl) ?_
            refine LJ.yd rfl (Yd.sub rfl rfl (by unfold I64; omega)) ?_
            refine LJ.yd rfl (Yd.loadG (us := [_, _, _, _, _]) 2 rfl rfl rfl rfl) ?_
            refine LJ.yd rfl (Yd.loadG (us := [_, _, _, _, _]) 5 rfl rfl rfl rfl) ?_
            refine LJ.op rfl (OpR.buildSlice (cs := [_, _, _, _, _, _, _, _, _, _]) rfl rfl) ?_
            rintro _ _ ⟨b21, rfl, rfl⟩
            refine LJ.yd rfl (Yd.build (cs := [_, _, _, _, _]) rfl) ?_
            refine LJ.store (v := .agg #[_, _, _, _, _]) (us := [_, _, _, _, _]) 1 rfl rfl rfl rfl rfl rfl rfl rfl ?_
            refine LJ.nil ?_
            refine CJ.ret ?_
            exact Fin.R [_] (Res.one (ResV.cell (us := [_, _, _, _, _]) 1 rfl rfl rfl rfl)) ⟨_, _, _, _, _, _, _, rfl, rfl⟩ (Ent.fold [3, 4, 6] [0, 1, 2, 5] rfl (RdT.foldV (d := true) (by unfold I64; omega)))
          · refine DO.alloc ([_, _, _, _, _] : List Value) rfl rfl rfl rfl (fun b22 => ?_)
            refine DJ.one (i := 15) (by kernel_rfl) ?_
            refine DO.call0 rfl rfl rfl (fun k0 hk0 dk0 k hk dk => ihl _ _ a h hf3 (by omega) (by omega) (by omega) (by omega) hl.up) ?_
            rintro _ _ ⟨oK1, aK1, pK1, tK1, xK1, nK1, cK1, rfl, rfl⟩
            refine DJ.one (i := 18) (by kernel_rfl) ?_
            refine DO.store (v := .agg #[_, _, _, _, _]) (us := [_, _, _, _, _]) 0 rfl rfl rfl rfl rfl rfl rfl rfl rfl rfl ?_
            refine DJ.one (i := 19) (by kernel_rfl) ?_
            refine DO.store (v := .agg #[_, _, _, _, _]) (us := [_, _, _, _, _]) 2 rfl rfl rfl rfl rfl rfl rfl rfl rfl rfl ?_
            refine DJ.done (by kernel_rfl) ?_
            refine CJ.seq ?_
            refine CJ.region ?_
            refine LJ.yd rfl (Yd.mvI rfl) ?_
            refine LJ.yd rfl (Yd.fieldAddr rfl) ?_
            refine LJ.yd rfl (Yd.loadC 0 rfl rfl rfl) ?_
            refine LJ.yd rfl (Yd.sub rfl rfl (by unfold I64; omega)) ?_
            refine LJ.yd rfl (Yd.loadG (us := [_, _, _, _, _]) 2 rfl rfl rfl rfl) ?_
            refine LJ.yd rfl (Yd.loadG (us := [_, _, _, _, _]) 4 rfl rfl rfl rfl) ?_
            refine LJ.op rfl (OpR.buildSlice (cs := [_, _, _, _, _, _, _, _, _, _]) rfl rfl) ?_
            rintro _ _ ⟨b23, rfl, rfl⟩
            refine LJ.yd rfl (Yd.build (cs := [_, _, _, _, _]) rfl) ?_
            refine LJ.store (v := .agg #[_, _, _, _, _]) (us := [_, _, _, _, _]) 1 rfl rfl rfl rfl rfl rfl rfl rfl ?_
            refine LJ.nil ?_
            refine CJ.ret ?_
            exact Fin.R [_] (Res.one (ResV.cell (us := [_, _, _, _, _]) 1 rfl rfl rfl rfl)) ⟨_, _, _, _, _, _, _, rfl, rfl⟩ (Ent.fold [3, 5, 6] [0, 1, 2, 4] rfl (RdT.foldV (d := true) (by unfold I64; omega)))
        · refine DO.alloc ([_, _, _, _, _] : List Value) rfl rfl rfl rfl (fun b24 => ?_)
          refine DJ.one (i := 8) (by kernel_rfl) ?_
          refine DO.call0 rfl rfl rfl (fun k0 hk0 dk0 k hk dk => ihr _ _ (w - a) h hf4 (by omega) (by omega) (by omega) (by omega) hr.up) ?_
          rintro _ _ ⟨oK0, aK0, pK0, tK0, xK0, nK0, cK0, rfl, rfl⟩
          refine DJ.one (i := 15) (by kernel_rfl) ?_
          refine DO.call0 rfl rfl rfl (fun k0 hk0 dk0 k hk dk => ihl _ _ a h hf3 (by omega) (by omega) (by omega) (by omega) hl.up) ?_
          rintro _ _ ⟨oK1, aK1, pK1, tK1, xK1, nK1, cK1, rfl, rfl⟩
          refine DJ.one (i := 18) (by kernel_rfl) ?_
          refine DO.store (v := .agg #[_, _, _, _, _]) (us := [_, _, _, _, _]) 0 rfl rfl rfl rfl rfl rfl rfl rfl rfl rfl ?_
          refine DJ.one (i := 19) (by kernel_rfl) ?_
          refine DO.store (v := .agg #[_, _, _, _, _]) (us := [_, _, _, _, _]) 1 rfl rfl rfl rfl rfl rfl rfl rfl rfl rfl ?_
          refine DJ.done (by kernel_rfl) ?_
          refine CJ.seq ?_
          refine CJ.region ?_
          refine LJ.yd rfl (Yd.mvI rfl) ?_
          refine LJ.yd rfl (Yd.fieldAddr rfl) ?_
          refine LJ.yd rfl (Yd.loadC 0 rfl rfl rfl) ?_
          refine LJ.yd rfl (Yd.sub rfl rfl (by unfold I64; omega)) ?_
          refine LJ.yd rfl (Yd.loadG (us := [_, _, _, _, _]) 2 rfl rfl rfl rfl) ?_
          refine LJ.yd rfl (Yd.loadG (us := [_, _, _, _, _]) 3 rfl rfl rfl rfl) ?_
          refine LJ.op rfl (OpR.buildSlice (cs := [_, _, _, _, _, _, _, _, _, _]) rfl rfl) ?_
          rintro _ _ ⟨b25, rfl, rfl⟩
          refine LJ.yd rfl (Yd.build (cs := [_, _, _, _, _]) rfl) ?_
          refine LJ.store (v := .agg #[_, _, _, _, _]) (us := [_, _, _, _, _]) 1 rfl rfl rfl rfl rfl rfl rfl rfl ?_
          refine LJ.nil ?_
          refine CJ.ret ?_
          exact Fin.R [_] (Res.one (ResV.cell (us := [_, _, _, _, _]) 1 rfl rfl rfl rfl)) ⟨_, _, _, _, _, _, _, rfl, rfl⟩ (Ent.fold [4, 5, 6] [0, 1, 2, 3] rfl (RdT.foldV (d := true) (by unfold I64; omega)))
      · refine DO.alloc ([_, _, _, _, _] : List Value) rfl rfl rfl rfl (fun b26 => ?_)
        refine DJ.two (i := 8) (j := 16) (by kernel_rfl) ?_ ?_
        · refine DO.call0 rfl rfl rfl (fun k0 hk0 dk0 k hk dk => ihr _ _ (w - a) h hf4 (by omega) (by omega) (by omega) (by omega) hr.up) ?_
          rintro _ _ ⟨oK0, aK0, pK0, tK0, xK0, nK0, cK0, rfl, rfl⟩
          refine DJ.two (i := 15) (j := 16) (by kernel_rfl) ?_ ?_
          · refine DO.call0 rfl rfl rfl (fun k0 hk0 dk0 k hk dk => ihl _ _ a h hf3 (by omega) (by omega) (by omega) (by omega) hl.up) ?_
            rintro _ _ ⟨oK1, aK1, pK1, tK1, xK1, nK1, cK1, rfl, rfl⟩
            refine DJ.one (i := 16) (by kernel_rfl) ?_
            refine DO.alloc ([_, _, _, _, _] : List Value) rfl rfl rfl rfl (fun b27 => ?_)
            refine DJ.one (i := 18) (by kernel_rfl) ?_
            refine DO.store (v := .agg #[_, _, _, _, _]) (us := [_, _, _, _, _]) 3 rfl rfl rfl rfl rfl rfl rfl rfl rfl rfl ?_
            refine DJ.one (i := 19) (by kernel_rfl) ?_
            refine DO.store (v := .agg #[_, _, _, _, _]) (us := [_, _, _, _, _]) 0 rfl rfl rfl rfl rfl rfl rfl rfl rfl rfl ?_
            refine DJ.done (by kernel_rfl) ?_
            refine CJ.seq ?_
            refine CJ.region ?_
            refine LJ.yd rfl (Yd.mvI rfl) ?_
            refine LJ.yd rfl (Yd.fieldAddr rfl) ?_
            refine LJ.yd rfl (Yd.loadC 0 rfl rfl rfl) ?_
            refine LJ.yd rfl (Yd.sub rfl rfl (by unfold I64; omega)) ?_
            refine LJ.yd rfl (Yd.loadG (us := [_, _, _, _, _]) 5 rfl rfl rfl rfl) ?_
            refine LJ.yd rfl (Yd.loadG (us := [_, _, _, _, _]) 2 rfl rfl rfl rfl) ?_
            refine LJ.op rfl (OpR.buildSlice (cs := [_, _, _, _, _, _, _, _, _, _]) rfl rfl) ?_
            rintro _ _ ⟨b28, rfl, rfl⟩
            refine LJ.yd rfl (Yd.build (cs := [_, _, _, _, _]) rfl) ?_
            refine LJ.store (v := .agg #[_, _, _, _, _]) (us := [_, _, _, _, _]) 1 rfl rfl rfl rfl rfl rfl rfl rfl ?_
            refine LJ.nil ?_
            refine CJ.ret ?_
            exact Fin.R [_] (Res.one (ResV.cell (us := [_, _, _, _, _]) 1 rfl rfl rfl rfl)) ⟨_, _, _, _, _, _, _, rfl, rfl⟩ (Ent.fold [3, 4, 6] [0, 1, 2, 5] rfl (RdT.foldV (d := true) (by unfold I64; omega)))
          · refine DO.alloc ([_, _, _, _, _] : List Value) rfl rfl rfl rfl (fun b29 => ?_)
            refine DJ.one (i := 15) (by kernel_rfl) ?_
            refine DO.call0 rfl rfl rfl (fun k0 hk0 dk0 k hk dk => ihl _ _ a h hf3 (by omega) (by omega) (by omega) (by omega) hl.up) ?_
            rintro _ _ ⟨oK1, aK1, pK1, tK1, xK1, nK1, cK1, rfl, rfl⟩
            refine DJ.one (i := 18) (by kernel_rfl) ?_
            refine DO.store (v := .agg #[_, _, _, _, _]) (us := [_, _, _, _, _]) 2 rfl rfl rfl rfl rfl rfl rfl rfl rfl rfl ?_
            refine DJ.one (i := 19) (by kernel_rfl) ?_
            refine DO.store (v := .agg #[_, _, _, _, _]) (us := [_, _, _, _, _]) 0 rfl rfl rfl rfl rfl rfl rfl rfl rfl rfl ?_
            refine DJ.done (by kernel_rfl) ?_
            refine CJ.seq ?_
            refine CJ.region ?_
            refine LJ.yd rfl (Yd.mvI rfl) ?_
            refine LJ.yd rfl (Yd.fieldAddr rfl) ?_
            refine LJ.yd rfl (Yd.loadC 0 rfl rfl rfl) ?_
            refine LJ.yd rfl (Yd.sub rfl rfl (by unfold I64; omega)) ?_
            refine LJ.yd rfl (Yd.loadG (us := [_, _, _, _, _]) 4 rfl rfl rfl rfl) ?_
            refine LJ.yd rfl (Yd.loadG (us := [_, _, _, _, _]) 2 rfl rfl rfl rfl) ?_
            refine LJ.op rfl (OpR.buildSlice (cs := [_, _, _, _, _, _, _, _, _, _]) rfl rfl) ?_
            rintro _ _ ⟨b30, rfl, rfl⟩
            refine LJ.yd rfl (Yd.build (cs := [_, _, _, _, _]) rfl) ?_
            refine LJ.store (v := .agg #[_, _, _, _, _]) (us := [_, _, _, _, _]) 1 rfl rfl rfl rfl rfl rfl rfl rfl ?_
            refine LJ.nil ?_
            refine CJ.ret ?_
            exact Fin.R [_] (Res.one (ResV.cell (us := [_, _, _, _, _]) 1 rfl rfl rfl rfl)) ⟨_, _, _, _, _, _, _, rfl, rfl⟩ (Ent.fold [3, 5, 6] [0, 1, 2, 4] rfl (RdT.foldV (d := true) (by unfold I64; omega)))
        · refine DO.alloc ([_, _, _, _, _] : List Value) rfl rfl rfl rfl (fun b31 => ?_)
          refine DJ.one (i := 8) (by kernel_rfl) ?_
          refine DO.call0 rfl rfl rfl (fun k0 hk0 dk0 k hk dk => ihr _ _ (w - a) h hf4 (by omega) (by omega) (by omega) (by omega) hr.up) ?_
          rintro _ _ ⟨oK0, aK0, pK0, tK0, xK0, nK0, cK0, rfl, rfl⟩
          refine DJ.one (i := 15) (by kernel_rfl) ?_
          refine DO.call0 rfl rfl rfl (fun k0 hk0 dk0 k hk dk => ihl _ _ a h hf3 (by omega) (by omega) (by omega) (by omega) hl.up) ?_
          rintro _ _ ⟨oK1, aK1, pK1, tK1, xK1, nK1, cK1, rfl, rfl⟩
          refine DJ.one (i := 18) (by kernel_rfl) ?_
          refine DO.store (v := .agg #[_, _, _, _, _]) (us := [_, _, _, _, _]) 1 rfl rfl rfl rfl rfl rfl rfl rfl rfl rfl ?_
          refine DJ.one (i := 19) (by kernel_rfl) ?_
          refine DO.store (v := .agg #[_, _, _, _, _]) (us := [_, _, _, _, _]) 0 rfl rfl rfl rfl rfl rfl rfl rfl rfl rfl ?_
          refine DJ.done (by kernel_rfl) ?_
          refine CJ.seq ?_
          refine CJ.region ?_
          refine LJ.yd rfl (Yd.mvI rfl) ?_
          refine LJ.yd rfl (Yd.fieldAddr rfl) ?_
          refine LJ.yd rfl (Yd.loadC 0 rfl rfl rfl) ?_
          refine LJ.yd rfl (Yd.sub rfl rfl (by unfold I64; omega)) ?_
          refine LJ.yd rfl (Yd.loadG (us := [_, _, _, _, _]) 3 rfl rfl rfl rfl) ?_
          refine LJ.yd rfl (Yd.loadG (us := [_, _, _, _, _]) 2 rfl rfl rfl rfl) ?_
          refine LJ.op rfl (OpR.buildSlice (cs := [_, _, _, _, _, _, _, _, _, _]) rfl rfl) ?_
          rintro _ _ ⟨b32, rfl, rfl⟩
          refine LJ.yd rfl (Yd.build (cs := [_, _, _, _, _]) rfl) ?_
          refine LJ.store (v := .agg #[_, _, _, _, _]) (us := [_, _, _, _, _]) 1 rfl rfl rfl rfl rfl rfl rfl rfl ?_
          refine LJ.nil ?_
          refine CJ.ret ?_
          exact Fin.R [_] (Res.one (ResV.cell (us := [_, _, _, _, _]) 1 rfl rfl rfl rfl)) ⟨_, _, _, _, _, _, _, rfl, rfl⟩ (Ent.fold [4, 5, 6] [0, 1, 2, 3] rfl (RdT.foldV (d := true) (by unfold I64; omega)))
theorem mirrorPlan_ok {ps : List Pane} (b : BT) : ∀ (A0 A : Amb) [AmbLe A0 A] (cs : List Value) (w h : Int), b.fits ps w h = true → 0 ≤ w → w ≤ 1000 → 0 ≤ h → h ≤ 1000 → RdT A0.h cs b → Ctr Try.prog 56 #[.agg cs.toArray, vI w, vI h] A [] (PlanW A0 (b.mir w h)) := by
  induction b with
  | w =>
    intro A0 A _ cs w h hf hw0 hw1 hh0 hh1 hr
    cases hr
    refine Ctr.body (args := [_, _, _]) Try.func56 rfl Try.ntmps56 Try.results56 (by simp) ?_
    refine CJ.seq ?_
    refine CJ.region ?_
    refine LJ.boxG (vs := [_, _, _, _, _]) rfl rfl (fun b1 => ?_)
    refine LJ.alloc ([_, _, _, _, _] : List Value) rfl rfl (fun b2 => ?_)
    refine LJ.nil ?_
    refine CJ.seq ?_
    refine CJ.seq ?_
    refine CJ.region ?_
    refine LJ.yd rfl (Yd.fieldAddr rfl) ?_
    refine LJ.yd rfl (Yd.loadC 0 rfl rfl rfl) ?_
    refine LJ.nil ?_
    refine CJ.block ?_
    refine CJ.seq ?_
    refine CJ.region ?_
    refine LJ.yd rfl (Yd.cmpF (Yd.eql rfl rfl) (by decide)) ?_
    refine LJ.yd rfl (Yd.asB rfl) ?_
    refine LJ.nil ?_
    refine CJ.condF rfl ?_
    refine CJ.seq ?_
    refine CJ.region ?_
    refine LJ.yd rfl (Yd.cmpF (Yd.eql rfl rfl) (by decide)) ?_
    refine LJ.yd rfl (Yd.asB rfl) ?_
    refine LJ.nil ?_
    refine CJ.condF rfl ?_
    refine CJ.skip ?_
    refine CJ.seq ?_
    refine CJ.region ?_
    refine LJ.yd rfl (Yd.loadG (us := [_, _, _, _, _]) 0 rfl rfl rfl rfl) ?_
    refine LJ.store (v := .agg #[_, _, _, _, _]) (us := [_, _, _, _, _]) 1 rfl rfl rfl rfl rfl rfl rfl rfl ?_
    refine LJ.nil ?_
    refine CJ.ret ?_
    exact Fin.R [_] (Res.one (ResV.cell (us := [_, _, _, _, _]) 1 rfl rfl rfl rfl)) ⟨_, _, _, _, _, _, _, rfl, rfl⟩ (Ent.pure fun _ => .w)
  | p i t =>
    intro A0 A _ cs w h hf hw0 hw1 hh0 hh1 hr
    obtain _ | hi := hr
    refine Ctr.body (args := [_, _, _]) Try.func56 rfl Try.ntmps56 Try.results56 (by simp) ?_
    refine CJ.seq ?_
    refine CJ.region ?_
    refine LJ.boxG (vs := [_, _, _, _, _]) rfl rfl (fun b1 => ?_)
    refine LJ.alloc ([_, _, _, _, _] : List Value) rfl rfl (fun b2 => ?_)
    refine LJ.nil ?_
    refine CJ.seq ?_
    refine CJ.seq ?_
    refine CJ.region ?_
    refine LJ.yd rfl (Yd.fieldAddr rfl) ?_
    refine LJ.yd rfl (Yd.loadC 0 rfl rfl rfl) ?_
    refine LJ.nil ?_
    refine CJ.block ?_
    refine CJ.seq ?_
    refine CJ.region ?_
    refine LJ.yd rfl (Yd.cmpF (Yd.eql rfl rfl) (by decide)) ?_
    refine LJ.yd rfl (Yd.asB rfl) ?_
    refine LJ.nil ?_
    refine CJ.condF rfl ?_
    refine CJ.seq ?_
    refine CJ.region ?_
    refine LJ.yd rfl (Yd.cmpF (Yd.eql rfl rfl) (by decide)) ?_
    refine LJ.yd rfl (Yd.asB rfl) ?_
    refine LJ.nil ?_
    refine CJ.condF rfl ?_
    refine CJ.skip ?_
    refine CJ.seq ?_
    refine CJ.region ?_
    refine LJ.yd rfl (Yd.loadG (us := [_, _, _, _, _]) 0 rfl rfl rfl rfl) ?_
    refine LJ.store (v := .agg #[_, _, _, _, _]) (us := [_, _, _, _, _]) 1 rfl rfl rfl rfl rfl rfl rfl rfl ?_
    refine LJ.nil ?_
    refine CJ.ret ?_
    exact Fin.R [_] (Res.one (ResV.cell (us := [_, _, _, _, _]) 1 rfl rfl rfl rfl)) ⟨_, _, _, _, _, _, _, rfl, rfl⟩ (Ent.pure fun _ => .p hi)
  | c d a l r ihl ihr =>
    intro A0 A _ cs w h hf hw0 hw1 hh0 hh1 hr
    obtain _ | _ | ⟨ha, hcap, hrow, hl, hr⟩ := hr
    cases d
    · obtain ⟨hf1, hf2, hf3, hf4⟩ := (fits_c hf).2 rfl
      refine Ctr.body (args := [_, _, _]) Try.func56 rfl Try.ntmps56 Try.results56 (by simp) ?_
      refine CJ.seq ?_
      refine CJ.region ?_
      refine LJ.boxG (vs := [_, _, _, _, _]) rfl rfl (fun b1 => ?_)
      refine LJ.alloc ([_, _, _, _, _] : List Value) rfl rfl (fun b2 => ?_)
      refine LJ.nil ?_
      refine CJ.seq ?_
      refine CJ.seq ?_
      refine CJ.region ?_
      refine LJ.yd rfl (Yd.fieldAddr rfl) ?_
      refine LJ.yd rfl (Yd.loadC 0 rfl rfl rfl) ?_
      refine LJ.nil ?_
      refine CJ.block ?_
      refine CJ.seq ?_
      refine CJ.region ?_
      refine LJ.yd rfl (Yd.cmpF (Yd.eql rfl rfl) (by decide)) ?_
      refine LJ.yd rfl (Yd.asB rfl) ?_
      refine LJ.nil ?_
      refine CJ.condF rfl ?_
      refine CJ.seq ?_
      refine CJ.region ?_
      refine LJ.yd rfl (Yd.cmpT (Yd.eql rfl rfl) (by decide)) ?_
      refine LJ.yd rfl (Yd.asB rfl) ?_
      refine LJ.nil ?_
      refine CJ.condT rfl ?_
      refine CJ.seq ?_
      refine CJ.regionD [0] [1] (by kernel_rfl) rfl ?_
      refine DJ.norm [_] [_] rfl rfl ?_
      refine DJ.yd 0 rfl (by kernel_rfl) (by kernel_rfl) (by kernel_rfl) rfl rfl (Yd.fieldAddr rfl) ?_
      refine DJ.yd 1 rfl (by kernel_rfl) (by kernel_rfl) (by kernel_rfl) rfl rfl (Yd.loadC 0 rfl rfl rfl) ?_
      refine DJ.yd 2 rfl (by kernel_rfl) (by kernel_rfl) (by kernel_rfl) rfl rfl (Yd.fieldAddr rfl) ?_
      refine DJ.yd 3 rfl (by kernel_rfl) (by kernel_rfl) (by kernel_rfl) rfl rfl (Yd.loadC 0 rfl rfl rfl) ?_
      refine DJ.yd 4 rfl (by kernel_rfl) (by kernel_rfl) (by kernel_rfl) rfl rfl (Yd.fieldAddr rfl) ?_
      refine DJ.yd 5 rfl (by kernel_rfl) (by kernel_rfl) (by kernel_rfl) rfl rfl (Yd.loadC 0 rfl rfl rfl) ?_
      refine DJ.yd 6 rfl (by kernel_rfl) (by kernel_rfl) (by kernel_rfl) rfl rfl (Yd.indexAddr rfl rfl (by omega) (by simp)) ?_
      refine DJ.yd 7 rfl (by kernel_rfl) (by kernel_rfl) (by kernel_rfl) rfl rfl (Yd.loadRow (i := 0) (hrow.up) rfl (by simp) rfl hl.len) ?_
      refine DJ.yd 8 rfl (by kernel_rfl) (by kernel_rfl) (by kernel_rfl) rfl rfl (Yd.mvI rfl) ?_
      refine DJ.yd 9 rfl (by kernel_rfl) (by kernel_rfl) (by kernel_rfl) rfl rfl (Yd.fieldAddr rfl) ?_
      refine DJ.yd 10 rfl (by kernel_rfl) (by kernel_rfl) (by kernel_rfl) rfl rfl (Yd.loadC 0 rfl rfl rfl) ?_
      refine DJ.yd 12 rfl (by kernel_rfl) (by kernel_rfl) (by kernel_rfl) rfl rfl (Yd.fieldAddr rfl) ?_
      refine DJ.yd 13 rfl (by kernel_rfl) (by kernel_rfl) (by kernel_rfl) rfl rfl (Yd.loadC 0 rfl rfl rfl) ?_
      refine DJ.yd 14 rfl (by kernel_rfl) (by kernel_rfl) (by kernel_rfl) rfl rfl (Yd.indexAddr rfl rfl (by omega) (by simp)) ?_
      refine DJ.yd 15 rfl (by kernel_rfl) (by kernel_rfl) (by kernel_rfl) rfl rfl (Yd.loadRow (i := 1) (hrow.up) rfl (by simp) rfl hr.len) ?_
      refine DJ.yd 16 rfl (by kernel_rfl) (by kernel_rfl) (by kernel_rfl) rfl rfl (Yd.mvI rfl) ?_
      refine DJ.yd 17 rfl (by kernel_rfl) (by kernel_rfl) (by kernel_rfl) rfl rfl (Yd.mvI rfl) ?_
      refine DJ.yd 18 rfl (by kernel_rfl) (by kernel_rfl) (by kernel_rfl) rfl rfl (Yd.fieldAddr rfl) ?_
      refine DJ.yd 19 rfl (by kernel_rfl) (by kernel_rfl) (by kernel_rfl) rfl rfl (Yd.loadC 0 rfl rfl rfl) ?_
      refine DJ.yd 20 rfl (by kernel_rfl) (by kernel_rfl) (by kernel_rfl) rfl rfl (Yd.sub rfl rfl (by unfold I64; omega)) ?_
      refine DJ.one (i := 11) (by kernel_rfl) ?_
      refine DO.call0 rfl rfl rfl (fun k0 hk0 dk0 k hk dk => ihl _ _ _ w a hf3 (by omega) (by omega) (by omega) (by omega) hl) ?_
      rintro _ _ ⟨oK0, aK0, pK0, tK0, xK0, nK0, cK0, rfl, rfl⟩
      refine DJ.one (i := 21) (by kernel_rfl) ?_
      refine DO.call0 rfl rfl rfl (fun k0 hk0 dk0 k hk dk => ihr _ _ _ w (h - a) hf4 (by omega) (by omega) (by omega) (by omega) hr) ?_
      rintro _ _ ⟨oK1, aK1, pK1, tK1, xK1, nK1, cK1, rfl, rfl⟩
      refine DJ.one (i := 22) (by kernel_rfl) ?_
      refine DO.op rfl rfl rfl (fun k0 hk0 dk0 => OpR.buildSlice (cs := [_, _, _, _, _, _, _, _, _, _]) rfl rfl) ?_
      rintro _ _ ⟨b3, rfl, rfl⟩
      refine DJ.yd 23 rfl (by kernel_rfl) (by kernel_rfl) (by kernel_rfl) rfl rfl (Yd.build (cs := [_, _, _, _, _]) rfl) ?_
      refine DJ.one (i := 24) (by kernel_rfl) ?_
      refine DO.store (v := .agg #[_, _, _, _, _]) (us := [_, _, _, _, _]) 0 rfl rfl rfl rfl rfl rfl rfl rfl rfl rfl ?_
      refine DJ.done (by kernel_rfl) ?_
      refine CJ.ret ?_
      exact Fin.R [_] (Res.one (ResV.cell (us := [_, _, _, _, _]) 1 rfl rfl rfl rfl)) ⟨_, _, _, _, _, _, _, rfl, rfl⟩ (Ent.foldD [2, 3, 4] [0, 1] rfl (fun m dj => RdT.foldW (d := false) ha m (dj.mono up (Hp.Le.refl _))))
    · obtain ⟨hf1, hf2, hf3, hf4⟩ := (fits_c hf).1 rfl
      refine Ctr.body (args := [_, _, _]) Try.func56 rfl Try.ntmps56 Try.results56 (by simp) ?_
      refine CJ.seq ?_
      refine CJ.region ?_
      refine LJ.boxG (vs := [_, _, _, _, _]) rfl rfl (fun b1 => ?_)
      refine LJ.alloc ([_, _, _, _, _] : List Value) rfl rfl (fun b2 => ?_)
      refine LJ.nil ?_
      refine CJ.seq ?_
      refine CJ.seq ?_
      refine CJ.region ?_
      refine LJ.yd rfl (Yd.fieldAddr rfl) ?_
      refine LJ.yd rfl (Yd.loadC 0 rfl rfl rfl) ?_
      refine LJ.nil ?_
      refine CJ.block ?_
      refine CJ.seq ?_
      refine CJ.region ?_
      refine LJ.yd rfl (Yd.cmpT (Yd.eql rfl rfl) (by decide)) ?_
      refine LJ.yd rfl (Yd.asB rfl) ?_
      refine LJ.nil ?_
      refine CJ.condT rfl ?_
      refine CJ.seq ?_
      refine CJ.regionD [0] [1] (by kernel_rfl) rfl ?_
      refine DJ.norm [_] [_] rfl rfl ?_
      refine DJ.yd 0 rfl (by kernel_rfl) (by kernel_rfl) (by kernel_rfl) rfl rfl (Yd.fieldAddr rfl) ?_
      refine DJ.yd 1 rfl (by kernel_rfl) (by kernel_rfl) (by kernel_rfl) rfl rfl (Yd.loadC 0 rfl rfl rfl) ?_
      refine DJ.yd 2 rfl (by kernel_rfl) (by kernel_rfl) (by kernel_rfl) rfl rfl (Yd.mvI rfl) ?_
      refine DJ.yd 3 rfl (by kernel_rfl) (by kernel_rfl) (by kernel_rfl) rfl rfl (Yd.fieldAddr rfl) ?_
      refine DJ.yd 4 rfl (by kernel_rfl) (by kernel_rfl) (by kernel_rfl) rfl rfl (Yd.loadC 0 rfl rfl rfl) ?_
      refine DJ.yd 5 rfl (by kernel_rfl) (by kernel_rfl) (by kernel_rfl) rfl rfl (Yd.sub rfl rfl (by unfold I64; omega)) ?_
      refine DJ.yd 6 rfl (by kernel_rfl) (by kernel_rfl) (by kernel_rfl) rfl rfl (Yd.fieldAddr rfl) ?_
      refine DJ.yd 7 rfl (by kernel_rfl) (by kernel_rfl) (by kernel_rfl) rfl rfl (Yd.loadC 0 rfl rfl rfl) ?_
      refine DJ.yd 8 rfl (by kernel_rfl) (by kernel_rfl) (by kernel_rfl) rfl rfl (Yd.indexAddr rfl rfl (by omega) (by simp)) ?_
      refine DJ.yd 9 rfl (by kernel_rfl) (by kernel_rfl) (by kernel_rfl) rfl rfl (Yd.loadRow (i := 1) (hrow.up) rfl (by simp) rfl hr.len) ?_
      refine DJ.yd 10 rfl (by kernel_rfl) (by kernel_rfl) (by kernel_rfl) rfl rfl (Yd.mvI rfl) ?_
      refine DJ.yd 11 rfl (by kernel_rfl) (by kernel_rfl) (by kernel_rfl) rfl rfl (Yd.fieldAddr rfl) ?_
      refine DJ.yd 12 rfl (by kernel_rfl) (by kernel_rfl) (by kernel_rfl) rfl rfl (Yd.loadC 0 rfl rfl rfl) ?_
      refine DJ.yd 13 rfl (by kernel_rfl) (by kernel_rfl) (by kernel_rfl) rfl rfl (Yd.sub rfl rfl (by unfold I64; omega)) ?_
      refine DJ.yd 14 rfl (by kernel_rfl) (by kernel_rfl) (by kernel_rfl) rfl rfl (Yd.mvI rfl) ?_
      refine DJ.yd 16 rfl (by kernel_rfl) (by kernel_rfl) (by kernel_rfl) rfl rfl (Yd.fieldAddr rfl) ?_
      refine DJ.yd 17 rfl (by kernel_rfl) (by kernel_rfl) (by kernel_rfl) rfl rfl (Yd.loadC 0 rfl rfl rfl) ?_
      refine DJ.yd 18 rfl (by kernel_rfl) (by kernel_rfl) (by kernel_rfl) rfl rfl (Yd.indexAddr rfl rfl (by omega) (by simp)) ?_
      refine DJ.yd 19 rfl (by kernel_rfl) (by kernel_rfl) (by kernel_rfl) rfl rfl (Yd.loadRow (i := 0) (hrow.up) rfl (by simp) rfl hl.len) ?_
      refine DJ.yd 20 rfl (by kernel_rfl) (by kernel_rfl) (by kernel_rfl) rfl rfl (Yd.fieldAddr rfl) ?_
      refine DJ.yd 21 rfl (by kernel_rfl) (by kernel_rfl) (by kernel_rfl) rfl rfl (Yd.loadC 0 rfl rfl rfl) ?_
      refine DJ.yd 22 rfl (by kernel_rfl) (by kernel_rfl) (by kernel_rfl) rfl rfl (Yd.mvI rfl) ?_
      refine DJ.one (i := 15) (by kernel_rfl) ?_
      refine DO.call0 rfl rfl rfl (fun k0 hk0 dk0 k hk dk => ihr _ _ _ (w - a) h hf4 (by omega) (by omega) (by omega) (by omega) hr) ?_
      rintro _ _ ⟨oK0, aK0, pK0, tK0, xK0, nK0, cK0, rfl, rfl⟩
      refine DJ.one (i := 23) (by kernel_rfl) ?_
      refine DO.call0 rfl rfl rfl (fun k0 hk0 dk0 k hk dk => ihl _ _ _ a h hf3 (by omega) (by omega) (by omega) (by omega) hl) ?_
      rintro _ _ ⟨oK1, aK1, pK1, tK1, xK1, nK1, cK1, rfl, rfl⟩
      refine DJ.one (i := 24) (by kernel_rfl) ?_
      refine DO.op rfl rfl rfl (fun k0 hk0 dk0 => OpR.buildSlice (cs := [_, _, _, _, _, _, _, _, _, _]) rfl rfl) ?_
      rintro _ _ ⟨b3, rfl, rfl⟩
      refine DJ.yd 25 rfl (by kernel_rfl) (by kernel_rfl) (by kernel_rfl) rfl rfl (Yd.build (cs := [_, _, _, _, _]) rfl) ?_
      refine DJ.one (i := 26) (by kernel_rfl) ?_
      refine DO.store (v := .agg #[_, _, _, _, _]) (us := [_, _, _, _, _]) 0 rfl rfl rfl rfl rfl rfl rfl rfl rfl rfl ?_
      refine DJ.done (by kernel_rfl) ?_
      refine CJ.ret ?_
      exact Fin.R [_] (Res.one (ResV.cell (us := [_, _, _, _, _]) 1 rfl rfl rfl rfl)) ⟨_, _, _, _, _, _, _, rfl, rfl⟩ (Ent.foldD [2, 3, 4] [0, 1] rfl (fun m dj => RdT.foldW (d := true) (by unfold I64; omega) m (dj.mono up (Hp.Le.refl _))))
theorem MirrorPlanI_ok {A : Amb} {W H : Int} {v : Value} {ps : List Pane} {cs : List Value} {q : Plan} (hp : RdPanes A.h v ps) (hq : RdPlan A.h cs q) : Ctr Try.prog 21 #[.agg #[vI W, vI H, v], .agg cs.toArray] A [] (PlanV (mirP W H ps q)) := by
  have hp2 := hp
  obtain ⟨⟨sa, sc, rfl, hm, hrow⟩, hlen⟩ := hp2
  have hq2 := hq
  obtain ⟨o, a, i, t, kids, v2, css, hqe, rfl, ho, ha, hi, ⟨⟨sa2, sc2, rfl, hm2, hrow2⟩, hlen2⟩, hk⟩ := hq2.inv
  refine Ctr.body (args := [_, _]) Try.func21 rfl Try.ntmps21 Try.results21 (by simp) ?_
  refine CJ.seq ?_
  refine CJ.region ?_
  refine LJ.boxG (vs := [_, _, _]) rfl rfl (fun b1 => ?_)
  refine LJ.boxG (vs := [_, _, _, _, _]) rfl rfl (fun b2 => ?_)
  refine LJ.alloc ([_, _, _, _, _] : List Value) rfl rfl (fun b3 => ?_)
  refine LJ.nil ?_
  refine CJ.seq ?_
  refine CJ.seq ?_
  refine CJ.region ?_
  refine LJ.yd rfl (Yd.loadG (us := [_, _, _]) 0 rfl rfl rfl rfl) ?_
  refine LJ.yd rfl (Yd.loadG (us := [_, _, _, _, _]) 1 rfl rfl rfl rfl) ?_
  refine LJ.callB rfl (fun k hk dk => ValidPlanI_ok hp.up hq.up) (fun h7 => ?_) (fun h7 => ?_)
  · refine LJ.yd rfl (Yd.not rfl) ?_
    refine LJ.nil ?_
    refine CJ.condF rfl ?_
    refine CJ.skip ?_
    refine CJ.seq ?_
    obtain ⟨⟨vw1, vw2, vw3, vw4⟩, vg, vf, vz, vs, ve⟩ := vp_facts h7
    refine CJ.region ?_
    refine LJ.yd rfl (Yd.loadG (us := [_, _, _, _, _]) 1 rfl rfl rfl rfl) ?_
    refine LJ.yd rfl (Yd.fieldAddr rfl) ?_
    refine LJ.yd rfl (Yd.loadC 0 rfl rfl rfl) ?_
    refine LJ.call0 rfl (fun k hk dk => mirrored_ok (ps := ps) (toBT q) _ _ W H vf (by omega) (by omega) (by omega) (by omega) (toBT_rd hq.up vz)) ?_
    rintro _ _ ⟨o1, a1, p1, t1, x1, n1, c1, rfl, rfl⟩
    refine LJ.store (v := .agg #[_, _, _, _, _]) (us := [_, _, _, _, _]) 2 rfl rfl rfl rfl rfl rfl rfl rfl ?_
    refine LJ.nil ?_
    refine CJ.ret ?_
    rw [mirP_T h7]
    exact Fin.R [_] (Res.one (ResV.cell (us := [_, _, _, _, _]) 2 rfl rfl rfl rfl)) ⟨_, _, _, _, _, _, _, rfl, rfl⟩ (Ent.pick [3] [0, 1, 2] rfl)
  · refine LJ.yd rfl (Yd.not rfl) ?_
    refine LJ.nil ?_
    refine CJ.condT rfl ?_
    refine CJ.seq ?_
    refine CJ.region ?_
    refine LJ.yd rfl (Yd.build (cs := [_, _, _, _, _]) rfl) ?_
    refine LJ.store (v := .agg #[_, _, _, _, _]) (us := [_, _, _, _, _]) 2 rfl rfl rfl rfl rfl rfl rfl rfl ?_
    refine LJ.nil ?_
    refine CJ.ret ?_
    rw [mirP_F h7]
    exact Fin.R [_] (Res.one (ResV.cell (us := [_, _, _, _, _]) 2 rfl rfl rfl rfl)) ⟨_, _, _, _, _, _, _, rfl, rfl⟩ (Ent.pure fun _ => .w)
theorem MirrorPlanS_ok {A0 A : Amb} [AmbLe A0 A] {W H : Int} {v : Value} {ps : List Pane} {cs : List Value} {q : Plan} (hp : RdPanes A0.h v ps) (hq : RdPlan A0.h cs q) : Ctr Try.prog 23 #[.agg #[vI W, vI H, v], .agg cs.toArray] A [] (PlanW A0 (mirP W H ps q)) := by
  have hp2 := hp
  obtain ⟨⟨sa, sc, rfl, hm, hrow⟩, hlen⟩ := hp2
  have hq2 := hq
  obtain ⟨o, a, i, t, kids, v2, css, hqe, rfl, ho, ha, hi, ⟨⟨sa2, sc2, rfl, hm2, hrow2⟩, hlen2⟩, hk⟩ := hq2.inv
  refine Ctr.body (args := [_, _]) Try.func23 rfl Try.ntmps23 Try.results23 (by simp) ?_
  refine CJ.seq ?_
  refine CJ.region ?_
  refine LJ.boxG (vs := [_, _, _]) rfl rfl (fun b1 => ?_)
  refine LJ.boxG (vs := [_, _, _, _, _]) rfl rfl (fun b2 => ?_)
  refine LJ.alloc ([_, _, _, _, _] : List Value) rfl rfl (fun b3 => ?_)
  refine LJ.nil ?_
  refine CJ.seq ?_
  refine CJ.seq ?_
  refine CJ.region ?_
  refine LJ.yd rfl (Yd.loadG (us := [_, _, _]) 0 rfl rfl rfl rfl) ?_
  refine LJ.yd rfl (Yd.loadG (us := [_, _, _, _, _]) 1 rfl rfl rfl rfl) ?_
  refine LJ.callB rfl (fun k hk dk => validPlanS_ok hp.up (RdPlan.mono up hq)) (fun h7 => ?_) (fun h7 => ?_)
  · refine LJ.yd rfl (Yd.not rfl) ?_
    refine LJ.nil ?_
    refine CJ.condF rfl ?_
    refine CJ.skip ?_
    refine CJ.seq ?_
    obtain ⟨⟨vw1, vw2, vw3, vw4⟩, vg, vf, vz, vs, ve⟩ := vp_facts h7
    refine CJ.region ?_
    refine LJ.yd rfl (Yd.loadG (us := [_, _, _, _, _]) 1 rfl rfl rfl rfl) ?_
    refine LJ.yd rfl (Yd.fieldAddr rfl) ?_
    refine LJ.yd rfl (Yd.loadC 0 rfl rfl rfl) ?_
    refine LJ.yd rfl (Yd.fieldAddr rfl) ?_
    refine LJ.yd rfl (Yd.loadC 0 rfl rfl rfl) ?_
    refine LJ.call0 rfl (fun k hk dk => mirrorPlan_ok (ps := ps) (toBT q) _ _ _ W H vf (by omega) (by omega) (by omega) (by omega) (toBT_rd hq vz)) ?_
    rintro _ _ ⟨o1, a1, p1, t1, x1, n1, c1, rfl, rfl⟩
    refine LJ.store (v := .agg #[_, _, _, _, _]) (us := [_, _, _, _, _]) 2 rfl rfl rfl rfl rfl rfl rfl rfl ?_
    refine LJ.nil ?_
    refine CJ.ret ?_
    rw [mirP_T h7]
    exact Fin.R [_] (Res.one (ResV.cell (us := [_, _, _, _, _]) 2 rfl rfl rfl rfl)) ⟨_, _, _, _, _, _, _, rfl, rfl⟩ (Ent.pick [3] [0, 1, 2] rfl)
  · refine LJ.yd rfl (Yd.not rfl) ?_
    refine LJ.nil ?_
    refine CJ.condT rfl ?_
    refine CJ.seq ?_
    refine CJ.region ?_
    refine LJ.yd rfl (Yd.build (cs := [_, _, _, _, _]) rfl) ?_
    refine LJ.store (v := .agg #[_, _, _, _, _]) (us := [_, _, _, _, _]) 2 rfl rfl rfl rfl rfl rfl rfl rfl ?_
    refine LJ.nil ?_
    refine CJ.ret ?_
    rw [mirP_F h7]
    exact Fin.R [_] (Res.one (ResV.cell (us := [_, _, _, _, _]) 2 rfl rfl rfl rfl)) ⟨_, _, _, _, _, _, _, rfl, rfl⟩ (Ent.pure fun _ => .w)
theorem any_step {L : List Box} {g : Box → Bool} {j : Nat} {u : Box} (h : L[j]? = some u) : (L.take (j + 1)).any g = ((L.take j).any g || g u) := by
  rw [takeC h, List.any_append]; simp
theorem sameBoxes_T {A : Amb} {v w : Value} {L M : List Box} (hl : RdL Box.enc 4 A.h v L) (hl2 : RdL Box.enc 4 A.h w M) (hlen : L.length = M.length) (hm : ∀ x ∈ L, x ∈ M) : Ctr Try.prog 24 #[v, w] A [] (Val (.bool true)) := by
  obtain ⟨la, lc, rfl, hlb, hl⟩ := hl.un
  obtain ⟨la2, lc2, rfl, hlb2, hl2⟩ := hl2.un
  refine Ctr.body (args := [_, _]) Try.func24 rfl Try.ntmps24 Try.results24 (by simp) ?_
  refine CJ.seq ?_
  refine CJ.region ?_
  refine LJ.yd rfl (Yd.asB rfl) ?_
  refine LJ.nil ?_
  refine CJ.seq ?_
  refine CJ.seq ?_
  refine CJ.region ?_
  refine LJ.yd rfl (Yd.asI rfl) ?_
  refine LJ.nil ?_
  refine CJ.block ?_
  refine CJ.loopK [0, 1] Nat (fun k => k ≤ L.length) (fun k => [(5, vI k)]) (fun k => L.length - k) (0) ?_ ⟨rfl, trivial⟩ ?_
  · exact by omega
  · rintro k σ hk1
    refine CJ.seq ?_
    refine CJ.seq ?_
    refine CJ.region ?_
    refine LJ.yd rfl (Yd.mvI rfl) ?_
    refine LJ.yd rfl (Yd.mvS rfl) ?_
    refine LJ.yd rfl (Yd.len rfl) ?_
    refine LJ.splitD rfl (Yd.lss rfl rfl) (fun h11 => ?_) (fun h11 => ?_)
    · refine LJ.nil ?_
      refine CJ.condT rfl ?_
      refine CJ.skip ?_
      refine CJ.seq ?_
      refine CJ.block ?_
      refine CJ.seq ?_
      obtain ⟨u, hu⟩ := someC (l := L) (j := k) (by omega)
      refine CJ.region ?_
      refine LJ.yd rfl (Yd.asB rfl) ?_
      refine LJ.nil ?_
      refine CJ.seq ?_
      refine CJ.seq ?_
      refine CJ.region ?_
      refine LJ.yd rfl (Yd.asI rfl) ?_
      refine LJ.nil ?_
      refine CJ.block ?_
      refine CJ.loopK [0, 1, 5, 8, 9, 10, 11] (Nat × Bool) (fun ⟨j, m⟩ => j ≤ M.length ∧ m = (M.take j).any fun y => decide (u = y)) (fun ⟨j, m⟩ => [(7, vI j), (6, .bool m)]) (fun ⟨j, m⟩ => M.length - j) (0, _) ?_ ⟨rfl, rfl, trivial⟩ ?_
      · exact ⟨by omega, by simp⟩
      · rintro ⟨j, m⟩ σ ⟨hk2, hi2⟩
        refine CJ.seq ?_
        refine CJ.seq ?_
        refine CJ.region ?_
        refine LJ.yd rfl (Yd.mvI rfl) ?_
        refine LJ.yd rfl (Yd.mvS rfl) ?_
        refine LJ.yd rfl (Yd.len rfl) ?_
        refine LJ.splitD rfl (Yd.lss rfl rfl) (fun h17 => ?_) (fun h17 => ?_)
        · refine LJ.nil ?_
          refine CJ.condT rfl ?_
          refine CJ.skip ?_
          refine CJ.seq ?_
          refine CJ.block ?_
          refine CJ.regionD [] [] (by kernel_rfl) rfl ?_
          refine DJ.norm [] [] rfl rfl ?_
          refine DJ.split 0 rfl (by kernel_rfl) (by kernel_rfl) (by kernel_rfl) rfl rfl (Yd.mvB rfl) (fun h20 => ?_) (fun h20 => ?_)
          · refine DJ.yd 1 rfl (by kernel_rfl) (by kernel_rfl) (by kernel_rfl) rfl rfl (Yd.mvB rfl) ?_
            refine DJ.skip 2 rfl (by kernel_rfl) (by kernel_rfl) (by kernel_rfl) rfl rfl ?_
            refine DJ.skip 3 rfl (by kernel_rfl) (by kernel_rfl) (by kernel_rfl) rfl rfl ?_
            refine DJ.skip 4 rfl (by kernel_rfl) (by kernel_rfl) (by kernel_rfl) rfl rfl ?_
            refine DJ.skip 5 rfl (by kernel_rfl) (by kernel_rfl) (by kernel_rfl) rfl rfl ?_
            refine DJ.skip 6 rfl (by kernel_rfl) (by kernel_rfl) (by kernel_rfl) rfl rfl ?_
            refine DJ.skip 7 rfl (by kernel_rfl) (by kernel_rfl) (by kernel_rfl) rfl rfl ?_
            refine DJ.skip 8 rfl (by kernel_rfl) (by kernel_rfl) (by kernel_rfl) rfl rfl ?_
            refine DJ.skip 9 rfl (by kernel_rfl) (by kernel_rfl) (by kernel_rfl) rfl rfl ?_
            refine DJ.skip 10 rfl (by kernel_rfl) (by kernel_rfl) (by kernel_rfl) rfl rfl ?_
            refine DJ.yd 11 rfl (by kernel_rfl) (by kernel_rfl) (by kernel_rfl) rfl rfl (Yd.pickTB rfl rfl) ?_
            refine DJ.yd 12 rfl (by kernel_rfl) (by kernel_rfl) (by kernel_rfl) rfl rfl (Yd.asB rfl) ?_
            refine DJ.done (by kernel_rfl) ?_
            refine CJ.region ?_
            refine LJ.yd rfl (Yd.mvI rfl) ?_
            refine LJ.yd rfl (Yd.add rfl rfl (by unfold I64; omega)) ?_
            refine LJ.yd rfl (Yd.asI rfl) ?_
            refine LJ.nil ?_
            refine ⟨(j + 1, _), ?_, ⟨rfl, rfl, rfl, rfl, rfl, rfl, rfl, trivial⟩, ⟨rfl, rfl, trivial⟩, Ent.refl _, ?_⟩
            · refine ⟨by omega, ?_⟩
              obtain ⟨y, hy⟩ := someC (l := M) (j := j) (by omega)
              rw [any_step hy, ← hi2]
              first
                | (rw [h20]; rfl)
                | (obtain rfl : u = u25 := by rw [hu] at hu25; exact Option.some.inj hu25
                   obtain rfl : y = u29 := by rw [hy] at hu29; exact Option.some.inj hu29
                   simp_all)
            · first | omega | (dsimp only; omega) | (simp only []; omega)
          · refine DJ.yd 1 rfl (by kernel_rfl) (by kernel_rfl) (by kernel_rfl) rfl rfl (Yd.mvB rfl) ?_
            refine DJ.yd 2 rfl (by kernel_rfl) (by kernel_rfl) (by kernel_rfl) rfl rfl (Yd.mvS rfl) ?_
            refine DJ.yd 3 rfl (by kernel_rfl) (by kernel_rfl) (by kernel_rfl) rfl rfl (Yd.mvI rfl) ?_
            refine DJ.idxA 4 rfl (by kernel_rfl) (by kernel_rfl) (by kernel_rfl) rfl rfl hl rfl rfl (by omega) (by first | rfl | omega | (simp; done) | (simp; omega) | (simp [upN_len]; omega) | (simp [idxBy_len]; omega) | (simp [marks_len]; omega) | (simp [upN_len]; done) | (simp [idxBy_len]; done) | (simp [marks_len]; done) | (simp at *; omega)) (fun ib24 io24 ia24 ir24 => ?_)
            refine DJ.lgA 5 rfl (by kernel_rfl) (by kernel_rfl) (by kernel_rfl) rfl rfl (enc := Box.enc) (fun u => [vI u.X, vI u.Y, vI u.W, vI u.H]) (fun _ => rfl) (fun _ => rfl) ir24 rfl rfl (by first | rfl | omega | (simp; done) | (simp; omega) | (simp [upN_len]; omega) | (simp [idxBy_len]; omega) | (simp [marks_len]; omega) | (simp [upN_len]; done) | (simp [idxBy_len]; done) | (simp [marks_len]; done) | (simp at *; omega)) (fun u25 hu25 => ?_)
            try simp only [Int.toNat_natCast] at hu25
            refine DJ.yd 6 rfl (by kernel_rfl) (by kernel_rfl) (by kernel_rfl) rfl rfl (Yd.mvS rfl) ?_
            refine DJ.yd 7 rfl (by kernel_rfl) (by kernel_rfl) (by kernel_rfl) rfl rfl (Yd.mvI rfl) ?_
            refine DJ.idxA 8 rfl (by kernel_rfl) (by kernel_rfl) (by kernel_rfl) rfl rfl hl2 rfl rfl (by omega) (by first | rfl | omega | (simp; done) | (simp; omega) | (simp [upN_len]; omega) | (simp [idxBy_len]; omega) | (simp [marks_len]; omega) | (simp [upN_len]; done) | (simp [idxBy_len]; done) | (simp [marks_len]; done) | (simp at *; omega)) (fun ib28 io28 ia28 ir28 => ?_)
            refine DJ.lgA 9 rfl (by kernel_rfl) (by kernel_rfl) (by kernel_rfl) rfl rfl (enc := Box.enc) (fun u => [vI u.X, vI u.Y, vI u.W, vI u.H]) (fun _ => rfl) (fun _ => rfl) ir28 rfl rfl (by first | rfl | omega | (simp; done) | (simp; omega) | (simp [upN_len]; omega) | (simp [idxBy_len]; omega) | (simp [marks_len]; omega) | (simp [upN_len]; done) | (simp [idxBy_len]; done) | (simp [marks_len]; done) | (simp at *; omega)) (fun u29 hu29 => ?_)
            try simp only [Int.toNat_natCast] at hu29
            refine DJ.splitD 10 rfl (by kernel_rfl) (by kernel_rfl) (by kernel_rfl) rfl rfl (Yd.eqlBox (a := u25) (b := u29) rfl rfl) (fun h30 => ?_) (fun h30 => ?_)
            · refine DJ.yd 11 rfl (by kernel_rfl) (by kernel_rfl) (by kernel_rfl) rfl rfl (Yd.pickFB rfl rfl) ?_
              refine DJ.yd 12 rfl (by kernel_rfl) (by kernel_rfl) (by kernel_rfl) rfl rfl (Yd.asB rfl) ?_
              refine DJ.done (by kernel_rfl) ?_
              refine CJ.region ?_
              refine LJ.yd rfl (Yd.mvI rfl) ?_
              refine LJ.yd rfl (Yd.add rfl rfl (by unfold I64; omega)) ?_
              refine LJ.yd rfl (Yd.asI rfl) ?_
              refine LJ.nil ?_
              refine ⟨(j + 1, _), ?_, ⟨rfl, rfl, rfl, rfl, rfl, rfl, rfl, trivial⟩, ⟨rfl, rfl, trivial⟩, Ent.refl _, ?_⟩
              · refine ⟨by omega, ?_⟩
                obtain ⟨y, hy⟩ := someC (l := M) (j := j) (by omega)
                rw [any_step hy, ← hi2]
                first
                  | (rw [h20]; rfl)
                  | (obtain rfl : u = u25 := by rw [hu] at hu25; exact Option.some.inj hu25
                     obtain rfl : y = u29 := by rw [hy] at hu29; exact Option.some.inj hu29
                     simp_all)
              · first | omega | (dsimp only; omega) | (simp only []; omega)
            · refine DJ.yd 11 rfl (by kernel_rfl) (by kernel_rfl) (by kernel_rfl) rfl rfl (Yd.pickFB rfl rfl) ?_
              refine DJ.yd 12 rfl (by kernel_rfl) (by kernel_rfl) (by kernel_rfl) rfl rfl (Yd.asB rfl) ?_
              refine DJ.done (by kernel_rfl) ?_
              refine CJ.region ?_
              refine LJ.yd rfl (Yd.mvI rfl) ?_
              refine LJ.yd rfl (Yd.add rfl rfl (by unfold I64; omega)) ?_
              refine LJ.yd rfl (Yd.asI rfl) ?_
              refine LJ.nil ?_
              refine ⟨(j + 1, _), ?_, ⟨rfl, rfl, rfl, rfl, rfl, rfl, rfl, trivial⟩, ⟨rfl, rfl, trivial⟩, Ent.refl _, ?_⟩
              · refine ⟨by omega, ?_⟩
                obtain ⟨y, hy⟩ := someC (l := M) (j := j) (by omega)
                rw [any_step hy, ← hi2]
                first
                  | (rw [h20]; rfl)
                  | (obtain rfl : u = u25 := by rw [hu] at hu25; exact Option.some.inj hu25
                     obtain rfl : y = u29 := by rw [hy] at hu29; exact Option.some.inj hu29
                     simp_all)
              · first | omega | (dsimp only; omega) | (simp only []; omega)
        · refine LJ.nil ?_
          refine CJ.condF rfl ?_
          refine CJ.exit ?_
          refine CJ.seq ?_
          have hmt : m = true := by
            rw [hi2, List.take_of_length_le (by omega), List.any_eq_true]
            exact ⟨u, hm u (List.mem_of_getElem? hu), by simp⟩
          refine CJ.region ?_
          refine LJ.split rfl (Yd.mvB rfl) (fun h32 => ?_) (fun h32 => ?_)
          · refine LJ.yd rfl (Yd.not rfl) ?_
            refine LJ.nil ?_
            refine CJ.condF rfl ?_
            refine CJ.skip ?_
            refine CJ.region ?_
            refine LJ.yd rfl (Yd.mvI rfl) ?_
            refine LJ.yd rfl (Yd.add rfl rfl (by unfold I64; omega)) ?_
            refine LJ.yd rfl (Yd.asI rfl) ?_
            refine LJ.nil ?_
            refine ⟨(k + 1), ?_, ⟨rfl, rfl, trivial⟩, ⟨rfl, trivial⟩, Ent.refl _, ?_⟩
            · omega
            · first | omega | (dsimp only; omega) | (simp only []; omega)
          · refine LJ.yd rfl (Yd.not rfl) ?_
            refine LJ.nil ?_
            refine CJ.condT rfl ?_
            refine CJ.seq ?_
            refine CJ.region ?_
            refine LJ.yd rfl (Yd.asB rfl) ?_
            refine LJ.nil ?_
            refine CJ.ret ?_
            refine Fin.V (Res.one (ResV.tmp (v := .bool false) rfl)) ?_
            first
              | exact congrArg Value.bool (decide_eq_true (by omega))
              | (exfalso; simp_all)
    · refine LJ.nil ?_
      refine CJ.condF rfl ?_
      refine CJ.exit ?_
      refine CJ.seq ?_
      refine CJ.region ?_
      refine LJ.yd rfl (Yd.mvS rfl) ?_
      refine LJ.yd rfl (Yd.len rfl) ?_
      refine LJ.yd rfl (Yd.mvS rfl) ?_
      refine LJ.yd rfl (Yd.len rfl) ?_
      refine LJ.yd rfl (Yd.eql rfl rfl) ?_
      refine LJ.yd rfl (Yd.asB rfl) ?_
      refine LJ.nil ?_
      refine CJ.ret ?_
      refine Fin.V (Res.one (ResV.tmp (v := .bool _) rfl)) ?_
      first
        | exact congrArg Value.bool (decide_eq_true (by omega))
        | (exfalso; simp_all)
/-- the first k boxes with left and right exchanged -/
def mrk (K : Int) (B : List Box) (k : Nat) : List Box := (B.take k).map (mirB K) ++ B.drop k
theorem mrk_len (K : Int) (B : List Box) (k : Nat) : (mrk K B k).length = B.length := by simp [mrk]; omega
theorem mrk_0 (K : Int) (B : List Box) : mrk K B 0 = B := by simp [mrk]
theorem mrk_end {K : Int} {B : List Box} {k : Nat} (h : B.length ≤ k) : mrk K B k = B.map (mirB K) := by
  rw [mrk, List.take_of_length_le h, List.drop_of_length_le h, List.append_nil]
theorem mrk_at {K : Int} {B : List Box} {k : Nat} (h : k < B.length) : (mrk K B k)[k]? = B[k]? := by
  rw [mrk, List.getElem?_append_right (by simp; omega), List.length_map, List.length_take, List.getElem?_drop, Nat.min_eq_left (by omega)]; simp
theorem mrk_set {K : Int} {B : List Box} {k : Nat} {u : Box} (h : B[k]? = some u) : (mrk K B k).set k (mirB K u) = mrk K B (k + 1) := by
  have hk := (List.getElem?_eq_some_iff.1 h).1
  rw [mrk, dropC h, List.set_append_right _ _ (by simp; omega), List.length_map, List.length_take, Nat.min_eq_left (by omega), Nat.sub_self, List.set_cons_zero, mrk, takeC h]
  simp
theorem plcs_gok {ps : List Pane} : ∀ (b : BT) (g : Box), b.fits ps g.W g.H = true → GOk g → ∀ u ∈ b.plcs g, GOk u.b
  | .w, _, _, _, _, hu => by simp [BT.plcs] at hu
  | .p i t, g, _, hg, u, hu => by
    simp only [BT.plcs, List.mem_singleton] at hu
    subst hu; exact hg
  | .c d a l r, g, hf, hg, u, hu => by
    obtain ⟨h1, h2, h3, h4, _⟩ := fits_k hf hg
    rcases List.mem_append.1 hu with hu | hu
    · exact plcs_gok l _ h1 h3 u hu
    · exact plcs_gok r _ h2 h4 u hu
theorem mp_facts {W H : Int} {ps : List Pane} {q : Plan} (h : vpOk W H ps q = true) : (1 ≤ W ∧ W ≤ 200) ∧ (∀ x ∈ (plP W H ps q).map Plc.b, GOk x) ∧ (plP W H ps q).length ≤ 255 ∧ (plP W H ps (mirP W H ps q).plan).length = (plP W H ps q).length ∧
    ∀ x ∈ (plP W H ps (mirP W H ps q).plan).map Plc.b, x ∈ ((plP W H ps q).map Plc.b).map (mirB W) := by
  obtain ⟨hw, hg, hf, hz, hs, he⟩ := vp_facts h
  obtain ⟨m1, m2⟩ := mirP_pl h
  have e1 : plP W H ps q = (toBT q).plcs (shB W H) := if_pos h
  refine ⟨⟨hw.1, hw.2.1⟩, fun x hx => ?_, ?_, m1, fun x hx => ?_⟩
  · obtain ⟨y, hy, rfl⟩ := List.mem_map.1 hx
    rw [e1] at hy
    exact plcs_gok (toBT q) (shB W H) hf hg y hy
  · rw [e1]
    have := plcs_len (toBT q) (shB W H)
    omega
  · obtain ⟨y, hy, rfl⟩ := List.mem_map.1 hx
    obtain ⟨z, hz, e⟩ := m2 y hy
    rw [e]
    exact List.mem_map_of_mem (List.mem_map_of_mem hz)
theorem Sts.planW {A0 B : Amb} [AmbLe A0 B] {fr : List HProp} {k : Hp} {cs : List Value} {b : BT} (hk : Sts fr k) (dk : B.h.Dj k) (i : Nat) (hi : fr[i]? = some (fun h => RdT (A0.ext h).h cs b)) : RdT (B.ext k).h cs b := by
  obtain ⟨m, hm, lm⟩ := hk.get hi
  exact hm.mono (Hp.un_le (up.trans (Hp.le_un_l _ _)) (lm.trans (Amb.ext_own dk)))
theorem equalPlan_same {A : Amb} {cs cs2 : List Value} {b b2 : BT} (h : RdT A.h cs b) (h2 : RdT A.h cs2 b2) (e : b = b2) : Ctr Try.prog 22 #[.agg cs.toArray, .agg cs2.toArray] A [] (Val (.bool true)) := by
  have := equalPlan_ok h h2
  rwa [decide_eq_true e] at this
theorem FnMirrorPlanPlaces_ok {A : Amb} {a : Option Addr} {n c : Nat} (h : Code A.h a n c) : Ctr Try.prog 4 #[.slice a n c] A [] (Val (.bool true)) := by
  refine Ctr.body (args := [_]) Try.func4 rfl Try.ntmps4 Try.results4 (by simp) ?_
  refine CJ.seq ?_
  refine CJ.region ?_
  refine LJ.yd rfl (Yd.asB rfl) ?_
  refine LJ.nil ?_
  refine CJ.seq ?_
  refine CJ.seq ?_
  refine CJ.region ?_
  refine LJ.yd rfl (Yd.mvS rfl) ?_
  refine LJ.yd rfl (Yd.len rfl) ?_
  refine LJ.splitD rfl (Yd.gtr rfl rfl) (fun h10 => ?_) (fun h10 => ?_)
  · refine LJ.nil ?_
    refine CJ.condT rfl ?_
    refine CJ.seq ?_
    refine CJ.region ?_
    refine LJ.yd rfl (Yd.asB rfl) ?_
    refine LJ.nil ?_
    refine CJ.ret ?_
    refine Fin.V (Res.one (ResV.tmp (v := .bool true) rfl)) ?_
    rfl
  · refine LJ.nil ?_
    refine CJ.condF rfl ?_
    refine CJ.skip ?_
    refine CJ.seq ?_
    refine CJ.region ?_
    refine LJ.yd rfl (Yd.mvS rfl) ?_
    refine LJ.call0 rfl (fun k hk dk => DrawMirrorPlan_ok h.up) ?_
    rintro _ _ ⟨W, H, ka, km, kc, o, e, i, t, x, m, l, pl, ps, rfl, rfl, hwh, hpsl, hpsw⟩
    refine LJ.yd rfl (Yd.mvU rfl) ?_
    refine LJ.yd rfl (Yd.extract rfl rfl) ?_
    refine LJ.yd rfl (Yd.extract rfl rfl) ?_
    refine LJ.alloc ([_, _, _] : List Value) rfl rfl (fun b1 => ?_)
    refine LJ.alloc ([_, _, _, _, _] : List Value) rfl rfl (fun b2 => ?_)
    refine LJ.store (v := .agg #[_, _, _]) (us := [_, _, _]) 2 rfl rfl rfl rfl rfl rfl rfl rfl ?_
    refine LJ.store (v := .agg #[_, _, _, _, _]) (us := [_, _, _, _, _]) 3 rfl rfl rfl rfl rfl rfl rfl rfl ?_
    refine LJ.nil ?_
    refine CJ.seq ?_
    refine CJ.amb (perm_pickF _ [0] [1, 2, 3] rfl) (fun m8 h8 d8 => ?_)
    refine CJ.norm [_, _, _] rfl ?_
    refine CJ.amb (perm_pickF _ [0] [1, 2] rfl) (fun m9 h9 d9 => ?_)
    refine CJ.norm [_, _] rfl ?_
    have hps : RdPanes ((A.ext m8).ext m9).h (.slice ka km kc) ps := RdRow.mono (RdRow.mono h8 (Amb.ext_own d8)) Amb.ext_up
    have hpl : RdPlan ((A.ext m8).ext m9).h [vI o, vI e, vI i, .bool t, .slice x m l] pl := RdPlan.mono (Amb.ext_own d9) h9
    refine CJ.region ?_
    refine LJ.yd rfl (Yd.loadG (us := [_, _, _]) 0 rfl rfl rfl rfl) ?_
    refine LJ.yd rfl (Yd.loadG (us := [_, _, _, _, _]) 1 rfl rfl rfl rfl) ?_
    refine LJ.call0 rfl (fun k hk dk => MirrorPlanI_ok hps.up hpl.up) ?_
    rintro _ _ ⟨o2, e2, i2, t2, x2, m2, l2, rfl, rfl⟩
    refine LJ.alloc ([_, _, _, _, _] : List Value) rfl rfl (fun b3 => ?_)
    refine LJ.store (v := .agg #[_, _, _, _, _]) (us := [_, _, _, _, _]) 3 rfl rfl rfl rfl rfl rfl rfl rfl ?_
    refine LJ.nil ?_
    refine CJ.seq ?_
    refine CJ.seq ?_
    refine CJ.amb (perm_pickF _ [2] [0, 1, 3] rfl) (fun m6 h6 d6 => ?_)
    refine CJ.norm [_, _, _] rfl ?_
    have hout : RdT (((A.ext m8).ext m9).ext m6).h [vI o2, vI e2, vI i2, .bool t2, .slice x2 m2 l2] (mirP W H ps pl) := RdT.mono (Amb.ext_own d6) h6
    refine CJ.regionD [0, 1, 2] [] (by kernel_rfl) rfl ?_
    refine DJ.norm [_, _, _] [] rfl rfl ?_
    refine DJ.yd 0 rfl (by kernel_rfl) (by kernel_rfl) (by kernel_rfl) rfl rfl (Yd.loadG (us := [_, _, _, _, _]) 2 rfl rfl rfl rfl) ?_
    refine DJ.yd 1 rfl (by kernel_rfl) (by kernel_rfl) (by kernel_rfl) rfl rfl (Yd.loadG (us := [_, _, _]) 0 rfl rfl rfl rfl) ?_
    refine DJ.yd 2 rfl (by kernel_rfl) (by kernel_rfl) (by kernel_rfl) rfl rfl (Yd.loadG (us := [_, _, _, _, _]) 1 rfl rfl rfl rfl) ?_
    refine DJ.one (i := 3) (by kernel_rfl) ?_
    refine DO.call0 rfl rfl rfl (fun k0 hk0 dk0 k hk dk => MirrorPlanS_ok hps hpl) ?_
    rintro _ _ ⟨o3, e3, i3, t3, x3, m3, l3, rfl, rfl⟩
    refine DJ.one (i := 4) (by kernel_rfl) ?_
    refine DO.callV rfl rfl rfl (fun k0 hk0 dk0 k hk dk => equalPlan_same hout.up (Sts.planW hk dk 0 rfl) rfl) ?_
    refine DJ.yd 5 rfl (by kernel_rfl) (by kernel_rfl) (by kernel_rfl) rfl rfl (Yd.not rfl) ?_
    refine DJ.yd 6 rfl (by kernel_rfl) (by kernel_rfl) (by kernel_rfl) rfl rfl (Yd.mvB rfl) ?_
    refine DJ.yd 7 rfl (by kernel_rfl) (by kernel_rfl) (by kernel_rfl) rfl rfl (Yd.loadG (us := [_, _, _]) 0 rfl rfl rfl rfl) ?_
    refine DJ.yd 8 rfl (by kernel_rfl) (by kernel_rfl) (by kernel_rfl) rfl rfl (Yd.loadG (us := [_, _, _, _, _]) 1 rfl rfl rfl rfl) ?_
    refine DJ.one (i := 9) (by kernel_rfl) ?_
    refine DO.callB rfl rfl rfl (fun k0 hk0 dk0 k hk dk => ValidPlanI_ok hps.up hpl.up) (fun h28 => ?_) (fun h28 => ?_)
    · refine DJ.yd 10 rfl (by kernel_rfl) (by kernel_rfl) (by kernel_rfl) rfl rfl (Yd.not rfl) ?_
      refine DJ.yd 11 rfl (by kernel_rfl) (by kernel_rfl) (by kernel_rfl) rfl rfl (Yd.pickFB rfl rfl) ?_
      refine DJ.done (by kernel_rfl) ?_
      refine CJ.condF rfl ?_
      refine CJ.skip ?_
      refine CJ.seq ?_
      obtain ⟨hf1, hf2, hf3, hf4, hf5⟩ := mp_facts h28
      refine CJ.region ?_
      refine LJ.yd rfl (Yd.loadG (us := [_, _, _]) 0 rfl rfl rfl rfl) ?_
      refine LJ.yd rfl (Yd.loadG (us := [_, _, _, _, _]) 1 rfl rfl rfl rfl) ?_
      refine LJ.call0 rfl (fun k hk dk => PlacesOfI_ok hps.up hpl.up) ?_
      rintro _ _ ⟨ra38, rc38, rfl, rfl⟩
      refine LJ.norm [_, _, _, _, _] rfl ?_
      refine LJ.call0 rfl (fun k hk dk => boxesOf_ok (Sts.lrm hk dk 4 (by first | rfl | omega | (simp; done) | (simp; omega) | (simp [upN_len]; omega) | (simp [idxBy_len]; omega) | (simp [marks_len]; omega) | (simp [upN_len]; done) | (simp [idxBy_len]; done) | (simp [marks_len]; done) | (simp at *; omega)) (by first | rfl | omega | (simp; done) | (simp; omega) | (simp [upN_len]; omega) | (simp [idxBy_len]; omega) | (simp [marks_len]; omega) | (simp [upN_len]; done) | (simp [idxBy_len]; done) | (simp [marks_len]; done) | (simp at *; omega)) rfl) (by omega)) ?_
      rintro _ _ ⟨ra39, rc39, rfl, rfl⟩
      refine LJ.norm [_, _, _, _, _, _] rfl ?_
      refine LJ.yd rfl (Yd.asS rfl) ?_
      refine LJ.nil ?_
      refine CJ.seq ?_
      refine CJ.seq ?_
      refine CJ.region ?_
      refine LJ.yd rfl (Yd.asI rfl) ?_
      refine LJ.nil ?_
      refine CJ.block ?_
      refine CJ.loopF [2, 3, 5, 6] Nat (fun k => k ≤ (plP W H ps pl).length) (fun k => [(7, vI k)]) (fun k => [LR Box.enc 41 4 ra39 rc39 (mrk W ((plP W H ps pl).map Plc.b) k)]) (fun k => (plP W H ps pl).length - k) (0) [_, _, _, _, _] [0, 1, 2, 3, 4] [5] rfl rfl rfl ?_ ⟨rfl, trivial⟩ ?_
      · exact by omega
      · rintro k σ hk1
        refine CJ.norm [_, _, _, _, _, _] rfl ?_
        have hml := mrk_len W ((plP W H ps pl).map Plc.b) k
        have hbl : ((plP W H ps pl).map Plc.b).length = (plP W H ps pl).length := List.length_map ..
        refine CJ.seq ?_
        refine CJ.seq ?_
        refine CJ.region ?_
        refine LJ.yd rfl (Yd.mvI rfl) ?_
        refine LJ.yd rfl (Yd.mvS rfl) ?_
        refine LJ.yd rfl (Yd.len rfl) ?_
        refine LJ.splitD rfl (Yd.lss rfl rfl) (fun h43 => ?_) (fun h43 => ?_)
        · refine LJ.nil ?_
          refine CJ.condT rfl ?_
          refine CJ.skip ?_
          refine CJ.seq ?_
          refine CJ.block ?_
          have hkB : k < ((plP W H ps pl).map Plc.b).length := by omega
          obtain ⟨u, huB⟩ := someC hkB
          have hu : (mrk W ((plP W H ps pl).map Plc.b) k)[k]? = some u := by rw [mrk_at hkB]; exact huB
          have hs54 := hf2 u (List.mem_of_getElem? huB)
          unfold GOk at hs54
          refine CJ.regionD [0, 1, 2, 3, 4] [5] (by kernel_rfl) rfl ?_
          refine DJ.norm [_, _, _, _, _] [_] rfl rfl ?_
          refine DJ.yd 0 rfl (by kernel_rfl) (by kernel_rfl) (by kernel_rfl) rfl rfl (Yd.mvS rfl) ?_
          refine DJ.yd 1 rfl (by kernel_rfl) (by kernel_rfl) (by kernel_rfl) rfl rfl (Yd.mvI rfl) ?_
          refine DJ.yd 2 rfl (by kernel_rfl) (by kernel_rfl) (by kernel_rfl) rfl rfl (Yd.fieldAddr rfl) ?_
          refine DJ.yd 3 rfl (by kernel_rfl) (by kernel_rfl) (by kernel_rfl) rfl rfl (Yd.loadC 0 rfl rfl rfl) ?_
          refine DJ.yd 4 rfl (by kernel_rfl) (by kernel_rfl) (by kernel_rfl) rfl rfl (Yd.mvS rfl) ?_
          refine DJ.yd 5 rfl (by kernel_rfl) (by kernel_rfl) (by kernel_rfl) rfl rfl (Yd.mvI rfl) ?_
          refine DJ.idxR 0 rfl 6 rfl (by kernel_rfl) (by kernel_rfl) (by kernel_rfl) rfl rfl rfl rfl (by omega) (by first | rfl | omega | (simp; done) | (simp; omega) | (simp [upN_len]; omega) | (simp [idxBy_len]; omega) | (simp [marks_len]; omega) | (simp [upN_len]; done) | (simp [idxBy_len]; done) | (simp [marks_len]; done) | (simp at *; omega)) (by first | rfl | omega | (simp; done) | (simp; omega) | (simp [upN_len]; omega) | (simp [idxBy_len]; omega) | (simp [marks_len]; omega) | (simp [upN_len]; done) | (simp [idxBy_len]; done) | (simp [marks_len]; done) | (simp at *; omega)) (fun ib52 ia52 => ?_)
          refine DJ.yd 7 rfl (by kernel_rfl) (by kernel_rfl) (by kernel_rfl) rfl rfl (Yd.fieldAddr rfl) ?_
          refine DJ.yd 10 rfl (by kernel_rfl) (by kernel_rfl) (by kernel_rfl) rfl rfl (Yd.mvS rfl) ?_
          refine DJ.yd 11 rfl (by kernel_rfl) (by kernel_rfl) (by kernel_rfl) rfl rfl (Yd.mvI rfl) ?_
          refine DJ.idxR 0 rfl 12 rfl (by kernel_rfl) (by kernel_rfl) (by kernel_rfl) rfl rfl rfl rfl (by omega) (by first | rfl | omega | (simp; done) | (simp; omega) | (simp [upN_len]; omega) | (simp [idxBy_len]; omega) | (simp [marks_len]; omega) | (simp [upN_len]; done) | (simp [idxBy_len]; done) | (simp [marks_len]; done) | (simp at *; omega)) (by first | rfl | omega | (simp; done) | (simp; omega) | (simp [upN_len]; omega) | (simp [idxBy_len]; omega) | (simp [marks_len]; omega) | (simp [upN_len]; done) | (simp [idxBy_len]; done) | (simp [marks_len]; done) | (simp at *; omega)) (fun ib58 ia58 => ?_)
          refine DJ.yd 13 rfl (by kernel_rfl) (by kernel_rfl) (by kernel_rfl) rfl rfl (Yd.fieldAddr rfl) ?_
          refine DJ.two (i := 8) (j := 14) (by kernel_rfl) ?_ ?_
          · refine DO.ldR rfl rfl rfl 0 0 (fun u => vI u.X) (fun _ => rfl) rfl ia52 rfl rfl (by first | rfl | omega | (simp; done) | (simp; omega) | (simp [upN_len]; omega) | (simp [idxBy_len]; omega) | (simp [marks_len]; omega) | (simp [upN_len]; done) | (simp [idxBy_len]; done) | (simp [marks_len]; done) | (simp at *; omega)) (fun u54 hu54 => ?_)
            try simp only [Int.toNat_natCast] at hu54
            obtain rfl : u = u54 := by rw [hu] at hu54; exact Option.some.inj hu54
            refine DJ.yd 9 rfl (by kernel_rfl) (by kernel_rfl) (by kernel_rfl) rfl rfl (Yd.sub rfl rfl (by unfold I64; omega)) ?_
            refine DJ.one (i := 14) (by kernel_rfl) ?_
            refine DO.ldR rfl rfl rfl 0 2 (fun u => vI u.W) (fun _ => rfl) rfl ia58 rfl rfl (by first | rfl | omega | (simp; done) | (simp; omega) | (simp [upN_len]; omega) | (simp [idxBy_len]; omega) | (simp [marks_len]; omega) | (simp [upN_len]; done) | (simp [idxBy_len]; done) | (simp [marks_len]; done) | (simp at *; omega)) (fun u60 hu60 => ?_)
            try simp only [Int.toNat_natCast] at hu60
            obtain rfl : u = u60 := by rw [hu] at hu60; exact Option.some.inj hu60
            refine DJ.yd 15 rfl (by kernel_rfl) (by kernel_rfl) (by kernel_rfl) rfl rfl (Yd.sub rfl rfl (by unfold I64; omega)) ?_
            refine DJ.idxR 0 rfl 16 rfl (by kernel_rfl) (by kernel_rfl) (by kernel_rfl) rfl rfl rfl rfl (by omega) (by first | rfl | omega | (simp; done) | (simp; omega) | (simp [upN_len]; omega) | (simp [idxBy_len]; omega) | (simp [marks_len]; omega) | (simp [upN_len]; done) | (simp [idxBy_len]; done) | (simp [marks_len]; done) | (simp at *; omega)) (by first | rfl | omega | (simp; done) | (simp; omega) | (simp [upN_len]; omega) | (simp [idxBy_len]; omega) | (simp [marks_len]; omega) | (simp [upN_len]; done) | (simp [idxBy_len]; done) | (simp [marks_len]; done) | (simp at *; omega)) (fun ib62 ia62 => ?_)
            refine DJ.yd 17 rfl (by kernel_rfl) (by kernel_rfl) (by kernel_rfl) rfl rfl (Yd.fieldAddr rfl) ?_
            refine DJ.one (i := 18) (by kernel_rfl) ?_
            refine DO.op rfl rfl rfl (fun k0 hk0 dk0 => OpR.stR (enc := Box.enc) (u' := ⟨W - u.X - u.W, u.Y, u.W, u.H⟩) 0 0 rfl ia62 rfl rfl hu rfl rfl rfl rfl rfl) ?_
            rintro _ _ ⟨rfl, rfl⟩
            refine DJ.norm [_, _, _, _, _] [_] rfl rfl ?_
            refine DJ.done (by kernel_rfl) ?_
            rw [show (mrk W ((plP W H ps pl).map Plc.b) k).set k ⟨W - u.X - u.W, u.Y, u.W, u.H⟩ = mrk W ((plP W H ps pl).map Plc.b) (k + 1) from mrk_set huB]
            refine CJ.region ?_
            refine LJ.yd rfl (Yd.mvI rfl) ?_
            refine LJ.yd rfl (Yd.add rfl rfl (by unfold I64; omega)) ?_
            refine LJ.yd rfl (Yd.asI rfl) ?_
            refine LJ.nil ?_
            refine ⟨(k + 1), ?_, ⟨rfl, rfl, rfl, rfl, trivial⟩, ⟨rfl, trivial⟩, Ent.refl _, ?_⟩
            · omega
            · first | omega | (dsimp only; omega) | (simp only []; omega)
          · refine DO.ldR rfl rfl rfl 0 2 (fun u => vI u.W) (fun _ => rfl) rfl ia58 rfl rfl (by first | rfl | omega | (simp; done) | (simp; omega) | (simp [upN_len]; omega) | (simp [idxBy_len]; omega) | (simp [marks_len]; omega) | (simp [upN_len]; done) | (simp [idxBy_len]; done) | (simp [marks_len]; done) | (simp at *; omega)) (fun u60 hu60 => ?_)
            try simp only [Int.toNat_natCast] at hu60
            obtain rfl : u = u60 := by rw [hu] at hu60; exact Option.some.inj hu60
            refine DJ.one (i := 8) (by kernel_rfl) ?_
            refine DO.ldR rfl rfl rfl 0 0 (fun u => vI u.X) (fun _ => rfl) rfl ia52 rfl rfl (by first | rfl | omega | (simp; done) | (simp; omega) | (simp [upN_len]; omega) | (simp [idxBy_len]; omega) | (simp [marks_len]; omega) | (simp [upN_len]; done) | (simp [idxBy_len]; done) | (simp [marks_len]; done) | (simp at *; omega)) (fun u54 hu54 => ?_)
            try simp only [Int.toNat_natCast] at hu54
            obtain rfl : u = u54 := by rw [hu] at hu54; exact Option.some.inj hu54
            refine DJ.yd 9 rfl (by kernel_rfl) (by kernel_rfl) (by kernel_rfl) rfl rfl (Yd.sub rfl rfl (by unfold I64; omega)) ?_
            refine DJ.yd 15 rfl (by kernel_rfl) (by kernel_rfl) (by kernel_rfl) rfl rfl (Yd.sub rfl rfl (by unfold I64; omega)) ?_
            refine DJ.idxR 0 rfl 16 rfl (by kernel_rfl) (by kernel_rfl) (by kernel_rfl) rfl rfl rfl rfl (by omega) (by first | rfl | omega | (simp; done) | (simp; omega) | (simp [upN_len]; omega) | (simp [idxBy_len]; omega) | (simp [marks_len]; omega) | (simp [upN_len]; done) | (simp [idxBy_len]; done) | (simp [marks_len]; done) | (simp at *; omega)) (by first | rfl | omega | (simp; done) | (simp; omega) | (simp [upN_len]; omega) | (simp [idxBy_len]; omega) | (simp [marks_len]; omega) | (simp [upN_len]; done) | (simp [idxBy_len]; done) | (simp [marks_len]; done) | (simp at *; omega)) (fun ib62 ia62 => ?_)
            refine DJ.yd 17 rfl (by kernel_rfl) (by kernel_rfl) (by kernel_rfl) rfl rfl (Yd.fieldAddr rfl) ?_
            refine DJ.one (i := 18) (by kernel_rfl) ?_
            refine DO.op rfl rfl rfl (fun k0 hk0 dk0 => OpR.stR (enc := Box.enc) (u' := ⟨W - u.X - u.W, u.Y, u.W, u.H⟩) 0 0 rfl ia62 rfl rfl hu rfl rfl rfl rfl rfl) ?_
            rintro _ _ ⟨rfl, rfl⟩
            refine DJ.norm [_, _, _, _, _] [_] rfl rfl ?_
            refine DJ.done (by kernel_rfl) ?_
            rw [show (mrk W ((plP W H ps pl).map Plc.b) k).set k ⟨W - u.X - u.W, u.Y, u.W, u.H⟩ = mrk W ((plP W H ps pl).map Plc.b) (k + 1) from mrk_set huB]
            refine CJ.region ?_
            refine LJ.yd rfl (Yd.mvI rfl) ?_
            refine LJ.yd rfl (Yd.add rfl rfl (by unfold I64; omega)) ?_
            refine LJ.yd rfl (Yd.asI rfl) ?_
            refine LJ.nil ?_
            refine ⟨(k + 1), ?_, ⟨rfl, rfl, rfl, rfl, trivial⟩, ⟨rfl, trivial⟩, Ent.refl _, ?_⟩
            · omega
            · first | omega | (dsimp only; omega) | (simp only []; omega)
        · refine LJ.nil ?_
          refine CJ.condF rfl ?_
          refine CJ.exit ?_
          refine CJ.seq ?_
          have hml := mrk_len W ((plP W H ps pl).map Plc.b) k
          have hbl : ((plP W H ps pl).map Plc.b).length = (plP W H ps pl).length := List.length_map ..
          refine CJ.region ?_
          refine LJ.yd rfl (Yd.loadG (us := [_, _, _]) 0 rfl rfl rfl rfl) ?_
          refine LJ.yd rfl (Yd.loadG (us := [_, _, _, _, _]) 2 rfl rfl rfl rfl) ?_
          refine LJ.call0 rfl (fun k hk dk => PlacesOfI_ok hps.up (RdPlan.of_BT hout).up) ?_
          rintro _ _ ⟨ra66, rc66, rfl, rfl⟩
          refine LJ.norm [_, _, _, _, _, _, _] rfl ?_
          refine LJ.call0 rfl (fun k hk dk => boxesOf_ok (Sts.lrm hk dk 6 (by first | rfl | omega | (simp; done) | (simp; omega) | (simp [upN_len]; omega) | (simp [idxBy_len]; omega) | (simp [marks_len]; omega) | (simp [upN_len]; done) | (simp [idxBy_len]; done) | (simp [marks_len]; done) | (simp at *; omega)) (by first | rfl | omega | (simp; done) | (simp; omega) | (simp [upN_len]; omega) | (simp [idxBy_len]; omega) | (simp [marks_len]; omega) | (simp [upN_len]; done) | (simp [idxBy_len]; done) | (simp [marks_len]; done) | (simp at *; omega)) rfl) (by omega)) ?_
          rintro _ _ ⟨ra67, rc67, rfl, rfl⟩
          refine LJ.norm [_, _, _, _, _, _, _, _] rfl ?_
          refine LJ.yd rfl (Yd.mvS rfl) ?_
          refine LJ.callV rfl (fun k hk dk => sameBoxes_T (Sts.lrm hk dk 7 (by first | rfl | omega | (simp; done) | (simp; omega) | (simp [upN_len]; omega) | (simp [idxBy_len]; omega) | (simp [marks_len]; omega) | (simp [upN_len]; done) | (simp [idxBy_len]; done) | (simp [marks_len]; done) | (simp at *; omega)) (by first | rfl | omega | (simp; done) | (simp; omega) | (simp [upN_len]; omega) | (simp [idxBy_len]; omega) | (simp [marks_len]; omega) | (simp [upN_len]; done) | (simp [idxBy_len]; done) | (simp [marks_len]; done) | (simp at *; omega)) rfl) (Sts.lrm hk dk 5 (by first | rfl | omega | (simp; done) | (simp; omega) | (simp [upN_len]; omega) | (simp [idxBy_len]; omega) | (simp [marks_len]; omega) | (simp [upN_len]; done) | (simp [idxBy_len]; done) | (simp [marks_len]; done) | (simp at *; omega)) (by first | rfl | omega | (simp; done) | (simp; omega) | (simp [upN_len]; omega) | (simp [idxBy_len]; omega) | (simp [marks_len]; omega) | (simp [upN_len]; done) | (simp [idxBy_len]; done) | (simp [marks_len]; done) | (simp at *; omega)) rfl) (by rw [List.length_map, mrk_len, List.length_map]; exact hf4) (by rw [mrk_end (by rw [List.length_map]; omega)]; exact hf5)) ?_
          refine LJ.yd rfl (Yd.asB rfl) ?_
          refine LJ.nil ?_
          refine CJ.ret ?_
          refine Fin.V (Res.one (ResV.tmp (v := .bool true) rfl)) ?_
          rfl
    · refine DJ.yd 10 rfl (by kernel_rfl) (by kernel_rfl) (by kernel_rfl) rfl rfl (Yd.not rfl) ?_
      refine DJ.yd 11 rfl (by kernel_rfl) (by kernel_rfl) (by kernel_rfl) rfl rfl (Yd.pickFB rfl rfl) ?_
      refine DJ.done (by kernel_rfl) ?_
      refine CJ.condT rfl ?_
      refine CJ.seq ?_
      refine CJ.regionD [0, 1, 2, 3] [] (by kernel_rfl) rfl ?_
      refine DJ.norm [_, _, _, _] [] rfl rfl ?_
      refine DJ.yd 0 rfl (by kernel_rfl) (by kernel_rfl) (by kernel_rfl) rfl rfl (Yd.loadG (us := [_, _, _, _, _]) 2 rfl rfl rfl rfl) ?_
      refine DJ.yd 1 rfl (by kernel_rfl) (by kernel_rfl) (by kernel_rfl) rfl rfl (Yd.loadG (us := [_, _, _]) 0 rfl rfl rfl rfl) ?_
      refine DJ.yd 2 rfl (by kernel_rfl) (by kernel_rfl) (by kernel_rfl) rfl rfl (Yd.loadG (us := [_, _, _, _, _]) 1 rfl rfl rfl rfl) ?_
      refine DJ.one (i := 3) (by kernel_rfl) ?_
      refine DO.call0 rfl rfl rfl (fun k0 hk0 dk0 k hk dk => MirrorPlanS_ok hps hpl) ?_
      rintro _ _ ⟨o4, e4, i4, t4, x4, m4, l4, rfl, rfl⟩
      refine DJ.one (i := 4) (by kernel_rfl) ?_
      refine DO.callV rfl rfl rfl (fun k0 hk0 dk0 k hk dk => equalPlan_same hout.up (Sts.planW hk dk 0 rfl) rfl) ?_
      refine DJ.yd 5 rfl (by kernel_rfl) (by kernel_rfl) (by kernel_rfl) rfl rfl (Yd.asB rfl) ?_
      refine DJ.done (by kernel_rfl) ?_
      refine CJ.ret ?_
      refine Fin.V (Res.one (ResV.tmp (v := .bool true) rfl)) ?_
      rfl
end Go.Proofs.Ytlpjienaennmaaa
