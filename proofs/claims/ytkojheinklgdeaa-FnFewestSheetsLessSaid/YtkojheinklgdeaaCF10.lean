/-
  The laws on sheets that take all panes.
-/
import Derived.Test.YtkojheinklgdeaaCF9
namespace Go.Proofs.Ytkojheinklgdeaa
open Go
set_option maxRecDepth 20000
set_option maxHeartbeats 1000000

theorem rnd_le {a d : Int} (hd : 1 ≤ d) (h : a ≤ d) : (a + d - 1) / d ≤ 1 := by
  have := Int.ediv_lt_of_lt_mul (a := a + d - 1) (b := 2) (c := d) (by omega) (by omega)
  omega
theorem CutsFromI_T {A : Amb} {W H : Int} {v : Value} {ps : List Pane} (hl : RdL Pane.enc 4 A.h v ps) (h : cfR W H ps = true) : Ctr Try.prog 33 #[.agg #[vI W, vI H, v]] A [] (Val (.bool true)) := by
  have := CutsFromI_ok (W := W) (H := H) hl
  rwa [h] at this
theorem CutsFromI_e {A : Amb} {W H : Int} {v : Value} {ps qs : List Pane} (hl : RdL Pane.enc 4 A.h v qs) (h : qs = ps.map trn) : Ctr Try.prog 33 #[.agg #[vI H, vI W, v]] A [] (Val (.bool (cfR W H ps))) := by
  subst h
  have := CutsFromI_ok (W := H) (H := W) hl
  rwa [cfR_trn] at this
theorem FnCutsFrom_ok {A : Amb} {a : Option Addr} {n c : Nat} (h : Code A.h a n c) : Ctr Try.prog 8 #[.slice a n c] A [] (Val (.bool true)) := by
  refine Ctr.body (args := [_]) Try.func8 rfl Try.ntmps8 Try.results8 (by simp) ?_
  refine CJ.seq ?_
  refine CJ.region ?_
  refine LJ.yd rfl (Yd.asB rfl) ?_
  refine LJ.nil ?_
  refine CJ.seq ?_
  refine CJ.seq ?_
  refine CJ.region ?_
  refine LJ.yd rfl (Yd.mvS rfl) ?_
  refine LJ.yd rfl (Yd.len rfl) ?_
  refine LJ.splitD rfl (Yd.gtr rfl rfl) (fun h8 => ?_) (fun h8 => ?_)
  · refine LJ.nil ?_
    refine CJ.condT rfl ?_
    refine CJ.seq ?_
    refine CJ.region ?_
    refine LJ.yd rfl (Yd.asB rfl) ?_
    refine LJ.nil ?_
    refine CJ.ret ?_
    refine Fin.V (Res.one (ResV.tmp (v := .bool true) rfl)) ?_
    rfl
  · refine LJ.nil ?_
    refine CJ.condF rfl ?_
    refine CJ.skip ?_
    refine CJ.seq ?_
    refine CJ.region ?_
    refine LJ.yd rfl (Yd.mvS rfl) ?_
    refine LJ.call0 rfl (fun k hk dk => DrawCutsFrom_ok h.up) ?_
    rintro _ _ ⟨W, H, F, fa, fm, fc, rfl, rfl, rfl, hW, hH, hFl⟩
    refine LJ.norm [_] rfl ?_
    refine LJ.alloc ([_, _, _] : List Value) rfl rfl (fun b1 => ?_)
    refine LJ.store (v := .agg #[_, _, _]) (us := [_, _, _]) 1 rfl rfl rfl rfl rfl rfl rfl rfl ?_
    refine LJ.nil ?_
    refine CJ.seq ?_
    refine CJ.amb (perm_pickF _ [0] [1] rfl) (fun mlf wlf dlf => ?_)
    refine CJ.norm [_] rfl ?_
    have hlf := Row.toA (enc := Pane.enc) wlf dlf (by first | rfl | omega | (simp; done) | (simp; omega) | (simp [upN_len]; omega) | (simp [idxBy_len]; omega) | (simp [marks_len]; omega) | (simp [upN_len]; done) | (simp [idxBy_len]; done) | (simp [marks_len]; done) | (simp at *; omega))
    refine CJ.region ?_
    refine LJ.yd rfl (Yd.loadG (us := [_, _, _]) 0 rfl rfl rfl rfl) ?_
    refine LJ.callV rfl (fun k hk dk => CutsFromI_ok (RdRow.up hlf)) ?_
    refine LJ.split rfl (Yd.asB rfl) (fun h4 => ?_) (fun h4 => ?_)
    · refine LJ.nil ?_
      refine CJ.seq ?_
      refine CJ.seq ?_
      refine CJ.region ?_
      refine LJ.yd rfl (Yd.mvB rfl) ?_
      refine LJ.yd rfl (Yd.loadG (us := [_, _, _]) 0 rfl rfl rfl rfl) ?_
      refine LJ.callV rfl (fun k hk dk => CutsFromS_ok (RdRow.up hlf)) ?_
      refine LJ.yd rfl (Yd.cmpNF (Yd.neqB rfl rfl) (by simp [h4])) ?_
      refine LJ.yd rfl (Yd.mvB rfl) ?_
      refine LJ.gT rfl ?_
      refine LJ.yd rfl (Yd.mvB rfl) ?_
      refine LJ.gT rfl ?_
      refine LJ.yd rfl (Yd.not rfl) ?_
      refine LJ.yd rfl (Yd.pickFB rfl rfl) ?_
      refine LJ.nil ?_
      refine CJ.condF rfl ?_
      refine CJ.skip ?_
      refine CJ.seq ?_
      refine CJ.seq ?_
      refine CJ.region ?_
      refine LJ.yd rfl (Yd.fieldAddr rfl) ?_
      refine LJ.yd rfl (Yd.loadC 0 rfl rfl rfl) ?_
      refine LJ.splitD rfl (Yd.lss rfl rfl) (fun h27 => ?_) (fun h27 => ?_)
      · refine LJ.yd rfl (Yd.mvB rfl) ?_
        refine LJ.gT rfl ?_
        refine LJ.yd rfl (Yd.fieldAddr rfl) ?_
        refine LJ.gT rfl ?_
        refine LJ.yd rfl (Yd.loadC 0 rfl rfl rfl) ?_
        refine LJ.gT rfl ?_
        refine LJ.yd rfl (Yd.add rfl rfl (by unfold I64; omega)) ?_
        refine LJ.gT rfl ?_
        refine LJ.yd rfl (Yd.fieldAddr rfl) ?_
        refine LJ.gT rfl ?_
        refine LJ.yd rfl (Yd.loadC 0 rfl rfl rfl) ?_
        refine LJ.gT rfl ?_
        refine LJ.yd rfl (Yd.fieldAddr rfl) ?_
        refine LJ.gT rfl ?_
        refine LJ.yd rfl (Yd.loadC 0 rfl rfl rfl) ?_
        refine LJ.gT rfl ?_
        refine LJ.yd rfl (Yd.build (cs := [_, _, _]) rfl) ?_
        refine LJ.gT rfl ?_
        refine LJ.callV rfl (fun k hk dk => CutsFromI_T (RdRow.up hlf) (cfR_wide h4 (by omega))) ?_
        refine LJ.gT rfl ?_
        refine LJ.yd rfl (Yd.not rfl) ?_
        refine LJ.yd rfl (Yd.pickTB rfl rfl) ?_
        refine LJ.yd rfl (Yd.mvB rfl) ?_
        refine LJ.gT rfl ?_
        refine LJ.yd rfl (Yd.fieldAddr rfl) ?_
        refine LJ.gT rfl ?_
        refine LJ.yd rfl (Yd.loadC 0 rfl rfl rfl) ?_
        refine LJ.gT rfl ?_
        refine LJ.splitD rfl (Yd.lss rfl rfl) (fun h43 => ?_) (fun h43 => ?_)
        · refine LJ.gT rfl ?_
          refine LJ.yd rfl (Yd.mvB rfl) ?_
          refine LJ.gT rfl ?_
          refine LJ.yd rfl (Yd.fieldAddr rfl) ?_
          refine LJ.gT rfl ?_
          refine LJ.yd rfl (Yd.loadC 0 rfl rfl rfl) ?_
          refine LJ.gT rfl ?_
          refine LJ.yd rfl (Yd.fieldAddr rfl) ?_
          refine LJ.gT rfl ?_
          refine LJ.yd rfl (Yd.loadC 0 rfl rfl rfl) ?_
          refine LJ.gT rfl ?_
          refine LJ.yd rfl (Yd.add rfl rfl (by unfold I64; omega)) ?_
          refine LJ.gT rfl ?_
          refine LJ.yd rfl (Yd.fieldAddr rfl) ?_
          refine LJ.gT rfl ?_
          refine LJ.yd rfl (Yd.loadC 0 rfl rfl rfl) ?_
          refine LJ.gT rfl ?_
          refine LJ.yd rfl (Yd.build (cs := [_, _, _]) rfl) ?_
          refine LJ.gT rfl ?_
          refine LJ.callV rfl (fun k hk dk => CutsFromI_T (RdRow.up hlf) (cfR_high h4 (by omega))) ?_
          refine LJ.gT rfl ?_
          refine LJ.yd rfl (Yd.not rfl) ?_
          refine LJ.gT rfl ?_
          refine LJ.yd rfl (Yd.pickTB rfl rfl) ?_
          refine LJ.yd rfl (Yd.pickFB rfl rfl) ?_
          refine LJ.nil ?_
          refine CJ.condF rfl ?_
          refine CJ.skip ?_
          refine CJ.seq ?_
          refine CJ.seq ?_
          refine CJ.region ?_
          refine LJ.yd rfl (Yd.asI rfl) ?_
          refine LJ.nil ?_
          refine CJ.block ?_
          refine CJ.loopK [3] Nat (fun i => i ≤ F.length) (fun i => [(5, vI i)]) (fun i => F.length - i) (0) ?_ ⟨rfl, trivial⟩ ?_
          · exact by omega
          · rintro i σ hk1
            refine CJ.seq ?_
            refine CJ.seq ?_
            refine CJ.region ?_
            refine LJ.yd rfl (Yd.mvI rfl) ?_
            refine LJ.yd rfl (Yd.fieldAddr rfl) ?_
            refine LJ.yd rfl (Yd.loadC 0 rfl rfl rfl) ?_
            refine LJ.yd rfl (Yd.len rfl) ?_
            refine LJ.splitD rfl (Yd.lss rfl rfl) (fun h61 => ?_) (fun h61 => ?_)
            · refine LJ.nil ?_
              refine CJ.condT rfl ?_
              refine CJ.skip ?_
              refine CJ.seq ?_
              refine CJ.block ?_
              refine CJ.seq ?_
              refine CJ.regionD [0] [] (by kernel_rfl) rfl ?_
              refine DJ.norm [_] [] rfl rfl ?_
              refine DJ.yd 0 rfl (by kernel_rfl) (by kernel_rfl) (by kernel_rfl) rfl rfl (Yd.fieldAddr rfl) ?_
              refine DJ.yd 1 rfl (by kernel_rfl) (by kernel_rfl) (by kernel_rfl) rfl rfl (Yd.loadC 0 rfl rfl rfl) ?_
              refine DJ.yd 2 rfl (by kernel_rfl) (by kernel_rfl) (by kernel_rfl) rfl rfl (Yd.fieldAddr rfl) ?_
              refine DJ.yd 3 rfl (by kernel_rfl) (by kernel_rfl) (by kernel_rfl) rfl rfl (Yd.loadC 0 rfl rfl rfl) ?_
              refine DJ.yd 5 rfl (by kernel_rfl) (by kernel_rfl) (by kernel_rfl) rfl rfl (Yd.fieldAddr rfl) ?_
              refine DJ.yd 6 rfl (by kernel_rfl) (by kernel_rfl) (by kernel_rfl) rfl rfl (Yd.loadC 0 rfl rfl rfl) ?_
              refine DJ.yd 7 rfl (by kernel_rfl) (by kernel_rfl) (by kernel_rfl) rfl rfl (Yd.mvI rfl) ?_
              refine DJ.slHA 8 rfl (by kernel_rfl) (by kernel_rfl) (by kernel_rfl) rfl rfl hlf rfl rfl (by omega) (by first | rfl | omega | (simp; done) | (simp; omega) | (simp [upN_len]; omega) | (simp [idxBy_len]; omega) | (simp [marks_len]; omega) | (simp [upN_len]; done) | (simp [idxBy_len]; done) | (simp [marks_len]; done) | (simp at *; omega)) (Row.none_cap wlf) (Row.spot wlf) (fun sm72 hsm72 hs72 => ?_)
              refine DJ.yd 10 rfl (by kernel_rfl) (by kernel_rfl) (by kernel_rfl) rfl rfl (Yd.fieldAddr rfl) ?_
              refine DJ.yd 11 rfl (by kernel_rfl) (by kernel_rfl) (by kernel_rfl) rfl rfl (Yd.loadC 0 rfl rfl rfl) ?_
              refine DJ.yd 12 rfl (by kernel_rfl) (by kernel_rfl) (by kernel_rfl) rfl rfl (Yd.mvI rfl) ?_
              refine DJ.yd 13 rfl (by kernel_rfl) (by kernel_rfl) (by kernel_rfl) rfl rfl (Yd.add rfl rfl (by unfold I64; omega)) ?_
              refine DJ.slLA 14 rfl (by kernel_rfl) (by kernel_rfl) (by kernel_rfl) rfl rfl hlf rfl rfl (by omega) (by first | rfl | omega | (simp; done) | (simp; omega) | (simp [upN_len]; omega) | (simp [idxBy_len]; omega) | (simp [marks_len]; omega) | (simp [upN_len]; done) | (simp [idxBy_len]; done) | (simp [marks_len]; done) | (simp at *; omega)) (Row.adr wlf) (fun sa78 sm78 sc78 hsm78 hs78 => ?_)
              refine DJ.one (i := 4) (by kernel_rfl) ?_
              refine DO.op rfl rfl rfl (fun k0 hk0 dk0 => OpR.buildSlice (cs := []) rfl rfl) ?_
              rintro _ _ ⟨b2, rfl, rfl⟩
              refine DJ.one (i := 9) (by kernel_rfl) ?_
              refine DO.imp1 0 rfl (fun _ h => Cel.lr (enc := Pane.enc) (k := 4) (m := 0) [] rfl rfl rfl rfl h) ?_
              refine DO.norm [_] rfl ?_
              refine DO.op rfl rfl rfl (fun k0 hk0 dk0 => OpR.apA (enc := Pane.enc) 0 rfl (RdRow.up hs72) rfl (by first | rfl | omega | (simp; done) | (simp; omega) | (simp [upN_len]; omega) | (simp [idxBy_len]; omega) | (simp [marks_len]; omega) | (simp [upN_len]; done) | (simp [idxBy_len]; done) | (simp [marks_len]; done) | (simp at *; omega)) rfl (fun _ => rfl) (by first | rfl | omega | (simp; done) | (simp; omega) | (simp [upN_len]; omega) | (simp [idxBy_len]; omega) | (simp [marks_len]; omega) | (simp [upN_len]; done) | (simp [idxBy_len]; done) | (simp [marks_len]; done) | (simp at *; omega))) ?_
              rintro _ _ ⟨ra73, rc73, rfl, rfl⟩
              refine DJ.norm [_] [_] rfl rfl ?_
              refine DJ.one (i := 15) (by kernel_rfl) ?_
              refine DO.op rfl rfl rfl (fun k0 hk0 dk0 => OpR.apA (enc := Pane.enc) 0 rfl (RdRow.up hs78) rfl (by first | rfl | omega | (simp; done) | (simp; omega) | (simp [upN_len]; omega) | (simp [idxBy_len]; omega) | (simp [marks_len]; omega) | (simp [upN_len]; done) | (simp [idxBy_len]; done) | (simp [marks_len]; done) | (simp at *; omega)) rfl (fun _ => rfl) (by first | rfl | omega | (simp; done) | (simp; omega) | (simp [upN_len]; omega) | (simp [idxBy_len]; omega) | (simp [marks_len]; omega) | (simp [upN_len]; done) | (simp [idxBy_len]; done) | (simp [marks_len]; done) | (simp at *; omega))) ?_
              rintro _ _ ⟨ra79, rc79, rfl, rfl⟩
              refine DJ.norm [_] [_] rfl rfl ?_
              refine DJ.yd 16 rfl (by kernel_rfl) (by kernel_rfl) (by kernel_rfl) rfl rfl (Yd.build (cs := [_, _, _]) rfl) ?_
              refine DJ.one (i := 17) (by kernel_rfl) ?_
              refine DO.callV rfl rfl rfl (fun k0 hk0 dk0 k hk dk => CutsFromI_T (Sts.lr hk dk 0 (by simp; omega) rfl) (by rw [List.nil_append, show sm72 = i by omega, show ((i : Int) + 1).toNat = i + 1 by omega]; exact cfR_wo h4 (by omega))) ?_
              refine DJ.yd 18 rfl (by kernel_rfl) (by kernel_rfl) (by kernel_rfl) rfl rfl (Yd.not rfl) ?_
              refine DJ.done (by kernel_rfl) ?_
              refine CJ.condF rfl ?_
              refine CJ.skip ?_
              refine CJ.region ?_
              refine LJ.yd rfl (Yd.mvI rfl) ?_
              refine LJ.yd rfl (Yd.add rfl rfl (by unfold I64; omega)) ?_
              refine LJ.yd rfl (Yd.asI rfl) ?_
              refine LJ.nil ?_
              refine ⟨(i + 1), ?_, ⟨rfl, trivial⟩, ⟨rfl, trivial⟩, Ent.pick [0] [1] rfl, ?_⟩
              · omega
              · first | omega | (dsimp only; omega) | (simp only []; omega)
            · refine LJ.nil ?_
              refine CJ.condF rfl ?_
              refine CJ.exit ?_
              refine CJ.seq ?_
              have har := cfR_area h4
              obtain ⟨w1, w2, w3, w4, w5, w6⟩ := workOk_iff.1 (cfOk_iff.1 (cfR_iff.1 h4).1).1
              have hWH0 : 1 * 1 ≤ W * H := Int.mul_le_mul w1 w3 (by omega) (by omega)
              refine CJ.region ?_
              refine LJ.yd rfl (Yd.loadG (us := [_, _, _]) 0 rfl rfl rfl rfl) ?_
              refine LJ.callV rfl (fun k hk dk => AreaBound_ok (RdRow.up hlf) (cfOk_iff.1 (cfR_iff.1 h4).1).1) ?_
              refine LJ.yd rfl (Yd.cmpT (Yd.leq rfl rfl) (rnd_le (by omega) har)) ?_
              refine LJ.yd rfl (Yd.asB rfl) ?_
              refine LJ.nil ?_
              refine CJ.ret ?_
              refine Fin.V (Res.one (ResV.tmp (v := .bool true) rfl)) ?_
              rfl
        · refine LJ.gT rfl ?_
          refine LJ.yd rfl (Yd.mvB rfl) ?_
          refine LJ.gF rfl rfl ?_
          refine LJ.gF rfl rfl ?_
          refine LJ.gF rfl rfl ?_
          refine LJ.gF rfl rfl ?_
          refine LJ.gF rfl rfl ?_
          refine LJ.gF rfl rfl ?_
          refine LJ.gF rfl rfl ?_
          refine LJ.gF rfl rfl ?_
          refine LJ.gF rfl rfl ?_
          refine LJ.gF rfl rfl ?_
          refine LJ.gT rfl ?_
          refine LJ.yd rfl (Yd.pickFB rfl rfl) ?_
          refine LJ.yd rfl (Yd.pickFB rfl rfl) ?_
          refine LJ.nil ?_
          refine CJ.condF rfl ?_
          refine CJ.skip ?_
          refine CJ.seq ?_
          refine CJ.seq ?_
          refine CJ.region ?_
          refine LJ.yd rfl (Yd.asI rfl) ?_
          refine LJ.nil ?_
          refine CJ.block ?_
          refine CJ.loopK [3] Nat (fun i => i ≤ F.length) (fun i => [(5, vI i)]) (fun i => F.length - i) (0) ?_ ⟨rfl, trivial⟩ ?_
          · exact by omega
          · rintro i σ hk1
            refine CJ.seq ?_
            refine CJ.seq ?_
            refine CJ.region ?_
            refine LJ.yd rfl (Yd.mvI rfl) ?_
            refine LJ.yd rfl (Yd.fieldAddr rfl) ?_
            refine LJ.yd rfl (Yd.loadC 0 rfl rfl rfl) ?_
            refine LJ.yd rfl (Yd.len rfl) ?_
            refine LJ.splitD rfl (Yd.lss rfl rfl) (fun h61 => ?_) (fun h61 => ?_)
            · refine LJ.nil ?_
              refine CJ.condT rfl ?_
              refine CJ.skip ?_
              refine CJ.seq ?_
              refine CJ.block ?_
              refine CJ.seq ?_
              refine CJ.regionD [0] [] (by kernel_rfl) rfl ?_
              refine DJ.norm [_] [] rfl rfl ?_
              refine DJ.yd 0 rfl (by kernel_rfl) (by kernel_rfl) (by kernel_rfl) rfl rfl (Yd.fieldAddr rfl) ?_
              refine DJ.yd 1 rfl (by kernel_rfl) (by kernel_rfl) (by kernel_rfl) rfl rfl (Yd.loadC 0 rfl rfl rfl) ?_
              refine DJ.yd 2 rfl (by kernel_rfl) (by kernel_rfl) (by kernel_rfl) rfl rfl (Yd.fieldAddr rfl) ?_
              refine DJ.yd 3 rfl (by kernel_rfl) (by kernel_rfl) (by kernel_rfl) rfl rfl (Yd.loadC 0 rfl rfl rfl) ?_
              refine DJ.yd 5 rfl (by kernel_rfl) (by kernel_rfl) (by kernel_rfl) rfl rfl (Yd.fieldAddr rfl) ?_
              refine DJ.yd 6 rfl (by kernel_rfl) (by kernel_rfl) (by kernel_rfl) rfl rfl (Yd.loadC 0 rfl rfl rfl) ?_
              refine DJ.yd 7 rfl (by kernel_rfl) (by kernel_rfl) (by kernel_rfl) rfl rfl (Yd.mvI rfl) ?_
              refine DJ.slHA 8 rfl (by kernel_rfl) (by kernel_rfl) (by kernel_rfl) rfl rfl hlf rfl rfl (by omega) (by first | rfl | omega | (simp; done) | (simp; omega) | (simp [upN_len]; omega) | (simp [idxBy_len]; omega) | (simp [marks_len]; omega) | (simp [upN_len]; done) | (simp [idxBy_len]; done) | (simp [marks_len]; done) | (simp at *; omega)) (Row.none_cap wlf) (Row.spot wlf) (fun sm72 hsm72 hs72 => ?_)
              refine DJ.yd 10 rfl (by kernel_rfl) (by kernel_rfl) (by kernel_rfl) rfl rfl (Yd.fieldAddr rfl) ?_
              refine DJ.yd 11 rfl (by kernel_rfl) (by kernel_rfl) (by kernel_rfl) rfl rfl (Yd.loadC 0 rfl rfl rfl) ?_
              refine DJ.yd 12 rfl (by kernel_rfl) (by kernel_rfl) (by kernel_rfl) rfl rfl (Yd.mvI rfl) ?_
              refine DJ.yd 13 rfl (by kernel_rfl) (by kernel_rfl) (by kernel_rfl) rfl rfl (Yd.add rfl rfl (by unfold I64; omega)) ?_
              refine DJ.slLA 14 rfl (by kernel_rfl) (by kernel_rfl) (by kernel_rfl) rfl rfl hlf rfl rfl (by omega) (by first | rfl | omega | (simp; done) | (simp; omega) | (simp [upN_len]; omega) | (simp [idxBy_len]; omega) | (simp [marks_len]; omega) | (simp [upN_len]; done) | (simp [idxBy_len]; done) | (simp [marks_len]; done) | (simp at *; omega)) (Row.adr wlf) (fun sa78 sm78 sc78 hsm78 hs78 => ?_)
              refine DJ.one (i := 4) (by kernel_rfl) ?_
              refine DO.op rfl rfl rfl (fun k0 hk0 dk0 => OpR.buildSlice (cs := []) rfl rfl) ?_
              rintro _ _ ⟨b3, rfl, rfl⟩
              refine DJ.one (i := 9) (by kernel_rfl) ?_
              refine DO.imp1 0 rfl (fun _ h => Cel.lr (enc := Pane.enc) (k := 4) (m := 0) [] rfl rfl rfl rfl h) ?_
              refine DO.norm [_] rfl ?_
              refine DO.op rfl rfl rfl (fun k0 hk0 dk0 => OpR.apA (enc := Pane.enc) 0 rfl (RdRow.up hs72) rfl (by first | rfl | omega | (simp; done) | (simp; omega) | (simp [upN_len]; omega) | (simp [idxBy_len]; omega) | (simp [marks_len]; omega) | (simp [upN_len]; done) | (simp [idxBy_len]; done) | (simp [marks_len]; done) | (simp at *; omega)) rfl (fun _ => rfl) (by first | rfl | omega | (simp; done) | (simp; omega) | (simp [upN_len]; omega) | (simp [idxBy_len]; omega) | (simp [marks_len]; omega) | (simp [upN_len]; done) | (simp [idxBy_len]; done) | (simp [marks_len]; done) | (simp at *; omega))) ?_
              rintro _ _ ⟨ra73, rc73, rfl, rfl⟩
              refine DJ.norm [_] [_] rfl rfl ?_
              refine DJ.one (i := 15) (by kernel_rfl) ?_
              refine DO.op rfl rfl rfl (fun k0 hk0 dk0 => OpR.apA (enc := Pane.enc) 0 rfl (RdRow.up hs78) rfl (by first | rfl | omega | (simp; done) | (simp; omega) | (simp [upN_len]; omega) | (simp [idxBy_len]; omega) | (simp [marks_len]; omega) | (simp [upN_len]; done) | (simp [idxBy_len]; done) | (simp [marks_len]; done) | (simp at *; omega)) rfl (fun _ => rfl) (by first | rfl | omega | (simp; done) | (simp; omega) | (simp [upN_len]; omega) | (simp [idxBy_len]; omega) | (simp [marks_len]; omega) | (simp [upN_len]; done) | (simp [idxBy_len]; done) | (simp [marks_len]; done) | (simp at *; omega))) ?_
              rintro _ _ ⟨ra79, rc79, rfl, rfl⟩
              refine DJ.norm [_] [_] rfl rfl ?_
              refine DJ.yd 16 rfl (by kernel_rfl) (by kernel_rfl) (by kernel_rfl) rfl rfl (Yd.build (cs := [_, _, _]) rfl) ?_
              refine DJ.one (i := 17) (by kernel_rfl) ?_
              refine DO.callV rfl rfl rfl (fun k0 hk0 dk0 k hk dk => CutsFromI_T (Sts.lr hk dk 0 (by simp; omega) rfl) (by rw [List.nil_append, show sm72 = i by omega, show ((i : Int) + 1).toNat = i + 1 by omega]; exact cfR_wo h4 (by omega))) ?_
              refine DJ.yd 18 rfl (by kernel_rfl) (by kernel_rfl) (by kernel_rfl) rfl rfl (Yd.not rfl) ?_
              refine DJ.done (by kernel_rfl) ?_
              refine CJ.condF rfl ?_
              refine CJ.skip ?_
              refine CJ.region ?_
              refine LJ.yd rfl (Yd.mvI rfl) ?_
              refine LJ.yd rfl (Yd.add rfl rfl (by unfold I64; omega)) ?_
              refine LJ.yd rfl (Yd.asI rfl) ?_
              refine LJ.nil ?_
              refine ⟨(i + 1), ?_, ⟨rfl, trivial⟩, ⟨rfl, trivial⟩, Ent.pick [0] [1] rfl, ?_⟩
              · omega
              · first | omega | (dsimp only; omega) | (simp only []; omega)
            · refine LJ.nil ?_
              refine CJ.condF rfl ?_
              refine CJ.exit ?_
              refine CJ.seq ?_
              have har := cfR_area h4
              obtain ⟨w1, w2, w3, w4, w5, w6⟩ := workOk_iff.1 (cfOk_iff.1 (cfR_iff.1 h4).1).1
              have hWH0 : 1 * 1 ≤ W * H := Int.mul_le_mul w1 w3 (by omega) (by omega)
              refine CJ.region ?_
              refine LJ.yd rfl (Yd.loadG (us := [_, _, _]) 0 rfl rfl rfl rfl) ?_
              refine LJ.callV rfl (fun k hk dk => AreaBound_ok (RdRow.up hlf) (cfOk_iff.1 (cfR_iff.1 h4).1).1) ?_
              refine LJ.yd rfl (Yd.cmpT (Yd.leq rfl rfl) (rnd_le (by omega) har)) ?_
              refine LJ.yd rfl (Yd.asB rfl) ?_
              refine LJ.nil ?_
              refine CJ.ret ?_
              refine Fin.V (Res.one (ResV.tmp (v := .bool true) rfl)) ?_
              rfl
      · refine LJ.yd rfl (Yd.mvB rfl) ?_
        refine LJ.gF rfl rfl ?_
        refine LJ.gF rfl rfl ?_
        refine LJ.gF rfl rfl ?_
        refine LJ.gF rfl rfl ?_
        refine LJ.gF rfl rfl ?_
        refine LJ.gF rfl rfl ?_
        refine LJ.gF rfl rfl ?_
        refine LJ.gF rfl rfl ?_
        refine LJ.gF rfl rfl ?_
        refine LJ.gF rfl rfl ?_
        refine LJ.yd rfl (Yd.pickFB rfl rfl) ?_
        refine LJ.yd rfl (Yd.mvB rfl) ?_
        refine LJ.gT rfl ?_
        refine LJ.yd rfl (Yd.fieldAddr rfl) ?_
        refine LJ.gT rfl ?_
        refine LJ.yd rfl (Yd.loadC 0 rfl rfl rfl) ?_
        refine LJ.gT rfl ?_
        refine LJ.splitD rfl (Yd.lss rfl rfl) (fun h43 => ?_) (fun h43 => ?_)
        · refine LJ.gT rfl ?_
          refine LJ.yd rfl (Yd.mvB rfl) ?_
          refine LJ.gT rfl ?_
          refine LJ.yd rfl (Yd.fieldAddr rfl) ?_
          refine LJ.gT rfl ?_
          refine LJ.yd rfl (Yd.loadC 0 rfl rfl rfl) ?_
          refine LJ.gT rfl ?_
          refine LJ.yd rfl (Yd.fieldAddr rfl) ?_
          refine LJ.gT rfl ?_
          refine LJ.yd rfl (Yd.loadC 0 rfl rfl rfl) ?_
          refine LJ.gT rfl ?_
          refine LJ.yd rfl (Yd.add rfl rfl (by unfold I64; omega)) ?_
          refine LJ.gT rfl ?_
          refine LJ.yd rfl (Yd.fieldAddr rfl) ?_
          refine LJ.gT rfl ?_
          refine LJ.yd rfl (Yd.loadC 0 rfl rfl rfl) ?_
          refine LJ.gT rfl ?_
          refine LJ.yd rfl (Yd.build (cs := [_, _, _]) rfl) ?_
          refine LJ.gT rfl ?_
          refine LJ.callV rfl (fun k hk dk => CutsFromI_T (RdRow.up hlf) (cfR_high h4 (by omega))) ?_
          refine LJ.gT rfl ?_
          refine LJ.yd rfl (Yd.not rfl) ?_
          refine LJ.gT rfl ?_
          refine LJ.yd rfl (Yd.pickTB rfl rfl) ?_
          refine LJ.yd rfl (Yd.pickFB rfl rfl) ?_
          refine LJ.nil ?_
          refine CJ.condF rfl ?_
          refine CJ.skip ?_
          refine CJ.seq ?_
          refine CJ.seq ?_
          refine CJ.region ?_
          refine LJ.yd rfl (Yd.asI rfl) ?_
          refine LJ.nil ?_
          refine CJ.block ?_
          refine CJ.loopK [3] Nat (fun i => i ≤ F.length) (fun i => [(5, vI i)]) (fun i => F.length - i) (0) ?_ ⟨rfl, trivial⟩ ?_
          · exact by omega
          · rintro i σ hk1
            refine CJ.seq ?_
            refine CJ.seq ?_
            refine CJ.region ?_
            refine LJ.yd rfl (Yd.mvI rfl) ?_
            refine LJ.yd rfl (Yd.fieldAddr rfl) ?_
            refine LJ.yd rfl (Yd.loadC 0 rfl rfl rfl) ?_
            refine LJ.yd rfl (Yd.len rfl) ?_
            refine LJ.splitD rfl (Yd.lss rfl rfl) (fun h61 => ?_) (fun h61 => ?_)
            · refine LJ.nil ?_
              refine CJ.condT rfl ?_
              refine CJ.skip ?_
              refine CJ.seq ?_
              refine CJ.block ?_
              refine CJ.seq ?_
              refine CJ.regionD [0] [] (by kernel_rfl) rfl ?_
              refine DJ.norm [_] [] rfl rfl ?_
              refine DJ.yd 0 rfl (by kernel_rfl) (by kernel_rfl) (by kernel_rfl) rfl rfl (Yd.fieldAddr rfl) ?_
              refine DJ.yd 1 rfl (by kernel_rfl) (by kernel_rfl) (by kernel_rfl) rfl rfl (Yd.loadC 0 rfl rfl rfl) ?_
              refine DJ.yd 2 rfl (by kernel_rfl) (by kernel_rfl) (by kernel_rfl) rfl rfl (Yd.fieldAddr rfl) ?_
              refine DJ.yd 3 rfl (by kernel_rfl) (by kernel_rfl) (by kernel_rfl) rfl rfl (Yd.loadC 0 rfl rfl rfl) ?_
              refine DJ.yd 5 rfl (by kernel_rfl) (by kernel_rfl) (by kernel_rfl) rfl rfl (Yd.fieldAddr rfl) ?_
              refine DJ.yd 6 rfl (by kernel_rfl) (by kernel_rfl) (by kernel_rfl) rfl rfl (Yd.loadC 0 rfl rfl rfl) ?_
              refine DJ.yd 7 rfl (by kernel_rfl) (by kernel_rfl) (by kernel_rfl) rfl rfl (Yd.mvI rfl) ?_
              refine DJ.slHA 8 rfl (by kernel_rfl) (by kernel_rfl) (by kernel_rfl) rfl rfl hlf rfl rfl (by omega) (by first | rfl | omega | (simp; done) | (simp; omega) | (simp [upN_len]; omega) | (simp [idxBy_len]; omega) | (simp [marks_len]; omega) | (simp [upN_len]; done) | (simp [idxBy_len]; done) | (simp [marks_len]; done) | (simp at *; omega)) (Row.none_cap wlf) (Row.spot wlf) (fun sm72 hsm72 hs72 => ?_)
              refine DJ.yd 10 rfl (by kernel_rfl) (by kernel_rfl) (by kernel_rfl) rfl rfl (Yd.fieldAddr rfl) ?_
              refine DJ.yd 11 rfl (by kernel_rfl) (by kernel_rfl) (by kernel_rfl) rfl rfl (Yd.loadC 0 rfl rfl rfl) ?_
              refine DJ.yd 12 rfl (by kernel_rfl) (by kernel_rfl) (by kernel_rfl) rfl rfl (Yd.mvI rfl) ?_
              refine DJ.yd 13 rfl (by kernel_rfl) (by kernel_rfl) (by kernel_rfl) rfl rfl (Yd.add rfl rfl (by unfold I64; omega)) ?_
              refine DJ.slLA 14 rfl (by kernel_rfl) (by kernel_rfl) (by kernel_rfl) rfl rfl hlf rfl rfl (by omega) (by first | rfl | omega | (simp; done) | (simp; omega) | (simp [upN_len]; omega) | (simp [idxBy_len]; omega) | (simp [marks_len]; omega) | (simp [upN_len]; done) | (simp [idxBy_len]; done) | (simp [marks_len]; done) | (simp at *; omega)) (Row.adr wlf) (fun sa78 sm78 sc78 hsm78 hs78 => ?_)
              refine DJ.one (i := 4) (by kernel_rfl) ?_
              refine DO.op rfl rfl rfl (fun k0 hk0 dk0 => OpR.buildSlice (cs := []) rfl rfl) ?_
              rintro _ _ ⟨b4, rfl, rfl⟩
              refine DJ.one (i := 9) (by kernel_rfl) ?_
              refine DO.imp1 0 rfl (fun _ h => Cel.lr (enc := Pane.enc) (k := 4) (m := 0) [] rfl rfl rfl rfl h) ?_
              refine DO.norm [_] rfl ?_
              refine DO.op rfl rfl rfl (fun k0 hk0 dk0 => OpR.apA (enc := Pane.enc) 0 rfl (RdRow.up hs72) rfl (by first | rfl | omega | (simp; done) | (simp; omega) | (simp [upN_len]; omega) | (simp [idxBy_len]; omega) | (simp [marks_len]; omega) | (simp [upN_len]; done) | (simp [idxBy_len]; done) | (simp [marks_len]; done) | (simp at *; omega)) rfl (fun _ => rfl) (by first | rfl | omega | (simp; done) | (simp; omega) | (simp [upN_len]; omega) | (simp [idxBy_len]; omega) | (simp [marks_len]; omega) | (simp [upN_len]; done) | (simp [idxBy_len]; done) | (simp [marks_len]; done) | (simp at *; omega))) ?_
              rintro _ _ ⟨ra73, rc73, rfl, rfl⟩
              refine DJ.norm [_] [_] rfl rfl ?_
              refine DJ.one (i := 15) (by kernel_rfl) ?_
              refine DO.op rfl rfl rfl (fun k0 hk0 dk0 => OpR.apA (enc := Pane.enc) 0 rfl (RdRow.up hs78) rfl (by first | rfl | omega | (simp; done) | (simp; omega) | (simp [upN_len]; omega) | (simp [idxBy_len]; omega) | (simp [marks_len]; omega) | (simp [upN_len]; done) | (simp [idxBy_len]; done) | (simp [marks_len]; done) | (simp at *; omega)) rfl (fun _ => rfl) (by first | rfl | omega | (simp; done) | (simp; omega) | (simp [upN_len]; omega) | (simp [idxBy_len]; omega) | (simp [marks_len]; omega) | (simp [upN_len]; done) | (simp [idxBy_len]; done) | (simp [marks_len]; done) | (simp at *; omega))) ?_
              rintro _ _ ⟨ra79, rc79, rfl, rfl⟩
              refine DJ.norm [_] [_] rfl rfl ?_
              refine DJ.yd 16 rfl (by kernel_rfl) (by kernel_rfl) (by kernel_rfl) rfl rfl (Yd.build (cs := [_, _, _]) rfl) ?_
              refine DJ.one (i := 17) (by kernel_rfl) ?_
              refine DO.callV rfl rfl rfl (fun k0 hk0 dk0 k hk dk => CutsFromI_T (Sts.lr hk dk 0 (by simp; omega) rfl) (by rw [List.nil_append, show sm72 = i by omega, show ((i : Int) + 1).toNat = i + 1 by omega]; exact cfR_wo h4 (by omega))) ?_
              refine DJ.yd 18 rfl (by kernel_rfl) (by kernel_rfl) (by kernel_rfl) rfl rfl (Yd.not rfl) ?_
              refine DJ.done (by kernel_rfl) ?_
              refine CJ.condF rfl ?_
              refine CJ.skip ?_
              refine CJ.region ?_
              refine LJ.yd rfl (Yd.mvI rfl) ?_
              refine LJ.yd rfl (Yd.add rfl rfl (by unfold I64; omega)) ?_
              refine LJ.yd rfl (Yd.asI rfl) ?_
              refine LJ.nil ?_
              refine ⟨(i + 1), ?_, ⟨rfl, trivial⟩, ⟨rfl, trivial⟩, Ent.pick [0] [1] rfl, ?_⟩
              · omega
              · first | omega | (dsimp only; omega) | (simp only []; omega)
            · refine LJ.nil ?_
              refine CJ.condF rfl ?_
              refine CJ.exit ?_
              refine CJ.seq ?_
              have har := cfR_area h4
              obtain ⟨w1, w2, w3, w4, w5, w6⟩ := workOk_iff.1 (cfOk_iff.1 (cfR_iff.1 h4).1).1
              have hWH0 : 1 * 1 ≤ W * H := Int.mul_le_mul w1 w3 (by omega) (by omega)
              refine CJ.region ?_
              refine LJ.yd rfl (Yd.loadG (us := [_, _, _]) 0 rfl rfl rfl rfl) ?_
              refine LJ.callV rfl (fun k hk dk => AreaBound_ok (RdRow.up hlf) (cfOk_iff.1 (cfR_iff.1 h4).1).1) ?_
              refine LJ.yd rfl (Yd.cmpT (Yd.leq rfl rfl) (rnd_le (by omega) har)) ?_
              refine LJ.yd rfl (Yd.asB rfl) ?_
              refine LJ.nil ?_
              refine CJ.ret ?_
              refine Fin.V (Res.one (ResV.tmp (v := .bool true) rfl)) ?_
              rfl
        · refine LJ.gT rfl ?_
          refine LJ.yd rfl (Yd.mvB rfl) ?_
          refine LJ.gF rfl rfl ?_
          refine LJ.gF rfl rfl ?_
          refine LJ.gF rfl rfl ?_
          refine LJ.gF rfl rfl ?_
          refine LJ.gF rfl rfl ?_
          refine LJ.gF rfl rfl ?_
          refine LJ.gF rfl rfl ?_
          refine LJ.gF rfl rfl ?_
          refine LJ.gF rfl rfl ?_
          refine LJ.gF rfl rfl ?_
          refine LJ.gT rfl ?_
          refine LJ.yd rfl (Yd.pickFB rfl rfl) ?_
          refine LJ.yd rfl (Yd.pickFB rfl rfl) ?_
          refine LJ.nil ?_
          refine CJ.condF rfl ?_
          refine CJ.skip ?_
          refine CJ.seq ?_
          refine CJ.seq ?_
          refine CJ.region ?_
          refine LJ.yd rfl (Yd.asI rfl) ?_
          refine LJ.nil ?_
          refine CJ.block ?_
          refine CJ.loopK [3] Nat (fun i => i ≤ F.length) (fun i => [(5, vI i)]) (fun i => F.length - i) (0) ?_ ⟨rfl, trivial⟩ ?_
          · exact by omega
          · rintro i σ hk1
            refine CJ.seq ?_
            refine CJ.seq ?_
            refine CJ.region ?_
            refine LJ.yd rfl (Yd.mvI rfl) ?_
            refine LJ.yd rfl (Yd.fieldAddr rfl) ?_
            refine LJ.yd rfl (Yd.loadC 0 rfl rfl rfl) ?_
            refine LJ.yd rfl (Yd.len rfl) ?_
            refine LJ.splitD rfl (Yd.lss rfl rfl) (fun h61 => ?_) (fun h61 => ?_)
            · refine LJ.nil ?_
              refine CJ.condT rfl ?_
              refine CJ.skip ?_
              refine CJ.seq ?_
              refine CJ.block ?_
              refine CJ.seq ?_
              refine CJ.regionD [0] [] (by kernel_rfl) rfl ?_
              refine DJ.norm [_] [] rfl rfl ?_
              refine DJ.yd 0 rfl (by kernel_rfl) (by kernel_rfl) (by kernel_rfl) rfl rfl (Yd.fieldAddr rfl) ?_
              refine DJ.yd 1 rfl (by kernel_rfl) (by kernel_rfl) (by kernel_rfl) rfl rfl (Yd.loadC 0 rfl rfl rfl) ?_
              refine DJ.yd 2 rfl (by kernel_rfl) (by kernel_rfl) (by kernel_rfl) rfl rfl (Yd.fieldAddr rfl) ?_
              refine DJ.yd 3 rfl (by kernel_rfl) (by kernel_rfl) (by kernel_rfl) rfl rfl (Yd.loadC 0 rfl rfl rfl) ?_
              refine DJ.yd 5 rfl (by kernel_rfl) (by kernel_rfl) (by kernel_rfl) rfl rfl (Yd.fieldAddr rfl) ?_
              refine DJ.yd 6 rfl (by kernel_rfl) (by kernel_rfl) (by kernel_rfl) rfl rfl (Yd.loadC 0 rfl rfl rfl) ?_
              refine DJ.yd 7 rfl (by kernel_rfl) (by kernel_rfl) (by kernel_rfl) rfl rfl (Yd.mvI rfl) ?_
              refine DJ.slHA 8 rfl (by kernel_rfl) (by kernel_rfl) (by kernel_rfl) rfl rfl hlf rfl rfl (by omega) (by first | rfl | omega | (simp; done) | (simp; omega) | (simp [upN_len]; omega) | (simp [idxBy_len]; omega) | (simp [marks_len]; omega) | (simp [upN_len]; done) | (simp [idxBy_len]; done) | (simp [marks_len]; done) | (simp at *; omega)) (Row.none_cap wlf) (Row.spot wlf) (fun sm72 hsm72 hs72 => ?_)
              refine DJ.yd 10 rfl (by kernel_rfl) (by kernel_rfl) (by kernel_rfl) rfl rfl (Yd.fieldAddr rfl) ?_
              refine DJ.yd 11 rfl (by kernel_rfl) (by kernel_rfl) (by kernel_rfl) rfl rfl (Yd.loadC 0 rfl rfl rfl) ?_
              refine DJ.yd 12 rfl (by kernel_rfl) (by kernel_rfl) (by kernel_rfl) rfl rfl (Yd.mvI rfl) ?_
              refine DJ.yd 13 rfl (by kernel_rfl) (by kernel_rfl) (by kernel_rfl) rfl rfl (Yd.add rfl rfl (by unfold I64; omega)) ?_
              refine DJ.slLA 14 rfl (by kernel_rfl) (by kernel_rfl) (by kernel_rfl) rfl rfl hlf rfl rfl (by omega) (by first | rfl | omega | (simp; done) | (simp; omega) | (simp [upN_len]; omega) | (simp [idxBy_len]; omega) | (simp [marks_len]; omega) | (simp [upN_len]; done) | (simp [idxBy_len]; done) | (simp [marks_len]; done) | (simp at *; omega)) (Row.adr wlf) (fun sa78 sm78 sc78 hsm78 hs78 => ?_)
              refine DJ.one (i := 4) (by kernel_rfl) ?_
              refine DO.op rfl rfl rfl (fun k0 hk0 dk0 => OpR.buildSlice (cs := []) rfl rfl) ?_
              rintro _ _ ⟨b5, rfl, rfl⟩
              refine DJ.one (i := 9) (by kernel_rfl) ?_
              refine DO.imp1 0 rfl (fun _ h => Cel.lr (enc := Pane.enc) (k := 4) (m := 0) [] rfl rfl rfl rfl h) ?_
              refine DO.norm [_] rfl ?_
              refine DO.op rfl rfl rfl (fun k0 hk0 dk0 => OpR.apA (enc := Pane.enc) 0 rfl (RdRow.up hs72) rfl (by first | rfl | omega | (simp; done) | (simp; omega) | (simp [upN_len]; omega) | (simp [idxBy_len]; omega) | (simp [marks_len]; omega) | (simp [upN_len]; done) | (simp [idxBy_len]; done) | (simp [marks_len]; done) | (simp at *; omega)) rfl (fun _ => rfl) (by first | rfl | omega | (simp; done) | (simp; omega) | (simp [upN_len]; omega) | (simp [idxBy_len]; omega) | (simp [marks_len]; omega) | (simp [upN_len]; done) | (simp [idxBy_len]; done) | (simp [marks_len]; done) | (simp at *; omega))) ?_
              rintro _ _ ⟨ra73, rc73, rfl, rfl⟩
              refine DJ.norm [_] [_] rfl rfl ?_
              refine DJ.one (i := 15) (by kernel_rfl) ?_
              refine DO.op rfl rfl rfl (fun k0 hk0 dk0 => OpR.apA (enc := Pane.enc) 0 rfl (RdRow.up hs78) rfl (by first | rfl | omega | (simp; done) | (simp; omega) | (simp [upN_len]; omega) | (simp [idxBy_len]; omega) | (simp [marks_len]; omega) | (simp [upN_len]; done) | (simp [idxBy_len]; done) | (simp [marks_len]; done) | (simp at *; omega)) rfl (fun _ => rfl) (by first | rfl | omega | (simp; done) | (simp; omega) | (simp [upN_len]; omega) | (simp [idxBy_len]; omega) | (simp [marks_len]; omega) | (simp [upN_len]; done) | (simp [idxBy_len]; done) | (simp [marks_len]; done) | (simp at *; omega))) ?_
              rintro _ _ ⟨ra79, rc79, rfl, rfl⟩
              refine DJ.norm [_] [_] rfl rfl ?_
              refine DJ.yd 16 rfl (by kernel_rfl) (by kernel_rfl) (by kernel_rfl) rfl rfl (Yd.build (cs := [_, _, _]) rfl) ?_
              refine DJ.one (i := 17) (by kernel_rfl) ?_
              refine DO.callV rfl rfl rfl (fun k0 hk0 dk0 k hk dk => CutsFromI_T (Sts.lr hk dk 0 (by simp; omega) rfl) (by rw [List.nil_append, show sm72 = i by omega, show ((i : Int) + 1).toNat = i + 1 by omega]; exact cfR_wo h4 (by omega))) ?_
              refine DJ.yd 18 rfl (by kernel_rfl) (by kernel_rfl) (by kernel_rfl) rfl rfl (Yd.not rfl) ?_
              refine DJ.done (by kernel_rfl) ?_
              refine CJ.condF rfl ?_
              refine CJ.skip ?_
              refine CJ.region ?_
              refine LJ.yd rfl (Yd.mvI rfl) ?_
              refine LJ.yd rfl (Yd.add rfl rfl (by unfold I64; omega)) ?_
              refine LJ.yd rfl (Yd.asI rfl) ?_
              refine LJ.nil ?_
              refine ⟨(i + 1), ?_, ⟨rfl, trivial⟩, ⟨rfl, trivial⟩, Ent.pick [0] [1] rfl, ?_⟩
              · omega
              · first | omega | (dsimp only; omega) | (simp only []; omega)
            · refine LJ.nil ?_
              refine CJ.condF rfl ?_
              refine CJ.exit ?_
              refine CJ.seq ?_
              have har := cfR_area h4
              obtain ⟨w1, w2, w3, w4, w5, w6⟩ := workOk_iff.1 (cfOk_iff.1 (cfR_iff.1 h4).1).1
              have hWH0 : 1 * 1 ≤ W * H := Int.mul_le_mul w1 w3 (by omega) (by omega)
              refine CJ.region ?_
              refine LJ.yd rfl (Yd.loadG (us := [_, _, _]) 0 rfl rfl rfl rfl) ?_
              refine LJ.callV rfl (fun k hk dk => AreaBound_ok (RdRow.up hlf) (cfOk_iff.1 (cfR_iff.1 h4).1).1) ?_
              refine LJ.yd rfl (Yd.cmpT (Yd.leq rfl rfl) (rnd_le (by omega) har)) ?_
              refine LJ.yd rfl (Yd.asB rfl) ?_
              refine LJ.nil ?_
              refine CJ.ret ?_
              refine Fin.V (Res.one (ResV.tmp (v := .bool true) rfl)) ?_
              rfl
    · refine LJ.nil ?_
      refine CJ.seq ?_
      refine CJ.seq ?_
      refine CJ.region ?_
      refine LJ.yd rfl (Yd.mvB rfl) ?_
      refine LJ.yd rfl (Yd.loadG (us := [_, _, _]) 0 rfl rfl rfl rfl) ?_
      refine LJ.callV rfl (fun k hk dk => CutsFromS_ok (RdRow.up hlf)) ?_
      refine LJ.yd rfl (Yd.cmpNF (Yd.neqB rfl rfl) (by simp [h4])) ?_
      refine LJ.yd rfl (Yd.mvB rfl) ?_
      refine LJ.gT rfl ?_
      refine LJ.yd rfl (Yd.mvB rfl) ?_
      refine LJ.gT rfl ?_
      refine LJ.yd rfl (Yd.not rfl) ?_
      refine LJ.yd rfl (Yd.pickFB rfl rfl) ?_
      refine LJ.nil ?_
      refine CJ.condT rfl ?_
      refine CJ.seq ?_
      refine CJ.region ?_
      refine LJ.yd rfl (Yd.mvB rfl) ?_
      refine LJ.yd rfl (Yd.loadG (us := [_, _, _]) 0 rfl rfl rfl rfl) ?_
      refine LJ.callV rfl (fun k hk dk => CutsFromS_ok (RdRow.up hlf)) ?_
      refine LJ.yd rfl (Yd.cmpT (Yd.eqlB rfl rfl) (by simp [h4])) ?_
      refine LJ.yd rfl (Yd.asB rfl) ?_
      refine LJ.nil ?_
      refine CJ.ret ?_
      refine Fin.V (Res.one (ResV.tmp (v := .bool true) rfl)) ?_
      rfl
theorem FnCutsFromTurned_ok {A : Amb} {a : Option Addr} {n c : Nat} (h : Code A.h a n c) : Ctr Try.prog 7 #[.slice a n c] A [] (Val (.bool true)) := by
  refine Ctr.body (args := [_]) Try.func7 rfl Try.ntmps7 Try.results7 (by simp) ?_
  refine CJ.seq ?_
  refine CJ.region ?_
  refine LJ.yd rfl (Yd.asB rfl) ?_
  refine LJ.nil ?_
  refine CJ.seq ?_
  refine CJ.seq ?_
  refine CJ.region ?_
  refine LJ.yd rfl (Yd.mvS rfl) ?_
  refine LJ.yd rfl (Yd.len rfl) ?_
  refine LJ.splitD rfl (Yd.gtr rfl rfl) (fun h9 => ?_) (fun h9 => ?_)
  · refine LJ.nil ?_
    refine CJ.condT rfl ?_
    refine CJ.seq ?_
    refine CJ.region ?_
    refine LJ.yd rfl (Yd.asB rfl) ?_
    refine LJ.nil ?_
    refine CJ.ret ?_
    refine Fin.V (Res.one (ResV.tmp (v := .bool true) rfl)) ?_
    rfl
  · refine LJ.nil ?_
    refine CJ.condF rfl ?_
    refine CJ.skip ?_
    refine CJ.seq ?_
    refine CJ.region ?_
    refine LJ.yd rfl (Yd.mvS rfl) ?_
    refine LJ.call0 rfl (fun k hk dk => DrawCutsFrom_ok h.up) ?_
    rintro _ _ ⟨W, H, F, fa, fm, fc, rfl, rfl, rfl, hW, hH, hFl⟩
    refine LJ.norm [_] rfl ?_
    refine LJ.alloc ([_, _, _] : List Value) rfl rfl (fun b1 => ?_)
    refine LJ.store (v := .agg #[_, _, _]) (us := [_, _, _]) 1 rfl rfl rfl rfl rfl rfl rfl rfl ?_
    refine LJ.nil ?_
    refine CJ.seq ?_
    refine CJ.amb (perm_pickF _ [0] [1] rfl) (fun mlf wlf dlf => ?_)
    refine CJ.norm [_] rfl ?_
    have hlf := Row.toA (enc := Pane.enc) wlf dlf (by first | rfl | omega | (simp; done) | (simp; omega) | (simp [upN_len]; omega) | (simp [idxBy_len]; omega) | (simp [marks_len]; omega) | (simp [upN_len]; done) | (simp [idxBy_len]; done) | (simp [marks_len]; done) | (simp at *; omega))
    refine CJ.region ?_
    refine LJ.yd rfl (Yd.loadG (us := [_, _, _]) 0 rfl rfl rfl rfl) ?_
    refine LJ.callV rfl (fun k hk dk => CutsFromI_ok (RdRow.up hlf)) ?_
    refine LJ.yd rfl (Yd.asB rfl) ?_
    refine LJ.nil ?_
    refine CJ.seq ?_
    refine CJ.seq ?_
    refine CJ.region ?_
    refine LJ.yd rfl (Yd.mvB rfl) ?_
    refine LJ.yd rfl (Yd.loadG (us := [_, _, _]) 0 rfl rfl rfl rfl) ?_
    refine LJ.callV rfl (fun k hk dk => CutsFromS_ok (RdRow.up hlf)) ?_
    refine LJ.yd rfl (Yd.cmpNF (Yd.neqB rfl rfl) (by simp)) ?_
    refine LJ.yd rfl (Yd.mvB rfl) ?_
    refine LJ.gT rfl ?_
    refine LJ.yd rfl (Yd.loadG (us := [_, _, _]) 0 rfl rfl rfl rfl) ?_
    refine LJ.gT rfl ?_
    refine LJ.callB rfl (fun k hk dk => validWorkI_ok (RdRow.up hlf)) (fun h20 => ?_) (fun h20 => ?_)
    · refine LJ.gT rfl ?_
      refine LJ.yd rfl (Yd.not rfl) ?_
      refine LJ.yd rfl (Yd.pickFB rfl rfl) ?_
      refine LJ.nil ?_
      refine CJ.condF rfl ?_
      refine CJ.skip ?_
      refine CJ.seq ?_
      refine CJ.region ?_
      refine LJ.yd rfl (Yd.fieldAddr rfl) ?_
      refine LJ.yd rfl (Yd.loadC 0 rfl rfl rfl) ?_
      refine LJ.yd rfl (Yd.fieldAddr rfl) ?_
      refine LJ.yd rfl (Yd.loadC 0 rfl rfl rfl) ?_
      refine LJ.yd rfl (Yd.build (cs := [_, _, _]) rfl) ?_
      refine LJ.alloc ([_, _, _] : List Value) rfl rfl (fun b2 => ?_)
      refine LJ.store (v := .agg #[_, _, _]) (us := [_, _, _]) 1 rfl rfl rfl rfl rfl rfl rfl rfl ?_
      refine LJ.nil ?_
      refine CJ.seq ?_
      refine CJ.seq ?_
      refine CJ.ent (Ent.addLR Pane.enc 28 4) ?_
      refine CJ.norm [_, _, _] rfl ?_
      refine CJ.region ?_
      refine LJ.yd rfl (Yd.asI rfl) ?_
      refine LJ.nil ?_
      refine CJ.block ?_
      refine CJ.loopF [2, 3, 4, 5] (Nat × List Pane × Option Addr × Nat × Nat) (fun ⟨i, Q, qa, qn, qc⟩ => i ≤ F.length ∧ Q = (F.take i).map trn ∧ qn = Q.length ∧ Q.length ≤ i) (fun ⟨i, Q, qa, qn, qc⟩ => [(6, vI i)]) (fun ⟨i, Q, qa, qn, qc⟩ => [Cel b2 46 [vI H, vI W, .slice qa qn qc], LR Pane.enc 28 4 qa qc Q]) (fun ⟨i, Q, qa, qn, qc⟩ => F.length - i) (0, [], _, _, _) [_] [0] [1, 2] rfl rfl rfl ?_ ⟨rfl, trivial⟩ ?_
      · exact ⟨by omega, rfl, rfl, by simp⟩
      · rintro ⟨i, Q, qa, qn, qc⟩ σ ⟨hi1, hQ, hqn, hQl⟩
        refine CJ.norm [_, _, _] rfl ?_
        subst hqn
        refine CJ.seq ?_
        refine CJ.seq ?_
        refine CJ.region ?_
        refine LJ.yd rfl (Yd.mvI rfl) ?_
        refine LJ.yd rfl (Yd.fieldAddr rfl) ?_
        refine LJ.yd rfl (Yd.loadC 0 rfl rfl rfl) ?_
        refine LJ.yd rfl (Yd.len rfl) ?_
        refine LJ.splitD rfl (Yd.lss rfl rfl) (fun h36 => ?_) (fun h36 => ?_)
        · refine LJ.nil ?_
          refine CJ.condT rfl ?_
          refine CJ.skip ?_
          refine CJ.seq ?_
          refine CJ.block ?_
          refine CJ.regionD [0] [1, 2] (by kernel_rfl) rfl ?_
          refine DJ.norm [_] [_, _] rfl rfl ?_
          refine DJ.yd 0 rfl (by kernel_rfl) (by kernel_rfl) (by kernel_rfl) rfl rfl (Yd.fieldAddr rfl) ?_
          refine DJ.yd 2 rfl (by kernel_rfl) (by kernel_rfl) (by kernel_rfl) rfl rfl (Yd.fieldAddr rfl) ?_
          refine DJ.yd 3 rfl (by kernel_rfl) (by kernel_rfl) (by kernel_rfl) rfl rfl (Yd.loadC 0 rfl rfl rfl) ?_
          refine DJ.yd 4 rfl (by kernel_rfl) (by kernel_rfl) (by kernel_rfl) rfl rfl (Yd.mvI rfl) ?_
          refine DJ.idxA 5 rfl (by kernel_rfl) (by kernel_rfl) (by kernel_rfl) rfl rfl hlf rfl rfl (by omega) (by first | rfl | omega | (simp; done) | (simp; omega) | (simp [upN_len]; omega) | (simp [idxBy_len]; omega) | (simp [marks_len]; omega) | (simp [upN_len]; done) | (simp [idxBy_len]; done) | (simp [marks_len]; done) | (simp at *; omega)) (fun ib44 io44 ia44 ir44 => ?_)
          refine DJ.lgA 6 rfl (by kernel_rfl) (by kernel_rfl) (by kernel_rfl) rfl rfl (enc := Pane.enc) (fun u => [vI u.W, vI u.H, .bool u.Turns, vI u.Kind]) (fun _ => rfl) (fun _ => rfl) ir44 rfl rfl (by first | rfl | omega | (simp; done) | (simp; omega) | (simp [upN_len]; omega) | (simp [idxBy_len]; omega) | (simp [marks_len]; omega) | (simp [upN_len]; done) | (simp [idxBy_len]; done) | (simp [marks_len]; done) | (simp at *; omega)) (fun u45 hu45 => ?_)
          try simp only [Int.toNat_natCast] at hu45
          refine DJ.two (i := 1) (j := 7) (by kernel_rfl) ?_ ?_
          · refine DO.yd rfl rfl rfl (fun _ _ _ => Yd.loadC 0 rfl rfl rfl) ?_
            refine DJ.one (i := 7) (by kernel_rfl) ?_
            refine DO.callV rfl rfl rfl (fun k0 hk0 dk0 k hk dk => TurnPane_k ((workOk_iff.1 h20).2.2.2.2.2 u45 (List.mem_of_getElem? hu45))) ?_
            refine DJ.one (i := 8) (by kernel_rfl) ?_
            refine DO.op rfl rfl rfl (fun k0 hk0 dk0 => OpR.buildSlice (cs := [_, _, _, _]) rfl rfl) ?_
            rintro _ _ ⟨b3, rfl, rfl⟩
            refine DJ.one (i := 9) (by kernel_rfl) ?_
            refine DO.op rfl rfl rfl (fun k0 hk0 dk0 => OpR.apT (enc := Pane.enc) [trn u45] 1 2 rfl rfl rfl (by first | rfl | omega | (simp; done) | (simp; omega) | (simp [upN_len]; omega) | (simp [idxBy_len]; omega) | (simp [marks_len]; omega) | (simp [upN_len]; done) | (simp [idxBy_len]; done) | (simp [marks_len]; done) | (simp at *; omega)) rfl rfl rfl rfl rfl (by first | rfl | omega | (simp; done) | (simp; omega) | (simp [upN_len]; omega) | (simp [idxBy_len]; omega) | (simp [marks_len]; omega) | (simp [upN_len]; done) | (simp [idxBy_len]; done) | (simp [marks_len]; done) | (simp at *; omega))) ?_
            rintro _ _ ⟨ra48, rc48, rfl, rfl⟩
            refine DJ.norm [_] [_, _, _] rfl rfl ?_
            refine DJ.yd 10 rfl (by kernel_rfl) (by kernel_rfl) (by kernel_rfl) rfl rfl (Yd.fieldAddr rfl) ?_
            refine DJ.one (i := 11) (by kernel_rfl) ?_
            refine DO.store (v := .slice _ _ _) (us := [_, _, _]) 0 rfl rfl rfl rfl rfl rfl rfl rfl rfl rfl ?_
            refine DJ.done (by kernel_rfl) ?_
            refine CJ.region ?_
            refine LJ.yd rfl (Yd.mvI rfl) ?_
            refine LJ.yd rfl (Yd.add rfl rfl (by unfold I64; omega)) ?_
            refine LJ.yd rfl (Yd.asI rfl) ?_
            refine LJ.nil ?_
            refine ⟨(i + 1, _, _, _, _), ?_, ⟨rfl, rfl, rfl, rfl, trivial⟩, ⟨rfl, trivial⟩, Ent.pick [0, 1, 2] [3] rfl, ?_⟩
            · exact ⟨by omega, by rw [takeC hu45, List.map_append, ← hQ]; rfl, by simp, by simp; omega⟩
            · first | omega | (dsimp only; omega) | (simp only []; omega)
          · refine DO.callV rfl rfl rfl (fun k0 hk0 dk0 k hk dk => TurnPane_k ((workOk_iff.1 h20).2.2.2.2.2 u45 (List.mem_of_getElem? hu45))) ?_
            refine DJ.two (i := 1) (j := 8) (by kernel_rfl) ?_ ?_
            · refine DO.yd rfl rfl rfl (fun _ _ _ => Yd.loadC 0 rfl rfl rfl) ?_
              refine DJ.one (i := 8) (by kernel_rfl) ?_
              refine DO.op rfl rfl rfl (fun k0 hk0 dk0 => OpR.buildSlice (cs := [_, _, _, _]) rfl rfl) ?_
              rintro _ _ ⟨b4, rfl, rfl⟩
              refine DJ.one (i := 9) (by kernel_rfl) ?_
              refine DO.op rfl rfl rfl (fun k0 hk0 dk0 => OpR.apT (enc := Pane.enc) [trn u45] 1 2 rfl rfl rfl (by first | rfl | omega | (simp; done) | (simp; omega) | (simp [upN_len]; omega) | (simp [idxBy_len]; omega) | (simp [marks_len]; omega) | (simp [upN_len]; done) | (simp [idxBy_len]; done) | (simp [marks_len]; done) | (simp at *; omega)) rfl rfl rfl rfl rfl (by first | rfl | omega | (simp; done) | (simp; omega) | (simp [upN_len]; omega) | (simp [idxBy_len]; omega) | (simp [marks_len]; omega) | (simp [upN_len]; done) | (simp [idxBy_len]; done) | (simp [marks_len]; done) | (simp at *; omega))) ?_
              rintro _ _ ⟨ra48, rc48, rfl, rfl⟩
              refine DJ.norm [_] [_, _, _] rfl rfl ?_
              refine DJ.yd 10 rfl (by kernel_rfl) (by kernel_rfl) (by kernel_rfl) rfl rfl (Yd.fieldAddr rfl) ?_
              refine DJ.one (i := 11) (by kernel_rfl) ?_
              refine DO.store (v := .slice _ _ _) (us := [_, _, _]) 0 rfl rfl rfl rfl rfl rfl rfl rfl rfl rfl ?_
              refine DJ.done (by kernel_rfl) ?_
              refine CJ.region ?_
              refine LJ.yd rfl (Yd.mvI rfl) ?_
              refine LJ.yd rfl (Yd.add rfl rfl (by unfold I64; omega)) ?_
              refine LJ.yd rfl (Yd.asI rfl) ?_
              refine LJ.nil ?_
              refine ⟨(i + 1, _, _, _, _), ?_, ⟨rfl, rfl, rfl, rfl, trivial⟩, ⟨rfl, trivial⟩, Ent.pick [0, 1, 2] [3] rfl, ?_⟩
              · exact ⟨by omega, by rw [takeC hu45, List.map_append, ← hQ]; rfl, by simp, by simp; omega⟩
              · first | omega | (dsimp only; omega) | (simp only []; omega)
            · refine DO.op rfl rfl rfl (fun k0 hk0 dk0 => OpR.buildSlice (cs := [_, _, _, _]) rfl rfl) ?_
              rintro _ _ ⟨b5, rfl, rfl⟩
              refine DJ.one (i := 1) (by kernel_rfl) ?_
              refine DO.yd rfl rfl rfl (fun _ _ _ => Yd.loadC 0 rfl rfl rfl) ?_
              refine DJ.one (i := 9) (by kernel_rfl) ?_
              refine DO.op rfl rfl rfl (fun k0 hk0 dk0 => OpR.apT (enc := Pane.enc) [trn u45] 1 2 rfl rfl rfl (by first | rfl | omega | (simp; done) | (simp; omega) | (simp [upN_len]; omega) | (simp [idxBy_len]; omega) | (simp [marks_len]; omega) | (simp [upN_len]; done) | (simp [idxBy_len]; done) | (simp [marks_len]; done) | (simp at *; omega)) rfl rfl rfl rfl rfl (by first | rfl | omega | (simp; done) | (simp; omega) | (simp [upN_len]; omega) | (simp [idxBy_len]; omega) | (simp [marks_len]; omega) | (simp [upN_len]; done) | (simp [idxBy_len]; done) | (simp [marks_len]; done) | (simp at *; omega))) ?_
              rintro _ _ ⟨ra48, rc48, rfl, rfl⟩
              refine DJ.norm [_] [_, _, _] rfl rfl ?_
              refine DJ.yd 10 rfl (by kernel_rfl) (by kernel_rfl) (by kernel_rfl) rfl rfl (Yd.fieldAddr rfl) ?_
              refine DJ.one (i := 11) (by kernel_rfl) ?_
              refine DO.store (v := .slice _ _ _) (us := [_, _, _]) 0 rfl rfl rfl rfl rfl rfl rfl rfl rfl rfl ?_
              refine DJ.done (by kernel_rfl) ?_
              refine CJ.region ?_
              refine LJ.yd rfl (Yd.mvI rfl) ?_
              refine LJ.yd rfl (Yd.add rfl rfl (by unfold I64; omega)) ?_
              refine LJ.yd rfl (Yd.asI rfl) ?_
              refine LJ.nil ?_
              refine ⟨(i + 1, _, _, _, _), ?_, ⟨rfl, rfl, rfl, rfl, trivial⟩, ⟨rfl, trivial⟩, Ent.pick [0, 1, 2] [3] rfl, ?_⟩
              · exact ⟨by omega, by rw [takeC hu45, List.map_append, ← hQ]; rfl, by simp, by simp; omega⟩
              · first | omega | (dsimp only; omega) | (simp only []; omega)
        · refine LJ.nil ?_
          refine CJ.condF rfl ?_
          refine CJ.exit ?_
          refine CJ.seq ?_
          refine CJ.region ?_
          refine LJ.yd rfl (Yd.loadG (us := [_, _, _]) 1 rfl rfl rfl rfl) ?_
          refine LJ.callV rfl (fun k hk dk => CutsFromI_e (ps := F) (Sts.lr hk dk 2 (by omega) rfl) (by rw [hQ, List.take_of_length_le (by omega)])) ?_
          refine LJ.yd rfl (Yd.mvB rfl) ?_
          refine LJ.yd rfl (Yd.cmpT (Yd.eqlB rfl rfl) (by rfl)) ?_
          refine LJ.yd rfl (Yd.asB rfl) ?_
          refine LJ.nil ?_
          refine CJ.ret ?_
          refine Fin.V (Res.one (ResV.tmp (v := .bool true) rfl)) ?_
          rfl
    · refine LJ.gT rfl ?_
      refine LJ.yd rfl (Yd.not rfl) ?_
      refine LJ.yd rfl (Yd.pickFB rfl rfl) ?_
      refine LJ.nil ?_
      refine CJ.condT rfl ?_
      refine CJ.seq ?_
      refine CJ.region ?_
      refine LJ.yd rfl (Yd.mvB rfl) ?_
      refine LJ.yd rfl (Yd.loadG (us := [_, _, _]) 0 rfl rfl rfl rfl) ?_
      refine LJ.callV rfl (fun k hk dk => CutsFromS_ok (RdRow.up hlf)) ?_
      refine LJ.yd rfl (Yd.cmpT (Yd.eqlB rfl rfl) (by rfl)) ?_
      refine LJ.yd rfl (Yd.asB rfl) ?_
      refine LJ.nil ?_
      refine CJ.ret ?_
      refine Fin.V (Res.one (ResV.tmp (v := .bool true) rfl)) ?_
      rfl
theorem FewestSheetsI_e {A : Amb} {W H : Int} {v : Value} {ps qs : List Pane} (hl : RdL Pane.enc 4 A.h v qs) (h : qs = ps) : Ctr Try.prog 39 #[.agg #[vI W, vI H, v]] A [] (Val (vI (fsR W H ps))) := by
  subst h; exact FewestSheetsI_ok hl
theorem FnFewestSheetsLess_ok {A : Amb} {a : Option Addr} {n c : Nat} (h : Code A.h a n c) : Ctr Try.prog 10 #[.slice a n c] A [] (Val (.bool true)) := by
  refine Ctr.body (args := [_]) Try.func10 rfl Try.ntmps10 Try.results10 (by simp) ?_
  refine CJ.seq ?_
  refine CJ.region ?_
  refine LJ.yd rfl (Yd.asB rfl) ?_
  refine LJ.nil ?_
  refine CJ.seq ?_
  refine CJ.seq ?_
  refine CJ.region ?_
  refine LJ.yd rfl (Yd.mvS rfl) ?_
  refine LJ.yd rfl (Yd.len rfl) ?_
  refine LJ.splitD rfl (Yd.gtr rfl rfl) (fun h10 => ?_) (fun h10 => ?_)
  · refine LJ.nil ?_
    refine CJ.condT rfl ?_
    refine CJ.seq ?_
    refine CJ.region ?_
    refine LJ.yd rfl (Yd.asB rfl) ?_
    refine LJ.nil ?_
    refine CJ.ret ?_
    refine Fin.V (Res.one (ResV.tmp (v := .bool true) rfl)) ?_
    rfl
  · refine LJ.nil ?_
    refine CJ.condF rfl ?_
    refine CJ.skip ?_
    refine CJ.seq ?_
    refine CJ.region ?_
    refine LJ.yd rfl (Yd.mvS rfl) ?_
    refine LJ.call0 rfl (fun k hk dk => DrawFewestSheets_ok h.up) ?_
    rintro _ _ ⟨W, H, F, fa, fm, fc, rfl, rfl, rfl, hW, hH, hFl⟩
    refine LJ.norm [_] rfl ?_
    refine LJ.alloc ([_, _, _] : List Value) rfl rfl (fun b1 => ?_)
    refine LJ.store (v := .agg #[_, _, _]) (us := [_, _, _]) 1 rfl rfl rfl rfl rfl rfl rfl rfl ?_
    refine LJ.nil ?_
    refine CJ.seq ?_
    refine CJ.amb (perm_pickF _ [0] [1] rfl) (fun mlf wlf dlf => ?_)
    refine CJ.norm [_] rfl ?_
    have hlf := Row.toA (enc := Pane.enc) wlf dlf (by first | rfl | omega | (simp; done) | (simp; omega) | (simp [upN_len]; omega) | (simp [idxBy_len]; omega) | (simp [marks_len]; omega) | (simp [upN_len]; done) | (simp [idxBy_len]; done) | (simp [marks_len]; done) | (simp at *; omega))
    refine CJ.region ?_
    refine LJ.yd rfl (Yd.loadG (us := [_, _, _]) 0 rfl rfl rfl rfl) ?_
    refine LJ.callV rfl (fun k hk dk => FewestSheetsI_ok (RdRow.up hlf)) ?_
    refine LJ.yd rfl (Yd.asI rfl) ?_
    refine LJ.nil ?_
    refine CJ.seq ?_
    refine CJ.seq ?_
    refine CJ.region ?_
    refine LJ.yd rfl (Yd.mvI rfl) ?_
    refine LJ.yd rfl (Yd.loadG (us := [_, _, _]) 0 rfl rfl rfl rfl) ?_
    refine LJ.callV rfl (fun k hk dk => FewestSheetsS_ok (RdRow.up hlf)) ?_
    refine LJ.yd rfl (Yd.cmpNF (Yd.neq rfl rfl) (by rfl)) ?_
    refine LJ.yd rfl (Yd.mvB rfl) ?_
    refine LJ.gT rfl ?_
    refine LJ.yd rfl (Yd.mvI rfl) ?_
    refine LJ.gT rfl ?_
    refine LJ.splitD rfl (Yd.lss rfl rfl) (fun h21 => ?_) (fun h21 => ?_)
    · refine LJ.yd rfl (Yd.pickFB rfl rfl) ?_
      refine LJ.nil ?_
      refine CJ.condT rfl ?_
      refine CJ.seq ?_
      refine CJ.region ?_
      refine LJ.yd rfl (Yd.mvI rfl) ?_
      refine LJ.yd rfl (Yd.loadG (us := [_, _, _]) 0 rfl rfl rfl rfl) ?_
      refine LJ.callV rfl (fun k hk dk => FewestSheetsS_ok (RdRow.up hlf)) ?_
      refine LJ.yd rfl (Yd.cmpT (Yd.eql rfl rfl) (by rfl)) ?_
      refine LJ.yd rfl (Yd.asB rfl) ?_
      refine LJ.nil ?_
      refine CJ.ret ?_
      refine Fin.V (Res.one (ResV.tmp (v := .bool true) rfl)) ?_
      rfl
    · refine LJ.yd rfl (Yd.pickFB rfl rfl) ?_
      refine LJ.nil ?_
      refine CJ.condF rfl ?_
      refine CJ.skip ?_
      refine CJ.seq ?_
      have hcf := fs_ok (by omega : ¬ fsR W H F < 0)
      have hfb := fs_b hcf
      refine CJ.regionD [0] [] (by kernel_rfl) rfl ?_
      refine DJ.norm [_] [] rfl rfl ?_
      refine DJ.yd 0 rfl (by kernel_rfl) (by kernel_rfl) (by kernel_rfl) rfl rfl (Yd.fieldAddr rfl) ?_
      refine DJ.yd 1 rfl (by kernel_rfl) (by kernel_rfl) (by kernel_rfl) rfl rfl (Yd.loadC 0 rfl rfl rfl) ?_
      refine DJ.yd 2 rfl (by kernel_rfl) (by kernel_rfl) (by kernel_rfl) rfl rfl (Yd.fieldAddr rfl) ?_
      refine DJ.yd 3 rfl (by kernel_rfl) (by kernel_rfl) (by kernel_rfl) rfl rfl (Yd.loadC 0 rfl rfl rfl) ?_
      refine DJ.yd 5 rfl (by kernel_rfl) (by kernel_rfl) (by kernel_rfl) rfl rfl (Yd.fieldAddr rfl) ?_
      refine DJ.yd 6 rfl (by kernel_rfl) (by kernel_rfl) (by kernel_rfl) rfl rfl (Yd.loadC 0 rfl rfl rfl) ?_
      refine DJ.two (i := 4) (j := 9) (by kernel_rfl) ?_ ?_
      · refine DO.op rfl rfl rfl (fun k0 hk0 dk0 => OpR.buildSlice (cs := []) rfl rfl) ?_
        rintro _ _ ⟨b2, rfl, rfl⟩
        refine DJ.two (i := 7) (j := 9) (by kernel_rfl) ?_ ?_
        · refine DO.imp1 0 rfl (fun _ h => Cel.lr (enc := Pane.enc) (k := 4) (m := 0) [] rfl rfl rfl rfl h) ?_
          refine DO.norm [_] rfl ?_
          refine DO.op rfl rfl rfl (fun k0 hk0 dk0 => OpR.apA (enc := Pane.enc) 0 rfl (RdRow.up hlf) rfl (by first | rfl | omega | (simp; done) | (simp; omega) | (simp [upN_len]; omega) | (simp [idxBy_len]; omega) | (simp [marks_len]; omega) | (simp [upN_len]; done) | (simp [idxBy_len]; done) | (simp [marks_len]; done) | (simp at *; omega)) rfl (fun _ => rfl) (by first | rfl | omega | (simp; done) | (simp; omega) | (simp [upN_len]; omega) | (simp [idxBy_len]; omega) | (simp [marks_len]; omega) | (simp [upN_len]; done) | (simp [idxBy_len]; done) | (simp [marks_len]; done) | (simp at *; omega))) ?_
          rintro _ _ ⟨ra34, rc34, rfl, rfl⟩
          refine DJ.norm [_] [_] rfl rfl ?_
          refine DJ.yd 8 rfl (by kernel_rfl) (by kernel_rfl) (by kernel_rfl) rfl rfl (Yd.build (cs := [_, _, _]) rfl) ?_
          refine DJ.one (i := 9) (by kernel_rfl) ?_
          refine DO.alloc ([_, _, _] : List Value) rfl rfl rfl rfl (fun b3 => ?_)
          refine DJ.one (i := 10) (by kernel_rfl) ?_
          refine DO.store (v := .agg #[_, _, _]) (us := [_, _, _]) 1 rfl rfl rfl rfl rfl rfl rfl rfl rfl rfl ?_
          refine DJ.done (by kernel_rfl) ?_
          refine CJ.seq ?_
          refine CJ.seq ?_
          refine CJ.region ?_
          refine LJ.yd rfl (Yd.asI rfl) ?_
          refine LJ.nil ?_
          refine CJ.block ?_
          refine CJ.loopF [3, 4, 5] (Nat × List Pane) (fun ⟨i, G⟩ => i ≤ F.length ∧ G = (F.take i).map fre ++ F.drop i ∧ G.length = F.length) (fun ⟨i, G⟩ => [(6, vI i)]) (fun ⟨i, G⟩ => [LR Pane.enc 28 4 ra34 rc34 G]) (fun ⟨i, G⟩ => F.length - i) (0, [] ++ F) [_, _] [0, 2] [1] rfl rfl rfl ?_ ⟨rfl, trivial⟩ ?_
          · exact ⟨by omega, by simp, by simp⟩
          · rintro ⟨i, G⟩ σ ⟨hi1, hG, hGl⟩
            refine CJ.norm [_, _, _] rfl ?_
            refine CJ.seq ?_
            refine CJ.seq ?_
            refine CJ.region ?_
            refine LJ.yd rfl (Yd.mvI rfl) ?_
            refine LJ.yd rfl (Yd.fieldAddr rfl) ?_
            refine LJ.yd rfl (Yd.loadC 0 rfl rfl rfl) ?_
            refine LJ.yd rfl (Yd.len rfl) ?_
            refine LJ.splitD rfl (Yd.lss rfl rfl) (fun h40 => ?_) (fun h40 => ?_)
            · refine LJ.nil ?_
              refine CJ.condT rfl ?_
              refine CJ.skip ?_
              refine CJ.seq ?_
              refine CJ.block ?_
              refine CJ.seq ?_
              obtain ⟨f1, f2, f3⟩ := fs_wo (i := i) hcf (by omega)
              refine CJ.regionD [0, 1, 2] [] (by kernel_rfl) rfl ?_
              refine DJ.norm [_, _, _] [] rfl rfl ?_
              refine DJ.yd 0 rfl (by kernel_rfl) (by kernel_rfl) (by kernel_rfl) rfl rfl (Yd.fieldAddr rfl) ?_
              refine DJ.yd 1 rfl (by kernel_rfl) (by kernel_rfl) (by kernel_rfl) rfl rfl (Yd.loadC 0 rfl rfl rfl) ?_
              refine DJ.yd 2 rfl (by kernel_rfl) (by kernel_rfl) (by kernel_rfl) rfl rfl (Yd.fieldAddr rfl) ?_
              refine DJ.yd 3 rfl (by kernel_rfl) (by kernel_rfl) (by kernel_rfl) rfl rfl (Yd.loadC 0 rfl rfl rfl) ?_
              refine DJ.yd 5 rfl (by kernel_rfl) (by kernel_rfl) (by kernel_rfl) rfl rfl (Yd.fieldAddr rfl) ?_
              refine DJ.yd 6 rfl (by kernel_rfl) (by kernel_rfl) (by kernel_rfl) rfl rfl (Yd.loadC 0 rfl rfl rfl) ?_
              refine DJ.yd 7 rfl (by kernel_rfl) (by kernel_rfl) (by kernel_rfl) rfl rfl (Yd.mvI rfl) ?_
              refine DJ.slHA 8 rfl (by kernel_rfl) (by kernel_rfl) (by kernel_rfl) rfl rfl hlf rfl rfl (by omega) (by first | rfl | omega | (simp; done) | (simp; omega) | (simp [upN_len]; omega) | (simp [idxBy_len]; omega) | (simp [marks_len]; omega) | (simp [upN_len]; done) | (simp [idxBy_len]; done) | (simp [marks_len]; done) | (simp at *; omega)) (Row.none_cap wlf) (Row.spot wlf) (fun sm51 hsm51 hs51 => ?_)
              refine DJ.yd 10 rfl (by kernel_rfl) (by kernel_rfl) (by kernel_rfl) rfl rfl (Yd.fieldAddr rfl) ?_
              refine DJ.yd 11 rfl (by kernel_rfl) (by kernel_rfl) (by kernel_rfl) rfl rfl (Yd.loadC 0 rfl rfl rfl) ?_
              refine DJ.yd 12 rfl (by kernel_rfl) (by kernel_rfl) (by kernel_rfl) rfl rfl (Yd.mvI rfl) ?_
              refine DJ.yd 13 rfl (by kernel_rfl) (by kernel_rfl) (by kernel_rfl) rfl rfl (Yd.add rfl rfl (by unfold I64; omega)) ?_
              refine DJ.slLA 14 rfl (by kernel_rfl) (by kernel_rfl) (by kernel_rfl) rfl rfl hlf rfl rfl (by omega) (by first | rfl | omega | (simp; done) | (simp; omega) | (simp [upN_len]; omega) | (simp [idxBy_len]; omega) | (simp [marks_len]; omega) | (simp [upN_len]; done) | (simp [idxBy_len]; done) | (simp [marks_len]; done) | (simp at *; omega)) (Row.adr wlf) (fun sa57 sm57 sc57 hsm57 hs57 => ?_)
              refine DJ.one (i := 4) (by kernel_rfl) ?_
              refine DO.op rfl rfl rfl (fun k0 hk0 dk0 => OpR.buildSlice (cs := []) rfl rfl) ?_
              rintro _ _ ⟨b4, rfl, rfl⟩
              refine DJ.one (i := 9) (by kernel_rfl) ?_
              refine DO.imp1 0 rfl (fun _ h => Cel.lr (enc := Pane.enc) (k := 4) (m := 0) [] rfl rfl rfl rfl h) ?_
              refine DO.norm [_] rfl ?_
              refine DO.op rfl rfl rfl (fun k0 hk0 dk0 => OpR.apA (enc := Pane.enc) 0 rfl (RdRow.up hs51) rfl (by first | rfl | omega | (simp; done) | (simp; omega) | (simp [upN_len]; omega) | (simp [idxBy_len]; omega) | (simp [marks_len]; omega) | (simp [upN_len]; done) | (simp [idxBy_len]; done) | (simp [marks_len]; done) | (simp at *; omega)) rfl (fun _ => rfl) (by first | rfl | omega | (simp; done) | (simp; omega) | (simp [upN_len]; omega) | (simp [idxBy_len]; omega) | (simp [marks_len]; omega) | (simp [upN_len]; done) | (simp [idxBy_len]; done) | (simp [marks_len]; done) | (simp at *; omega))) ?_
              rintro _ _ ⟨ra52, rc52, rfl, rfl⟩
              refine DJ.norm [_, _, _] [_] rfl rfl ?_
              refine DJ.one (i := 15) (by kernel_rfl) ?_
              refine DO.op rfl rfl rfl (fun k0 hk0 dk0 => OpR.apA (enc := Pane.enc) 0 rfl (RdRow.up hs57) rfl (by first | rfl | omega | (simp; done) | (simp; omega) | (simp [upN_len]; omega) | (simp [idxBy_len]; omega) | (simp [marks_len]; omega) | (simp [upN_len]; done) | (simp [idxBy_len]; done) | (simp [marks_len]; done) | (simp at *; omega)) rfl (fun _ => rfl) (by first | rfl | omega | (simp; done) | (simp; omega) | (simp [upN_len]; omega) | (simp [idxBy_len]; omega) | (simp [marks_len]; omega) | (simp [upN_len]; done) | (simp [idxBy_len]; done) | (simp [marks_len]; done) | (simp at *; omega))) ?_
              rintro _ _ ⟨ra58, rc58, rfl, rfl⟩
              refine DJ.norm [_, _, _] [_] rfl rfl ?_
              refine DJ.yd 16 rfl (by kernel_rfl) (by kernel_rfl) (by kernel_rfl) rfl rfl (Yd.build (cs := [_, _, _]) rfl) ?_
              refine DJ.one (i := 17) (by kernel_rfl) ?_
              refine DO.callV rfl rfl rfl (fun k0 hk0 dk0 k hk dk => FewestSheetsI_e (ps := wo F i) (Sts.lr hk dk 0 (by simp; omega) rfl) (by rw [List.nil_append, show sm51 = i by omega, show ((i : Int) + 1).toNat = i + 1 by omega])) ?_
              refine DJ.yd 18 rfl (by kernel_rfl) (by kernel_rfl) (by kernel_rfl) rfl rfl (Yd.asI rfl) ?_
              refine DJ.done (by kernel_rfl) ?_
              refine CJ.seq ?_
              refine CJ.seq ?_
              refine CJ.region ?_
              refine LJ.yd rfl (Yd.mvI rfl) ?_
              refine LJ.yd rfl (Yd.mvI rfl) ?_
              refine LJ.yd rfl (Yd.cmpF (Yd.gtr rfl rfl) (by omega)) ?_
              refine LJ.yd rfl (Yd.mvB rfl) ?_
              refine LJ.gT rfl ?_
              refine LJ.yd rfl (Yd.mvI rfl) ?_
              refine LJ.gT rfl ?_
              refine LJ.yd rfl (Yd.mvI rfl) ?_
              refine LJ.gT rfl ?_
              refine LJ.yd rfl (Yd.sub rfl rfl (by unfold I64; omega)) ?_
              refine LJ.gT rfl ?_
              refine LJ.yd rfl (Yd.cmpF (Yd.lss rfl rfl) (by omega)) ?_
              refine LJ.yd rfl (Yd.pickFB rfl rfl) ?_
              refine LJ.nil ?_
              refine CJ.condF rfl ?_
              refine CJ.skip ?_
              obtain ⟨u, hu⟩ := someC (l := F) (j := i) (by omega)
              have hGi : G[i]? = some u := by rw [hG, List.getElem?_append_right (by simp; omega), List.getElem?_drop]; simpa [Nat.min_eq_left (show i ≤ F.length by omega)] using hu
              refine CJ.region ?_
              refine LJ.yd rfl (Yd.fieldAddr rfl) ?_
              refine LJ.yd rfl (Yd.loadC 1 rfl rfl rfl) ?_
              refine LJ.yd rfl (Yd.mvI rfl) ?_
              refine LJ.idxR 2 rfl rfl rfl rfl (by omega) (by first | rfl | omega | (simp; done) | (simp; omega) | (simp [upN_len]; omega) | (simp [idxBy_len]; omega) | (simp [marks_len]; omega) | (simp [upN_len]; done) | (simp [idxBy_len]; done) | (simp [marks_len]; done) | (simp at *; omega)) (by first | rfl | omega | (simp; done) | (simp; omega) | (simp [upN_len]; omega) | (simp [idxBy_len]; omega) | (simp [marks_len]; omega) | (simp [upN_len]; done) | (simp [idxBy_len]; done) | (simp [marks_len]; done) | (simp at *; omega)) (fun ib73 ia73 => ?_)
              refine LJ.yd rfl (Yd.fieldAddr rfl) ?_
              refine LJ.op rfl (OpR.stR (enc := Pane.enc) (u' := ⟨u.W, u.H, true, u.Kind⟩) 2 2 rfl ia73 rfl rfl hGi rfl rfl rfl rfl rfl) ?_
              rintro _ _ ⟨rfl, rfl⟩
              refine LJ.norm [_, _, _, _] rfl ?_
              refine LJ.nil ?_
              refine CJ.region ?_
              refine LJ.yd rfl (Yd.mvI rfl) ?_
              refine LJ.yd rfl (Yd.add rfl rfl (by unfold I64; omega)) ?_
              refine LJ.yd rfl (Yd.asI rfl) ?_
              refine LJ.nil ?_
              refine ⟨(i + 1, _), ?_, ⟨rfl, rfl, rfl, trivial⟩, ⟨rfl, trivial⟩, Ent.pick [0, 1, 2] [3] rfl, ?_⟩
              · refine ⟨by omega, ?_⟩
                refine ⟨?_, by simp [hGl]⟩
                rw [hG, dropC hu, takeC hu, List.map_append]
                rw [show ∀ (P Q : List Pane) (x y : Pane), P.length = i → (P ++ x :: Q).set i y = P ++ y :: Q from fun P Q x y h => by subst h; simp]
                · simp [fre]
                · simp; omega
              · first | omega | (dsimp only; omega) | (simp only []; omega)
            · refine LJ.nil ?_
              refine CJ.condF rfl ?_
              refine CJ.exit ?_
              refine CJ.seq ?_
              have hfr := fs_fre hcf
              refine CJ.region ?_
              refine LJ.yd rfl (Yd.loadG (us := [_, _, _]) 1 rfl rfl rfl rfl) ?_
              refine LJ.callV rfl (fun k hk dk => FewestSheetsI_e (ps := F.map fre) (Sts.lrm hk dk 2 (by omega) (by simp; omega) rfl) (by rw [hG, List.take_of_length_le (by omega), List.drop_of_length_le (by omega), List.append_nil])) ?_
              refine LJ.yd rfl (Yd.mvI rfl) ?_
              refine LJ.yd rfl (Yd.cmpT (Yd.leq rfl rfl) (by omega)) ?_
              refine LJ.yd rfl (Yd.asB rfl) ?_
              refine LJ.nil ?_
              refine CJ.ret ?_
              refine Fin.V (Res.one (ResV.tmp (v := .bool true) rfl)) ?_
              rfl
        · refine DO.alloc ([_, _, _] : List Value) rfl rfl rfl rfl (fun b5 => ?_)
          refine DJ.one (i := 7) (by kernel_rfl) ?_
          refine DO.imp1 0 rfl (fun _ h => Cel.lr (enc := Pane.enc) (k := 4) (m := 0) [] rfl rfl rfl rfl h) ?_
          refine DO.norm [_, _] rfl ?_
          refine DO.op rfl rfl rfl (fun k0 hk0 dk0 => OpR.apA (enc := Pane.enc) 0 rfl (RdRow.up hlf) rfl (by first | rfl | omega | (simp; done) | (simp; omega) | (simp [upN_len]; omega) | (simp [idxBy_len]; omega) | (simp [marks_len]; omega) | (simp [upN_len]; done) | (simp [idxBy_len]; done) | (simp [marks_len]; done) | (simp at *; omega)) rfl (fun _ => rfl) (by first | rfl | omega | (simp; done) | (simp; omega) | (simp [upN_len]; omega) | (simp [idxBy_len]; omega) | (simp [marks_len]; omega) | (simp [upN_len]; done) | (simp [idxBy_len]; done) | (simp [marks_len]; done) | (simp at *; omega))) ?_
          rintro _ _ ⟨ra34, rc34, rfl, rfl⟩
          refine DJ.norm [_] [_, _] rfl rfl ?_
          refine DJ.yd 8 rfl (by kernel_rfl) (by kernel_rfl) (by kernel_rfl) rfl rfl (Yd.build (cs := [_, _, _]) rfl) ?_
          refine DJ.one (i := 10) (by kernel_rfl) ?_
          refine DO.store (v := .agg #[_, _, _]) (us := [_, _, _]) 1 rfl rfl rfl rfl rfl rfl rfl rfl rfl rfl ?_
          refine DJ.done (by kernel_rfl) ?_
          refine CJ.seq ?_
          refine CJ.seq ?_
          refine CJ.region ?_
          refine LJ.yd rfl (Yd.asI rfl) ?_
          refine LJ.nil ?_
          refine CJ.block ?_
          refine CJ.loopF [3, 4, 5] (Nat × List Pane) (fun ⟨i, G⟩ => i ≤ F.length ∧ G = (F.take i).map fre ++ F.drop i ∧ G.length = F.length) (fun ⟨i, G⟩ => [(6, vI i)]) (fun ⟨i, G⟩ => [LR Pane.enc 28 4 ra34 rc34 G]) (fun ⟨i, G⟩ => F.length - i) (0, [] ++ F) [_, _] [0, 2] [1] rfl rfl rfl ?_ ⟨rfl, trivial⟩ ?_
          · exact ⟨by omega, by simp, by simp⟩
          · rintro ⟨i, G⟩ σ ⟨hi1, hG, hGl⟩
            refine CJ.norm [_, _, _] rfl ?_
            refine CJ.seq ?_
            refine CJ.seq ?_
            refine CJ.region ?_
            refine LJ.yd rfl (Yd.mvI rfl) ?_
            refine LJ.yd rfl (Yd.fieldAddr rfl) ?_
            refine LJ.yd rfl (Yd.loadC 0 rfl rfl rfl) ?_
            refine LJ.yd rfl (Yd.len rfl) ?_
            refine LJ.splitD rfl (Yd.lss rfl rfl) (fun h40 => ?_) (fun h40 => ?_)
            · refine LJ.nil ?_
              refine CJ.condT rfl ?_
              refine CJ.skip ?_
              refine CJ.seq ?_
              refine CJ.block ?_
              refine CJ.seq ?_
              obtain ⟨f1, f2, f3⟩ := fs_wo (i := i) hcf (by omega)
              refine CJ.regionD [0, 1, 2] [] (by kernel_rfl) rfl ?_
              refine DJ.norm [_, _, _] [] rfl rfl ?_
              refine DJ.yd 0 rfl (by kernel_rfl) (by kernel_rfl) (by kernel_rfl) rfl rfl (Yd.fieldAddr rfl) ?_
              refine DJ.yd 1 rfl (by kernel_rfl) (by kernel_rfl) (by kernel_rfl) rfl rfl (Yd.loadC 0 rfl rfl rfl) ?_
              refine DJ.yd 2 rfl (by kernel_rfl) (by kernel_rfl) (by kernel_rfl) rfl rfl (Yd.fieldAddr rfl) ?_
              refine DJ.yd 3 rfl (by kernel_rfl) (by kernel_rfl) (by kernel_rfl) rfl rfl (Yd.loadC 0 rfl rfl rfl) ?_
              refine DJ.yd 5 rfl (by kernel_rfl) (by kernel_rfl) (by kernel_rfl) rfl rfl (Yd.fieldAddr rfl) ?_
              refine DJ.yd 6 rfl (by kernel_rfl) (by kernel_rfl) (by kernel_rfl) rfl rfl (Yd.loadC 0 rfl rfl rfl) ?_
              refine DJ.yd 7 rfl (by kernel_rfl) (by kernel_rfl) (by kernel_rfl) rfl rfl (Yd.mvI rfl) ?_
              refine DJ.slHA 8 rfl (by kernel_rfl) (by kernel_rfl) (by kernel_rfl) rfl rfl hlf rfl rfl (by omega) (by first | rfl | omega | (simp; done) | (simp; omega) | (simp [upN_len]; omega) | (simp [idxBy_len]; omega) | (simp [marks_len]; omega) | (simp [upN_len]; done) | (simp [idxBy_len]; done) | (simp [marks_len]; done) | (simp at *; omega)) (Row.none_cap wlf) (Row.spot wlf) (fun sm51 hsm51 hs51 => ?_)
              refine DJ.yd 10 rfl (by kernel_rfl) (by kernel_rfl) (by kernel_rfl) rfl rfl (Yd.fieldAddr rfl) ?_
              refine DJ.yd 11 rfl (by kernel_rfl) (by kernel_rfl) (by kernel_rfl) rfl rfl (Yd.loadC 0 rfl rfl rfl) ?_
              refine DJ.yd 12 rfl (by kernel_rfl) (by kernel_rfl) (by kernel_rfl) rfl rfl (Yd.mvI rfl) ?_
              refine DJ.yd 13 rfl (by kernel_rfl) (by kernel_rfl) (by kernel_rfl) rfl rfl (Yd.add rfl rfl (by unfold I64; omega)) ?_
              refine DJ.slLA 14 rfl (by kernel_rfl) (by kernel_rfl) (by kernel_rfl) rfl rfl hlf rfl rfl (by omega) (by first | rfl | omega | (simp; done) | (simp; omega) | (simp [upN_len]; omega) | (simp [idxBy_len]; omega) | (simp [marks_len]; omega) | (simp [upN_len]; done) | (simp [idxBy_len]; done) | (simp [marks_len]; done) | (simp at *; omega)) (Row.adr wlf) (fun sa57 sm57 sc57 hsm57 hs57 => ?_)
              refine DJ.one (i := 4) (by kernel_rfl) ?_
              refine DO.op rfl rfl rfl (fun k0 hk0 dk0 => OpR.buildSlice (cs := []) rfl rfl) ?_
              rintro _ _ ⟨b6, rfl, rfl⟩
              refine DJ.one (i := 9) (by kernel_rfl) ?_
              refine DO.imp1 0 rfl (fun _ h => Cel.lr (enc := Pane.enc) (k := 4) (m := 0) [] rfl rfl rfl rfl h) ?_
              refine DO.norm [_] rfl ?_
              refine DO.op rfl rfl rfl (fun k0 hk0 dk0 => OpR.apA (enc := Pane.enc) 0 rfl (RdRow.up hs51) rfl (by first | rfl | omega | (simp; done) | (simp; omega) | (simp [upN_len]; omega) | (simp [idxBy_len]; omega) | (simp [marks_len]; omega) | (simp [upN_len]; done) | (simp [idxBy_len]; done) | (simp [marks_len]; done) | (simp at *; omega)) rfl (fun _ => rfl) (by first | rfl | omega | (simp; done) | (simp; omega) | (simp [upN_len]; omega) | (simp [idxBy_len]; omega) | (simp [marks_len]; omega) | (simp [upN_len]; done) | (simp [idxBy_len]; done) | (simp [marks_len]; done) | (simp at *; omega))) ?_
              rintro _ _ ⟨ra52, rc52, rfl, rfl⟩
              refine DJ.norm [_, _, _] [_] rfl rfl ?_
              refine DJ.one (i := 15) (by kernel_rfl) ?_
              refine DO.op rfl rfl rfl (fun k0 hk0 dk0 => OpR.apA (enc := Pane.enc) 0 rfl (RdRow.up hs57) rfl (by first | rfl | omega | (simp; done) | (simp; omega) | (simp [upN_len]; omega) | (simp [idxBy_len]; omega) | (simp [marks_len]; omega) | (simp [upN_len]; done) | (simp [idxBy_len]; done) | (simp [marks_len]; done) | (simp at *; omega)) rfl (fun _ => rfl) (by first | rfl | omega | (simp; done) | (simp; omega) | (simp [upN_len]; omega) | (simp [idxBy_len]; omega) | (simp [marks_len]; omega) | (simp [upN_len]; done) | (simp [idxBy_len]; done) | (simp [marks_len]; done) | (simp at *; omega))) ?_
              rintro _ _ ⟨ra58, rc58, rfl, rfl⟩
              refine DJ.norm [_, _, _] [_] rfl rfl ?_
              refine DJ.yd 16 rfl (by kernel_rfl) (by kernel_rfl) (by kernel_rfl) rfl rfl (Yd.build (cs := [_, _, _]) rfl) ?_
              refine DJ.one (i := 17) (by kernel_rfl) ?_
              refine DO.callV rfl rfl rfl (fun k0 hk0 dk0 k hk dk => FewestSheetsI_e (ps := wo F i) (Sts.lr hk dk 0 (by simp; omega) rfl) (by rw [List.nil_append, show sm51 = i by omega, show ((i : Int) + 1).toNat = i + 1 by omega])) ?_
              refine DJ.yd 18 rfl (by kernel_rfl) (by kernel_rfl) (by kernel_rfl) rfl rfl (Yd.asI rfl) ?_
              refine DJ.done (by kernel_rfl) ?_
              refine CJ.seq ?_
              refine CJ.seq ?_
              refine CJ.region ?_
              refine LJ.yd rfl (Yd.mvI rfl) ?_
              refine LJ.yd rfl (Yd.mvI rfl) ?_
              refine LJ.yd rfl (Yd.cmpF (Yd.gtr rfl rfl) (by omega)) ?_
              refine LJ.yd rfl (Yd.mvB rfl) ?_
              refine LJ.gT rfl ?_
              refine LJ.yd rfl (Yd.mvI rfl) ?_
              refine LJ.gT rfl ?_
              refine LJ.yd rfl (Yd.mvI rfl) ?_
              refine LJ.gT rfl ?_
              refine LJ.yd rfl (Yd.sub rfl rfl (by unfold I64; omega)) ?_
              refine LJ.gT rfl ?_
              refine LJ.yd rfl (Yd.cmpF (Yd.lss rfl rfl) (by omega)) ?_
              refine LJ.yd rfl (Yd.pickFB rfl rfl) ?_
              refine LJ.nil ?_
              refine CJ.condF rfl ?_
              refine CJ.skip ?_
              obtain ⟨u, hu⟩ := someC (l := F) (j := i) (by omega)
              have hGi : G[i]? = some u := by rw [hG, List.getElem?_append_right (by simp; omega), List.getElem?_drop]; simpa [Nat.min_eq_left (show i ≤ F.length by omega)] using hu
              refine CJ.region ?_
              refine LJ.yd rfl (Yd.fieldAddr rfl) ?_
              refine LJ.yd rfl (Yd.loadC 1 rfl rfl rfl) ?_
              refine LJ.yd rfl (Yd.mvI rfl) ?_
              refine LJ.idxR 2 rfl rfl rfl rfl (by omega) (by first | rfl | omega | (simp; done) | (simp; omega) | (simp [upN_len]; omega) | (simp [idxBy_len]; omega) | (simp [marks_len]; omega) | (simp [upN_len]; done) | (simp [idxBy_len]; done) | (simp [marks_len]; done) | (simp at *; omega)) (by first | rfl | omega | (simp; done) | (simp; omega) | (simp [upN_len]; omega) | (simp [idxBy_len]; omega) | (simp [marks_len]; omega) | (simp [upN_len]; done) | (simp [idxBy_len]; done) | (simp [marks_len]; done) | (simp at *; omega)) (fun ib73 ia73 => ?_)
              refine LJ.yd rfl (Yd.fieldAddr rfl) ?_
              refine LJ.op rfl (OpR.stR (enc := Pane.enc) (u' := ⟨u.W, u.H, true, u.Kind⟩) 2 2 rfl ia73 rfl rfl hGi rfl rfl rfl rfl rfl) ?_
              rintro _ _ ⟨rfl, rfl⟩
              refine LJ.norm [_, _, _, _] rfl ?_
              refine LJ.nil ?_
              refine CJ.region ?_
              refine LJ.yd rfl (Yd.mvI rfl) ?_
              refine LJ.yd rfl (Yd.add rfl rfl (by unfold I64; omega)) ?_
              refine LJ.yd rfl (Yd.asI rfl) ?_
              refine LJ.nil ?_
              refine ⟨(i + 1, _), ?_, ⟨rfl, rfl, rfl, trivial⟩, ⟨rfl, trivial⟩, Ent.pick [0, 1, 2] [3] rfl, ?_⟩
              · refine ⟨by omega, ?_⟩
                refine ⟨?_, by simp [hGl]⟩
                rw [hG, dropC hu, takeC hu, List.map_append]
                rw [show ∀ (P Q : List Pane) (x y : Pane), P.length = i → (P ++ x :: Q).set i y = P ++ y :: Q from fun P Q x y h => by subst h; simp]
                · simp [fre]
                · simp; omega
              · first | omega | (dsimp only; omega) | (simp only []; omega)
            · refine LJ.nil ?_
              refine CJ.condF rfl ?_
              refine CJ.exit ?_
              refine CJ.seq ?_
              have hfr := fs_fre hcf
              refine CJ.region ?_
              refine LJ.yd rfl (Yd.loadG (us := [_, _, _]) 1 rfl rfl rfl rfl) ?_
              refine LJ.callV rfl (fun k hk dk => FewestSheetsI_e (ps := F.map fre) (Sts.lrm hk dk 2 (by omega) (by simp; omega) rfl) (by rw [hG, List.take_of_length_le (by omega), List.drop_of_length_le (by omega), List.append_nil])) ?_
              refine LJ.yd rfl (Yd.mvI rfl) ?_
              refine LJ.yd rfl (Yd.cmpT (Yd.leq rfl rfl) (by omega)) ?_
              refine LJ.yd rfl (Yd.asB rfl) ?_
              refine LJ.nil ?_
              refine CJ.ret ?_
              refine Fin.V (Res.one (ResV.tmp (v := .bool true) rfl)) ?_
              rfl
      · refine DO.alloc ([_, _, _] : List Value) rfl rfl rfl rfl (fun b7 => ?_)
        refine DJ.one (i := 4) (by kernel_rfl) ?_
        refine DO.op rfl rfl rfl (fun k0 hk0 dk0 => OpR.buildSlice (cs := []) rfl rfl) ?_
        rintro _ _ ⟨b8, rfl, rfl⟩
        refine DJ.one (i := 7) (by kernel_rfl) ?_
        refine DO.imp1 1 rfl (fun _ h => Cel.lr (enc := Pane.enc) (k := 4) (m := 0) [] rfl rfl rfl rfl h) ?_
        refine DO.norm [_, _] rfl ?_
        refine DO.op rfl rfl rfl (fun k0 hk0 dk0 => OpR.apA (enc := Pane.enc) 1 rfl (RdRow.up hlf) rfl (by first | rfl | omega | (simp; done) | (simp; omega) | (simp [upN_len]; omega) | (simp [idxBy_len]; omega) | (simp [marks_len]; omega) | (simp [upN_len]; done) | (simp [idxBy_len]; done) | (simp [marks_len]; done) | (simp at *; omega)) rfl (fun _ => rfl) (by first | rfl | omega | (simp; done) | (simp; omega) | (simp [upN_len]; omega) | (simp [idxBy_len]; omega) | (simp [marks_len]; omega) | (simp [upN_len]; done) | (simp [idxBy_len]; done) | (simp [marks_len]; done) | (simp at *; omega))) ?_
        rintro _ _ ⟨ra34, rc34, rfl, rfl⟩
        refine DJ.norm [_] [_, _] rfl rfl ?_
        refine DJ.yd 8 rfl (by kernel_rfl) (by kernel_rfl) (by kernel_rfl) rfl rfl (Yd.build (cs := [_, _, _]) rfl) ?_
        refine DJ.one (i := 10) (by kernel_rfl) ?_
        refine DO.store (v := .agg #[_, _, _]) (us := [_, _, _]) 0 rfl rfl rfl rfl rfl rfl rfl rfl rfl rfl ?_
        refine DJ.done (by kernel_rfl) ?_
        refine CJ.seq ?_
        refine CJ.seq ?_
        refine CJ.region ?_
        refine LJ.yd rfl (Yd.asI rfl) ?_
        refine LJ.nil ?_
        refine CJ.block ?_
        refine CJ.loopF [3, 4, 5] (Nat × List Pane) (fun ⟨i, G⟩ => i ≤ F.length ∧ G = (F.take i).map fre ++ F.drop i ∧ G.length = F.length) (fun ⟨i, G⟩ => [(6, vI i)]) (fun ⟨i, G⟩ => [LR Pane.enc 28 4 ra34 rc34 G]) (fun ⟨i, G⟩ => F.length - i) (0, [] ++ F) [_, _] [0, 1] [2] rfl rfl rfl ?_ ⟨rfl, trivial⟩ ?_
        · exact ⟨by omega, by simp, by simp⟩
        · rintro ⟨i, G⟩ σ ⟨hi1, hG, hGl⟩
          refine CJ.norm [_, _, _] rfl ?_
          refine CJ.seq ?_
          refine CJ.seq ?_
          refine CJ.region ?_
          refine LJ.yd rfl (Yd.mvI rfl) ?_
          refine LJ.yd rfl (Yd.fieldAddr rfl) ?_
          refine LJ.yd rfl (Yd.loadC 0 rfl rfl rfl) ?_
          refine LJ.yd rfl (Yd.len rfl) ?_
          refine LJ.splitD rfl (Yd.lss rfl rfl) (fun h40 => ?_) (fun h40 => ?_)
          · refine LJ.nil ?_
            refine CJ.condT rfl ?_
            refine CJ.skip ?_
            refine CJ.seq ?_
            refine CJ.block ?_
            refine CJ.seq ?_
            obtain ⟨f1, f2, f3⟩ := fs_wo (i := i) hcf (by omega)
            refine CJ.regionD [0, 1, 2] [] (by kernel_rfl) rfl ?_
            refine DJ.norm [_, _, _] [] rfl rfl ?_
            refine DJ.yd 0 rfl (by kernel_rfl) (by kernel_rfl) (by kernel_rfl) rfl rfl (Yd.fieldAddr rfl) ?_
            refine DJ.yd 1 rfl (by kernel_rfl) (by kernel_rfl) (by kernel_rfl) rfl rfl (Yd.loadC 0 rfl rfl rfl) ?_
            refine DJ.yd 2 rfl (by kernel_rfl) (by kernel_rfl) (by kernel_rfl) rfl rfl (Yd.fieldAddr rfl) ?_
            refine DJ.yd 3 rfl (by kernel_rfl) (by kernel_rfl) (by kernel_rfl) rfl rfl (Yd.loadC 0 rfl rfl rfl) ?_
            refine DJ.yd 5 rfl (by kernel_rfl) (by kernel_rfl) (by kernel_rfl) rfl rfl (Yd.fieldAddr rfl) ?_
            refine DJ.yd 6 rfl (by kernel_rfl) (by kernel_rfl) (by kernel_rfl) rfl rfl (Yd.loadC 0 rfl rfl rfl) ?_
            refine DJ.yd 7 rfl (by kernel_rfl) (by kernel_rfl) (by kernel_rfl) rfl rfl (Yd.mvI rfl) ?_
            refine DJ.slHA 8 rfl (by kernel_rfl) (by kernel_rfl) (by kernel_rfl) rfl rfl hlf rfl rfl (by omega) (by first | rfl | omega | (simp; done) | (simp; omega) | (simp [upN_len]; omega) | (simp [idxBy_len]; omega) | (simp [marks_len]; omega) | (simp [upN_len]; done) | (simp [idxBy_len]; done) | (simp [marks_len]; done) | (simp at *; omega)) (Row.none_cap wlf) (Row.spot wlf) (fun sm51 hsm51 hs51 => ?_)
            refine DJ.yd 10 rfl (by kernel_rfl) (by kernel_rfl) (by kernel_rfl) rfl rfl (Yd.fieldAddr rfl) ?_
            refine DJ.yd 11 rfl (by kernel_rfl) (by kernel_rfl) (by kernel_rfl) rfl rfl (Yd.loadC 0 rfl rfl rfl) ?_
            refine DJ.yd 12 rfl (by kernel_rfl) (by kernel_rfl) (by kernel_rfl) rfl rfl (Yd.mvI rfl) ?_
            refine DJ.yd 13 rfl (by kernel_rfl) (by kernel_rfl) (by kernel_rfl) rfl rfl (Yd.add rfl rfl (by unfold I64; omega)) ?_
            refine DJ.slLA 14 rfl (by kernel_rfl) (by kernel_rfl) (by kernel_rfl) rfl rfl hlf rfl rfl (by omega) (by first | rfl | omega | (simp; done) | (simp; omega) | (simp [upN_len]; omega) | (simp [idxBy_len]; omega) | (simp [marks_len]; omega) | (simp [upN_len]; done) | (simp [idxBy_len]; done) | (simp [marks_len]; done) | (simp at *; omega)) (Row.adr wlf) (fun sa57 sm57 sc57 hsm57 hs57 => ?_)
            refine DJ.one (i := 4) (by kernel_rfl) ?_
            refine DO.op rfl rfl rfl (fun k0 hk0 dk0 => OpR.buildSlice (cs := []) rfl rfl) ?_
            rintro _ _ ⟨b9, rfl, rfl⟩
            refine DJ.one (i := 9) (by kernel_rfl) ?_
            refine DO.imp1 0 rfl (fun _ h => Cel.lr (enc := Pane.enc) (k := 4) (m := 0) [] rfl rfl rfl rfl h) ?_
            refine DO.norm [_] rfl ?_
            refine DO.op rfl rfl rfl (fun k0 hk0 dk0 => OpR.apA (enc := Pane.enc) 0 rfl (RdRow.up hs51) rfl (by first | rfl | omega | (simp; done) | (simp; omega) | (simp [upN_len]; omega) | (simp [idxBy_len]; omega) | (simp [marks_len]; omega) | (simp [upN_len]; done) | (simp [idxBy_len]; done) | (simp [marks_len]; done) | (simp at *; omega)) rfl (fun _ => rfl) (by first | rfl | omega | (simp; done) | (simp; omega) | (simp [upN_len]; omega) | (simp [idxBy_len]; omega) | (simp [marks_len]; omega) | (simp [upN_len]; done) | (simp [idxBy_len]; done) | (simp [marks_len]; done) | (simp at *; omega))) ?_
            rintro _ _ ⟨ra52, rc52, rfl, rfl⟩
            refine DJ.norm [_, _, _] [_] rfl rfl ?_
            refine DJ.one (i := 15) (by kernel_rfl) ?_
            refine DO.op rfl rfl rfl (fun k0 hk0 dk0 => OpR.apA (enc := Pane.enc) 0 rfl (RdRow.up hs57) rfl (by first | rfl | omega | (simp; done) | (simp; omega) | (simp [upN_len]; omega) | (simp [idxBy_len]; omega) | (simp [marks_len]; omega) | (simp [upN_len]; done) | (simp [idxBy_len]; done) | (simp [marks_len]; done) | (simp at *; omega)) rfl (fun _ => rfl) (by first | rfl | omega | (simp; done) | (simp; omega) | (simp [upN_len]; omega) | (simp [idxBy_len]; omega) | (simp [marks_len]; omega) | (simp [upN_len]; done) | (simp [idxBy_len]; done) | (simp [marks_len]; done) | (simp at *; omega))) ?_
            rintro _ _ ⟨ra58, rc58, rfl, rfl⟩
            refine DJ.norm [_, _, _] [_] rfl rfl ?_
            refine DJ.yd 16 rfl (by kernel_rfl) (by kernel_rfl) (by kernel_rfl) rfl rfl (Yd.build (cs := [_, _, _]) rfl) ?_
            refine DJ.one (i := 17) (by kernel_rfl) ?_
            refine DO.callV rfl rfl rfl (fun k0 hk0 dk0 k hk dk => FewestSheetsI_e (ps := wo F i) (Sts.lr hk dk 0 (by simp; omega) rfl) (by rw [List.nil_append, show sm51 = i by omega, show ((i : Int) + 1).toNat = i + 1 by omega])) ?_
            refine DJ.yd 18 rfl (by kernel_rfl) (by kernel_rfl) (by kernel_rfl) rfl rfl (Yd.asI rfl) ?_
            refine DJ.done (by kernel_rfl) ?_
            refine CJ.seq ?_
            refine CJ.seq ?_
            refine CJ.region ?_
            refine LJ.yd rfl (Yd.mvI rfl) ?_
            refine LJ.yd rfl (Yd.mvI rfl) ?_
            refine LJ.yd rfl (Yd.cmpF (Yd.gtr rfl rfl) (by omega)) ?_
            refine LJ.yd rfl (Yd.mvB rfl) ?_
            refine LJ.gT rfl ?_
            refine LJ.yd rfl (Yd.mvI rfl) ?_
            refine LJ.gT rfl ?_
            refine LJ.yd rfl (Yd.mvI rfl) ?_
            refine LJ.gT rfl ?_
            refine LJ.yd rfl (Yd.sub rfl rfl (by unfold I64; omega)) ?_
            refine LJ.gT rfl ?_
            refine LJ.yd rfl (Yd.cmpF (Yd.lss rfl rfl) (by omega)) ?_
            refine LJ.yd rfl (Yd.pickFB rfl rfl) ?_
            refine LJ.nil ?_
            refine CJ.condF rfl ?_
            refine CJ.skip ?_
            obtain ⟨u, hu⟩ := someC (l := F) (j := i) (by omega)
            have hGi : G[i]? = some u := by rw [hG, List.getElem?_append_right (by simp; omega), List.getElem?_drop]; simpa [Nat.min_eq_left (show i ≤ F.length by omega)] using hu
            refine CJ.region ?_
            refine LJ.yd rfl (Yd.fieldAddr rfl) ?_
            refine LJ.yd rfl (Yd.loadC 1 rfl rfl rfl) ?_
            refine LJ.yd rfl (Yd.mvI rfl) ?_
            refine LJ.idxR 2 rfl rfl rfl rfl (by omega) (by first | rfl | omega | (simp; done) | (simp; omega) | (simp [upN_len]; omega) | (simp [idxBy_len]; omega) | (simp [marks_len]; omega) | (simp [upN_len]; done) | (simp [idxBy_len]; done) | (simp [marks_len]; done) | (simp at *; omega)) (by first | rfl | omega | (simp; done) | (simp; omega) | (simp [upN_len]; omega) | (simp [idxBy_len]; omega) | (simp [marks_len]; omega) | (simp [upN_len]; done) | (simp [idxBy_len]; done) | (simp [marks_len]; done) | (simp at *; omega)) (fun ib73 ia73 => ?_)
            refine LJ.yd rfl (Yd.fieldAddr rfl) ?_
            refine LJ.op rfl (OpR.stR (enc := Pane.enc) (u' := ⟨u.W, u.H, true, u.Kind⟩) 2 2 rfl ia73 rfl rfl hGi rfl rfl rfl rfl rfl) ?_
            rintro _ _ ⟨rfl, rfl⟩
            refine LJ.norm [_, _, _, _] rfl ?_
            refine LJ.nil ?_
            refine CJ.region ?_
            refine LJ.yd rfl (Yd.mvI rfl) ?_
            refine LJ.yd rfl (Yd.add rfl rfl (by unfold I64; omega)) ?_
            refine LJ.yd rfl (Yd.asI rfl) ?_
            refine LJ.nil ?_
            refine ⟨(i + 1, _), ?_, ⟨rfl, rfl, rfl, trivial⟩, ⟨rfl, trivial⟩, Ent.pick [0, 1, 2] [3] rfl, ?_⟩
            · refine ⟨by omega, ?_⟩
              refine ⟨?_, by simp [hGl]⟩
              rw [hG, dropC hu, takeC hu, List.map_append]
              rw [show ∀ (P Q : List Pane) (x y : Pane), P.length = i → (P ++ x :: Q).set i y = P ++ y :: Q from fun P Q x y h => by subst h; simp]
              · simp [fre]
              · simp; omega
            · first | omega | (dsimp only; omega) | (simp only []; omega)
          · refine LJ.nil ?_
            refine CJ.condF rfl ?_
            refine CJ.exit ?_
            refine CJ.seq ?_
            have hfr := fs_fre hcf
            refine CJ.region ?_
            refine LJ.yd rfl (Yd.loadG (us := [_, _, _]) 1 rfl rfl rfl rfl) ?_
            refine LJ.callV rfl (fun k hk dk => FewestSheetsI_e (ps := F.map fre) (Sts.lrm hk dk 2 (by omega) (by simp; omega) rfl) (by rw [hG, List.take_of_length_le (by omega), List.drop_of_length_le (by omega), List.append_nil])) ?_
            refine LJ.yd rfl (Yd.mvI rfl) ?_
            refine LJ.yd rfl (Yd.cmpT (Yd.leq rfl rfl) (by omega)) ?_
            refine LJ.yd rfl (Yd.asB rfl) ?_
            refine LJ.nil ?_
            refine CJ.ret ?_
            refine Fin.V (Res.one (ResV.tmp (v := .bool true) rfl)) ?_
            rfl
end Go.Proofs.Ytkojheinklgdeaa
