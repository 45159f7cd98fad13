/-
  The law on cut lengths.
-/
import Derived.Test.YtlpjienaennmaaaPL4
namespace Go.Proofs.Ytlpjienaennmaaa
open Go
set_option maxRecDepth 20000
set_option maxHeartbeats 1000000

theorem cutl_len : ∀ (b : BT) (g : Box), ((b.cutl g).length : Int) = b.cuts
  | .w, _ => rfl
  | .p _ _, _ => rfl
  | .c d a l r, g => by have := cutl_len l (bxL d a g); have := cutl_len r (bxR d a g); simp only [BT.cutl, List.length_cons, List.length_append, BT.cuts]; omega
theorem cutLengths_ok (b : BT) : ∀ (A : Amb) (cs : List Value) (g : Box) (ps : List Pane), b.sz ≤ 100000 → GOk g → b.fits ps g.W g.H = true → RdT A.h cs b →
    Ctr Try.prog 50 #[.agg cs.toArray, vI g.W, vI g.H] A [] (RLP encI 3 1 (b.cutl g)) := by
  induction b with
  | w =>
    intro A cs g ps hk hg hf hr
    cases hr
    refine Ctr.body (args := [_, _, _]) Try.func50 rfl Try.ntmps50 Try.results50 (by simp) ?_
    refine CJ.seq ?_
    refine CJ.region ?_
    refine LJ.boxG (vs := [_, _, _, _, _]) rfl rfl (fun b1 => ?_)
    refine LJ.yd rfl (Yd.asS rfl) ?_
    refine LJ.nil ?_
    refine CJ.seq ?_
    refine CJ.seq ?_
    refine CJ.region ?_
    refine LJ.yd rfl (Yd.fieldAddr rfl) ?_
    refine LJ.yd rfl (Yd.loadC 0 rfl rfl rfl) ?_
    refine LJ.nil ?_
    refine CJ.block ?_
    refine CJ.seq ?_
    refine CJ.region ?_
    refine LJ.yd rfl (Yd.cmpF (Yd.eql rfl rfl) (by decide)) ?_
    refine LJ.yd rfl (Yd.asB rfl) ?_
    refine LJ.nil ?_
    refine CJ.condF rfl ?_
    refine CJ.seq ?_
    refine CJ.region ?_
    refine LJ.yd rfl (Yd.cmpF (Yd.eql rfl rfl) (by decide)) ?_
    refine LJ.yd rfl (Yd.asB rfl) ?_
    refine LJ.nil ?_
    refine CJ.condF rfl ?_
    refine CJ.skip ?_
    refine CJ.seq ?_
    refine CJ.region ?_
    refine LJ.op rfl (OpR.buildSlice (cs := []) rfl rfl) ?_
    rintro _ _ ⟨b2, rfl, rfl⟩
    refine LJ.yd rfl (Yd.asS rfl) ?_
    refine LJ.nil ?_
    refine CJ.ret ?_
    refine Fin.RS 1 [] (Res.one (ResV.tmp (v := .slice _ _ _) rfl)) rfl rfl rfl rfl rfl ?_
    rfl
  | p i t =>
    intro A cs g ps hk hg hf hr
    cases hr
    refine Ctr.body (args := [_, _, _]) Try.func50 rfl Try.ntmps50 Try.results50 (by simp) ?_
    refine CJ.seq ?_
    refine CJ.region ?_
    refine LJ.boxG (vs := [_, _, _, _, _]) rfl rfl (fun b1 => ?_)
    refine LJ.yd rfl (Yd.asS rfl) ?_
    refine LJ.nil ?_
    refine CJ.seq ?_
    refine CJ.seq ?_
    refine CJ.region ?_
    refine LJ.yd rfl (Yd.fieldAddr rfl) ?_
    refine LJ.yd rfl (Yd.loadC 0 rfl rfl rfl) ?_
    refine LJ.nil ?_
    refine CJ.block ?_
    refine CJ.seq ?_
    refine CJ.region ?_
    refine LJ.yd rfl (Yd.cmpF (Yd.eql rfl rfl) (by decide)) ?_
    refine LJ.yd rfl (Yd.asB rfl) ?_
    refine LJ.nil ?_
    refine CJ.condF rfl ?_
    refine CJ.seq ?_
    refine CJ.region ?_
    refine LJ.yd rfl (Yd.cmpF (Yd.eql rfl rfl) (by decide)) ?_
    refine LJ.yd rfl (Yd.asB rfl) ?_
    refine LJ.nil ?_
    refine CJ.condF rfl ?_
    refine CJ.skip ?_
    refine CJ.seq ?_
    refine CJ.region ?_
    refine LJ.op rfl (OpR.buildSlice (cs := []) rfl rfl) ?_
    rintro _ _ ⟨b2, rfl, rfl⟩
    refine LJ.yd rfl (Yd.asS rfl) ?_
    refine LJ.nil ?_
    refine CJ.ret ?_
    refine Fin.RS 1 [] (Res.one (ResV.tmp (v := .slice _ _ _) rfl)) rfl rfl rfl rfl rfl ?_
    rfl
  | c d x l r ihl ihr =>
    intro A cs g ps hk hg hf hr
    obtain _ | _ | ⟨ha, hcap, hrow, hl, hr⟩ := hr
    simp only [BT.sz] at hk
    have p1 := l.sz_pos
    have p2 := r.sz_pos
    obtain ⟨f1, f2, g1, g2, hx1⟩ := fits_k hf hg
    obtain ⟨_, _, _, _, _, _⟩ := id hg
    have hx2 : x ≤ 1000 := by obtain ⟨h1, h2⟩ := fits_c hf; cases d <;> simp at h1 h2 <;> omega
    have e1 := cutl_len l (bxL d x g)
    have e2 := cutl_len r (bxR d x g)
    have e3 := l.sz_cuts
    have e4 := r.sz_cuts
    cases d
    · refine Ctr.body (args := [_, _, _]) Try.func50 rfl Try.ntmps50 Try.results50 (by simp) ?_
      refine CJ.seq ?_
      refine CJ.region ?_
      refine LJ.boxG (vs := [_, _, _, _, _]) rfl rfl (fun b1 => ?_)
      refine LJ.yd rfl (Yd.asS rfl) ?_
      refine LJ.nil ?_
      refine CJ.seq ?_
      refine CJ.seq ?_
      refine CJ.region ?_
      refine LJ.yd rfl (Yd.fieldAddr rfl) ?_
      refine LJ.yd rfl (Yd.loadC 0 rfl rfl rfl) ?_
      refine LJ.nil ?_
      refine CJ.block ?_
      refine CJ.seq ?_
      refine CJ.region ?_
      refine LJ.yd rfl (Yd.cmpF (Yd.eql rfl rfl) (by decide)) ?_
      refine LJ.yd rfl (Yd.asB rfl) ?_
      refine LJ.nil ?_
      refine CJ.condF rfl ?_
      refine CJ.seq ?_
      refine CJ.region ?_
      refine LJ.yd rfl (Yd.cmpT (Yd.eql rfl rfl) (by decide)) ?_
      refine LJ.yd rfl (Yd.asB rfl) ?_
      refine LJ.nil ?_
      refine CJ.condT rfl ?_
      refine CJ.seq ?_
      refine CJ.regionD [0] [] (by kernel_rfl) rfl ?_
      refine DJ.norm [_] [] rfl rfl ?_
      refine DJ.yd 0 rfl (by kernel_rfl) (by kernel_rfl) (by kernel_rfl) rfl rfl (Yd.mvI rfl) ?_
      refine DJ.yd 2 rfl (by kernel_rfl) (by kernel_rfl) (by kernel_rfl) rfl rfl (Yd.fieldAddr rfl) ?_
      refine DJ.yd 3 rfl (by kernel_rfl) (by kernel_rfl) (by kernel_rfl) rfl rfl (Yd.loadC 0 rfl rfl rfl) ?_
      refine DJ.yd 4 rfl (by kernel_rfl) (by kernel_rfl) (by kernel_rfl) rfl rfl (Yd.indexAddr rfl rfl (by omega) (by simp)) ?_
      refine DJ.yd 5 rfl (by kernel_rfl) (by kernel_rfl) (by kernel_rfl) rfl rfl (Yd.loadRow (i := 0) hrow.up rfl (by simp) rfl hl.len) ?_
      refine DJ.yd 6 rfl (by kernel_rfl) (by kernel_rfl) (by kernel_rfl) rfl rfl (Yd.mvI rfl) ?_
      refine DJ.yd 7 rfl (by kernel_rfl) (by kernel_rfl) (by kernel_rfl) rfl rfl (Yd.fieldAddr rfl) ?_
      refine DJ.yd 8 rfl (by kernel_rfl) (by kernel_rfl) (by kernel_rfl) rfl rfl (Yd.loadC 0 rfl rfl rfl) ?_
      refine DJ.two (i := 1) (j := 9) (by kernel_rfl) ?_ ?_
      · refine DO.op rfl rfl rfl (fun k0 hk0 dk0 => OpR.buildSlice (cs := [_]) rfl rfl) ?_
        rintro _ _ ⟨b2, rfl, rfl⟩
        refine DJ.one (i := 9) (by kernel_rfl) ?_
        refine DO.call0 rfl rfl rfl (fun k0 hk0 dk0 k hk dk => ihl _ _ (bxL false x g) ps (by omega) g1 f1 hl.up) ?_
        rintro _ _ ⟨ra47, rc47, rfl, rfl⟩
        refine DJ.norm [_] [_, _] rfl rfl ?_
        refine DJ.one (i := 10) (by kernel_rfl) ?_
        refine DO.imp1 0 rfl (fun _ h => Cel.lr (enc := encI) (k := 1) (m := 1) [_] rfl rfl rfl rfl h) ?_
        refine DO.norm [_, _] rfl ?_
        refine DO.op rfl rfl rfl (fun k0 hk0 dk0 => OpR.apR (enc := encI) 0 1 rfl rfl rfl (by first | rfl | omega | (simp; done) | (simp; omega) | (simp [upN_len]; omega) | (simp [idxBy_len]; omega) | (simp [marks_len]; omega) | (simp [upN_len]; done) | (simp [idxBy_len]; done) | (simp [marks_len]; done) | (simp at *; omega)) rfl (by first | rfl | omega | (simp; done) | (simp; omega) | (simp [upN_len]; omega) | (simp [idxBy_len]; omega) | (simp [marks_len]; omega) | (simp [upN_len]; done) | (simp [idxBy_len]; done) | (simp [marks_len]; done) | (simp at *; omega)) (fun _ => rfl) (by first | rfl | omega | (simp; done) | (simp; omega) | (simp [upN_len]; omega) | (simp [idxBy_len]; omega) | (simp [marks_len]; omega) | (simp [upN_len]; done) | (simp [idxBy_len]; done) | (simp [marks_len]; done) | (simp at *; omega))) ?_
        rintro _ _ ⟨ra48, rc48, rfl, rfl⟩
        refine DJ.norm [_] [_, _] rfl rfl ?_
        refine DJ.yd 11 rfl (by kernel_rfl) (by kernel_rfl) (by kernel_rfl) rfl rfl (Yd.asS rfl) ?_
        refine DJ.done (by kernel_rfl) ?_
        refine CJ.seq ?_
        refine CJ.regionD [0, 2] [1] (by kernel_rfl) rfl ?_
        refine DJ.norm [_, _] [_] rfl rfl ?_
        refine DJ.yd 0 rfl (by kernel_rfl) (by kernel_rfl) (by kernel_rfl) rfl rfl (Yd.mvS rfl) ?_
        refine DJ.yd 1 rfl (by kernel_rfl) (by kernel_rfl) (by kernel_rfl) rfl rfl (Yd.fieldAddr rfl) ?_
        refine DJ.yd 2 rfl (by kernel_rfl) (by kernel_rfl) (by kernel_rfl) rfl rfl (Yd.loadC 0 rfl rfl rfl) ?_
        refine DJ.yd 3 rfl (by kernel_rfl) (by kernel_rfl) (by kernel_rfl) rfl rfl (Yd.indexAddr rfl rfl (by omega) (by simp)) ?_
        refine DJ.yd 4 rfl (by kernel_rfl) (by kernel_rfl) (by kernel_rfl) rfl rfl (Yd.loadRow (i := 1) hrow.up rfl (by simp) rfl hr.len) ?_
        refine DJ.yd 5 rfl (by kernel_rfl) (by kernel_rfl) (by kernel_rfl) rfl rfl (Yd.mvI rfl) ?_
        refine DJ.yd 6 rfl (by kernel_rfl) (by kernel_rfl) (by kernel_rfl) rfl rfl (Yd.mvI rfl) ?_
        refine DJ.yd 7 rfl (by kernel_rfl) (by kernel_rfl) (by kernel_rfl) rfl rfl (Yd.fieldAddr rfl) ?_
        refine DJ.yd 8 rfl (by kernel_rfl) (by kernel_rfl) (by kernel_rfl) rfl rfl (Yd.loadC 0 rfl rfl rfl) ?_
        refine DJ.yd 9 rfl (by kernel_rfl) (by kernel_rfl) (by kernel_rfl) rfl rfl (Yd.sub rfl rfl (by unfold I64; omega)) ?_
        refine DJ.one (i := 10) (by kernel_rfl) ?_
        refine DO.call0 rfl rfl rfl (fun k0 hk0 dk0 k hk dk => ihr _ _ (bxR false x g) ps (by omega) g2 f2 hr.up) ?_
        rintro _ _ ⟨ra59, rc59, rfl, rfl⟩
        refine DJ.norm [_, _] [_, _] rfl rfl ?_
        refine DJ.one (i := 11) (by kernel_rfl) ?_
        refine DO.op rfl rfl rfl (fun k0 hk0 dk0 => OpR.apR (enc := encI) 0 1 rfl rfl rfl (by first | rfl | omega | (simp; done) | (simp; omega) | (simp [upN_len]; omega) | (simp [idxBy_len]; omega) | (simp [marks_len]; omega) | (simp [upN_len]; done) | (simp [idxBy_len]; done) | (simp [marks_len]; done) | (simp at *; omega)) rfl (by first | rfl | omega | (simp; done) | (simp; omega) | (simp [upN_len]; omega) | (simp [idxBy_len]; omega) | (simp [marks_len]; omega) | (simp [upN_len]; done) | (simp [idxBy_len]; done) | (simp [marks_len]; done) | (simp at *; omega)) (fun _ => rfl) (by first | rfl | omega | (simp; done) | (simp; omega) | (simp [upN_len]; omega) | (simp [idxBy_len]; omega) | (simp [marks_len]; omega) | (simp [upN_len]; done) | (simp [idxBy_len]; done) | (simp [marks_len]; done) | (simp at *; omega))) ?_
        rintro _ _ ⟨ra60, rc60, rfl, rfl⟩
        refine DJ.norm [_, _] [_, _] rfl rfl ?_
        refine DJ.yd 12 rfl (by kernel_rfl) (by kernel_rfl) (by kernel_rfl) rfl rfl (Yd.asS rfl) ?_
        refine DJ.done (by kernel_rfl) ?_
        refine CJ.ret ?_
        refine Fin.RL 2 (Res.one (ResV.tmp (v := .slice _ _ _) rfl)) rfl (by first | rfl | omega | (simp; done) | (simp; omega) | (simp [upN_len]; omega) | (simp [idxBy_len]; omega) | (simp [marks_len]; omega) | (simp [upN_len]; done) | (simp [idxBy_len]; done) | (simp [marks_len]; done) | (simp at *; omega)) ?_
        rfl
      · refine DO.call0 rfl rfl rfl (fun k0 hk0 dk0 k hk dk => ihl _ _ (bxL false x g) ps (by omega) g1 f1 hl.up) ?_
        rintro _ _ ⟨ra47, rc47, rfl, rfl⟩
        refine DJ.norm [_] [_] rfl rfl ?_
        refine DJ.one (i := 1) (by kernel_rfl) ?_
        refine DO.op rfl rfl rfl (fun k0 hk0 dk0 => OpR.buildSlice (cs := [_]) rfl rfl) ?_
        rintro _ _ ⟨b3, rfl, rfl⟩
        refine DJ.one (i := 10) (by kernel_rfl) ?_
        refine DO.imp1 1 rfl (fun _ h => Cel.lr (enc := encI) (k := 1) (m := 1) [_] rfl rfl rfl rfl h) ?_
        refine DO.norm [_, _] rfl ?_
        refine DO.op rfl rfl rfl (fun k0 hk0 dk0 => OpR.apR (enc := encI) 1 0 rfl rfl rfl (by first | rfl | omega | (simp; done) | (simp; omega) | (simp [upN_len]; omega) | (simp [idxBy_len]; omega) | (simp [marks_len]; omega) | (simp [upN_len]; done) | (simp [idxBy_len]; done) | (simp [marks_len]; done) | (simp at *; omega)) rfl (by first | rfl | omega | (simp; done) | (simp; omega) | (simp [upN_len]; omega) | (simp [idxBy_len]; omega) | (simp [marks_len]; omega) | (simp [upN_len]; done) | (simp [idxBy_len]; done) | (simp [marks_len]; done) | (simp at *; omega)) (fun _ => rfl) (by first | rfl | omega | (simp; done) | (simp; omega) | (simp [upN_len]; omega) | (simp [idxBy_len]; omega) | (simp [marks_len]; omega) | (simp [upN_len]; done) | (simp [idxBy_len]; done) | (simp [marks_len]; done) | (simp at *; omega))) ?_
        rintro _ _ ⟨ra48, rc48, rfl, rfl⟩
        refine DJ.norm [_] [_, _] rfl rfl ?_
        refine DJ.yd 11 rfl (by kernel_rfl) (by kernel_rfl) (by kernel_rfl) rfl rfl (Yd.asS rfl) ?_
        refine DJ.done (by kernel_rfl) ?_
        refine CJ.seq ?_
        refine CJ.regionD [0, 1] [2] (by kernel_rfl) rfl ?_
        refine DJ.norm [_, _] [_] rfl rfl ?_
        refine DJ.yd 0 rfl (by kernel_rfl) (by kernel_rfl) (by kernel_rfl) rfl rfl (Yd.mvS rfl) ?_
        refine DJ.yd 1 rfl (by kernel_rfl) (by kernel_rfl) (by kernel_rfl) rfl rfl (Yd.fieldAddr rfl) ?_
        refine DJ.yd 2 rfl (by kernel_rfl) (by kernel_rfl) (by kernel_rfl) rfl rfl (Yd.loadC 0 rfl rfl rfl) ?_
        refine DJ.yd 3 rfl (by kernel_rfl) (by kernel_rfl) (by kernel_rfl) rfl rfl (Yd.indexAddr rfl rfl (by omega) (by simp)) ?_
        refine DJ.yd 4 rfl (by kernel_rfl) (by kernel_rfl) (by kernel_rfl) rfl rfl (Yd.loadRow (i := 1) hrow.up rfl (by simp) rfl hr.len) ?_
        refine DJ.yd 5 rfl (by kernel_rfl) (by kernel_rfl) (by kernel_rfl) rfl rfl (Yd.mvI rfl) ?_
        refine DJ.yd 6 rfl (by kernel_rfl) (by kernel_rfl) (by kernel_rfl) rfl rfl (Yd.mvI rfl) ?_
        refine DJ.yd 7 rfl (by kernel_rfl) (by kernel_rfl) (by kernel_rfl) rfl rfl (Yd.fieldAddr rfl) ?_
        refine DJ.yd 8 rfl (by kernel_rfl) (by kernel_rfl) (by kernel_rfl) rfl rfl (Yd.loadC 0 rfl rfl rfl) ?_
        refine DJ.yd 9 rfl (by kernel_rfl) (by kernel_rfl) (by kernel_rfl) rfl rfl (Yd.sub rfl rfl (by unfold I64; omega)) ?_
        refine DJ.one (i := 10) (by kernel_rfl) ?_
        refine DO.call0 rfl rfl rfl (fun k0 hk0 dk0 k hk dk => ihr _ _ (bxR false x g) ps (by omega) g2 f2 hr.up) ?_
        rintro _ _ ⟨ra59, rc59, rfl, rfl⟩
        refine DJ.norm [_, _] [_, _] rfl rfl ?_
        refine DJ.one (i := 11) (by kernel_rfl) ?_
        refine DO.op rfl rfl rfl (fun k0 hk0 dk0 => OpR.apR (enc := encI) 0 1 rfl rfl rfl (by first | rfl | omega | (simp; done) | (simp; omega) | (simp [upN_len]; omega) | (simp [idxBy_len]; omega) | (simp [marks_len]; omega) | (simp [upN_len]; done) | (simp [idxBy_len]; done) | (simp [marks_len]; done) | (simp at *; omega)) rfl (by first | rfl | omega | (simp; done) | (simp; omega) | (simp [upN_len]; omega) | (simp [idxBy_len]; omega) | (simp [marks_len]; omega) | (simp [upN_len]; done) | (simp [idxBy_len]; done) | (simp [marks_len]; done) | (simp at *; omega)) (fun _ => rfl) (by first | rfl | omega | (simp; done) | (simp; omega) | (simp [upN_len]; omega) | (simp [idxBy_len]; omega) | (simp [marks_len]; omega) | (simp [upN_len]; done) | (simp [idxBy_len]; done) | (simp [marks_len]; done) | (simp at *; omega))) ?_
        rintro _ _ ⟨ra60, rc60, rfl, rfl⟩
        refine DJ.norm [_, _] [_, _] rfl rfl ?_
        refine DJ.yd 12 rfl (by kernel_rfl) (by kernel_rfl) (by kernel_rfl) rfl rfl (Yd.asS rfl) ?_
        refine DJ.done (by kernel_rfl) ?_
        refine CJ.ret ?_
        refine Fin.RL 2 (Res.one (ResV.tmp (v := .slice _ _ _) rfl)) rfl (by first | rfl | omega | (simp; done) | (simp; omega) | (simp [upN_len]; omega) | (simp [idxBy_len]; omega) | (simp [marks_len]; omega) | (simp [upN_len]; done) | (simp [idxBy_len]; done) | (simp [marks_len]; done) | (simp at *; omega)) ?_
        rfl
    · refine Ctr.body (args := [_, _, _]) Try.func50 rfl Try.ntmps50 Try.results50 (by simp) ?_
      refine CJ.seq ?_
      refine CJ.region ?_
      refine LJ.boxG (vs := [_, _, _, _, _]) rfl rfl (fun b1 => ?_)
      refine LJ.yd rfl (Yd.asS rfl) ?_
      refine LJ.nil ?_
      refine CJ.seq ?_
      refine CJ.seq ?_
      refine CJ.region ?_
      refine LJ.yd rfl (Yd.fieldAddr rfl) ?_
      refine LJ.yd rfl (Yd.loadC 0 rfl rfl rfl) ?_
      refine LJ.nil ?_
      refine CJ.block ?_
      refine CJ.seq ?_
      refine CJ.region ?_
      refine LJ.yd rfl (Yd.cmpT (Yd.eql rfl rfl) (by decide)) ?_
      refine LJ.yd rfl (Yd.asB rfl) ?_
      refine LJ.nil ?_
      refine CJ.condT rfl ?_
      refine CJ.seq ?_
      refine CJ.regionD [0] [] (by kernel_rfl) rfl ?_
      refine DJ.norm [_] [] rfl rfl ?_
      refine DJ.yd 0 rfl (by kernel_rfl) (by kernel_rfl) (by kernel_rfl) rfl rfl (Yd.mvI rfl) ?_
      refine DJ.yd 2 rfl (by kernel_rfl) (by kernel_rfl) (by kernel_rfl) rfl rfl (Yd.fieldAddr rfl) ?_
      refine DJ.yd 3 rfl (by kernel_rfl) (by kernel_rfl) (by kernel_rfl) rfl rfl (Yd.loadC 0 rfl rfl rfl) ?_
      refine DJ.yd 4 rfl (by kernel_rfl) (by kernel_rfl) (by kernel_rfl) rfl rfl (Yd.indexAddr rfl rfl (by omega) (by simp)) ?_
      refine DJ.yd 5 rfl (by kernel_rfl) (by kernel_rfl) (by kernel_rfl) rfl rfl (Yd.loadRow (i := 0) hrow.up rfl (by simp) rfl hl.len) ?_
      refine DJ.yd 6 rfl (by kernel_rfl) (by kernel_rfl) (by kernel_rfl) rfl rfl (Yd.fieldAddr rfl) ?_
      refine DJ.yd 7 rfl (by kernel_rfl) (by kernel_rfl) (by kernel_rfl) rfl rfl (Yd.loadC 0 rfl rfl rfl) ?_
      refine DJ.yd 8 rfl (by kernel_rfl) (by kernel_rfl) (by kernel_rfl) rfl rfl (Yd.mvI rfl) ?_
      refine DJ.two (i := 1) (j := 9) (by kernel_rfl) ?_ ?_
      · refine DO.op rfl rfl rfl (fun k0 hk0 dk0 => OpR.buildSlice (cs := [_]) rfl rfl) ?_
        rintro _ _ ⟨b2, rfl, rfl⟩
        refine DJ.one (i := 9) (by kernel_rfl) ?_
        refine DO.call0 rfl rfl rfl (fun k0 hk0 dk0 k hk dk => ihl _ _ (bxL true x g) ps (by omega) g1 f1 hl.up) ?_
        rintro _ _ ⟨ra22, rc22, rfl, rfl⟩
        refine DJ.norm [_] [_, _] rfl rfl ?_
        refine DJ.one (i := 10) (by kernel_rfl) ?_
        refine DO.imp1 0 rfl (fun _ h => Cel.lr (enc := encI) (k := 1) (m := 1) [_] rfl rfl rfl rfl h) ?_
        refine DO.norm [_, _] rfl ?_
        refine DO.op rfl rfl rfl (fun k0 hk0 dk0 => OpR.apR (enc := encI) 0 1 rfl rfl rfl (by first | rfl | omega | (simp; done) | (simp; omega) | (simp [upN_len]; omega) | (simp [idxBy_len]; omega) | (simp [marks_len]; omega) | (simp [upN_len]; done) | (simp [idxBy_len]; done) | (simp [marks_len]; done) | (simp at *; omega)) rfl (by first | rfl | omega | (simp; done) | (simp; omega) | (simp [upN_len]; omega) | (simp [idxBy_len]; omega) | (simp [marks_len]; omega) | (simp [upN_len]; done) | (simp [idxBy_len]; done) | (simp [marks_len]; done) | (simp at *; omega)) (fun _ => rfl) (by first | rfl | omega | (simp; done) | (simp; omega) | (simp [upN_len]; omega) | (simp [idxBy_len]; omega) | (simp [marks_len]; omega) | (simp [upN_len]; done) | (simp [idxBy_len]; done) | (simp [marks_len]; done) | (simp at *; omega))) ?_
        rintro _ _ ⟨ra23, rc23, rfl, rfl⟩
        refine DJ.norm [_] [_, _] rfl rfl ?_
        refine DJ.yd 11 rfl (by kernel_rfl) (by kernel_rfl) (by kernel_rfl) rfl rfl (Yd.asS rfl) ?_
        refine DJ.done (by kernel_rfl) ?_
        refine CJ.seq ?_
        refine CJ.regionD [0, 2] [1] (by kernel_rfl) rfl ?_
        refine DJ.norm [_, _] [_] rfl rfl ?_
        refine DJ.yd 0 rfl (by kernel_rfl) (by kernel_rfl) (by kernel_rfl) rfl rfl (Yd.mvS rfl) ?_
        refine DJ.yd 1 rfl (by kernel_rfl) (by kernel_rfl) (by kernel_rfl) rfl rfl (Yd.fieldAddr rfl) ?_
        refine DJ.yd 2 rfl (by kernel_rfl) (by kernel_rfl) (by kernel_rfl) rfl rfl (Yd.loadC 0 rfl rfl rfl) ?_
        refine DJ.yd 3 rfl (by kernel_rfl) (by kernel_rfl) (by kernel_rfl) rfl rfl (Yd.indexAddr rfl rfl (by omega) (by simp)) ?_
        refine DJ.yd 4 rfl (by kernel_rfl) (by kernel_rfl) (by kernel_rfl) rfl rfl (Yd.loadRow (i := 1) hrow.up rfl (by simp) rfl hr.len) ?_
        refine DJ.yd 5 rfl (by kernel_rfl) (by kernel_rfl) (by kernel_rfl) rfl rfl (Yd.mvI rfl) ?_
        refine DJ.yd 6 rfl (by kernel_rfl) (by kernel_rfl) (by kernel_rfl) rfl rfl (Yd.fieldAddr rfl) ?_
        refine DJ.yd 7 rfl (by kernel_rfl) (by kernel_rfl) (by kernel_rfl) rfl rfl (Yd.loadC 0 rfl rfl rfl) ?_
        refine DJ.yd 8 rfl (by kernel_rfl) (by kernel_rfl) (by kernel_rfl) rfl rfl (Yd.sub rfl rfl (by unfold I64; omega)) ?_
        refine DJ.yd 9 rfl (by kernel_rfl) (by kernel_rfl) (by kernel_rfl) rfl rfl (Yd.mvI rfl) ?_
        refine DJ.one (i := 10) (by kernel_rfl) ?_
        refine DO.call0 rfl rfl rfl (fun k0 hk0 dk0 k hk dk => ihr _ _ (bxR true x g) ps (by omega) g2 f2 hr.up) ?_
        rintro _ _ ⟨ra34, rc34, rfl, rfl⟩
        refine DJ.norm [_, _] [_, _] rfl rfl ?_
        refine DJ.one (i := 11) (by kernel_rfl) ?_
        refine DO.op rfl rfl rfl (fun k0 hk0 dk0 => OpR.apR (enc := encI) 0 1 rfl rfl rfl (by first | rfl | omega | (simp; done) | (simp; omega) | (simp [upN_len]; omega) | (simp [idxBy_len]; omega) | (simp [marks_len]; omega) | (simp [upN_len]; done) | (simp [idxBy_len]; done) | (simp [marks_len]; done) | (simp at *; omega)) rfl (by first | rfl | omega | (simp; done) | (simp; omega) | (simp [upN_len]; omega) | (simp [idxBy_len]; omega) | (simp [marks_len]; omega) | (simp [upN_len]; done) | (simp [idxBy_len]; done) | (simp [marks_len]; done) | (simp at *; omega)) (fun _ => rfl) (by first | rfl | omega | (simp; done) | (simp; omega) | (simp [upN_len]; omega) | (simp [idxBy_len]; omega) | (simp [marks_len]; omega) | (simp [upN_len]; done) | (simp [idxBy_len]; done) | (simp [marks_len]; done) | (simp at *; omega))) ?_
        rintro _ _ ⟨ra35, rc35, rfl, rfl⟩
        refine DJ.norm [_, _] [_, _] rfl rfl ?_
        refine DJ.yd 12 rfl (by kernel_rfl) (by kernel_rfl) (by kernel_rfl) rfl rfl (Yd.asS rfl) ?_
        refine DJ.done (by kernel_rfl) ?_
        refine CJ.ret ?_
        refine Fin.RL 2 (Res.one (ResV.tmp (v := .slice _ _ _) rfl)) rfl (by first | rfl | omega | (simp; done) | (simp; omega) | (simp [upN_len]; omega) | (simp [idxBy_len]; omega) | (simp [marks_len]; omega) | (simp [upN_len]; done) | (simp [idxBy_len]; done) | (simp [marks_len]; done) | (simp at *; omega)) ?_
        rfl
      · refine DO.call0 rfl rfl rfl (fun k0 hk0 dk0 k hk dk => ihl _ _ (bxL true x g) ps (by omega) g1 f1 hl.up) ?_
        rintro _ _ ⟨ra22, rc22, rfl, rfl⟩
        refine DJ.norm [_] [_] rfl rfl ?_
        refine DJ.one (i := 1) (by kernel_rfl) ?_
        refine DO.op rfl rfl rfl (fun k0 hk0 dk0 => OpR.buildSlice (cs := [_]) rfl rfl) ?_
        rintro _ _ ⟨b3, rfl, rfl⟩
        refine DJ.one (i := 10) (by kernel_rfl) ?_
        refine DO.imp1 1 rfl (fun _ h => Cel.lr (enc := encI) (k := 1) (m := 1) [_] rfl rfl rfl rfl h) ?_
        refine DO.norm [_, _] rfl ?_
        refine DO.op rfl rfl rfl (fun k0 hk0 dk0 => OpR.apR (enc := encI) 1 0 rfl rfl rfl (by first | rfl | omega | (simp; done) | (simp; omega) | (simp [upN_len]; omega) | (simp [idxBy_len]; omega) | (simp [marks_len]; omega) | (simp [upN_len]; done) | (simp [idxBy_len]; done) | (simp [marks_len]; done) | (simp at *; omega)) rfl (by first | rfl | omega | (simp; done) | (simp; omega) | (simp [upN_len]; omega) | (simp [idxBy_len]; omega) | (simp [marks_len]; omega) | (simp [upN_len]; done) | (simp [idxBy_len]; done) | (simp [marks_len]; done) | (simp at *; omega)) (fun _ => rfl) (by first | rfl | omega | (simp; done) | (simp; omega) | (simp [upN_len]; omega) | (simp [idxBy_len]; omega) | (simp [marks_len]; omega) | (simp [upN_len]; done) | (simp [idxBy_len]; done) | (simp [marks_len]; done) | (simp at *; omega))) ?_
        rintro _ _ ⟨ra23, rc23, rfl, rfl⟩
        refine DJ.norm [_] [_, _] rfl rfl ?_
        refine DJ.yd 11 rfl (by kernel_rfl) (by kernel_rfl) (by kernel_rfl) rfl rfl (Yd.asS rfl) ?_
        refine DJ.done (by kernel_rfl) ?_
        refine CJ.seq ?_
        refine CJ.regionD [0, 1] [2] (by kernel_rfl) rfl ?_
        refine DJ.norm [_, _] [_] rfl rfl ?_
        refine DJ.yd 0 rfl (by kernel_rfl) (by kernel_rfl) (by kernel_rfl) rfl rfl (Yd.mvS rfl) ?_
        refine DJ.yd 1 rfl (by kernel_rfl) (by kernel_rfl) (by kernel_rfl) rfl rfl (Yd.fieldAddr rfl) ?_
        refine DJ.yd 2 rfl (by kernel_rfl) (by kernel_rfl) (by kernel_rfl) rfl rfl (Yd.loadC 0 rfl rfl rfl) ?_
        refine DJ.yd 3 rfl (by kernel_rfl) (by kernel_rfl) (by kernel_rfl) rfl rfl (Yd.indexAddr rfl rfl (by omega) (by simp)) ?_
        refine DJ.yd 4 rfl (by kernel_rfl) (by kernel_rfl) (by kernel_rfl) rfl rfl (Yd.loadRow (i := 1) hrow.up rfl (by simp) rfl hr.len) ?_
        refine DJ.yd 5 rfl (by kernel_rfl) (by kernel_rfl) (by kernel_rfl) rfl rfl (Yd.mvI rfl) ?_
        refine DJ.yd 6 rfl (by kernel_rfl) (by kernel_rfl) (by kernel_rfl) rfl rfl (Yd.fieldAddr rfl) ?_
        refine DJ.yd 7 rfl (by kernel_rfl) (by kernel_rfl) (by kernel_rfl) rfl rfl (Yd.loadC 0 rfl rfl rfl) ?_
        refine DJ.yd 8 rfl (by kernel_rfl) (by kernel_rfl) (by kernel_rfl) rfl rfl (Yd.sub rfl rfl (by unfold I64; omega)) ?_
        refine DJ.yd 9 rfl (by kernel_rfl) (by kernel_rfl) (by kernel_rfl) rfl rfl (Yd.mvI rfl) ?_
        refine DJ.one (i := 10) (by kernel_rfl) ?_
        refine DO.call0 rfl rfl rfl (fun k0 hk0 dk0 k hk dk => ihr _ _ (bxR true x g) ps (by omega) g2 f2 hr.up) ?_
        rintro _ _ ⟨ra34, rc34, rfl, rfl⟩
        refine DJ.norm [_, _] [_, _] rfl rfl ?_
        refine DJ.one (i := 11) (by kernel_rfl) ?_
        refine DO.op rfl rfl rfl (fun k0 hk0 dk0 => OpR.apR (enc := encI) 0 1 rfl rfl rfl (by first | rfl | omega | (simp; done) | (simp; omega) | (simp [upN_len]; omega) | (simp [idxBy_len]; omega) | (simp [marks_len]; omega) | (simp [upN_len]; done) | (simp [idxBy_len]; done) | (simp [marks_len]; done) | (simp at *; omega)) rfl (by first | rfl | omega | (simp; done) | (simp; omega) | (simp [upN_len]; omega) | (simp [idxBy_len]; omega) | (simp [marks_len]; omega) | (simp [upN_len]; done) | (simp [idxBy_len]; done) | (simp [marks_len]; done) | (simp at *; omega)) (fun _ => rfl) (by first | rfl | omega | (simp; done) | (simp; omega) | (simp [upN_len]; omega) | (simp [idxBy_len]; omega) | (simp [marks_len]; omega) | (simp [upN_len]; done) | (simp [idxBy_len]; done) | (simp [marks_len]; done) | (simp at *; omega))) ?_
        rintro _ _ ⟨ra35, rc35, rfl, rfl⟩
        refine DJ.norm [_, _] [_, _] rfl rfl ?_
        refine DJ.yd 12 rfl (by kernel_rfl) (by kernel_rfl) (by kernel_rfl) rfl rfl (Yd.asS rfl) ?_
        refine DJ.done (by kernel_rfl) ?_
        refine CJ.ret ?_
        refine Fin.RL 2 (Res.one (ResV.tmp (v := .slice _ _ _) rfl)) rfl (by first | rfl | omega | (simp; done) | (simp; omega) | (simp [upN_len]; omega) | (simp [idxBy_len]; omega) | (simp [marks_len]; omega) | (simp [upN_len]; done) | (simp [idxBy_len]; done) | (simp [marks_len]; done) | (simp at *; omega)) ?_
        rfl
theorem CutLengthsS_ok {A : Amb} {W H : Int} {v : Value} {ps : List Pane} {cs : List Value} {q : Plan} (hp : RdPanes A.h v ps) (hq : RdPlan A.h cs q) : Ctr Try.prog 13 #[.agg #[vI W, vI H, v], .agg cs.toArray] A [] (RLP encI 3 1 (ctP W H ps q)) := by
  have hp2 := hp
  obtain ⟨⟨sa, sc, rfl, hm, hrow⟩, hlen⟩ := hp2
  have hq2 := hq
  obtain ⟨o, a, i, t, kids, v2, css, hqe, rfl, ho, ha, hi, ⟨⟨sa2, sc2, rfl, hm2, hrow2⟩, hlen2⟩, hk⟩ := hq2.inv
  refine Ctr.body (args := [_, _]) Try.func13 rfl Try.ntmps13 Try.results13 (by simp) ?_
  refine CJ.seq ?_
  refine CJ.region ?_
  refine LJ.boxG (vs := [_, _, _]) rfl rfl (fun b1 => ?_)
  refine LJ.boxG (vs := [_, _, _, _, _]) rfl rfl (fun b2 => ?_)
  refine LJ.yd rfl (Yd.asS rfl) ?_
  refine LJ.nil ?_
  refine CJ.seq ?_
  refine CJ.seq ?_
  refine CJ.region ?_
  refine LJ.yd rfl (Yd.loadG (us := [_, _, _]) 0 rfl rfl rfl rfl) ?_
  refine LJ.yd rfl (Yd.loadG (us := [_, _, _, _, _]) 1 rfl rfl rfl rfl) ?_
  refine LJ.callB rfl (fun k hk dk => validPlanS_ok hp.up hq.up) (fun h7 => ?_) (fun h7 => ?_)
  · refine LJ.yd rfl (Yd.not rfl) ?_
    refine LJ.nil ?_
    refine CJ.condF rfl ?_
    refine CJ.skip ?_
    refine CJ.seq ?_
    obtain ⟨vw, vg, vf, vz, vs, ve⟩ := vp_facts h7
    refine CJ.region ?_
    refine LJ.yd rfl (Yd.loadG (us := [_, _, _, _, _]) 1 rfl rfl rfl rfl) ?_
    refine LJ.yd rfl (Yd.fieldAddr rfl) ?_
    refine LJ.yd rfl (Yd.loadC 0 rfl rfl rfl) ?_
    refine LJ.yd rfl (Yd.fieldAddr rfl) ?_
    refine LJ.yd rfl (Yd.loadC 0 rfl rfl rfl) ?_
    refine LJ.call0 rfl (fun k hk dk => cutLengths_ok (toBT q) _ _ (shB W H) ps (by omega) vg vf (toBT_rd hq.up vz)) ?_
    rintro _ _ ⟨ra14, rc14, rfl, rfl⟩
    refine LJ.norm [_, _, _] rfl ?_
    refine LJ.yd rfl (Yd.asS rfl) ?_
    refine LJ.nil ?_
    refine CJ.ret ?_
    refine Fin.RL 2 (Res.one (ResV.tmp (v := .slice _ _ _) rfl)) rfl (by first | rfl | omega | (simp; done) | (simp; omega) | (simp [upN_len]; omega) | (simp [idxBy_len]; omega) | (simp [marks_len]; omega) | (simp [upN_len]; done) | (simp [idxBy_len]; done) | (simp [marks_len]; done) | (simp at *; omega)) ?_
    first
      | (rw [ctP, if_neg (by rw [h7]; simp)]; done)
      | (rw [ctP, if_pos h7]; done)
  · refine LJ.yd rfl (Yd.not rfl) ?_
    refine LJ.nil ?_
    refine CJ.condT rfl ?_
    refine CJ.seq ?_
    refine CJ.region ?_
    refine LJ.yd rfl (Yd.asS rfl) ?_
    refine LJ.nil ?_
    refine CJ.ret ?_
    refine Fin.RN (Res.one (ResV.tmp (v := .slice _ _ _) rfl)) ?_
    first
      | (rw [ctP, if_neg (by rw [h7]; simp)]; done)
      | (rw [ctP, if_pos h7]; done)
theorem boxesOf_ok {A : Amb} {v : Value} {L : List Plc} (hl : RdL encPl 6 A.h v L) (hn : L.length ≤ 100000) : Ctr Try.prog 15 #[v] A [] (RLP Box.enc 41 4 (L.map Plc.b)) := by
  obtain ⟨la, lc, rfl, hlb, hl⟩ := hl.un
  refine Ctr.body (args := [_]) Try.func15 rfl Try.ntmps15 Try.results15 (by simp) ?_
  refine CJ.seq ?_
  refine CJ.region ?_
  refine LJ.yd rfl (Yd.asS rfl) ?_
  refine LJ.nil ?_
  refine CJ.seq ?_
  refine CJ.region ?_
  refine LJ.op rfl (OpR.buildSlice (cs := []) rfl rfl) ?_
  rintro _ _ ⟨b1, rfl, rfl⟩
  refine LJ.yd rfl (Yd.asS rfl) ?_
  refine LJ.nil ?_
  refine CJ.seq ?_
  refine CJ.seq ?_
  refine CJ.region ?_
  refine LJ.yd rfl (Yd.asI rfl) ?_
  refine LJ.nil ?_
  refine CJ.block ?_
  refine CJ.imp1 0 rfl (fun _ h => Cel.lr (enc := Box.enc) (k := 4) (m := 0) [] rfl rfl rfl rfl h) ?_
  refine CJ.norm [_] rfl ?_
  refine CJ.loopF [0, 2] (Nat × List (Box) × Option Addr × Nat × Nat) (fun ⟨k, O, OA, ON, OC⟩ => (ON = O.length) ∧ k ≤ L.length ∧ O.length ≤ k ∧ O = (L.take k).map Plc.b) (fun ⟨k, O, OA, ON, OC⟩ => [(4, vI k), (3, .slice OA ON OC)]) (fun ⟨k, O, OA, ON, OC⟩ => [LR Box.enc 41 4 OA OC O]) (fun ⟨k, O, OA, ON, OC⟩ => L.length - k) (0, [], _, _, _) [] [] [0] rfl rfl rfl ?_ ⟨rfl, rfl, trivial⟩ ?_
  · exact ⟨(by first | rfl | omega | (simp; done) | (simp; omega) | (simp [upN_len]; omega) | (simp [idxBy_len]; omega) | (simp [marks_len]; omega) | (simp [upN_len]; done) | (simp [idxBy_len]; done) | (simp [marks_len]; done) | (simp at *; omega)), ⟨by omega, by simp, rfl⟩⟩
  · rintro ⟨k, O, OA, ON, OC⟩ σ ⟨hlNO, ⟨hk1, hOl, hO⟩⟩
    subst hlNO
    refine CJ.norm [_] rfl ?_
    refine CJ.seq ?_
    refine CJ.seq ?_
    refine CJ.region ?_
    refine LJ.yd rfl (Yd.mvI rfl) ?_
    refine LJ.yd rfl (Yd.mvS rfl) ?_
    refine LJ.yd rfl (Yd.len rfl) ?_
    refine LJ.splitD rfl (Yd.lss rfl rfl) (fun h9 => ?_) (fun h9 => ?_)
    · refine LJ.nil ?_
      refine CJ.condT rfl ?_
      refine CJ.skip ?_
      refine CJ.seq ?_
      refine CJ.block ?_
      refine CJ.region ?_
      refine LJ.yd rfl (Yd.mvS rfl) ?_
      refine LJ.yd rfl (Yd.mvS rfl) ?_
      refine LJ.yd rfl (Yd.mvI rfl) ?_
      refine LJ.idxA rfl hl rfl rfl (by omega) (by first | rfl | omega | (simp; done) | (simp; omega) | (simp [upN_len]; omega) | (simp [idxBy_len]; omega) | (simp [marks_len]; omega) | (simp [upN_len]; done) | (simp [idxBy_len]; done) | (simp [marks_len]; done) | (simp at *; omega)) (fun ib15 io15 ia15 ir15 => ?_)
      refine LJ.yd rfl (Yd.fieldAddr rfl) ?_
      refine LJ.lsA 2 (fun u => [vI u.b.X, vI u.b.Y, vI u.b.W, vI u.b.H]) (fun _ => rfl) (fun _ => rfl) ir15 rfl rfl rfl (by first | rfl | omega | (simp; done) | (simp; omega) | (simp [upN_len]; omega) | (simp [idxBy_len]; omega) | (simp [marks_len]; omega) | (simp [upN_len]; done) | (simp [idxBy_len]; done) | (simp [marks_len]; done) | (simp at *; omega)) (fun u17 hu17 => ?_)
      try simp only [Int.toNat_natCast] at hu17
      refine LJ.op rfl (OpR.buildSlice (cs := [_, _, _, _]) rfl rfl) ?_
      rintro _ _ ⟨b2, rfl, rfl⟩
      refine LJ.op rfl (OpR.apT (enc := Box.enc) [⟨_, _, _, _⟩] 0 1 rfl rfl rfl (by first | rfl | omega | (simp; done) | (simp; omega) | (simp [upN_len]; omega) | (simp [idxBy_len]; omega) | (simp [marks_len]; omega) | (simp [upN_len]; done) | (simp [idxBy_len]; done) | (simp [marks_len]; done) | (simp at *; omega)) rfl rfl rfl rfl rfl (by first | rfl | omega | (simp; done) | (simp; omega) | (simp [upN_len]; omega) | (simp [idxBy_len]; omega) | (simp [marks_len]; omega) | (simp [upN_len]; done) | (simp [idxBy_len]; done) | (simp [marks_len]; done) | (simp at *; omega))) ?_
      rintro _ _ ⟨ra19, rc19, rfl, rfl⟩
      refine LJ.norm [_, _] rfl ?_
      refine LJ.yd rfl (Yd.asS rfl) ?_
      refine LJ.nil ?_
      refine CJ.region ?_
      refine LJ.yd rfl (Yd.mvI rfl) ?_
      refine LJ.yd rfl (Yd.add rfl rfl (by unfold I64; omega)) ?_
      refine LJ.yd rfl (Yd.asI rfl) ?_
      refine LJ.nil ?_
      refine ⟨(k + 1, _, _, _, _), ?_, ⟨rfl, rfl, trivial⟩, ⟨rfl, rfl, trivial⟩, Ent.pick [0] [1] rfl, ?_⟩
      · refine ⟨(by first | rfl | omega | (simp; done) | (simp; omega) | (simp [upN_len]; omega) | (simp [idxBy_len]; omega) | (simp [marks_len]; omega) | (simp [upN_len]; done) | (simp [idxBy_len]; done) | (simp [marks_len]; done) | (simp at *; omega)), ?_⟩
        refine ⟨by omega, ?_⟩
        rw [takeC hu17, List.map_append, ← hO]
        exact ⟨by rw [List.length_append]; exact Nat.add_le_add hOl (Nat.le_refl 1), rfl⟩
      · first | omega | (dsimp only; omega) | (simp only []; omega)
    · refine LJ.nil ?_
      refine CJ.condF rfl ?_
      refine CJ.exit ?_
      refine CJ.seq ?_
      refine CJ.region ?_
      refine LJ.yd rfl (Yd.mvS rfl) ?_
      refine LJ.yd rfl (Yd.asS rfl) ?_
      refine LJ.nil ?_
      refine CJ.ret ?_
      refine Fin.RL 0 (Res.one (ResV.tmp (v := .slice _ _ _) rfl)) rfl (by first | rfl | omega | (simp; done) | (simp; omega) | (simp [upN_len]; omega) | (simp [idxBy_len]; omega) | (simp [marks_len]; omega) | (simp [upN_len]; done) | (simp [idxBy_len]; done) | (simp [marks_len]; done) | (simp at *; omega)) ?_
      rw [hO, List.take_of_length_le (by omega)]
/-- widths and heights together -/
def whS : List Box → Int
  | [] => 0
  | b :: r => b.W + b.H + whS r
theorem whS_append : ∀ a b : List Box, whS (a ++ b) = whS a + whS b
  | [], b => by simp [whS]
  | x :: r, b => by simp only [List.cons_append, whS, whS_append r b]; omega
theorem whS_drop {L : List Box} {k : Nat} {u : Box} (h : L[k]? = some u) : whS (L.drop k) = u.W + u.H + whS (L.drop (k + 1)) := by rw [dropC h]; rfl
def totS : List Int → Int
  | [] => 0
  | x :: r => x + totS r
theorem totS_append : ∀ a b : List Int, totS (a ++ b) = totS a + totS b
  | [], b => by simp [totS]
  | x :: r, b => by simp only [List.cons_append, totS, totS_append r b]; omega
theorem totS_drop {L : List Int} {k : Nat} {u : Int} (h : L[k]? = some u) : totS (L.drop k) = u + totS (L.drop (k + 1)) := by rw [dropC h]; rfl
/-- each cut makes two edges -/
theorem edges_sum : ∀ (b : BT) (g : Box), whS ((b.plcs g).map Plc.b) + whS (b.wst g) = g.W + g.H + totS (b.cutl g)
  | .w, g => by simp [BT.plcs, BT.wst, BT.cutl, whS, totS]
  | .p i t, g => by simp [BT.plcs, BT.wst, BT.cutl, whS, totS]
  | .c d a l r, g => by
    have h1 := edges_sum l (bxL d a g)
    have h2 := edges_sum r (bxR d a g)
    simp only [BT.plcs, BT.wst, BT.cutl, List.map_append, whS_append, totS, totS_append]
    cases d <;> simp [bxL, bxR] at h1 h2 ⊢ <;> omega
theorem plcs_sd {ps : List Pane} : ∀ (b : BT) (g : Box), b.fits ps g.W g.H = true → (1 ≤ g.W ∧ g.W ≤ 200 ∧ 1 ≤ g.H ∧ g.H ≤ 200) → SdB ((b.plcs g).map Plc.b)
  | .w, g, _, hg, x, hx => by cases hx
  | .p i t, g, _, hg, x, hx => by simp [BT.plcs] at hx; subst hx; exact hg
  | .c d a l r, g, h, hg, x, hx => by
    obtain ⟨h1, h2⟩ := fits_c h
    rw [BT.plcs, List.map_append, List.mem_append] at hx
    cases d
    · obtain ⟨a1, a2, a3, a4⟩ := h2 rfl
      rcases hx with hx | hx
      · exact plcs_sd l _ (by simpa [bxL] using a3) (by simp [bxL]; omega) x hx
      · exact plcs_sd r _ (by simpa [bxR] using a4) (by simp [bxR]; omega) x hx
    · obtain ⟨a1, a2, a3, a4⟩ := h1 rfl
      rcases hx with hx | hx
      · exact plcs_sd l _ (by simpa [bxL] using a3) (by simp [bxL]; omega) x hx
      · exact plcs_sd r _ (by simpa [bxR] using a4) (by simp [bxR]; omega) x hx
theorem cutl_sd {ps : List Pane} : ∀ (b : BT) (g : Box), b.fits ps g.W g.H = true → (1 ≤ g.W ∧ g.W ≤ 200 ∧ 1 ≤ g.H ∧ g.H ≤ 200) → ∀ x ∈ b.cutl g, 1 ≤ x ∧ x ≤ 200
  | .w, g, _, hg, x, hx => by cases hx
  | .p i t, g, _, hg, x, hx => by cases hx
  | .c d a l r, g, h, hg, x, hx => by
    obtain ⟨h1, h2⟩ := fits_c h
    rw [BT.cutl, List.mem_cons, List.mem_append] at hx
    cases d
    · obtain ⟨a1, a2, a3, a4⟩ := h2 rfl
      rcases hx with hx | hx | hx
      · simp at hx; omega
      · exact cutl_sd l _ (by simpa [bxL] using a3) (by simp [bxL]; omega) x hx
      · exact cutl_sd r _ (by simpa [bxR] using a4) (by simp [bxR]; omega) x hx
    · obtain ⟨a1, a2, a3, a4⟩ := h1 rfl
      rcases hx with hx | hx | hx
      · simp at hx; omega
      · exact cutl_sd l _ (by simpa [bxL] using a3) (by simp [bxL]; omega) x hx
      · exact cutl_sd r _ (by simpa [bxR] using a4) (by simp [bxR]; omega) x hx
theorem plcs_len : ∀ (b : BT) (g : Box), ((b.plcs g).length : Int) ≤ b.sz
  | .w, _ => by simp [BT.plcs, BT.sz]
  | .p _ _, _ => by simp [BT.plcs, BT.sz]
  | .c d a l r, g => by have := plcs_len l (bxL d a g); have := plcs_len r (bxR d a g); simp only [BT.plcs, List.length_append, BT.sz]; omega
theorem totalP_ok {A : Amb} {v : Value} {l : List Int} (hl : RdL encI 1 A.h v l) (hb : ∀ u ∈ l, 1 ≤ u ∧ u ≤ 200) (hn : l.length ≤ 1000) : Ctr Try.prog 18 #[v] A [] (Val (vI (totS l))) := by
  obtain ⟨la, lc, rfl, hlb, hl⟩ := hl.un
  refine Ctr.body (args := [_]) Try.func18 rfl Try.ntmps18 Try.results18 (by simp) ?_
  refine CJ.seq ?_
  refine CJ.region ?_
  refine LJ.yd rfl (Yd.asI rfl) ?_
  refine LJ.nil ?_
  refine CJ.seq ?_
  refine CJ.region ?_
  refine LJ.yd rfl (Yd.asI rfl) ?_
  refine LJ.nil ?_
  refine CJ.seq ?_
  refine CJ.seq ?_
  refine CJ.region ?_
  refine LJ.yd rfl (Yd.asI rfl) ?_
  refine LJ.nil ?_
  refine CJ.block ?_
  refine CJ.loopK [0, 2] (Nat × Int) (fun ⟨k, x⟩ => k ≤ l.length ∧ 0 ≤ x ∧ x ≤ 1000 * k ∧ x + totS (l.drop k) = totS l) (fun ⟨k, x⟩ => [(4, vI k), (3, vI x)]) (fun ⟨k, x⟩ => l.length - k) (0, 0) ?_ ⟨rfl, rfl, trivial⟩ ?_
  · exact ⟨by omega, by omega, by omega, by simp⟩
  · rintro ⟨k, x⟩ σ ⟨hk1, hx0, hx1, hx⟩
    refine CJ.seq ?_
    refine CJ.seq ?_
    refine CJ.region ?_
    refine LJ.yd rfl (Yd.mvI rfl) ?_
    refine LJ.yd rfl (Yd.mvS rfl) ?_
    refine LJ.yd rfl (Yd.len rfl) ?_
    refine LJ.splitD rfl (Yd.lss rfl rfl) (fun h8 => ?_) (fun h8 => ?_)
    · refine LJ.nil ?_
      refine CJ.condT rfl ?_
      refine CJ.skip ?_
      refine CJ.seq ?_
      refine CJ.block ?_
      refine CJ.region ?_
      refine LJ.yd rfl (Yd.mvI rfl) ?_
      refine LJ.yd rfl (Yd.mvS rfl) ?_
      refine LJ.yd rfl (Yd.mvI rfl) ?_
      refine LJ.idxA rfl hl rfl rfl (by omega) (by first | rfl | omega | (simp; done) | (simp; omega) | (simp [upN_len]; omega) | (simp [idxBy_len]; omega) | (simp [marks_len]; omega) | (simp [upN_len]; done) | (simp [idxBy_len]; done) | (simp [marks_len]; done) | (simp at *; omega)) (fun ib14 io14 ia14 ir14 => ?_)
      refine LJ.ldA 0 (fun u => vI u) (fun _ => rfl) ir14 rfl rfl rfl (by first | rfl | omega | (simp; done) | (simp; omega) | (simp [upN_len]; omega) | (simp [idxBy_len]; omega) | (simp [marks_len]; omega) | (simp [upN_len]; done) | (simp [idxBy_len]; done) | (simp [marks_len]; done) | (simp at *; omega)) (fun u15 hu15 => ?_)
      try simp only [Int.toNat_natCast] at hu15
      have hf15 := hb u15 (List.mem_of_getElem? hu15)
      refine LJ.yd rfl (Yd.add rfl rfl (by unfold I64; omega)) ?_
      refine LJ.yd rfl (Yd.asI rfl) ?_
      refine LJ.nil ?_
      refine CJ.region ?_
      refine LJ.yd rfl (Yd.mvI rfl) ?_
      refine LJ.yd rfl (Yd.add rfl rfl (by unfold I64; omega)) ?_
      refine LJ.yd rfl (Yd.asI rfl) ?_
      refine LJ.nil ?_
      refine ⟨(k + 1, _), ?_, ⟨rfl, rfl, trivial⟩, ⟨rfl, rfl, trivial⟩, Ent.refl _, ?_⟩
      · refine ⟨by omega, ?_⟩
        rw [totS_drop hu15] at hx
        exact ⟨by omega, by omega, by omega⟩
      · first | omega | (dsimp only; omega) | (simp only []; omega)
    · refine LJ.nil ?_
      refine CJ.condF rfl ?_
      refine CJ.exit ?_
      refine CJ.seq ?_
      refine CJ.region ?_
      refine LJ.yd rfl (Yd.mvI rfl) ?_
      refine LJ.yd rfl (Yd.asI rfl) ?_
      refine LJ.nil ?_
      refine CJ.ret ?_
      refine Fin.V (Res.one (ResV.tmp (v := .int _ _) rfl)) ?_
      rw [List.drop_of_length_le (by omega)] at hx; rw [← hx]; simp [totS]
theorem totS_le : ∀ {l : List Int}, (∀ u ∈ l, 1 ≤ u ∧ u ≤ 200) → 0 ≤ totS l ∧ totS l ≤ 200 * l.length
  | [], _ => by simp [totS]
  | x :: r, h => by
    have h1 := h x List.mem_cons_self
    have h2 := totS_le (l := r) fun u hu => h u (List.mem_cons_of_mem _ hu)
    simp only [totS, List.length_cons]; omega
theorem equalInts_P {A : Amb} {v w : Value} {l : List Int} (hl : RdL encI 1 A.h v l) (hl2 : RdL encI 1 A.h w l) : Ctr Try.prog 12 #[v, w] A [] (Val (.bool true)) := by
  have := equalInts_ok hl hl2
  rwa [decide_eq_true rfl] at this
theorem ctP_len (W H : Int) (ps : List Pane) (q : Plan) : (ctP W H ps q).length ≤ 255 := by
  unfold ctP; split
  · rename_i h
    obtain ⟨_, _, _, _, hs, _⟩ := vp_facts h
    have := cutl_len (toBT q) (shB W H)
    have := (toBT q).sz_cuts
    have := (toBT q).cuts_nonneg
    omega
  · simp
theorem ct_facts {W H : Int} {ps : List Pane} {q : Plan} (h : vpOk W H ps q = true) : (1 ≤ W ∧ W ≤ 200 ∧ 1 ≤ H ∧ H ≤ 200) ∧ SdB ((plP W H ps q).map Plc.b ++ wsP W H ps q) ∧ (plP W H ps q).length ≤ 255 ∧ (wsP W H ps q).length ≤ 255 ∧ (∀ x ∈ ctP W H ps q, 1 ≤ x ∧ x ≤ 200) ∧
    whS ((plP W H ps q).map Plc.b ++ wsP W H ps q) = W + H + totS (ctP W H ps q) ∧ ((ctP W H ps q).length : Int) = if psz q < 0 then -1 else psz q / 2 := by
  obtain ⟨hw, hg, hf, hz, hs, he⟩ := vp_facts h
  have e1 : plP W H ps q = (toBT q).plcs (shB W H) := if_pos h
  have e2 : wsP W H ps q = (toBT q).wst (shB W H) := if_pos h
  have e3 : ctP W H ps q = (toBT q).cutl (shB W H) := if_pos h
  rw [e1, e2, e3]
  refine ⟨hw, fun x hx => ?_, by have := plcs_len (toBT q) (shB W H); omega, by have := wst_len (toBT q) (shB W H); omega, cutl_sd _ _ hf hw, ?_, ?_⟩
  · rcases List.mem_append.1 hx with hx | hx
    · exact plcs_sd _ _ hf hw x hx
    · exact wst_sd _ _ hf hw x hx
  · rw [whS_append, edges_sum]
  · rw [if_neg (by omega), cutl_len]
    have h1 := (toBT q).sz_cuts
    have h2 : psz q = (toBT q).sz := by
      have h3 := psz_BT (toBT q)
      rw [← he, if_pos hs] at h3; exact h3
    omega
theorem FnCutLengths_ok {A : Amb} {a : Option Addr} {n c : Nat} (h : Code A.h a n c) : Ctr Try.prog 3 #[.slice a n c] A [] (Val (.bool true)) := by
  refine Ctr.body (args := [_]) Try.func3 rfl Try.ntmps3 Try.results3 (by simp) ?_
  refine CJ.seq ?_
  refine CJ.region ?_
  refine LJ.yd rfl (Yd.asB rfl) ?_
  refine LJ.nil ?_
  refine CJ.seq ?_
  refine CJ.seq ?_
  refine CJ.region ?_
  refine LJ.yd rfl (Yd.mvS rfl) ?_
  refine LJ.yd rfl (Yd.len rfl) ?_
  refine LJ.splitD rfl (Yd.gtr rfl rfl) (fun h11 => ?_) (fun h11 => ?_)
  · refine LJ.nil ?_
    refine CJ.condT rfl ?_
    refine CJ.seq ?_
    refine CJ.region ?_
    refine LJ.yd rfl (Yd.asB rfl) ?_
    refine LJ.nil ?_
    refine CJ.ret ?_
    refine Fin.V (Res.one (ResV.tmp (v := .bool true) rfl)) ?_
    first
      | rfl
      | (refine congrArg Value.bool (decide_eq_true ?_); first | rfl | omega)
  · refine LJ.nil ?_
    refine CJ.condF rfl ?_
    refine CJ.skip ?_
    refine CJ.seq ?_
    refine CJ.region ?_
    refine LJ.yd rfl (Yd.mvS rfl) ?_
    refine LJ.call0 rfl (fun k hk dk => DrawCutLengths_ok h.up) ?_
    rintro _ _ ⟨W, H, ka, km, kc, o, e, i, t, x, m, l, pl, ps, rfl, rfl, hwh, hpsl, hpsw⟩
    have hcl := ctP_len W H ps pl
    refine LJ.yd rfl (Yd.mvU rfl) ?_
    refine LJ.yd rfl (Yd.extract rfl rfl) ?_
    refine LJ.yd rfl (Yd.extract rfl rfl) ?_
    refine LJ.alloc ([_, _, _] : List Value) rfl rfl (fun b1 => ?_)
    refine LJ.alloc ([_, _, _, _, _] : List Value) rfl rfl (fun b2 => ?_)
    refine LJ.store (v := .agg #[_, _, _]) (us := [_, _, _]) 2 rfl rfl rfl rfl rfl rfl rfl rfl ?_
    refine LJ.store (v := .agg #[_, _, _, _, _]) (us := [_, _, _, _, _]) 3 rfl rfl rfl rfl rfl rfl rfl rfl ?_
    refine LJ.nil ?_
    refine CJ.seq ?_
    refine CJ.amb (perm_pickF _ [0] [1, 2, 3] rfl) (fun m8 h8 d8 => ?_)
    refine CJ.norm [_, _, _] rfl ?_
    refine CJ.amb (perm_pickF _ [0] [1, 2] rfl) (fun m9 h9 d9 => ?_)
    refine CJ.norm [_, _] rfl ?_
    have hps : RdPanes ((A.ext m8).ext m9).h (.slice ka km kc) ps := RdRow.mono (RdRow.mono h8 (Amb.ext_own d8)) Amb.ext_up
    have hpl : RdPlan ((A.ext m8).ext m9).h [vI o, vI e, vI i, .bool t, .slice x m l] pl := RdPlan.mono (Amb.ext_own d9) h9
    refine CJ.region ?_
    refine LJ.yd rfl (Yd.loadG (us := [_, _, _]) 0 rfl rfl rfl rfl) ?_
    refine LJ.yd rfl (Yd.loadG (us := [_, _, _, _, _]) 1 rfl rfl rfl rfl) ?_
    refine LJ.call0 rfl (fun k hk dk => CutLengthsI_ok hps.up hpl.up) ?_
    rintro _ _ ⟨ra19, rc19, rfl, rfl⟩
    refine LJ.norm [_, _, _] rfl ?_
    refine LJ.yd rfl (Yd.asS rfl) ?_
    refine LJ.nil ?_
    refine CJ.seq ?_
    refine CJ.seq ?_
    refine CJ.region ?_
    refine LJ.yd rfl (Yd.mvS rfl) ?_
    refine LJ.yd rfl (Yd.loadG (us := [_, _, _]) 0 rfl rfl rfl rfl) ?_
    refine LJ.yd rfl (Yd.loadG (us := [_, _, _, _, _]) 1 rfl rfl rfl rfl) ?_
    refine LJ.call0 rfl (fun k hk dk => CutLengthsS_ok hps.up hpl.up) ?_
    rintro _ _ ⟨ra23, rc23, rfl, rfl⟩
    refine LJ.norm [_, _, _, _] rfl ?_
    refine LJ.callV rfl (fun k hk dk => equalInts_P (Sts.lrm hk dk 2 (by first | omega | (simp; omega)) (by first | rfl | omega | (simp; done) | (simp; omega) | (simp [upN_len]; omega) | (simp [idxBy_len]; omega) | (simp [marks_len]; omega) | (simp [upN_len]; done) | (simp [idxBy_len]; done) | (simp [marks_len]; done) | (simp at *; omega)) rfl) (Sts.lrm hk dk 3 (by first | omega | (simp; omega)) (by first | rfl | omega | (simp; done) | (simp; omega) | (simp [upN_len]; omega) | (simp [idxBy_len]; omega) | (simp [marks_len]; omega) | (simp [upN_len]; done) | (simp [idxBy_len]; done) | (simp [marks_len]; done) | (simp at *; omega)) rfl)) ?_
    refine LJ.yd rfl (Yd.not rfl) ?_
    refine LJ.yd rfl (Yd.mvB rfl) ?_
    refine LJ.gT rfl ?_
    refine LJ.yd rfl (Yd.loadG (us := [_, _, _]) 0 rfl rfl rfl rfl) ?_
    refine LJ.gT rfl ?_
    refine LJ.yd rfl (Yd.loadG (us := [_, _, _, _, _]) 1 rfl rfl rfl rfl) ?_
    refine LJ.gT rfl ?_
    refine LJ.callB rfl (fun k hk dk => ValidPlanI_ok hps.up hpl.up) (fun h29 => ?_) (fun h29 => ?_)
    · refine LJ.gT rfl ?_
      refine LJ.yd rfl (Yd.not rfl) ?_
      refine LJ.yd rfl (Yd.pickFB rfl rfl) ?_
      refine LJ.nil ?_
      refine CJ.condF rfl ?_
      refine CJ.skip ?_
      refine CJ.seq ?_
      obtain ⟨hf0, hf1, hf2, hf3, hf5, hf6, hf7⟩ := ct_facts h29
      have htl := totS_le hf5
      have hll : ((plP W H ps pl).map Plc.b ++ wsP W H ps pl).length ≤ 510 := by simp; omega
      refine CJ.regionD [0, 1, 2, 3] [] (by kernel_rfl) rfl ?_
      refine DJ.norm [_, _, _, _] [] rfl rfl ?_
      refine DJ.yd 0 rfl (by kernel_rfl) (by kernel_rfl) (by kernel_rfl) rfl rfl (Yd.loadG (us := [_, _, _]) 0 rfl rfl rfl rfl) ?_
      refine DJ.yd 1 rfl (by kernel_rfl) (by kernel_rfl) (by kernel_rfl) rfl rfl (Yd.loadG (us := [_, _, _, _, _]) 1 rfl rfl rfl rfl) ?_
      refine DJ.yd 4 rfl (by kernel_rfl) (by kernel_rfl) (by kernel_rfl) rfl rfl (Yd.loadG (us := [_, _, _]) 0 rfl rfl rfl rfl) ?_
      refine DJ.yd 5 rfl (by kernel_rfl) (by kernel_rfl) (by kernel_rfl) rfl rfl (Yd.loadG (us := [_, _, _, _, _]) 1 rfl rfl rfl rfl) ?_
      refine DJ.one (i := 2) (by kernel_rfl) ?_
      refine DO.call0 rfl rfl rfl (fun k0 hk0 dk0 k hk dk => PlacesOfI_ok hps.up hpl.up) ?_
      rintro _ _ ⟨ra39, rc39, rfl, rfl⟩
      refine DJ.norm [_, _, _, _] [_] rfl rfl ?_
      refine DJ.one (i := 3) (by kernel_rfl) ?_
      refine DO.call0 rfl rfl rfl (fun k0 hk0 dk0 k hk dk => boxesOf_ok (Sts.lrm hk dk 0 (by first | omega | (simp; omega)) (by first | rfl | omega | (simp; done) | (simp; omega) | (simp [upN_len]; omega) | (simp [idxBy_len]; omega) | (simp [marks_len]; omega) | (simp [upN_len]; done) | (simp [idxBy_len]; done) | (simp [marks_len]; done) | (simp at *; omega)) rfl) (by omega)) ?_
      rintro _ _ ⟨ra40, rc40, rfl, rfl⟩
      refine DJ.norm [_, _, _, _] [_, _] rfl rfl ?_
      refine DJ.one (i := 6) (by kernel_rfl) ?_
      refine DO.call0 rfl rfl rfl (fun k0 hk0 dk0 k hk dk => WastesOfI_ok hps.up hpl.up) ?_
      rintro _ _ ⟨ra43, rc43, rfl, rfl⟩
      refine DJ.norm [_, _, _, _] [_, _, _] rfl rfl ?_
      refine DJ.one (i := 7) (by kernel_rfl) ?_
      refine DO.op rfl rfl rfl (fun k0 hk0 dk0 => OpR.apR (enc := Box.enc) 1 2 rfl rfl rfl (by first | rfl | omega | (simp; done) | (simp; omega) | (simp [upN_len]; omega) | (simp [idxBy_len]; omega) | (simp [marks_len]; omega) | (simp [upN_len]; done) | (simp [idxBy_len]; done) | (simp [marks_len]; done) | (simp at *; omega)) rfl (by first | rfl | omega | (simp; done) | (simp; omega) | (simp [upN_len]; omega) | (simp [idxBy_len]; omega) | (simp [marks_len]; omega) | (simp [upN_len]; done) | (simp [idxBy_len]; done) | (simp [marks_len]; done) | (simp at *; omega)) (fun _ => rfl) (by first | rfl | omega | (simp; done) | (simp; omega) | (simp [upN_len]; omega) | (simp [idxBy_len]; omega) | (simp [marks_len]; omega) | (simp [upN_len]; done) | (simp [idxBy_len]; done) | (simp [marks_len]; done) | (simp at *; omega))) ?_
      rintro _ _ ⟨ra44, rc44, rfl, rfl⟩
      refine DJ.norm [_, _, _, _] [_, _, _] rfl rfl ?_
      refine DJ.yd 8 rfl (by kernel_rfl) (by kernel_rfl) (by kernel_rfl) rfl rfl (Yd.asS rfl) ?_
      refine DJ.done (by kernel_rfl) ?_
      refine CJ.seq ?_
      refine CJ.region ?_
      refine LJ.yd rfl (Yd.asI rfl) ?_
      refine LJ.nil ?_
      refine CJ.seq ?_
      refine CJ.seq ?_
      refine CJ.region ?_
      refine LJ.yd rfl (Yd.asI rfl) ?_
      refine LJ.nil ?_
      refine CJ.block ?_
      refine CJ.loopK [2, 3, 4, 5, 6] (Nat × Int) (fun ⟨k, x9⟩ => k ≤ ((plP W H ps pl).map Plc.b ++ wsP W H ps pl).length ∧ 0 ≤ x9 ∧ x9 ≤ 400 * k ∧ x9 + whS (((plP W H ps pl).map Plc.b ++ wsP W H ps pl).drop k) = whS ((plP W H ps pl).map Plc.b ++ wsP W H ps pl)) (fun ⟨k, x9⟩ => [(8, vI k), (7, vI x9)]) (fun ⟨k, x9⟩ => ((plP W H ps pl).map Plc.b ++ wsP W H ps pl).length - k) (0, 0) ?_ ⟨rfl, rfl, trivial⟩ ?_
      · exact ⟨by omega, by omega, by omega, by simp⟩
      · rintro ⟨k, x9⟩ σ ⟨hk1, hx0, hx1, hx⟩
        refine CJ.seq ?_
        refine CJ.seq ?_
        refine CJ.region ?_
        refine LJ.yd rfl (Yd.mvI rfl) ?_
        refine LJ.yd rfl (Yd.mvS rfl) ?_
        refine LJ.yd rfl (Yd.len rfl) ?_
        refine LJ.splitD rfl (Yd.lss rfl rfl) (fun h48 => ?_) (fun h48 => ?_)
        · refine LJ.nil ?_
          refine CJ.condT rfl ?_
          refine CJ.skip ?_
          refine CJ.seq ?_
          refine CJ.block ?_
          refine CJ.regionD [0, 1, 2, 3, 4, 5, 6] [] (by kernel_rfl) rfl ?_
          refine DJ.norm [_, _, _, _, _, _, _] [] rfl rfl ?_
          refine DJ.yd 0 rfl (by kernel_rfl) (by kernel_rfl) (by kernel_rfl) rfl rfl (Yd.mvI rfl) ?_
          refine DJ.yd 1 rfl (by kernel_rfl) (by kernel_rfl) (by kernel_rfl) rfl rfl (Yd.mvS rfl) ?_
          refine DJ.yd 2 rfl (by kernel_rfl) (by kernel_rfl) (by kernel_rfl) rfl rfl (Yd.mvI rfl) ?_
          refine DJ.idxF 5 rfl 3 rfl (by kernel_rfl) (by kernel_rfl) (by kernel_rfl) rfl rfl rfl rfl (by omega) (by first | rfl | omega | (simp; done) | (simp; omega) | (simp [upN_len]; omega) | (simp [idxBy_len]; omega) | (simp [marks_len]; omega) | (simp [upN_len]; done) | (simp [idxBy_len]; done) | (simp [marks_len]; done) | (simp at *; omega)) (by first | rfl | omega | (simp; done) | (simp; omega) | (simp [upN_len]; omega) | (simp [idxBy_len]; omega) | (simp [marks_len]; omega) | (simp [upN_len]; done) | (simp [idxBy_len]; done) | (simp [marks_len]; done) | (simp at *; omega)) (fun ib54 ia54 => ?_)
          refine DJ.yd 4 rfl (by kernel_rfl) (by kernel_rfl) (by kernel_rfl) rfl rfl (Yd.fieldAddr rfl) ?_
          refine DJ.ldF 5 rfl (by kernel_rfl) (by kernel_rfl) (by kernel_rfl) rfl rfl 5 2 (fun u => vI u.W) (fun _ => rfl) rfl ia54 rfl rfl (by first | rfl | omega | (simp; done) | (simp; omega) | (simp [upN_len]; omega) | (simp [idxBy_len]; omega) | (simp [marks_len]; omega) | (simp [upN_len]; done) | (simp [idxBy_len]; done) | (simp [marks_len]; done) | (simp at *; omega)) (fun u56 hu56 => ?_)
          try simp only [Int.toNat_natCast] at hu56
          have hs56 := hf1 u56 (List.mem_of_getElem? hu56)
          refine DJ.yd 6 rfl (by kernel_rfl) (by kernel_rfl) (by kernel_rfl) rfl rfl (Yd.add rfl rfl (by unfold I64; omega)) ?_
          refine DJ.yd 7 rfl (by kernel_rfl) (by kernel_rfl) (by kernel_rfl) rfl rfl (Yd.mvS rfl) ?_
          refine DJ.yd 8 rfl (by kernel_rfl) (by kernel_rfl) (by kernel_rfl) rfl rfl (Yd.mvI rfl) ?_
          refine DJ.idxF 5 rfl 9 rfl (by kernel_rfl) (by kernel_rfl) (by kernel_rfl) rfl rfl rfl rfl (by omega) (by first | rfl | omega | (simp; done) | (simp; omega) | (simp [upN_len]; omega) | (simp [idxBy_len]; omega) | (simp [marks_len]; omega) | (simp [upN_len]; done) | (simp [idxBy_len]; done) | (simp [marks_len]; done) | (simp at *; omega)) (by first | rfl | omega | (simp; done) | (simp; omega) | (simp [upN_len]; omega) | (simp [idxBy_len]; omega) | (simp [marks_len]; omega) | (simp [upN_len]; done) | (simp [idxBy_len]; done) | (simp [marks_len]; done) | (simp at *; omega)) (fun ib60 ia60 => ?_)
          refine DJ.yd 10 rfl (by kernel_rfl) (by kernel_rfl) (by kernel_rfl) rfl rfl (Yd.fieldAddr rfl) ?_
          refine DJ.ldF 11 rfl (by kernel_rfl) (by kernel_rfl) (by kernel_rfl) rfl rfl 5 3 (fun u => vI u.H) (fun _ => rfl) rfl ia60 rfl rfl (by first | rfl | omega | (simp; done) | (simp; omega) | (simp [upN_len]; omega) | (simp [idxBy_len]; omega) | (simp [marks_len]; omega) | (simp [upN_len]; done) | (simp [idxBy_len]; done) | (simp [marks_len]; done) | (simp at *; omega)) (fun u62 hu62 => ?_)
          try simp only [Int.toNat_natCast] at hu62
          obtain rfl : u56 = u62 := by rw [hu56] at hu62; exact Option.some.inj hu62
          refine DJ.yd 12 rfl (by kernel_rfl) (by kernel_rfl) (by kernel_rfl) rfl rfl (Yd.add rfl rfl (by unfold I64; omega)) ?_
          refine DJ.yd 13 rfl (by kernel_rfl) (by kernel_rfl) (by kernel_rfl) rfl rfl (Yd.asI rfl) ?_
          refine DJ.done (by kernel_rfl) ?_
          refine CJ.region ?_
          refine LJ.yd rfl (Yd.mvI rfl) ?_
          refine LJ.yd rfl (Yd.add rfl rfl (by unfold I64; omega)) ?_
          refine LJ.yd rfl (Yd.asI rfl) ?_
          refine LJ.nil ?_
          refine ⟨(k + 1, _), ?_, ⟨rfl, rfl, rfl, rfl, rfl, trivial⟩, ⟨rfl, rfl, trivial⟩, Ent.refl _, ?_⟩
          · refine ⟨by omega, ?_⟩
            rw [whS_drop hu56] at hx
            exact ⟨by omega, by omega, by omega⟩
          · first | omega | (dsimp only; omega) | (simp only []; omega)
        · refine LJ.nil ?_
          refine CJ.condF rfl ?_
          refine CJ.exit ?_
          refine CJ.seq ?_
          refine CJ.regionD [0, 1, 2, 3, 4, 5, 6] [] (by kernel_rfl) rfl ?_
          refine DJ.norm [_, _, _, _, _, _, _] [] rfl rfl ?_
          refine DJ.yd 0 rfl (by kernel_rfl) (by kernel_rfl) (by kernel_rfl) rfl rfl (Yd.mvI rfl) ?_
          refine DJ.yd 1 rfl (by kernel_rfl) (by kernel_rfl) (by kernel_rfl) rfl rfl (Yd.fieldAddr rfl) ?_
          refine DJ.yd 2 rfl (by kernel_rfl) (by kernel_rfl) (by kernel_rfl) rfl rfl (Yd.loadC 0 rfl rfl rfl) ?_
          refine DJ.yd 3 rfl (by kernel_rfl) (by kernel_rfl) (by kernel_rfl) rfl rfl (Yd.fieldAddr rfl) ?_
          refine DJ.yd 4 rfl (by kernel_rfl) (by kernel_rfl) (by kernel_rfl) rfl rfl (Yd.loadC 0 rfl rfl rfl) ?_
          refine DJ.yd 5 rfl (by kernel_rfl) (by kernel_rfl) (by kernel_rfl) rfl rfl (Yd.add rfl rfl (by unfold I64; omega)) ?_
          refine DJ.yd 6 rfl (by kernel_rfl) (by kernel_rfl) (by kernel_rfl) rfl rfl (Yd.mvS rfl) ?_
          refine DJ.one (i := 7) (by kernel_rfl) ?_
          refine DO.callV rfl rfl rfl (fun k0 hk0 dk0 k hk dk => totalP_ok (RdRow.up (Sts.lrm hk0 dk0 2 (by first | omega | (simp; omega)) (by first | rfl | omega | (simp; done) | (simp; omega) | (simp [upN_len]; omega) | (simp [idxBy_len]; omega) | (simp [marks_len]; omega) | (simp [upN_len]; done) | (simp [idxBy_len]; done) | (simp [marks_len]; done) | (simp at *; omega)) rfl)) hf5 (by omega)) ?_
          refine DJ.yd 8 rfl (by kernel_rfl) (by kernel_rfl) (by kernel_rfl) rfl rfl (Yd.add rfl rfl (by unfold I64; omega)) ?_
          refine DJ.yd 9 rfl (by kernel_rfl) (by kernel_rfl) (by kernel_rfl) rfl rfl (Yd.cmpT (Yd.eql rfl rfl) (by rw [List.drop_of_length_le (by omega)] at hx; simp only [whS] at hx; omega)) ?_
          refine DJ.yd 10 rfl (by kernel_rfl) (by kernel_rfl) (by kernel_rfl) rfl rfl (Yd.mvB rfl) ?_
          refine DJ.yd 11 rfl (by kernel_rfl) (by kernel_rfl) (by kernel_rfl) rfl rfl (Yd.mvS rfl) ?_
          refine DJ.yd 12 rfl (by kernel_rfl) (by kernel_rfl) (by kernel_rfl) rfl rfl (Yd.len rfl) ?_
          refine DJ.yd 13 rfl (by kernel_rfl) (by kernel_rfl) (by kernel_rfl) rfl rfl (Yd.loadG (us := [_, _, _, _, _]) 1 rfl rfl rfl rfl) ?_
          refine DJ.one (i := 14) (by kernel_rfl) ?_
          refine DO.callV rfl rfl rfl (fun k0 hk0 dk0 k hk dk => CutsOf_ok hpl.up) ?_
          refine DJ.yd 15 rfl (by kernel_rfl) (by kernel_rfl) (by kernel_rfl) rfl rfl (Yd.eql rfl rfl) ?_
          refine DJ.yd 16 rfl (by kernel_rfl) (by kernel_rfl) (by kernel_rfl) rfl rfl (Yd.pickTB rfl rfl) ?_
          refine DJ.yd 17 rfl (by kernel_rfl) (by kernel_rfl) (by kernel_rfl) rfl rfl (Yd.asB rfl) ?_
          refine DJ.done (by kernel_rfl) ?_
          refine CJ.ret ?_
          refine Fin.V (Res.one (ResV.tmp (v := .bool _) rfl)) ?_
          first
            | rfl
            | (refine congrArg Value.bool (decide_eq_true ?_); first | rfl | omega)
    · refine LJ.gT rfl ?_
      refine LJ.yd rfl (Yd.not rfl) ?_
      refine LJ.yd rfl (Yd.pickFB rfl rfl) ?_
      refine LJ.nil ?_
      refine CJ.condT rfl ?_
      refine CJ.seq ?_
      refine CJ.region ?_
      refine LJ.yd rfl (Yd.mvS rfl) ?_
      refine LJ.yd rfl (Yd.loadG (us := [_, _, _]) 0 rfl rfl rfl rfl) ?_
      refine LJ.yd rfl (Yd.loadG (us := [_, _, _, _, _]) 1 rfl rfl rfl rfl) ?_
      refine LJ.call0 rfl (fun k hk dk => CutLengthsS_ok hps.up hpl.up) ?_
      rintro _ _ ⟨ra35, rc35, rfl, rfl⟩
      refine LJ.norm [_, _, _, _, _] rfl ?_
      refine LJ.callV rfl (fun k hk dk => equalInts_P (Sts.lrm hk dk 2 (by first | omega | (simp; omega)) (by first | rfl | omega | (simp; done) | (simp; omega) | (simp [upN_len]; omega) | (simp [idxBy_len]; omega) | (simp [marks_len]; omega) | (simp [upN_len]; done) | (simp [idxBy_len]; done) | (simp [marks_len]; done) | (simp at *; omega)) rfl) (Sts.lrm hk dk 4 (by first | omega | (simp; omega)) (by first | rfl | omega | (simp; done) | (simp; omega) | (simp [upN_len]; omega) | (simp [idxBy_len]; omega) | (simp [marks_len]; omega) | (simp [upN_len]; done) | (simp [idxBy_len]; done) | (simp [marks_len]; done) | (simp at *; omega)) rfl)) ?_
      refine LJ.yd rfl (Yd.asB rfl) ?_
      refine LJ.nil ?_
      refine CJ.ret ?_
      refine Fin.V (Res.one (ResV.tmp (v := .bool true) rfl)) ?_
      first
        | rfl
        | (refine congrArg Value.bool (decide_eq_true ?_); first | rfl | omega)
end Go.Proofs.Ytlpjienaennmaaa
