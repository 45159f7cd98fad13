/-
  Contracts: places, wastes and cut lengths of a plan in the reference; the area that is lost.
-/
import Derived.Test.YtlpjienaennmaaaPL2
namespace Go.Proofs.Ytlpjienaennmaaa
open Go
set_option maxRecDepth 20000
set_option maxHeartbeats 1000000

theorem spr_len : ∀ (b : BT) (g : Box), ((b.spr g).length : Int) ≤ b.sz
  | .w, _ => by simp [BT.spr, BT.sz]
  | .p _ _, _ => by simp [BT.spr, BT.sz]
  | .c d a l r, g => by have := spr_len l (bxL d a g); have := spr_len r (bxR d a g); simp only [BT.spr, List.length_append, BT.sz]; omega
theorem spread_ok (b : BT) : ∀ (A : Amb) (cs : List Value) (g : Box) (ps : List Pane), b.sz ≤ 100000 → GOk g → b.fits ps g.W g.H = true → RdT A.h cs b →
    Ctr Try.prog 90 #[.agg cs.toArray, agX g] A [] (RLP encPl 88 6 (b.spr g)) := by
  induction b with
  | w =>
    intro A cs g ps hk hg hf hr
    cases hr
    refine Ctr.body (args := [_, _]) Try.func90 rfl Try.ntmps90 Try.results90 (by simp) ?_
    refine CJ.seq ?_
    refine CJ.region ?_
    refine LJ.boxG (vs := [_, _, _, _, _]) rfl rfl (fun b1 => ?_)
    refine LJ.boxG (vs := [_, _, _, _]) rfl rfl (fun b2 => ?_)
    refine LJ.yd rfl (Yd.asS rfl) ?_
    refine LJ.nil ?_
    refine CJ.seq ?_
    refine CJ.seq ?_
    refine CJ.region ?_
    refine LJ.yd rfl (Yd.fieldAddr rfl) ?_
    refine LJ.yd rfl (Yd.loadC 0 rfl rfl rfl) ?_
    refine LJ.nil ?_
    refine CJ.block ?_
    refine CJ.seq ?_
    refine CJ.region ?_
    refine LJ.yd rfl (Yd.cmpF (Yd.eql rfl rfl) (by decide)) ?_
    refine LJ.yd rfl (Yd.asB rfl) ?_
    refine LJ.nil ?_
    refine CJ.condF rfl ?_
    refine CJ.seq ?_
    refine CJ.region ?_
    refine LJ.yd rfl (Yd.cmpF (Yd.eql rfl rfl) (by decide)) ?_
    refine LJ.yd rfl (Yd.asB rfl) ?_
    refine LJ.nil ?_
    refine CJ.condF rfl ?_
    refine CJ.seq ?_
    refine CJ.region ?_
    refine LJ.yd rfl (Yd.cmpF (Yd.eql rfl rfl) (by decide)) ?_
    refine LJ.yd rfl (Yd.asB rfl) ?_
    refine LJ.nil ?_
    refine CJ.condF rfl ?_
    refine CJ.skip ?_
    refine CJ.seq ?_
    refine CJ.region ?_
    refine LJ.yd rfl (Yd.loadG (us := [_, _, _, _]) 1 rfl rfl rfl rfl) ?_
    refine LJ.yd rfl (Yd.build (cs := [_, _, _, _, _, _]) rfl) ?_
    refine LJ.op rfl (OpR.buildSlice (cs := [_, _, _, _, _, _]) rfl rfl) ?_
    rintro _ _ ⟨b3, rfl, rfl⟩
    refine LJ.yd rfl (Yd.asS rfl) ?_
    refine LJ.nil ?_
    refine CJ.ret ?_
    exact Fin.RS 2 [(⟨-1, false, g⟩ : Plc)] (Res.one (ResV.tmp (v := .slice _ _ _) rfl)) rfl rfl rfl rfl rfl rfl
  | p i t =>
    intro A cs g ps hk hg hf hr
    cases hr
    refine Ctr.body (args := [_, _]) Try.func90 rfl Try.ntmps90 Try.results90 (by simp) ?_
    refine CJ.seq ?_
    refine CJ.region ?_
    refine LJ.boxG (vs := [_, _, _, _, _]) rfl rfl (fun b1 => ?_)
    refine LJ.boxG (vs := [_, _, _, _]) rfl rfl (fun b2 => ?_)
    refine LJ.yd rfl (Yd.asS rfl) ?_
    refine LJ.nil ?_
    refine CJ.seq ?_
    refine CJ.seq ?_
    refine CJ.region ?_
    refine LJ.yd rfl (Yd.fieldAddr rfl) ?_
    refine LJ.yd rfl (Yd.loadC 0 rfl rfl rfl) ?_
    refine LJ.nil ?_
    refine CJ.block ?_
    refine CJ.seq ?_
    refine CJ.region ?_
    refine LJ.yd rfl (Yd.cmpF (Yd.eql rfl rfl) (by decide)) ?_
    refine LJ.yd rfl (Yd.asB rfl) ?_
    refine LJ.nil ?_
    refine CJ.condF rfl ?_
    refine CJ.seq ?_
    refine CJ.region ?_
    refine LJ.yd rfl (Yd.cmpF (Yd.eql rfl rfl) (by decide)) ?_
    refine LJ.yd rfl (Yd.asB rfl) ?_
    refine LJ.nil ?_
    refine CJ.condF rfl ?_
    refine CJ.seq ?_
    refine CJ.region ?_
    refine LJ.yd rfl (Yd.cmpT (Yd.eql rfl rfl) (by decide)) ?_
    refine LJ.yd rfl (Yd.asB rfl) ?_
    refine LJ.nil ?_
    refine CJ.condT rfl ?_
    refine CJ.seq ?_
    refine CJ.region ?_
    refine LJ.yd rfl (Yd.fieldAddr rfl) ?_
    refine LJ.yd rfl (Yd.loadC 0 rfl rfl rfl) ?_
    refine LJ.yd rfl (Yd.fieldAddr rfl) ?_
    refine LJ.yd rfl (Yd.loadC 0 rfl rfl rfl) ?_
    refine LJ.yd rfl (Yd.loadG (us := [_, _, _, _]) 1 rfl rfl rfl rfl) ?_
    refine LJ.yd rfl (Yd.build (cs := [_, _, _, _, _, _]) rfl) ?_
    refine LJ.op rfl (OpR.buildSlice (cs := [_, _, _, _, _, _]) rfl rfl) ?_
    rintro _ _ ⟨b3, rfl, rfl⟩
    refine LJ.yd rfl (Yd.asS rfl) ?_
    refine LJ.nil ?_
    refine CJ.ret ?_
    exact Fin.RS 2 [(⟨i, t, g⟩ : Plc)] (Res.one (ResV.tmp (v := .slice _ _ _) rfl)) rfl rfl rfl rfl rfl rfl
  | c d x l r ihl ihr =>
    intro A cs g ps hk hg hf hr
    obtain _ | _ | ⟨ha, hcap, hrow, hl, hr⟩ := hr
    simp only [BT.sz] at hk
    have p1 := l.sz_pos
    have p2 := r.sz_pos
    obtain ⟨f1, f2, g1, g2, hx1⟩ := fits_k hf hg
    obtain ⟨_, _, _, _, _, _⟩ := id hg
    have hx2 : x ≤ 1000 := by obtain ⟨h1, h2⟩ := fits_c hf; cases d <;> simp at h1 h2 <;> omega
    have e1 := spr_len l (bxL d x g)
    have e2 := spr_len r (bxR d x g)
    cases d
    · refine Ctr.body (args := [_, _]) Try.func90 rfl Try.ntmps90 Try.results90 (by simp) ?_
      refine CJ.seq ?_
      refine CJ.region ?_
      refine LJ.boxG (vs := [_, _, _, _, _]) rfl rfl (fun b1 => ?_)
      refine LJ.boxG (vs := [_, _, _, _]) rfl rfl (fun b2 => ?_)
      refine LJ.yd rfl (Yd.asS rfl) ?_
      refine LJ.nil ?_
      refine CJ.seq ?_
      refine CJ.seq ?_
      refine CJ.region ?_
      refine LJ.yd rfl (Yd.fieldAddr rfl) ?_
      refine LJ.yd rfl (Yd.loadC 0 rfl rfl rfl) ?_
      refine LJ.nil ?_
      refine CJ.block ?_
      refine CJ.seq ?_
      refine CJ.region ?_
      refine LJ.yd rfl (Yd.cmpF (Yd.eql rfl rfl) (by decide)) ?_
      refine LJ.yd rfl (Yd.asB rfl) ?_
      refine LJ.nil ?_
      refine CJ.condF rfl ?_
      refine CJ.seq ?_
      refine CJ.region ?_
      refine LJ.yd rfl (Yd.cmpT (Yd.eql rfl rfl) (by decide)) ?_
      refine LJ.yd rfl (Yd.asB rfl) ?_
      refine LJ.nil ?_
      refine CJ.condT rfl ?_
      refine CJ.seq ?_
      refine CJ.regionD [0, 1] [] (by kernel_rfl) rfl ?_
      refine DJ.norm [_, _] [] rfl rfl ?_
      refine DJ.yd 0 rfl (by kernel_rfl) (by kernel_rfl) (by kernel_rfl) rfl rfl (Yd.fieldAddr rfl) ?_
      refine DJ.yd 1 rfl (by kernel_rfl) (by kernel_rfl) (by kernel_rfl) rfl rfl (Yd.loadC 0 rfl rfl rfl) ?_
      refine DJ.yd 2 rfl (by kernel_rfl) (by kernel_rfl) (by kernel_rfl) rfl rfl (Yd.indexAddr rfl rfl (by omega) (by simp)) ?_
      refine DJ.yd 3 rfl (by kernel_rfl) (by kernel_rfl) (by kernel_rfl) rfl rfl (Yd.loadRow (i := 0) hrow.up rfl (by simp) rfl hl.len) ?_
      refine DJ.yd 4 rfl (by kernel_rfl) (by kernel_rfl) (by kernel_rfl) rfl rfl (Yd.fieldAddr rfl) ?_
      refine DJ.yd 5 rfl (by kernel_rfl) (by kernel_rfl) (by kernel_rfl) rfl rfl (Yd.loadC 1 rfl rfl rfl) ?_
      refine DJ.yd 6 rfl (by kernel_rfl) (by kernel_rfl) (by kernel_rfl) rfl rfl (Yd.fieldAddr rfl) ?_
      refine DJ.yd 7 rfl (by kernel_rfl) (by kernel_rfl) (by kernel_rfl) rfl rfl (Yd.loadC 1 rfl rfl rfl) ?_
      refine DJ.yd 8 rfl (by kernel_rfl) (by kernel_rfl) (by kernel_rfl) rfl rfl (Yd.fieldAddr rfl) ?_
      refine DJ.yd 9 rfl (by kernel_rfl) (by kernel_rfl) (by kernel_rfl) rfl rfl (Yd.loadC 1 rfl rfl rfl) ?_
      refine DJ.yd 10 rfl (by kernel_rfl) (by kernel_rfl) (by kernel_rfl) rfl rfl (Yd.fieldAddr rfl) ?_
      refine DJ.yd 11 rfl (by kernel_rfl) (by kernel_rfl) (by kernel_rfl) rfl rfl (Yd.loadC 0 rfl rfl rfl) ?_
      refine DJ.yd 12 rfl (by kernel_rfl) (by kernel_rfl) (by kernel_rfl) rfl rfl (Yd.build (cs := [_, _, _, _]) rfl) ?_
      refine DJ.one (i := 13) (by kernel_rfl) ?_
      refine DO.call0 rfl rfl rfl (fun k0 hk0 dk0 k hk dk => ihl _ _ (bxL false x g) ps (by omega) g1 f1 hl.up) ?_
      rintro _ _ ⟨ra62, rc62, rfl, rfl⟩
      refine DJ.norm [_, _] [_] rfl rfl ?_
      refine DJ.yd 14 rfl (by kernel_rfl) (by kernel_rfl) (by kernel_rfl) rfl rfl (Yd.asS rfl) ?_
      refine DJ.done (by kernel_rfl) ?_
      refine CJ.seq ?_
      refine CJ.regionD [0, 1] [2] (by kernel_rfl) rfl ?_
      refine DJ.norm [_, _] [_] rfl rfl ?_
      refine DJ.yd 0 rfl (by kernel_rfl) (by kernel_rfl) (by kernel_rfl) rfl rfl (Yd.mvS rfl) ?_
      refine DJ.yd 1 rfl (by kernel_rfl) (by kernel_rfl) (by kernel_rfl) rfl rfl (Yd.fieldAddr rfl) ?_
      refine DJ.yd 2 rfl (by kernel_rfl) (by kernel_rfl) (by kernel_rfl) rfl rfl (Yd.loadC 0 rfl rfl rfl) ?_
      refine DJ.yd 3 rfl (by kernel_rfl) (by kernel_rfl) (by kernel_rfl) rfl rfl (Yd.indexAddr rfl rfl (by omega) (by simp)) ?_
      refine DJ.yd 4 rfl (by kernel_rfl) (by kernel_rfl) (by kernel_rfl) rfl rfl (Yd.loadRow (i := 1) hrow.up rfl (by simp) rfl hr.len) ?_
      refine DJ.yd 5 rfl (by kernel_rfl) (by kernel_rfl) (by kernel_rfl) rfl rfl (Yd.fieldAddr rfl) ?_
      refine DJ.yd 6 rfl (by kernel_rfl) (by kernel_rfl) (by kernel_rfl) rfl rfl (Yd.loadC 1 rfl rfl rfl) ?_
      refine DJ.yd 7 rfl (by kernel_rfl) (by kernel_rfl) (by kernel_rfl) rfl rfl (Yd.fieldAddr rfl) ?_
      refine DJ.yd 8 rfl (by kernel_rfl) (by kernel_rfl) (by kernel_rfl) rfl rfl (Yd.loadC 1 rfl rfl rfl) ?_
      refine DJ.yd 9 rfl (by kernel_rfl) (by kernel_rfl) (by kernel_rfl) rfl rfl (Yd.fieldAddr rfl) ?_
      refine DJ.yd 10 rfl (by kernel_rfl) (by kernel_rfl) (by kernel_rfl) rfl rfl (Yd.loadC 0 rfl rfl rfl) ?_
      refine DJ.yd 11 rfl (by kernel_rfl) (by kernel_rfl) (by kernel_rfl) rfl rfl (Yd.add rfl rfl (by unfold I64; omega)) ?_
      refine DJ.yd 12 rfl (by kernel_rfl) (by kernel_rfl) (by kernel_rfl) rfl rfl (Yd.fieldAddr rfl) ?_
      refine DJ.yd 13 rfl (by kernel_rfl) (by kernel_rfl) (by kernel_rfl) rfl rfl (Yd.loadC 1 rfl rfl rfl) ?_
      refine DJ.yd 14 rfl (by kernel_rfl) (by kernel_rfl) (by kernel_rfl) rfl rfl (Yd.fieldAddr rfl) ?_
      refine DJ.yd 15 rfl (by kernel_rfl) (by kernel_rfl) (by kernel_rfl) rfl rfl (Yd.loadC 1 rfl rfl rfl) ?_
      refine DJ.yd 16 rfl (by kernel_rfl) (by kernel_rfl) (by kernel_rfl) rfl rfl (Yd.fieldAddr rfl) ?_
      refine DJ.yd 17 rfl (by kernel_rfl) (by kernel_rfl) (by kernel_rfl) rfl rfl (Yd.loadC 0 rfl rfl rfl) ?_
      refine DJ.yd 18 rfl (by kernel_rfl) (by kernel_rfl) (by kernel_rfl) rfl rfl (Yd.sub rfl rfl (by unfold I64; omega)) ?_
      refine DJ.yd 19 rfl (by kernel_rfl) (by kernel_rfl) (by kernel_rfl) rfl rfl (Yd.build (cs := [_, _, _, _]) rfl) ?_
      refine DJ.one (i := 20) (by kernel_rfl) ?_
      refine DO.call0 rfl rfl rfl (fun k0 hk0 dk0 k hk dk => ihr _ _ (bxR false x g) ps (by omega) g2 f2 hr.up) ?_
      rintro _ _ ⟨ra83, rc83, rfl, rfl⟩
      refine DJ.norm [_, _] [_, _] rfl rfl ?_
      refine DJ.one (i := 21) (by kernel_rfl) ?_
      refine DO.op rfl rfl rfl (fun k0 hk0 dk0 => OpR.apR (enc := encPl) 0 1 rfl rfl rfl (by first | rfl | omega | (simp; done) | (simp; omega) | (simp [upN_len]; omega) | (simp [idxBy_len]; omega) | (simp [marks_len]; omega) | (simp [upN_len]; done) | (simp [idxBy_len]; done) | (simp [marks_len]; done) | (simp at *; omega)) rfl (by first | rfl | omega | (simp; done) | (simp; omega) | (simp [upN_len]; omega) | (simp [idxBy_len]; omega) | (simp [marks_len]; omega) | (simp [upN_len]; done) | (simp [idxBy_len]; done) | (simp [marks_len]; done) | (simp at *; omega)) (fun _ => rfl) (by first | rfl | omega | (simp; done) | (simp; omega) | (simp [upN_len]; omega) | (simp [idxBy_len]; omega) | (simp [marks_len]; omega) | (simp [upN_len]; done) | (simp [idxBy_len]; done) | (simp [marks_len]; done) | (simp at *; omega))) ?_
      rintro _ _ ⟨ra84, rc84, rfl, rfl⟩
      refine DJ.norm [_, _] [_, _] rfl rfl ?_
      refine DJ.yd 22 rfl (by kernel_rfl) (by kernel_rfl) (by kernel_rfl) rfl rfl (Yd.asS rfl) ?_
      refine DJ.done (by kernel_rfl) ?_
      refine CJ.ret ?_
      refine Fin.RL 2 (Res.one (ResV.tmp (v := .slice _ _ _) rfl)) rfl (by first | rfl | omega | (simp; done) | (simp; omega) | (simp [upN_len]; omega) | (simp [idxBy_len]; omega) | (simp [marks_len]; omega) | (simp [upN_len]; done) | (simp [idxBy_len]; done) | (simp [marks_len]; done) | (simp at *; omega)) ?_
      rfl
    · refine Ctr.body (args := [_, _]) Try.func90 rfl Try.ntmps90 Try.results90 (by simp) ?_
      refine CJ.seq ?_
      refine CJ.region ?_
      refine LJ.boxG (vs := [_, _, _, _, _]) rfl rfl (fun b1 => ?_)
      refine LJ.boxG (vs := [_, _, _, _]) rfl rfl (fun b2 => ?_)
      refine LJ.yd rfl (Yd.asS rfl) ?_
      refine LJ.nil ?_
      refine CJ.seq ?_
      refine CJ.seq ?_
      refine CJ.region ?_
      refine LJ.yd rfl (Yd.fieldAddr rfl) ?_
      refine LJ.yd rfl (Yd.loadC 0 rfl rfl rfl) ?_
      refine LJ.nil ?_
      refine CJ.block ?_
      refine CJ.seq ?_
      refine CJ.region ?_
      refine LJ.yd rfl (Yd.cmpT (Yd.eql rfl rfl) (by decide)) ?_
      refine LJ.yd rfl (Yd.asB rfl) ?_
      refine LJ.nil ?_
      refine CJ.condT rfl ?_
      refine CJ.seq ?_
      refine CJ.regionD [0, 1] [] (by kernel_rfl) rfl ?_
      refine DJ.norm [_, _] [] rfl rfl ?_
      refine DJ.yd 0 rfl (by kernel_rfl) (by kernel_rfl) (by kernel_rfl) rfl rfl (Yd.fieldAddr rfl) ?_
      refine DJ.yd 1 rfl (by kernel_rfl) (by kernel_rfl) (by kernel_rfl) rfl rfl (Yd.loadC 0 rfl rfl rfl) ?_
      refine DJ.yd 2 rfl (by kernel_rfl) (by kernel_rfl) (by kernel_rfl) rfl rfl (Yd.indexAddr rfl rfl (by omega) (by simp)) ?_
      refine DJ.yd 3 rfl (by kernel_rfl) (by kernel_rfl) (by kernel_rfl) rfl rfl (Yd.loadRow (i := 0) hrow.up rfl (by simp) rfl hl.len) ?_
      refine DJ.yd 4 rfl (by kernel_rfl) (by kernel_rfl) (by kernel_rfl) rfl rfl (Yd.fieldAddr rfl) ?_
      refine DJ.yd 5 rfl (by kernel_rfl) (by kernel_rfl) (by kernel_rfl) rfl rfl (Yd.loadC 1 rfl rfl rfl) ?_
      refine DJ.yd 6 rfl (by kernel_rfl) (by kernel_rfl) (by kernel_rfl) rfl rfl (Yd.fieldAddr rfl) ?_
      refine DJ.yd 7 rfl (by kernel_rfl) (by kernel_rfl) (by kernel_rfl) rfl rfl (Yd.loadC 1 rfl rfl rfl) ?_
      refine DJ.yd 8 rfl (by kernel_rfl) (by kernel_rfl) (by kernel_rfl) rfl rfl (Yd.fieldAddr rfl) ?_
      refine DJ.yd 9 rfl (by kernel_rfl) (by kernel_rfl) (by kernel_rfl) rfl rfl (Yd.loadC 0 rfl rfl rfl) ?_
      refine DJ.yd 10 rfl (by kernel_rfl) (by kernel_rfl) (by kernel_rfl) rfl rfl (Yd.fieldAddr rfl) ?_
      refine DJ.yd 11 rfl (by kernel_rfl) (by kernel_rfl) (by kernel_rfl) rfl rfl (Yd.loadC 1 rfl rfl rfl) ?_
      refine DJ.yd 12 rfl (by kernel_rfl) (by kernel_rfl) (by kernel_rfl) rfl rfl (Yd.build (cs := [_, _, _, _]) rfl) ?_
      refine DJ.one (i := 13) (by kernel_rfl) ?_
      refine DO.call0 rfl rfl rfl (fun k0 hk0 dk0 k hk dk => ihl _ _ (bxL true x g) ps (by omega) g1 f1 hl.up) ?_
      rintro _ _ ⟨ra24, rc24, rfl, rfl⟩
      refine DJ.norm [_, _] [_] rfl rfl ?_
      refine DJ.yd 14 rfl (by kernel_rfl) (by kernel_rfl) (by kernel_rfl) rfl rfl (Yd.asS rfl) ?_
      refine DJ.done (by kernel_rfl) ?_
      refine CJ.seq ?_
      refine CJ.regionD [0, 1] [2] (by kernel_rfl) rfl ?_
      refine DJ.norm [_, _] [_] rfl rfl ?_
      refine DJ.yd 0 rfl (by kernel_rfl) (by kernel_rfl) (by kernel_rfl) rfl rfl (Yd.mvS rfl) ?_
      refine DJ.yd 1 rfl (by kernel_rfl) (by kernel_rfl) (by kernel_rfl) rfl rfl (Yd.fieldAddr rfl) ?_
      refine DJ.yd 2 rfl (by kernel_rfl) (by kernel_rfl) (by kernel_rfl) rfl rfl (Yd.loadC 0 rfl rfl rfl) ?_
      refine DJ.yd 3 rfl (by kernel_rfl) (by kernel_rfl) (by kernel_rfl) rfl rfl (Yd.indexAddr rfl rfl (by omega) (by simp)) ?_
      refine DJ.yd 4 rfl (by kernel_rfl) (by kernel_rfl) (by kernel_rfl) rfl rfl (Yd.loadRow (i := 1) hrow.up rfl (by simp) rfl hr.len) ?_
      refine DJ.yd 5 rfl (by kernel_rfl) (by kernel_rfl) (by kernel_rfl) rfl rfl (Yd.fieldAddr rfl) ?_
      refine DJ.yd 6 rfl (by kernel_rfl) (by kernel_rfl) (by kernel_rfl) rfl rfl (Yd.loadC 1 rfl rfl rfl) ?_
      refine DJ.yd 7 rfl (by kernel_rfl) (by kernel_rfl) (by kernel_rfl) rfl rfl (Yd.fieldAddr rfl) ?_
      refine DJ.yd 8 rfl (by kernel_rfl) (by kernel_rfl) (by kernel_rfl) rfl rfl (Yd.loadC 0 rfl rfl rfl) ?_
      refine DJ.yd 9 rfl (by kernel_rfl) (by kernel_rfl) (by kernel_rfl) rfl rfl (Yd.add rfl rfl (by unfold I64; omega)) ?_
      refine DJ.yd 10 rfl (by kernel_rfl) (by kernel_rfl) (by kernel_rfl) rfl rfl (Yd.fieldAddr rfl) ?_
      refine DJ.yd 11 rfl (by kernel_rfl) (by kernel_rfl) (by kernel_rfl) rfl rfl (Yd.loadC 1 rfl rfl rfl) ?_
      refine DJ.yd 12 rfl (by kernel_rfl) (by kernel_rfl) (by kernel_rfl) rfl rfl (Yd.fieldAddr rfl) ?_
      refine DJ.yd 13 rfl (by kernel_rfl) (by kernel_rfl) (by kernel_rfl) rfl rfl (Yd.loadC 1 rfl rfl rfl) ?_
      refine DJ.yd 14 rfl (by kernel_rfl) (by kernel_rfl) (by kernel_rfl) rfl rfl (Yd.fieldAddr rfl) ?_
      refine DJ.yd 15 rfl (by kernel_rfl) (by kernel_rfl) (by kernel_rfl) rfl rfl (Yd.loadC 0 rfl rfl rfl) ?_
      refine DJ.yd 16 rfl (by kernel_rfl) (by kernel_rfl) (by kernel_rfl) rfl rfl (Yd.sub rfl rfl (by unfold I64; omega)) ?_
      refine DJ.yd 17 rfl (by kernel_rfl) (by kernel_rfl) (by kernel_rfl) rfl rfl (Yd.fieldAddr rfl) ?_
      refine DJ.yd 18 rfl (by kernel_rfl) (by kernel_rfl) (by kernel_rfl) rfl rfl (Yd.loadC 1 rfl rfl rfl) ?_
      refine DJ.yd 19 rfl (by kernel_rfl) (by kernel_rfl) (by kernel_rfl) rfl rfl (Yd.build (cs := [_, _, _, _]) rfl) ?_
      refine DJ.one (i := 20) (by kernel_rfl) ?_
      refine DO.call0 rfl rfl rfl (fun k0 hk0 dk0 k hk dk => ihr _ _ (bxR true x g) ps (by omega) g2 f2 hr.up) ?_
      rintro _ _ ⟨ra45, rc45, rfl, rfl⟩
      refine DJ.norm [_, _] [_, _] rfl rfl ?_
      refine DJ.one (i := 21) (by kernel_rfl) ?_
      refine DO.op rfl rfl rfl (fun k0 hk0 dk0 => OpR.apR (enc := encPl) 0 1 rfl rfl rfl (by first | rfl | omega | (simp; done) | (simp; omega) | (simp [upN_len]; omega) | (simp [idxBy_len]; omega) | (simp [marks_len]; omega) | (simp [upN_len]; done) | (simp [idxBy_len]; done) | (simp [marks_len]; done) | (simp at *; omega)) rfl (by first | rfl | omega | (simp; done) | (simp; omega) | (simp [upN_len]; omega) | (simp [idxBy_len]; omega) | (simp [marks_len]; omega) | (simp [upN_len]; done) | (simp [idxBy_len]; done) | (simp [marks_len]; done) | (simp at *; omega)) (fun _ => rfl) (by first | rfl | omega | (simp; done) | (simp; omega) | (simp [upN_len]; omega) | (simp [idxBy_len]; omega) | (simp [marks_len]; omega) | (simp [upN_len]; done) | (simp [idxBy_len]; done) | (simp [marks_len]; done) | (simp at *; omega))) ?_
      rintro _ _ ⟨ra46, rc46, rfl, rfl⟩
      refine DJ.norm [_, _] [_, _] rfl rfl ?_
      refine DJ.yd 22 rfl (by kernel_rfl) (by kernel_rfl) (by kernel_rfl) rfl rfl (Yd.asS rfl) ?_
      refine DJ.done (by kernel_rfl) ?_
      refine CJ.ret ?_
      refine Fin.RL 2 (Res.one (ResV.tmp (v := .slice _ _ _) rfl)) rfl (by first | rfl | omega | (simp; done) | (simp; omega) | (simp [upN_len]; omega) | (simp [idxBy_len]; omega) | (simp [marks_len]; omega) | (simp [upN_len]; done) | (simp [idxBy_len]; done) | (simp [marks_len]; done) | (simp at *; omega)) ?_
      rfl
theorem fits_p {ps : List Pane} {i : Int} {t : Bool} {x y : Int} (h : (BT.p i t).fits ps x y = true) : 0 ≤ i := by
  simp only [BT.fits, fitP, Bool.and_eq_true, decide_eq_true_eq] at h; exact h.1
def swT (u : Plc) : List Box := if u.p < 0 then [u.b] else []
def spT (u : Plc) : List Plc := if 0 ≤ u.p then [u] else []
theorem spr_w {ps : List Pane} : ∀ (b : BT) (g : Box), b.fits ps g.W g.H = true → GOk g → (b.spr g).flatMap swT = b.wst g
  | .w, _, _, _ => rfl
  | .p i t, g, h, _ => by have := fits_p h; simp only [BT.spr, List.flatMap_cons, List.flatMap_nil, swT, BT.wst]; rw [if_neg (by omega)]; rfl
  | .c d a l r, g, h, hg => by
    obtain ⟨f1, f2, g1, g2, _⟩ := fits_k h hg
    rw [BT.spr, List.flatMap_append, spr_w l _ f1 g1, spr_w r _ f2 g2]; rfl
theorem spr_p {ps : List Pane} : ∀ (b : BT) (g : Box), b.fits ps g.W g.H = true → GOk g → (b.spr g).flatMap spT = b.plcs g
  | .w, _, _, _ => rfl
  | .p i t, g, h, _ => by have := fits_p h; simp only [BT.spr, List.flatMap_cons, List.flatMap_nil, spT, BT.plcs]; rw [if_pos this]; rfl
  | .c d a l r, g, h, hg => by
    obtain ⟨f1, f2, g1, g2, _⟩ := fits_k h hg
    rw [BT.spr, List.flatMap_append, spr_p l _ f1 g1, spr_p r _ f2 g2]; rfl
theorem wastesOf_ok {A : Amb} {W H : Int} {a : Option Addr} {n c : Nat} {ps : List Pane} {cs : List Value} {b : BT} (hz : b.sz ≤ 255) (hg : GOk (shB W H)) (hf : b.fits ps W H = true) (hr : RdT A.h cs b) : Ctr Try.prog 60 #[.agg #[vI W, vI H, .slice a n c], .agg cs.toArray] A [] (RLP Box.enc 41 4 (b.wst (shB W H))) := by
  obtain ⟨o, e, i, t, x, m, l, rfl⟩ := hr.i64
  have hl := spr_len b (shB W H)
  refine Ctr.body (args := [_, _]) Try.func60 rfl Try.ntmps60 Try.results60 (by simp) ?_
  refine CJ.seq ?_
  refine CJ.region ?_
  refine LJ.boxG (vs := [_, _, _]) rfl rfl (fun b1 => ?_)
  refine LJ.boxG (vs := [_, _, _, _, _]) rfl rfl (fun b2 => ?_)
  refine LJ.yd rfl (Yd.asS rfl) ?_
  refine LJ.nil ?_
  refine CJ.seq ?_
  refine CJ.region ?_
  refine LJ.op rfl (OpR.buildSlice (cs := []) rfl rfl) ?_
  rintro _ _ ⟨b3, rfl, rfl⟩
  refine LJ.yd rfl (Yd.asS rfl) ?_
  refine LJ.nil ?_
  refine CJ.seq ?_
  refine CJ.region ?_
  refine LJ.yd rfl (Yd.loadG (us := [_, _, _, _, _]) 1 rfl rfl rfl rfl) ?_
  refine LJ.yd rfl (Yd.fieldAddr rfl) ?_
  refine LJ.yd rfl (Yd.loadC 0 rfl rfl rfl) ?_
  refine LJ.yd rfl (Yd.fieldAddr rfl) ?_
  refine LJ.yd rfl (Yd.loadC 0 rfl rfl rfl) ?_
  refine LJ.yd rfl (Yd.build (cs := [_, _, _, _]) rfl) ?_
  refine LJ.call0 rfl (fun k hk dk => spread_ok b _ _ (shB W H) ps (by omega) hg hf hr.up) ?_
  rintro _ _ ⟨ra15, rc15, rfl, rfl⟩
  refine LJ.norm [_, _, _, _] rfl ?_
  refine LJ.yd rfl (Yd.asS rfl) ?_
  refine LJ.nil ?_
  refine CJ.seq ?_
  refine CJ.seq ?_
  refine CJ.region ?_
  refine LJ.yd rfl (Yd.asI rfl) ?_
  refine LJ.nil ?_
  refine CJ.block ?_
  refine CJ.imp1 2 rfl (fun _ h => Cel.lr (enc := Box.enc) (k := 4) (m := 0) [] rfl rfl rfl rfl h) ?_
  refine CJ.norm [_, _, _, _] rfl ?_
  refine CJ.loopF [4, 6] (Nat × List (Box) × Option Addr × Nat × Nat) (fun ⟨k, O, OA, ON, OC⟩ => (ON = O.length) ∧ k ≤ (b.spr (shB W H)).length ∧ O.length ≤ k ∧ O = ((b.spr (shB W H)).take k).flatMap swT) (fun ⟨k, O, OA, ON, OC⟩ => [(7, vI k), (5, .slice OA ON OC)]) (fun ⟨k, O, OA, ON, OC⟩ => [LR Box.enc 41 4 OA OC O]) (fun ⟨k, O, OA, ON, OC⟩ => (b.spr (shB W H)).length - k) (0, [], _, _, _) [_, _, _] [0, 1, 3] [2] rfl rfl rfl ?_ ⟨rfl, rfl, trivial⟩ ?_
  · exact ⟨(by first | rfl | omega | (simp; done) | (simp; omega) | (simp [upN_len]; omega) | (simp [idxBy_len]; omega) | (simp [marks_len]; omega) | (simp [upN_len]; done) | (simp [idxBy_len]; done) | (simp [marks_len]; done) | (simp at *; omega)), ⟨by omega, by simp, rfl⟩⟩
  · rintro ⟨k, O, OA, ON, OC⟩ σ ⟨hlNO, ⟨hk1, hOl, hO⟩⟩
    subst hlNO
    refine CJ.norm [_, _, _, _] rfl ?_
    refine CJ.seq ?_
    refine CJ.seq ?_
    refine CJ.region ?_
    refine LJ.yd rfl (Yd.mvI rfl) ?_
    refine LJ.yd rfl (Yd.mvS rfl) ?_
    refine LJ.yd rfl (Yd.len rfl) ?_
    refine LJ.splitD rfl (Yd.lss rfl rfl) (fun h19 => ?_) (fun h19 => ?_)
    · refine LJ.nil ?_
      refine CJ.condT rfl ?_
      refine CJ.skip ?_
      refine CJ.seq ?_
      refine CJ.block ?_
      refine CJ.seq ?_
      refine CJ.region ?_
      refine LJ.yd rfl (Yd.mvS rfl) ?_
      refine LJ.yd rfl (Yd.mvI rfl) ?_
      refine LJ.idxR 2 rfl rfl rfl rfl (by omega) (by first | rfl | omega | (simp; done) | (simp; omega) | (simp [upN_len]; omega) | (simp [idxBy_len]; omega) | (simp [marks_len]; omega) | (simp [upN_len]; done) | (simp [idxBy_len]; done) | (simp [marks_len]; done) | (simp at *; omega)) (by first | rfl | omega | (simp; done) | (simp; omega) | (simp [upN_len]; omega) | (simp [idxBy_len]; omega) | (simp [marks_len]; omega) | (simp [upN_len]; done) | (simp [idxBy_len]; done) | (simp [marks_len]; done) | (simp at *; omega)) (fun ib24 ia24 => ?_)
      refine LJ.yd rfl (Yd.fieldAddr rfl) ?_
      refine LJ.ldR 2 0 (fun u => vI u.p) (fun _ => rfl) rfl ia24 rfl rfl rfl (by first | rfl | omega | (simp; done) | (simp; omega) | (simp [upN_len]; omega) | (simp [idxBy_len]; omega) | (simp [marks_len]; omega) | (simp [upN_len]; done) | (simp [idxBy_len]; done) | (simp [marks_len]; done) | (simp at *; omega)) (fun u26 hu26 => ?_)
      try simp only [Int.toNat_natCast] at hu26
      refine LJ.splitD rfl (Yd.lss rfl rfl) (fun h27 => ?_) (fun h27 => ?_)
      · refine LJ.nil ?_
        refine CJ.condT rfl ?_
        refine CJ.region ?_
        refine LJ.yd rfl (Yd.mvS rfl) ?_
        refine LJ.yd rfl (Yd.mvS rfl) ?_
        refine LJ.yd rfl (Yd.mvI rfl) ?_
        refine LJ.idxR 2 rfl rfl rfl rfl (by omega) (by first | rfl | omega | (simp; done) | (simp; omega) | (simp [upN_len]; omega) | (simp [idxBy_len]; omega) | (simp [marks_len]; omega) | (simp [upN_len]; done) | (simp [idxBy_len]; done) | (simp [marks_len]; done) | (simp at *; omega)) (by first | rfl | omega | (simp; done) | (simp; omega) | (simp [upN_len]; omega) | (simp [idxBy_len]; omega) | (simp [marks_len]; omega) | (simp [upN_len]; done) | (simp [idxBy_len]; done) | (simp [marks_len]; done) | (simp at *; omega)) (fun ib31 ia31 => ?_)
        refine LJ.yd rfl (Yd.fieldAddr rfl) ?_
        refine LJ.lsR 2 2 (fun u => [vI u.b.X, vI u.b.Y, vI u.b.W, vI u.b.H]) (fun _ => rfl) (fun _ => rfl) rfl ia31 rfl rfl rfl (by first | rfl | omega | (simp; done) | (simp; omega) | (simp [upN_len]; omega) | (simp [idxBy_len]; omega) | (simp [marks_len]; omega) | (simp [upN_len]; done) | (simp [idxBy_len]; done) | (simp [marks_len]; done) | (simp at *; omega)) (fun u33 hu33 => ?_)
        try simp only [Int.toNat_natCast] at hu33
        obtain rfl : u26 = u33 := by rw [hu26] at hu33; exact Option.some.inj hu33
        refine LJ.op rfl (OpR.buildSlice (cs := [_, _, _, _]) rfl rfl) ?_
        rintro _ _ ⟨b4, rfl, rfl⟩
        refine LJ.op rfl (OpR.apT (enc := Box.enc) [⟨_, _, _, _⟩] 3 4 rfl rfl rfl (by first | rfl | omega | (simp; done) | (simp; omega) | (simp [upN_len]; omega) | (simp [idxBy_len]; omega) | (simp [marks_len]; omega) | (simp [upN_len]; done) | (simp [idxBy_len]; done) | (simp [marks_len]; done) | (simp at *; omega)) rfl rfl rfl rfl rfl (by first | rfl | omega | (simp; done) | (simp; omega) | (simp [upN_len]; omega) | (simp [idxBy_len]; omega) | (simp [marks_len]; omega) | (simp [upN_len]; done) | (simp [idxBy_len]; done) | (simp [marks_len]; done) | (simp at *; omega))) ?_
        rintro _ _ ⟨ra35, rc35, rfl, rfl⟩
        refine LJ.norm [_, _, _, _, _] rfl ?_
        refine LJ.yd rfl (Yd.asS rfl) ?_
        refine LJ.nil ?_
        refine CJ.region ?_
        refine LJ.yd rfl (Yd.mvI rfl) ?_
        refine LJ.yd rfl (Yd.add rfl rfl (by unfold I64; omega)) ?_
        refine LJ.yd rfl (Yd.asI rfl) ?_
        refine LJ.nil ?_
        refine ⟨(k + 1, _, _, _, _), ?_, ⟨rfl, rfl, trivial⟩, ⟨rfl, rfl, trivial⟩, Ent.pick [0, 1, 2, 3] [4] rfl, ?_⟩
        · refine ⟨(by first | rfl | omega | (simp; done) | (simp; omega) | (simp [upN_len]; omega) | (simp [idxBy_len]; omega) | (simp [marks_len]; omega) | (simp [upN_len]; done) | (simp [idxBy_len]; done) | (simp [marks_len]; done) | (simp at *; omega)), ?_⟩
          refine ⟨by omega, ?_⟩
          rw [flat_take swT hu26, swT]
          first
            | (rw [if_pos (by assumption), ← hO]; exact ⟨by rw [List.length_append]; exact Nat.add_le_add hOl (Nat.le_refl 1), rfl⟩)
            | (rw [if_neg (by assumption), List.append_nil]; exact ⟨Nat.le_succ_of_le hOl, hO⟩)
        · first | omega | (dsimp only; omega) | (simp only []; omega)
      · refine LJ.nil ?_
        refine CJ.condF rfl ?_
        refine CJ.skip ?_
        refine CJ.region ?_
        refine LJ.yd rfl (Yd.mvI rfl) ?_
        refine LJ.yd rfl (Yd.add rfl rfl (by unfold I64; omega)) ?_
        refine LJ.yd rfl (Yd.asI rfl) ?_
        refine LJ.nil ?_
        refine ⟨(k + 1, _, _, _, _), ?_, ⟨rfl, rfl, trivial⟩, ⟨rfl, rfl, trivial⟩, Ent.refl _, ?_⟩
        · refine ⟨(by first | rfl | omega | (simp; done) | (simp; omega) | (simp [upN_len]; omega) | (simp [idxBy_len]; omega) | (simp [marks_len]; omega) | (simp [upN_len]; done) | (simp [idxBy_len]; done) | (simp [marks_len]; done) | (simp at *; omega)), ?_⟩
          refine ⟨by omega, ?_⟩
          rw [flat_take swT hu26, swT]
          first
            | (rw [if_pos (by assumption), ← hO]; exact ⟨by rw [List.length_append]; exact Nat.add_le_add hOl (Nat.le_refl 1), rfl⟩)
            | (rw [if_neg (by assumption), List.append_nil]; exact ⟨Nat.le_succ_of_le hOl, hO⟩)
        · first | omega | (dsimp only; omega) | (simp only []; omega)
    · refine LJ.nil ?_
      refine CJ.condF rfl ?_
      refine CJ.exit ?_
      refine CJ.seq ?_
      refine CJ.region ?_
      refine LJ.yd rfl (Yd.mvS rfl) ?_
      refine LJ.yd rfl (Yd.asS rfl) ?_
      refine LJ.nil ?_
      refine CJ.ret ?_
      refine Fin.RL 3 (Res.one (ResV.tmp (v := .slice _ _ _) rfl)) rfl (by first | rfl | omega | (simp; done) | (simp; omega) | (simp [upN_len]; omega) | (simp [idxBy_len]; omega) | (simp [marks_len]; omega) | (simp [upN_len]; done) | (simp [idxBy_len]; done) | (simp [marks_len]; done) | (simp at *; omega)) ?_
      rw [hO, List.take_of_length_le (by omega)]; exact spr_w b _ hf hg
/-- the area of boxes with a small side -/
def loS (least : Int) : List Box → Int
  | [] => 0
  | b :: r => (if b.W < least ∨ b.H < least then b.W * b.H else 0) + loS least r
theorem loS_drop {L : List Box} {k : Nat} {u : Box} (least : Int) (h : L[k]? = some u) : loS least (L.drop k) = (if u.W < least ∨ u.H < least then u.W * u.H else 0) + loS least (L.drop (k + 1)) := by rw [dropC h]; rfl
/-- sides that can be -/
def SdB (L : List Box) : Prop := ∀ b ∈ L, 1 ≤ b.W ∧ b.W ≤ 200 ∧ 1 ≤ b.H ∧ b.H ≤ 200
theorem area_s {a b : Int} (h1 : 1 ≤ a) (h2 : a ≤ 200) (h3 : 1 ≤ b) (h4 : b ≤ 200) : 1 ≤ a * b ∧ a * b ≤ 40000 := by
  have e1 : 1 * 1 ≤ a * b := Int.mul_le_mul h1 h3 (by omega) (by omega)
  have e2 : a * b ≤ 200 * 200 := Int.mul_le_mul h2 h4 (by omega) (by omega)
  omega
theorem wst_sd {ps : List Pane} : ∀ (b : BT) (g : Box), b.fits ps g.W g.H = true → (1 ≤ g.W ∧ g.W ≤ 200 ∧ 1 ≤ g.H ∧ g.H ≤ 200) → SdB (b.wst g)
  | .w, g, _, hg, x, hx => by rw [BT.wst, List.mem_singleton] at hx; subst hx; exact hg
  | .p _ _, _, _, _, x, hx => by cases hx
  | .c d a l r, g, h, hg, x, hx => by
    obtain ⟨h1, h2⟩ := fits_c h
    rw [BT.wst, List.mem_append] at hx
    cases d
    · obtain ⟨a1, a2, a3, a4⟩ := h2 rfl
      rcases hx with hx | hx
      · exact wst_sd l _ (by simpa [bxL] using a3) (by simp [bxL]; omega) x hx
      · exact wst_sd r _ (by simpa [bxR] using a4) (by simp [bxR]; omega) x hx
    · obtain ⟨a1, a2, a3, a4⟩ := h1 rfl
      rcases hx with hx | hx
      · exact wst_sd l _ (by simpa [bxL] using a3) (by simp [bxL]; omega) x hx
      · exact wst_sd r _ (by simpa [bxR] using a4) (by simp [bxR]; omega) x hx
theorem wst_len : ∀ (b : BT) (g : Box), ((b.wst g).length : Int) ≤ b.sz
  | .w, _ => by simp [BT.wst, BT.sz]
  | .p _ _, _ => by simp [BT.wst, BT.sz]
  | .c d a l r, g => by have := wst_len l (bxL d a g); have := wst_len r (bxR d a g); simp only [BT.wst, List.length_append, BT.sz]; omega
theorem boxAreaP_ok (A : Amb) (b : Box) (h : I64 (b.W * b.H)) : Ctr Try.prog 58 #[agX b] A [] (Val (vI (b.W * b.H))) := by
  refine Ctr.body (args := [_]) Try.func58 rfl Try.ntmps58 Try.results58 (by simp) ?_
  refine CJ.seq ?_
  refine CJ.region ?_
  refine LJ.boxG (vs := [_, _, _, _]) rfl rfl (fun b1 => ?_)
  refine LJ.yd rfl (Yd.asI rfl) ?_
  refine LJ.nil ?_
  refine CJ.seq ?_
  refine CJ.region ?_
  refine LJ.yd rfl (Yd.fieldAddr rfl) ?_
  refine LJ.yd rfl (Yd.loadC 0 rfl rfl rfl) ?_
  refine LJ.yd rfl (Yd.fieldAddr rfl) ?_
  refine LJ.yd rfl (Yd.loadC 0 rfl rfl rfl) ?_
  refine LJ.yd rfl (Yd.mul rfl rfl h) ?_
  refine LJ.yd rfl (Yd.asI rfl) ?_
  refine LJ.nil ?_
  refine CJ.ret ?_
  refine Fin.V (Res.one (ResV.tmp (v := .int _ _) rfl)) ?_
  rfl
theorem isRemnant_ok (A : Amb) (b : Box) (least : Int) : Ctr Try.prog 61 #[agX b, vI least] A [] (Val (.bool (decide (least ≤ b.W ∧ least ≤ b.H)))) := by
  refine Ctr.body (args := [_, _]) Try.func61 rfl Try.ntmps61 Try.results61 (by simp) ?_
  refine CJ.seq ?_
  refine CJ.region ?_
  refine LJ.boxG (vs := [_, _, _, _]) rfl rfl (fun b1 => ?_)
  refine LJ.yd rfl (Yd.asB rfl) ?_
  refine LJ.nil ?_
  refine CJ.seq ?_
  refine CJ.region ?_
  refine LJ.yd rfl (Yd.fieldAddr rfl) ?_
  refine LJ.yd rfl (Yd.loadC 0 rfl rfl rfl) ?_
  refine LJ.yd rfl (Yd.mvI rfl) ?_
  refine LJ.splitD rfl (Yd.geq rfl rfl) (fun h8 => ?_) (fun h8 => ?_)
  · refine LJ.yd rfl (Yd.mvB rfl) ?_
    refine LJ.gT rfl ?_
    refine LJ.yd rfl (Yd.fieldAddr rfl) ?_
    refine LJ.gT rfl ?_
    refine LJ.yd rfl (Yd.loadC 0 rfl rfl rfl) ?_
    refine LJ.gT rfl ?_
    refine LJ.yd rfl (Yd.mvI rfl) ?_
    refine LJ.gT rfl ?_
    refine LJ.yd rfl (Yd.geq rfl rfl) ?_
    refine LJ.yd rfl (Yd.pickTB rfl rfl) ?_
    refine LJ.yd rfl (Yd.asB rfl) ?_
    refine LJ.nil ?_
    refine CJ.ret ?_
    refine Fin.V (Res.one (ResV.tmp (v := .bool _) rfl)) ?_
    refine congrArg Value.bool ?_; simp_all <;> omega
  · refine LJ.yd rfl (Yd.mvB rfl) ?_
    refine LJ.gF rfl rfl ?_
    refine LJ.gF rfl rfl ?_
    refine LJ.gF rfl rfl ?_
    refine LJ.gF rfl rfl ?_
    refine LJ.yd rfl (Yd.pickFB rfl rfl) ?_
    refine LJ.yd rfl (Yd.asB rfl) ?_
    refine LJ.nil ?_
    refine CJ.ret ?_
    refine Fin.V (Res.one (ResV.tmp (v := .bool false) rfl)) ?_
    refine congrArg Value.bool ?_; simp_all <;> omega
def loP (W H : Int) (ps : List Pane) (q : Plan) (least : Int) : Int := if vpOk W H ps q = true ∧ 1 ≤ least ∧ least ≤ 200 then loS least ((toBT q).wst (shB W H)) else -1
theorem loP_F {W H : Int} {ps : List Pane} {q : Plan} {least : Int} (h : vpOk W H ps q = false ∨ least < 1 ∨ 200 < least) : loP W H ps q least = -1 := if_neg fun ⟨h1, h2, h3⟩ => by
  rcases h with h | h
  · rw [h1] at h; cases h
  · omega
theorem wsP_facts {W H : Int} {ps : List Pane} {q : Plan} (h : vpOk W H ps q = true) : wsP W H ps q = (toBT q).wst (shB W H) ∧ SdB ((toBT q).wst (shB W H)) ∧ ((toBT q).wst (shB W H)).length ≤ 255 := by
  obtain ⟨hw, hg, hf, hz, hs, _⟩ := vp_facts h
  exact ⟨if_pos h, wst_sd _ _ hf hw, by have := wst_len (toBT q) (shB W H); omega⟩
theorem LostAreaI_ok {A : Amb} {W H : Int} {v : Value} {ps : List Pane} {cs : List Value} {q : Plan} {least : Int} (hp : RdPanes A.h v ps) (hq : RdPlan A.h cs q) : Ctr Try.prog 26 #[.agg #[vI W, vI H, v], .agg cs.toArray, vI least] A [] (Val (vI (loP W H ps q least))) := by
  have hp2 := hp
  obtain ⟨⟨sa, sc, rfl, hm, hrow⟩, hlen⟩ := hp2
  have hq2 := hq
  obtain ⟨o, a, i, t, kids, v2, css, hqe, rfl, ho, ha, hi, ⟨⟨sa2, sc2, rfl, hm2, hrow2⟩, hlen2⟩, hk⟩ := hq2.inv
  refine Ctr.body (args := [_, _, _]) Try.func26 rfl Try.ntmps26 Try.results26 (by simp) ?_
  refine CJ.seq ?_
  refine CJ.region ?_
  refine LJ.boxG (vs := [_, _, _]) rfl rfl (fun b1 => ?_)
  refine LJ.boxG (vs := [_, _, _, _, _]) rfl rfl (fun b2 => ?_)
  refine LJ.yd rfl (Yd.asI rfl) ?_
  refine LJ.nil ?_
  refine CJ.seq ?_
  refine CJ.seq ?_
  refine CJ.region ?_
  refine LJ.yd rfl (Yd.loadG (us := [_, _, _]) 0 rfl rfl rfl rfl) ?_
  refine LJ.yd rfl (Yd.loadG (us := [_, _, _, _, _]) 1 rfl rfl rfl rfl) ?_
  refine LJ.callB rfl (fun k hk dk => ValidPlanI_ok hp.up hq.up) (fun h12 => ?_) (fun h12 => ?_)
  · refine LJ.yd rfl (Yd.not rfl) ?_
    refine LJ.yd rfl (Yd.mvB rfl) ?_
    refine LJ.gT rfl ?_
    refine LJ.yd rfl (Yd.mvI rfl) ?_
    refine LJ.gT rfl ?_
    refine LJ.splitD rfl (Yd.lss rfl rfl) (fun h16 => ?_) (fun h16 => ?_)
    · refine LJ.yd rfl (Yd.pickFB rfl rfl) ?_
      refine LJ.yd rfl (Yd.mvB rfl) ?_
      refine LJ.gF rfl rfl ?_
      refine LJ.gF rfl rfl ?_
      refine LJ.yd rfl (Yd.pickTB rfl rfl) ?_
      refine LJ.nil ?_
      refine CJ.condT rfl ?_
      refine CJ.seq ?_
      refine CJ.region ?_
      refine LJ.yd rfl (Yd.asI rfl) ?_
      refine LJ.nil ?_
      refine CJ.ret ?_
      refine Fin.V (Res.one (ResV.tmp (v := .int _ _) rfl)) ?_
      first
        | (rw [loP_F (.inl h12)]; done)
        | (rw [loP_F (.inr (by omega))]; done)
        | (rw [List.drop_of_length_le (by omega), loS] at hx; rw [loP, if_pos ⟨h12, by omega, by omega⟩, ← hx]; congr 1; omega)
    · refine LJ.yd rfl (Yd.pickFB rfl rfl) ?_
      refine LJ.yd rfl (Yd.mvB rfl) ?_
      refine LJ.gT rfl ?_
      refine LJ.yd rfl (Yd.mvI rfl) ?_
      refine LJ.gT rfl ?_
      refine LJ.splitD rfl (Yd.gtr rfl rfl) (fun h20 => ?_) (fun h20 => ?_)
      · refine LJ.yd rfl (Yd.pickFB rfl rfl) ?_
        refine LJ.nil ?_
        refine CJ.condT rfl ?_
        refine CJ.seq ?_
        refine CJ.region ?_
        refine LJ.yd rfl (Yd.asI rfl) ?_
        refine LJ.nil ?_
        refine CJ.ret ?_
        refine Fin.V (Res.one (ResV.tmp (v := .int _ _) rfl)) ?_
        first
          | (rw [loP_F (.inl h12)]; done)
          | (rw [loP_F (.inr (by omega))]; done)
          | (rw [List.drop_of_length_le (by omega), loS] at hx; rw [loP, if_pos ⟨h12, by omega, by omega⟩, ← hx]; congr 1; omega)
      · refine LJ.yd rfl (Yd.pickFB rfl rfl) ?_
        refine LJ.nil ?_
        refine CJ.condF rfl ?_
        refine CJ.skip ?_
        refine CJ.seq ?_
        obtain ⟨hwe, hsd, hwl⟩ := wsP_facts h12
        refine CJ.region ?_
        refine LJ.yd rfl (Yd.asI rfl) ?_
        refine LJ.nil ?_
        refine CJ.seq ?_
        refine CJ.seq ?_
        refine CJ.region ?_
        refine LJ.yd rfl (Yd.loadG (us := [_, _, _]) 0 rfl rfl rfl rfl) ?_
        refine LJ.yd rfl (Yd.loadG (us := [_, _, _, _, _]) 1 rfl rfl rfl rfl) ?_
        refine LJ.call0 rfl (fun k hk dk => hwe ▸ WastesOfI_ok hp.up hq.up) ?_
        rintro _ _ ⟨ra24, rc24, rfl, rfl⟩
        refine LJ.norm [_, _, _] rfl ?_
        refine LJ.yd rfl (Yd.len rfl) ?_
        refine LJ.yd rfl (Yd.mvI rfl) ?_
        refine LJ.nil ?_
        refine CJ.block ?_
        refine CJ.loopK [2, 6, 24, 25] (Nat × Int) (fun ⟨k, x⟩ => k ≤ ((toBT q).wst (shB W H)).length ∧ 0 ≤ x ∧ x ≤ 40000 * k ∧ x + loS least (((toBT q).wst (shB W H)).drop k) = loS least ((toBT q).wst (shB W H))) (fun ⟨k, x⟩ => [(26, vI k), (7, vI x)]) (fun ⟨k, x⟩ => ((toBT q).wst (shB W H)).length - k) (0, 0) ?_ ⟨rfl, rfl, trivial⟩ ?_
        · exact ⟨by omega, by omega, by omega, by simp⟩
        · rintro ⟨k, x⟩ σ ⟨hk1, hx0, hx1, hx⟩
          refine CJ.seq ?_
          refine CJ.region ?_
          refine LJ.splitD rfl (Yd.lss rfl rfl) (fun h27 => ?_) (fun h27 => ?_)
          · refine LJ.nil ?_
            refine CJ.seq ?_
            refine CJ.condT rfl ?_
            refine CJ.skip ?_
            refine CJ.seq ?_
            refine CJ.block ?_
            refine CJ.seq ?_
            refine CJ.region ?_
            refine LJ.idxR 2 rfl rfl rfl rfl (by omega) (by first | rfl | omega | (simp; done) | (simp; omega) | (simp [upN_len]; omega) | (simp [idxBy_len]; omega) | (simp [marks_len]; omega) | (simp [upN_len]; done) | (simp [idxBy_len]; done) | (simp [marks_len]; done) | (simp at *; omega)) (by first | rfl | omega | (simp; done) | (simp; omega) | (simp [upN_len]; omega) | (simp [idxBy_len]; omega) | (simp [marks_len]; omega) | (simp [upN_len]; done) | (simp [idxBy_len]; done) | (simp [marks_len]; done) | (simp at *; omega)) (fun ib28 ia28 => ?_)
            refine LJ.lgR 2 (enc := Box.enc) (fun u => [vI u.X, vI u.Y, vI u.W, vI u.H]) (fun _ => rfl) (fun _ => rfl) rfl ia28 rfl rfl rfl (by first | rfl | omega | (simp; done) | (simp; omega) | (simp [upN_len]; omega) | (simp [idxBy_len]; omega) | (simp [marks_len]; omega) | (simp [upN_len]; done) | (simp [idxBy_len]; done) | (simp [marks_len]; done) | (simp at *; omega)) (fun u29 hu29 => ?_)
            try simp only [Int.toNat_natCast] at hu29
            have hs29 := hsd u29 (List.mem_of_getElem? hu29)
            have ha29 := area_s hs29.1 hs29.2.1 hs29.2.2.1 hs29.2.2.2
            refine LJ.alloc ([_, _, _, _] : List Value) rfl rfl (fun b3 => ?_)
            refine LJ.store (v := .agg #[_, _, _, _]) (us := [_, _, _, _]) 3 rfl rfl rfl rfl rfl rfl rfl rfl ?_
            refine LJ.nil ?_
            refine CJ.seq ?_
            refine CJ.region ?_
            refine LJ.yd rfl (Yd.fieldAddr rfl) ?_
            refine LJ.yd rfl (Yd.loadC 3 rfl rfl rfl) ?_
            refine LJ.yd rfl (Yd.mvI rfl) ?_
            refine LJ.splitD rfl (Yd.lss rfl rfl) (fun h33 => ?_) (fun h33 => ?_)
            · refine LJ.yd rfl (Yd.mvB rfl) ?_
              refine LJ.gF rfl rfl ?_
              refine LJ.gF rfl rfl ?_
              refine LJ.gF rfl rfl ?_
              refine LJ.gF rfl rfl ?_
              refine LJ.yd rfl (Yd.pickTB rfl rfl) ?_
              refine LJ.nil ?_
              refine CJ.condT rfl ?_
              refine CJ.region ?_
              refine LJ.yd rfl (Yd.mvI rfl) ?_
              refine LJ.yd rfl (Yd.loadG (us := [_, _, _, _]) 3 rfl rfl rfl rfl) ?_
              refine LJ.callV rfl (fun k hk dk => boxAreaP_ok _ u29 (by unfold I64; omega)) ?_
              refine LJ.yd rfl (Yd.add rfl rfl (by unfold I64; omega)) ?_
              refine LJ.yd rfl (Yd.asI rfl) ?_
              refine LJ.nil ?_
              refine CJ.region ?_
              refine LJ.yd rfl (Yd.add rfl rfl (by unfold I64; omega)) ?_
              refine LJ.yd rfl (Yd.mvI rfl) ?_
              refine LJ.nil ?_
              refine ⟨(k + 1, _), ?_, ⟨rfl, rfl, rfl, rfl, trivial⟩, ⟨rfl, rfl, trivial⟩, Ent.pick [0, 1, 2] [3] rfl, ?_⟩
              · refine ⟨by omega, ?_⟩
                rw [loS_drop least hu29] at hx
                first
                  | (rw [if_pos (by omega)] at hx; exact ⟨by omega, by omega, by omega⟩)
                  | (rw [if_neg (by omega)] at hx; exact ⟨by omega, by omega, by omega⟩)
              · first | omega | (dsimp only; omega) | (simp only []; omega)
            · refine LJ.yd rfl (Yd.mvB rfl) ?_
              refine LJ.gT rfl ?_
              refine LJ.yd rfl (Yd.fieldAddr rfl) ?_
              refine LJ.gT rfl ?_
              refine LJ.yd rfl (Yd.loadC 3 rfl rfl rfl) ?_
              refine LJ.gT rfl ?_
              refine LJ.yd rfl (Yd.mvI rfl) ?_
              refine LJ.gT rfl ?_
              refine LJ.splitD rfl (Yd.lss rfl rfl) (fun h38 => ?_) (fun h38 => ?_)
              · refine LJ.yd rfl (Yd.pickFB rfl rfl) ?_
                refine LJ.nil ?_
                refine CJ.condT rfl ?_
                refine CJ.region ?_
                refine LJ.yd rfl (Yd.mvI rfl) ?_
                refine LJ.yd rfl (Yd.loadG (us := [_, _, _, _]) 3 rfl rfl rfl rfl) ?_
                refine LJ.callV rfl (fun k hk dk => boxAreaP_ok _ u29 (by unfold I64; omega)) ?_
                refine LJ.yd rfl (Yd.add rfl rfl (by unfold I64; omega)) ?_
                refine LJ.yd rfl (Yd.asI rfl) ?_
                refine LJ.nil ?_
                refine CJ.region ?_
                refine LJ.yd rfl (Yd.add rfl rfl (by unfold I64; omega)) ?_
                refine LJ.yd rfl (Yd.mvI rfl) ?_
                refine LJ.nil ?_
                refine ⟨(k + 1, _), ?_, ⟨rfl, rfl, rfl, rfl, trivial⟩, ⟨rfl, rfl, trivial⟩, Ent.pick [0, 1, 2] [3] rfl, ?_⟩
                · refine ⟨by omega, ?_⟩
                  rw [loS_drop least hu29] at hx
                  first
                    | (rw [if_pos (by omega)] at hx; exact ⟨by omega, by omega, by omega⟩)
                    | (rw [if_neg (by omega)] at hx; exact ⟨by omega, by omega, by omega⟩)
                · first | omega | (dsimp only; omega) | (simp only []; omega)
              · refine LJ.yd rfl (Yd.pickFB rfl rfl) ?_
                refine LJ.nil ?_
                refine CJ.condF rfl ?_
                refine CJ.skip ?_
                refine CJ.region ?_
                refine LJ.yd rfl (Yd.add rfl rfl (by unfold I64; omega)) ?_
                refine LJ.yd rfl (Yd.mvI rfl) ?_
                refine LJ.nil ?_
                refine ⟨(k + 1, _), ?_, ⟨rfl, rfl, rfl, rfl, trivial⟩, ⟨rfl, rfl, trivial⟩, Ent.pick [0, 1, 2] [3] rfl, ?_⟩
                · refine ⟨by omega, ?_⟩
                  rw [loS_drop least hu29] at hx
                  first
                    | (rw [if_pos (by omega)] at hx; exact ⟨by omega, by omega, by omega⟩)
                    | (rw [if_neg (by omega)] at hx; exact ⟨by omega, by omega, by omega⟩)
                · first | omega | (dsimp only; omega) | (simp only []; omega)
          · refine LJ.nil ?_
            refine CJ.seq ?_
            refine CJ.condF rfl ?_
            refine CJ.exit ?_
            refine CJ.seq ?_
            refine CJ.region ?_
            refine LJ.yd rfl (Yd.mvI rfl) ?_
            refine LJ.yd rfl (Yd.asI rfl) ?_
            refine LJ.nil ?_
            refine CJ.ret ?_
            refine Fin.V (Res.one (ResV.tmp (v := .int _ _) rfl)) ?_
            first
              | (rw [loP_F (.inl h12)]; done)
              | (rw [loP_F (.inr (by omega))]; done)
              | (rw [List.drop_of_length_le (by omega), loS] at hx; rw [loP, if_pos ⟨h12, by omega, by omega⟩, ← hx]; congr 1; omega)
  · refine LJ.yd rfl (Yd.not rfl) ?_
    refine LJ.yd rfl (Yd.mvB rfl) ?_
    refine LJ.gF rfl rfl ?_
    refine LJ.gF rfl rfl ?_
    refine LJ.yd rfl (Yd.pickTB rfl rfl) ?_
    refine LJ.yd rfl (Yd.mvB rfl) ?_
    refine LJ.gF rfl rfl ?_
    refine LJ.gF rfl rfl ?_
    refine LJ.yd rfl (Yd.pickTB rfl rfl) ?_
    refine LJ.nil ?_
    refine CJ.condT rfl ?_
    refine CJ.seq ?_
    refine CJ.region ?_
    refine LJ.yd rfl (Yd.asI rfl) ?_
    refine LJ.nil ?_
    refine CJ.ret ?_
    refine Fin.V (Res.one (ResV.tmp (v := .int _ _) rfl)) ?_
    first
      | (rw [loP_F (.inl h12)]; done)
      | (rw [loP_F (.inr (by omega))]; done)
      | (rw [List.drop_of_length_le (by omega), loS] at hx; rw [loP, if_pos ⟨h12, by omega, by omega⟩, ← hx]; congr 1; omega)
theorem LostAreaS_ok {A : Amb} {W H : Int} {v : Value} {ps : List Pane} {cs : List Value} {q : Plan} {least : Int} (hp : RdPanes A.h v ps) (hq : RdPlan A.h cs q) : Ctr Try.prog 27 #[.agg #[vI W, vI H, v], .agg cs.toArray, vI least] A [] (Val (vI (loP W H ps q least))) := by
  have hp2 := hp
  obtain ⟨⟨sa, sc, rfl, hm, hrow⟩, hlen⟩ := hp2
  have hq2 := hq
  obtain ⟨o, a, i, t, kids, v2, css, hqe, rfl, ho, ha, hi, ⟨⟨sa2, sc2, rfl, hm2, hrow2⟩, hlen2⟩, hk⟩ := hq2.inv
  refine Ctr.body (args := [_, _, _]) Try.func27 rfl Try.ntmps27 Try.results27 (by simp) ?_
  refine CJ.seq ?_
  refine CJ.region ?_
  refine LJ.boxG (vs := [_, _, _]) rfl rfl (fun b1 => ?_)
  refine LJ.boxG (vs := [_, _, _, _, _]) rfl rfl (fun b2 => ?_)
  refine LJ.yd rfl (Yd.asI rfl) ?_
  refine LJ.nil ?_
  refine CJ.seq ?_
  refine CJ.seq ?_
  refine CJ.region ?_
  refine LJ.yd rfl (Yd.loadG (us := [_, _, _]) 0 rfl rfl rfl rfl) ?_
  refine LJ.yd rfl (Yd.loadG (us := [_, _, _, _, _]) 1 rfl rfl rfl rfl) ?_
  refine LJ.callB rfl (fun k hk dk => validPlanS_ok hp.up hq.up) (fun h12 => ?_) (fun h12 => ?_)
  · refine LJ.yd rfl (Yd.not rfl) ?_
    refine LJ.yd rfl (Yd.mvB rfl) ?_
    refine LJ.gT rfl ?_
    refine LJ.yd rfl (Yd.mvI rfl) ?_
    refine LJ.gT rfl ?_
    refine LJ.callB rfl (fun k hk dk => inRange_ok _ _ _ _) (fun h16 => ?_) (fun h16 => ?_)
    · refine LJ.gT rfl ?_
      refine LJ.yd rfl (Yd.not rfl) ?_
      refine LJ.yd rfl (Yd.pickFB rfl rfl) ?_
      refine LJ.nil ?_
      refine CJ.condF rfl ?_
      refine CJ.skip ?_
      refine CJ.seq ?_
      obtain ⟨hwe, hsd, hwl⟩ := wsP_facts h12
      obtain ⟨vw, vg, vf, vz, vs, ve⟩ := vp_facts h12
      have hin : 1 ≤ least ∧ least ≤ 200 := by simpa using h16
      refine CJ.region ?_
      refine LJ.yd rfl (Yd.asI rfl) ?_
      refine LJ.nil ?_
      refine CJ.seq ?_
      refine CJ.region ?_
      refine LJ.yd rfl (Yd.loadG (us := [_, _, _]) 0 rfl rfl rfl rfl) ?_
      refine LJ.yd rfl (Yd.loadG (us := [_, _, _, _, _]) 1 rfl rfl rfl rfl) ?_
      refine LJ.call0 rfl (fun k hk dk => wastesOf_ok (ps := ps) vs vg vf (toBT_rd hq.up vz)) ?_
      rintro _ _ ⟨ra21, rc21, rfl, rfl⟩
      refine LJ.norm [_, _, _] rfl ?_
      refine LJ.yd rfl (Yd.asS rfl) ?_
      refine LJ.nil ?_
      refine CJ.seq ?_
      refine CJ.seq ?_
      refine CJ.region ?_
      refine LJ.yd rfl (Yd.asI rfl) ?_
      refine LJ.nil ?_
      refine CJ.block ?_
      refine CJ.loopK [2, 6, 8] (Nat × Int) (fun ⟨k, x⟩ => k ≤ ((toBT q).wst (shB W H)).length ∧ 0 ≤ x ∧ x ≤ 40000 * k ∧ x + loS least (((toBT q).wst (shB W H)).drop k) = loS least ((toBT q).wst (shB W H))) (fun ⟨k, x⟩ => [(9, vI k), (7, vI x)]) (fun ⟨k, x⟩ => ((toBT q).wst (shB W H)).length - k) (0, 0) ?_ ⟨rfl, rfl, trivial⟩ ?_
      · exact ⟨by omega, by omega, by omega, by simp⟩
      · rintro ⟨k, x⟩ σ ⟨hk1, hx0, hx1, hx⟩
        refine CJ.seq ?_
        refine CJ.seq ?_
        refine CJ.region ?_
        refine LJ.yd rfl (Yd.mvI rfl) ?_
        refine LJ.yd rfl (Yd.mvS rfl) ?_
        refine LJ.yd rfl (Yd.len rfl) ?_
        refine LJ.splitD rfl (Yd.lss rfl rfl) (fun h25 => ?_) (fun h25 => ?_)
        · refine LJ.nil ?_
          refine CJ.condT rfl ?_
          refine CJ.skip ?_
          refine CJ.seq ?_
          refine CJ.block ?_
          refine CJ.seq ?_
          refine CJ.region ?_
          refine LJ.yd rfl (Yd.mvS rfl) ?_
          refine LJ.yd rfl (Yd.mvI rfl) ?_
          refine LJ.idxR 2 rfl rfl rfl rfl (by omega) (by first | rfl | omega | (simp; done) | (simp; omega) | (simp [upN_len]; omega) | (simp [idxBy_len]; omega) | (simp [marks_len]; omega) | (simp [upN_len]; done) | (simp [idxBy_len]; done) | (simp [marks_len]; done) | (simp at *; omega)) (by first | rfl | omega | (simp; done) | (simp; omega) | (simp [upN_len]; omega) | (simp [idxBy_len]; omega) | (simp [marks_len]; omega) | (simp [upN_len]; done) | (simp [idxBy_len]; done) | (simp [marks_len]; done) | (simp at *; omega)) (fun ib30 ia30 => ?_)
          refine LJ.lgR 2 (enc := Box.enc) (fun u => [vI u.X, vI u.Y, vI u.W, vI u.H]) (fun _ => rfl) (fun _ => rfl) rfl ia30 rfl rfl rfl (by first | rfl | omega | (simp; done) | (simp; omega) | (simp [upN_len]; omega) | (simp [idxBy_len]; omega) | (simp [marks_len]; omega) | (simp [upN_len]; done) | (simp [idxBy_len]; done) | (simp [marks_len]; done) | (simp at *; omega)) (fun u31 hu31 => ?_)
          try simp only [Int.toNat_natCast] at hu31
          have hs31 := hsd u31 (List.mem_of_getElem? hu31)
          have ha31 := area_s hs31.1 hs31.2.1 hs31.2.2.1 hs31.2.2.2
          refine LJ.yd rfl (Yd.mvI rfl) ?_
          refine LJ.callB rfl (fun k hk dk => isRemnant_ok _ u31 least) (fun h33 => ?_) (fun h33 => ?_)
          · refine LJ.yd rfl (Yd.not rfl) ?_
            refine LJ.nil ?_
            refine CJ.condF rfl ?_
            refine CJ.skip ?_
            refine CJ.region ?_
            refine LJ.yd rfl (Yd.mvI rfl) ?_
            refine LJ.yd rfl (Yd.add rfl rfl (by unfold I64; omega)) ?_
            refine LJ.yd rfl (Yd.asI rfl) ?_
            refine LJ.nil ?_
            refine ⟨(k + 1, _), ?_, ⟨rfl, rfl, rfl, trivial⟩, ⟨rfl, rfl, trivial⟩, Ent.refl _, ?_⟩
            · refine ⟨by omega, ?_⟩
              rw [loS_drop least hu31] at hx
              simp at h33
              first
                | (rw [if_pos (by omega)] at hx; exact ⟨by omega, by omega, by omega⟩)
                | (rw [if_neg (by omega)] at hx; exact ⟨by omega, by omega, by omega⟩)
            · first | omega | (dsimp only; omega) | (simp only []; omega)
          · refine LJ.yd rfl (Yd.not rfl) ?_
            refine LJ.nil ?_
            refine CJ.condT rfl ?_
            refine CJ.regionD [0, 1, 2] [] (by kernel_rfl) rfl ?_
            refine DJ.norm [_, _, _] [] rfl rfl ?_
            refine DJ.yd 0 rfl (by kernel_rfl) (by kernel_rfl) (by kernel_rfl) rfl rfl (Yd.mvI rfl) ?_
            refine DJ.yd 1 rfl (by kernel_rfl) (by kernel_rfl) (by kernel_rfl) rfl rfl (Yd.mvS rfl) ?_
            refine DJ.yd 2 rfl (by kernel_rfl) (by kernel_rfl) (by kernel_rfl) rfl rfl (Yd.mvI rfl) ?_
            refine DJ.idxF 2 rfl 3 rfl (by kernel_rfl) (by kernel_rfl) (by kernel_rfl) rfl rfl rfl rfl (by omega) (by first | rfl | omega | (simp; done) | (simp; omega) | (simp [upN_len]; omega) | (simp [idxBy_len]; omega) | (simp [marks_len]; omega) | (simp [upN_len]; done) | (simp [idxBy_len]; done) | (simp [marks_len]; done) | (simp at *; omega)) (by first | rfl | omega | (simp; done) | (simp; omega) | (simp [upN_len]; omega) | (simp [idxBy_len]; omega) | (simp [marks_len]; omega) | (simp [upN_len]; done) | (simp [idxBy_len]; done) | (simp [marks_len]; done) | (simp at *; omega)) (fun ib38 ia38 => ?_)
            refine DJ.yd 4 rfl (by kernel_rfl) (by kernel_rfl) (by kernel_rfl) rfl rfl (Yd.fieldAddr rfl) ?_
            refine DJ.ldF 5 rfl (by kernel_rfl) (by kernel_rfl) (by kernel_rfl) rfl rfl 2 2 (fun u => vI u.W) (fun _ => rfl) rfl ia38 rfl rfl (by first | rfl | omega | (simp; done) | (simp; omega) | (simp [upN_len]; omega) | (simp [idxBy_len]; omega) | (simp [marks_len]; omega) | (simp [upN_len]; done) | (simp [idxBy_len]; done) | (simp [marks_len]; done) | (simp at *; omega)) (fun u40 hu40 => ?_)
            try simp only [Int.toNat_natCast] at hu40
            obtain rfl : u31 = u40 := by rw [hu31] at hu40; exact Option.some.inj hu40
            refine DJ.yd 6 rfl (by kernel_rfl) (by kernel_rfl) (by kernel_rfl) rfl rfl (Yd.mvS rfl) ?_
            refine DJ.yd 7 rfl (by kernel_rfl) (by kernel_rfl) (by kernel_rfl) rfl rfl (Yd.mvI rfl) ?_
            refine DJ.idxF 2 rfl 8 rfl (by kernel_rfl) (by kernel_rfl) (by kernel_rfl) rfl rfl rfl rfl (by omega) (by first | rfl | omega | (simp; done) | (simp; omega) | (simp [upN_len]; omega) | (simp [idxBy_len]; omega) | (simp [marks_len]; omega) | (simp [upN_len]; done) | (simp [idxBy_len]; done) | (simp [marks_len]; done) | (simp at *; omega)) (by first | rfl | omega | (simp; done) | (simp; omega) | (simp [upN_len]; omega) | (simp [idxBy_len]; omega) | (simp [marks_len]; omega) | (simp [upN_len]; done) | (simp [idxBy_len]; done) | (simp [marks_len]; done) | (simp at *; omega)) (fun ib43 ia43 => ?_)
            refine DJ.yd 9 rfl (by kernel_rfl) (by kernel_rfl) (by kernel_rfl) rfl rfl (Yd.fieldAddr rfl) ?_
            refine DJ.ldF 10 rfl (by kernel_rfl) (by kernel_rfl) (by kernel_rfl) rfl rfl 2 3 (fun u => vI u.H) (fun _ => rfl) rfl ia43 rfl rfl (by first | rfl | omega | (simp; done) | (simp; omega) | (simp [upN_len]; omega) | (simp [idxBy_len]; omega) | (simp [marks_len]; omega) | (simp [upN_len]; done) | (simp [idxBy_len]; done) | (simp [marks_len]; done) | (simp at *; omega)) (fun u45 hu45 => ?_)
            try simp only [Int.toNat_natCast] at hu45
            obtain rfl : u31 = u45 := by rw [hu31] at hu45; exact Option.some.inj hu45
            refine DJ.yd 11 rfl (by kernel_rfl) (by kernel_rfl) (by kernel_rfl) rfl rfl (Yd.mul rfl rfl (by unfold I64; omega)) ?_
            refine DJ.yd 12 rfl (by kernel_rfl) (by kernel_rfl) (by kernel_rfl) rfl rfl (Yd.add rfl rfl (by unfold I64; omega)) ?_
            refine DJ.yd 13 rfl (by kernel_rfl) (by kernel_rfl) (by kernel_rfl) rfl rfl (Yd.asI rfl) ?_
            refine DJ.done (by kernel_rfl) ?_
            refine CJ.region ?_
            refine LJ.yd rfl (Yd.mvI rfl) ?_
            refine LJ.yd rfl (Yd.add rfl rfl (by unfold I64; omega)) ?_
            refine LJ.yd rfl (Yd.asI rfl) ?_
            refine LJ.nil ?_
            refine ⟨(k + 1, _), ?_, ⟨rfl, rfl, rfl, trivial⟩, ⟨rfl, rfl, trivial⟩, Ent.refl _, ?_⟩
            · refine ⟨by omega, ?_⟩
              rw [loS_drop least hu31] at hx
              simp at h33
              first
                | (rw [if_pos (by omega)] at hx; exact ⟨by omega, by omega, by omega⟩)
                | (rw [if_neg (by omega)] at hx; exact ⟨by omega, by omega, by omega⟩)
            · first | omega | (dsimp only; omega) | (simp only []; omega)
        · refine LJ.nil ?_
          refine CJ.condF rfl ?_
          refine CJ.exit ?_
          refine CJ.seq ?_
          refine CJ.region ?_
          refine LJ.yd rfl (Yd.mvI rfl) ?_
          refine LJ.yd rfl (Yd.asI rfl) ?_
          refine LJ.nil ?_
          refine CJ.ret ?_
          refine Fin.V (Res.one (ResV.tmp (v := .int _ _) rfl)) ?_
          first
            | (rw [loP_F (.inl h12)]; done)
            | (rw [loP_F (.inr (by simp at h16; omega))]; done)
            | (rw [List.drop_of_length_le (by omega), loS] at hx; rw [loP, if_pos ⟨h12, hin.1, hin.2⟩, ← hx]; congr 1; omega)
    · refine LJ.gT rfl ?_
      refine LJ.yd rfl (Yd.not rfl) ?_
      refine LJ.yd rfl (Yd.pickFB rfl rfl) ?_
      refine LJ.nil ?_
      refine CJ.condT rfl ?_
      refine CJ.seq ?_
      refine CJ.region ?_
      refine LJ.yd rfl (Yd.asI rfl) ?_
      refine LJ.nil ?_
      refine CJ.ret ?_
      refine Fin.V (Res.one (ResV.tmp (v := .int _ _) rfl)) ?_
      first
        | (rw [loP_F (.inl h12)]; done)
        | (rw [loP_F (.inr (by simp at h16; omega))]; done)
        | (rw [List.drop_of_length_le (by omega), loS] at hx; rw [loP, if_pos ⟨h12, hin.1, hin.2⟩, ← hx]; congr 1; omega)
  · refine LJ.yd rfl (Yd.not rfl) ?_
    refine LJ.yd rfl (Yd.mvB rfl) ?_
    refine LJ.gF rfl rfl ?_
    refine LJ.gF rfl rfl ?_
    refine LJ.gF rfl rfl ?_
    refine LJ.yd rfl (Yd.pickTB rfl rfl) ?_
    refine LJ.nil ?_
    refine CJ.condT rfl ?_
    refine CJ.seq ?_
    refine CJ.region ?_
    refine LJ.yd rfl (Yd.asI rfl) ?_
    refine LJ.nil ?_
    refine CJ.ret ?_
    refine Fin.V (Res.one (ResV.tmp (v := .int _ _) rfl)) ?_
    first
      | (rw [loP_F (.inl h12)]; done)
      | (rw [loP_F (.inr (by simp at h16; omega))]; done)
      | (rw [List.drop_of_length_le (by omega), loS] at hx; rw [loP, if_pos ⟨h12, hin.1, hin.2⟩, ← hx]; congr 1; omega)
end Go.Proofs.Ytlpjienaennmaaa
