/-
  Places drawn: the generator of plans with its bounds, places of plans that need not be valid.
-/
import Derived.Test.YtlpjienaennmaaaVP1
import Derived.Test.YtlpjienaennmaaaPL3
import Derived.Test.YtlpjienaennmaaaG2
namespace Go.Proofs.Ytlpjienaennmaaa
open Go
set_option maxRecDepth 20000
set_option maxHeartbeats 3000000

/-- the cuts of a plan go through its glass -/
def BT.geo : BT → Int → Int → Bool
  | .w, _, _ => true
  | .p _ _, _, _ => true
  | .c d a l r, x, y => if d = true then decide (1 ≤ a) && (decide (a ≤ x - 1) && (l.geo a y && r.geo (x - a) y))
      else decide (1 ≤ a) && (decide (a ≤ y - 1) && (l.geo x a && r.geo x (y - a)))
theorem geo_T {a x y : Int} {l r : BT} (h1 : 1 ≤ a) (h2 : a ≤ x - 1) (h3 : l.geo a y = true) (h4 : r.geo (x - a) y = true) : (BT.c true a l r).geo x y = true := by
  simp [BT.geo, h1, h2, h3, h4]
theorem geo_F {a x y : Int} {l r : BT} (h1 : 1 ≤ a) (h2 : a ≤ y - 1) (h3 : l.geo x a = true) (h4 : r.geo x (y - a) = true) : (BT.c false a l r).geo x y = true := by
  simp [BT.geo, h1, h2, h3, h4]
theorem geo_c {d : Bool} {a W H : Int} {l r : BT} (h : (BT.c d a l r).geo W H = true) :
    (d = true → 1 ≤ a ∧ a < W ∧ l.geo a H = true ∧ r.geo (W - a) H = true) ∧ (d = false → 1 ≤ a ∧ a < H ∧ l.geo W a = true ∧ r.geo W (H - a) = true) := by
  cases d <;> simp [BT.geo] at h <;> simp <;> exact ⟨by omega, by omega, by simp [h], by simp [h]⟩
theorem geo_k {d : Bool} {a : Int} {l r : BT} {g : Box} (h : (BT.c d a l r).geo g.W g.H = true) (hg : GOk g) :
    l.geo (bxL d a g).W (bxL d a g).H = true ∧ r.geo (bxR d a g).W (bxR d a g).H = true ∧ GOk (bxL d a g) ∧ GOk (bxR d a g) ∧ 1 ≤ a := by
  obtain ⟨h1, h2⟩ := geo_c h
  obtain ⟨_, _, _, _, _, _⟩ := hg
  cases d
  · obtain ⟨a1, a2, a3, a4⟩ := h2 rfl
    refine ⟨by simpa [bxL] using a3, by simpa [bxR] using a4, ?_, ?_, a1⟩ <;> simp [GOk, bxL, bxR] <;> omega
  · obtain ⟨a1, a2, a3, a4⟩ := h1 rfl
    refine ⟨by simpa [bxL] using a3, by simpa [bxR] using a4, ?_, ?_, a1⟩ <;> simp [GOk, bxL, bxR] <;> omega
theorem spr_gok : ∀ (b : BT) (g : Box), b.geo g.W g.H = true → GOk g → ∀ u ∈ b.spr g, GOk u.b
  | .w, g, _, hg, u, hu => by
    simp only [BT.spr, List.mem_singleton] at hu
    subst hu; exact hg
  | .p i t, g, _, hg, u, hu => by
    simp only [BT.spr, List.mem_singleton] at hu
    subst hu; exact hg
  | .c d a l r, g, hf, hg, u, hu => by
    obtain ⟨h1, h2, h3, h4, _⟩ := geo_k hf hg
    rcases List.mem_append.1 hu with hu | hu
    · exact spr_gok l _ h1 h3 u hu
    · exact spr_gok r _ h2 h4 u hu
theorem spreadG_ok (b : BT) : ∀ (A : Amb) (cs : List Value) (g : Box), b.sz ≤ 100000 → GOk g → b.geo g.W g.H = true → RdT A.h cs b →
    Ctr Try.prog 90 #[.agg cs.toArray, agX g] A [] (RLP encPl 88 6 (b.spr g)) := by
  induction b with
  | w =>
    intro A cs g hk hg hf hr
    cases hr
    refine Ctr.body (args := [_, _]) Try.func90 rfl Try.ntmps90 Try.results90 (by simp) ?_
    refine CJ.seq ?_
    refine CJ.region ?_
    refine LJ.boxG (vs := [_, _, _, _, _]) rfl rfl (fun b1 => ?_)
    refine LJ.boxG (vs := [_, _, _, _]) rfl rfl (fun b2 => ?_)
    refine LJ.yd rfl (Yd.asS rfl) ?_
    refine LJ.nil ?_
    refine CJ.seq ?_
    refine CJ.seq ?_
    refine CJ.region ?_
    refine LJ.yd rfl (Yd.fieldAddr rfl) ?_
    refine LJ.yd rfl (Yd.loadC 0 rfl rfl rfl) ?_
    refine LJ.nil ?_
    refine CJ.block ?_
    refine CJ.seq ?_
    refine CJ.region ?_
    refine LJ.yd rfl (Yd.cmpF (Yd.eql rfl rfl) (by decide)) ?_
    refine LJ.yd rfl (Yd.asB rfl) ?_
    refine LJ.nil ?_
    refine CJ.condF rfl ?_
    refine CJ.seq ?_
    refine CJ.region ?_
    refine LJ.yd rfl (Yd.cmpF (Yd.eql rfl rfl) (by decide)) ?_
    refine LJ.yd rfl (Yd.asB rfl) ?_
    refine LJ.nil ?_
    refine CJ.condF rfl ?_
    refine CJ.seq ?_
    refine CJ.region ?_
    refine LJ.yd rfl (Yd.cmpF (Yd.eql rfl rfl) (by decide)) ?_
    refine LJ.yd rfl (Yd.asB rfl) ?_
    refine LJ.nil ?_
    refine CJ.condF rfl ?_
    refine CJ.skip ?_
    refine CJ.seq ?_
    refine CJ.region ?_
    refine LJ.yd rfl (Yd.loadG (us := [_, _, _, _]) 1 rfl rfl rfl rfl) ?_
    refine LJ.yd rfl (Yd.build (cs := [_, _, _, _, _, _]) rfl) ?_
    refine LJ.op rfl (OpR.buildSlice (cs := [_, _, _, _, _, _]) rfl rfl) ?_
    rintro _ _ ⟨b3, rfl, rfl⟩
    refine LJ.yd rfl (Yd.asS rfl) ?_
    refine LJ.nil ?_
    refine CJ.ret ?_
    exact Fin.RS 2 [(⟨-1, false, g⟩ : Plc)] (Res.one (ResV.tmp (v := .slice _ _ _) rfl)) rfl rfl rfl rfl rfl rfl
  | p i t =>
    intro A cs g hk hg hf hr
    cases hr
    refine Ctr.body (args := [_, _]) Try.func90 rfl Try.ntmps90 Try.results90 (by simp) ?_
    refine CJ.seq ?_
    refine CJ.region ?_
    refine LJ.boxG (vs := [_, _, _, _, _]) rfl rfl (fun b1 => ?_)
    refine LJ.boxG (vs := [_, _, _, _]) rfl rfl (fun b2 => ?_)
    refine LJ.yd rfl (Yd.asS rfl) ?_
    refine LJ.nil ?_
    refine CJ.seq ?_
    refine CJ.seq ?_
    refine CJ.region ?_
    refine LJ.yd rfl (Yd.fieldAddr rfl) ?_
    refine LJ.yd rfl (Yd.loadC 0 rfl rfl rfl) ?_
    refine LJ.nil ?_
    refine CJ.block ?_
    refine CJ.seq ?_
    refine CJ.region ?_
    refine LJ.yd rfl (Yd.cmpF (Yd.eql rfl rfl) (by decide)) ?_
    refine LJ.yd rfl (Yd.asB rfl) ?_
    refine LJ.nil ?_
    refine CJ.condF rfl ?_
    refine CJ.seq ?_
    refine CJ.region ?_
    refine LJ.yd rfl (Yd.cmpF (Yd.eql rfl rfl) (by decide)) ?_
    refine LJ.yd rfl (Yd.asB rfl) ?_
    refine LJ.nil ?_
    refine CJ.condF rfl ?_
    refine CJ.seq ?_
    refine CJ.region ?_
    refine LJ.yd rfl (Yd.cmpT (Yd.eql rfl rfl) (by decide)) ?_
    refine LJ.yd rfl (Yd.asB rfl) ?_
    refine LJ.nil ?_
    refine CJ.condT rfl ?_
    refine CJ.seq ?_
    refine CJ.region ?_
    refine LJ.yd rfl (Yd.fieldAddr rfl) ?_
    refine LJ.yd rfl (Yd.loadC 0 rfl rfl rfl) ?_
    refine LJ.yd rfl (Yd.fieldAddr rfl) ?_
    refine LJ.yd rfl (Yd.loadC 0 rfl rfl rfl) ?_
    refine LJ.yd rfl (Yd.loadG (us := [_, _, _, _]) 1 rfl rfl rfl rfl) ?_
    refine LJ.yd rfl (Yd.build (cs := [_, _, _, _, _, _]) rfl) ?_
    refine LJ.op rfl (OpR.buildSlice (cs := [_, _, _, _, _, _]) rfl rfl) ?_
    rintro _ _ ⟨b3, rfl, rfl⟩
    refine LJ.yd rfl (Yd.asS rfl) ?_
    refine LJ.nil ?_
    refine CJ.ret ?_
    exact Fin.RS 2 [(⟨i, t, g⟩ : Plc)] (Res.one (ResV.tmp (v := .slice _ _ _) rfl)) rfl rfl rfl rfl rfl rfl
  | c d x l r ihl ihr =>
    intro A cs g hk hg hf hr
    obtain _ | _ | ⟨ha, hcap, hrow, hl, hr⟩ := hr
    simp only [BT.sz] at hk
    have p1 := l.sz_pos
    have p2 := r.sz_pos
    obtain ⟨f1, f2, g1, g2, hx1⟩ := geo_k hf hg
    obtain ⟨_, _, _, _, _, _⟩ := id hg
    have hx2 : x ≤ 1000 := by obtain ⟨h1, h2⟩ := geo_c hf; cases d <;> simp at h1 h2 <;> omega
    have e1 := spr_len l (bxL d x g)
    have e2 := spr_len r (bxR d x g)
    cases d
    · refine Ctr.body (args := [_, _]) Try.func90 rfl Try.ntmps90 Try.results90 (by simp) ?_
      refine CJ.seq ?_
      refine CJ.region ?_
      refine LJ.boxG (vs := [_, _, _, _, _]) rfl rfl (fun b1 => ?_)
      refine LJ.boxG (vs := [_, _, _, _]) rfl rfl (fun b2 => ?_)
      refine LJ.yd rfl (Yd.asS rfl) ?_
      refine LJ.nil ?_
      refine CJ.seq ?_
      refine CJ.seq ?_
      refine CJ.region ?_
      refine LJ.yd rfl (Yd.fieldAddr rfl) ?_
      refine LJ.yd rfl (Yd.loadC 0 rfl rfl rfl) ?_
      refine LJ.nil ?_
      refine CJ.block ?_
      refine CJ.seq ?_
      refine CJ.region ?_
      refine LJ.yd rfl (Yd.cmpF (Yd.eql rfl rfl) (by decide)) ?_
      refine LJ.yd rfl (Yd.asB rfl) ?_
      refine LJ.nil ?_
      refine CJ.condF rfl ?_
      refine CJ.seq ?_
      refine CJ.region ?_
      refine LJ.yd rfl (Yd.cmpT (Yd.eql rfl rfl) (by decide)) ?_
      refine LJ.yd rfl (Yd.asB rfl) ?_
      refine LJ.nil ?_
      refine CJ.condT rfl ?_
      refine CJ.seq ?_
      refine CJ.regionD [0, 1] [] (by kernel_rfl) rfl ?_
      refine DJ.norm [_, _] [] rfl rfl ?_
      refine DJ.yd 0 rfl (by kernel_rfl) (by kernel_rfl) (by kernel_rfl) rfl rfl (Yd.fieldAddr rfl) ?_
      refine DJ.yd 1 rfl (by kernel_rfl) (by kernel_rfl) (by kernel_rfl) rfl rfl (Yd.loadC 0 rfl rfl rfl) ?_
      refine DJ.yd 2 rfl (by kernel_rfl) (by kernel_rfl) (by kernel_rfl) rfl rfl (Yd.indexAddr rfl rfl (by omega) (by simp)) ?_
      refine DJ.yd 3 rfl (by kernel_rfl) (by kernel_rfl) (by kernel_rfl) rfl rfl (Yd.loadRow (i := 0) hrow.up rfl (by simp) rfl hl.len) ?_
      refine DJ.yd 4 rfl (by kernel_rfl) (by kernel_rfl) (by kernel_rfl) rfl rfl (Yd.fieldAddr rfl) ?_
      refine DJ.yd 5 rfl (by kernel_rfl) (by kernel_rfl) (by kernel_rfl) rfl rfl (Yd.loadC 1 rfl rfl rfl) ?_
      refine DJ.yd 6 rfl (by kernel_rfl) (by kernel_rfl) (by kernel_rfl) rfl rfl (Yd.fieldAddr rfl) ?_
      refine DJ.yd 7 rfl (by kernel_rfl) (by kernel_rfl) (by kernel_rfl) rfl rfl (Yd.loadC 1 rfl rfl rfl) ?_
      refine DJ.yd 8 rfl (by kernel_rfl) (by kernel_rfl) (by kernel_rfl) rfl rfl (Yd.fieldAddr rfl) ?_
      refine DJ.yd 9 rfl (by kernel_rfl) (by kernel_rfl) (by kernel_rfl) rfl rfl (Yd.loadC 1 rfl rfl rfl) ?_
      refine DJ.yd 10 rfl (by kernel_rfl) (by kernel_rfl) (by kernel_rfl) rfl rfl (Yd.fieldAddr rfl) ?_
      refine DJ.yd 11 rfl (by kernel_rfl) (by kernel_rfl) (by kernel_rfl) rfl rfl (Yd.loadC 0 rfl rfl rfl) ?_
      refine DJ.yd 12 rfl (by kernel_rfl) (by kernel_rfl) (by kernel_rfl) rfl rfl (Yd.build (cs := [_, _, _, _]) rfl) ?_
      refine DJ.one (i := 13) (by kernel_rfl) ?_
      refine DO.call0 rfl rfl rfl (fun k0 hk0 dk0 k hk dk => ihl _ _ (bxL false x g) (by omega) g1 f1 hl.up) ?_
      rintro _ _ ⟨ra62, rc62, rfl, rfl⟩
      refine DJ.norm [_, _] [_] rfl rfl ?_
      refine DJ.yd 14 rfl (by kernel_rfl) (by kernel_rfl) (by kernel_rfl) rfl rfl (Yd.asS rfl) ?_
      refine DJ.done (by kernel_rfl) ?_
      refine CJ.seq ?_
      refine CJ.regionD [0, 1] [2] (by kernel_rfl) rfl ?_
      refine DJ.norm [_, _] [_] rfl rfl ?_
      refine DJ.yd 0 rfl (by kernel_rfl) (by kernel_rfl) (by kernel_rfl) rfl rfl (Yd.mvS rfl) ?_
      refine DJ.yd 1 rfl (by kernel_rfl) (by kernel_rfl) (by kernel_rfl) rfl rfl (Yd.fieldAddr rfl) ?_
      refine DJ.yd 2 rfl (by kernel_rfl) (by kernel_rfl) (by kernel_rfl) rfl rfl (Yd.loadC 0 rfl rfl rfl) ?_
      refine DJ.yd 3 rfl (by kernel_rfl) (by kernel_rfl) (by kernel_rfl) rfl rfl (Yd.indexAddr rfl rfl (by omega) (by simp)) ?_
      refine DJ.yd 4 rfl (by kernel_rfl) (by kernel_rfl) (by kernel_rfl) rfl rfl (Yd.loadRow (i := 1) hrow.up rfl (by simp) rfl hr.len) ?_
      refine DJ.yd 5 rfl (by kernel_rfl) (by kernel_rfl) (by kernel_rfl) rfl rfl (Yd.fieldAddr rfl) ?_
      refine DJ.yd 6 rfl (by kernel_rfl) (by kernel_rfl) (by kernel_rfl) rfl rfl (Yd.loadC 1 rfl rfl rfl) ?_
      refine DJ.yd 7 rfl (by kernel_rfl) (by kernel_rfl) (by kernel_rfl) rfl rfl (Yd.fieldAddr rfl) ?_
      refine DJ.yd 8 rfl (by kernel_rfl) (by kernel_rfl) (by kernel_rfl) rfl rfl (Yd.loadC 1 rfl rfl rfl) ?_
      refine DJ.yd 9 rfl (by kernel_rfl) (by kernel_rfl) (by kernel_rfl) rfl rfl (Yd.fieldAddr rfl) ?_
      refine DJ.yd 10 rfl (by kernel_rfl) (by kernel_rfl) (by kernel_rfl) rfl rfl (Yd.loadC 0 rfl rfl rfl) ?_
      refine DJ.yd 11 rfl (by kernel_rfl) (by kernel_rfl) (by kernel_rfl) rfl rfl (Yd.add rfl rfl (by unfold I64; omega)) ?_
      refine DJ.yd 12 rfl (by kernel_rfl) (by kernel_rfl) (by kernel_rfl) rfl rfl (Yd.fieldAddr rfl) ?_
      refine DJ.yd 13 rfl (by kernel_rfl) (by kernel_rfl) (by kernel_rfl) rfl rfl (Yd.loadC 1 rfl rfl rfl) ?_
      refine DJ.yd 14 rfl (by kernel_rfl) (by kernel_rfl) (by kernel_rfl) rfl rfl (Yd.fieldAddr rfl) ?_
      refine DJ.yd 15 rfl (by kernel_rfl) (by kernel_rfl) (by kernel_rfl) rfl rfl (Yd.loadC 1 rfl rfl rfl) ?_
      refine DJ.yd 16 rfl (by kernel_rfl) (by kernel_rfl) (by kernel_rfl) rfl rfl (Yd.fieldAddr rfl) ?_
      refine DJ.yd 17 rfl (by kernel_rfl) (by kernel_rfl) (by kernel_rfl) rfl rfl (Yd.loadC 0 rfl rfl rfl) ?_
      refine DJ.yd 18 rfl (by kernel_rfl) (by kernel_rfl) (by kernel_rfl) rfl rfl (Yd.sub rfl rfl (by unfold I64; omega)) ?_
      refine DJ.yd 19 rfl (by kernel_rfl) (by kernel_rfl) (by kernel_rfl) rfl rfl (Yd.build (cs := [_, _, _, _]) rfl) ?_
      refine DJ.one (i := 20) (by kernel_rfl) ?_
      refine DO.call0 rfl rfl rfl (fun k0 hk0 dk0 k hk dk => ihr _ _ (bxR false x g) (by omega) g2 f2 hr.up) ?_
      rintro _ _ ⟨ra83, rc83, rfl, rfl⟩
      refine DJ.norm [_, _] [_, _] rfl rfl ?_
      refine DJ.one (i := 21) (by kernel_rfl) ?_
      refine DO.op rfl rfl rfl (fun k0 hk0 dk0 => OpR.apR (enc := encPl) 0 1 rfl rfl rfl (by first | rfl | omega | (simp; done) | (simp; omega) | (simp [upN_len]; omega) | (simp [idxBy_len]; omega) | (simp [marks_len]; omega) | (simp [upN_len]; done) | (simp [idxBy_len]; done) | (simp [marks_len]; done) | (simp at *; omega)) rfl (by first | rfl | omega | (simp; done) | (simp; omega) | (simp [upN_len]; omega) | (simp [idxBy_len]; omega) | (simp [marks_len]; omega) | (simp [upN_len]; done) | (simp [idxBy_len]; done) | (simp [marks_len]; done) | (simp at *; omega)) (fun _ => rfl) (by first | rfl | omega | (simp; done) | (simp; omega) | (simp [upN_len]; omega) | (simp [idxBy_len]; omega) | (simp [marks_len]; omega) | (simp [upN_len]; done) | (simp [idxBy_len]; done) | (simp [marks_len]; done) | (simp at *; omega))) ?_
      rintro _ _ ⟨ra84, rc84, rfl, rfl⟩
      refine DJ.norm [_, _] [_, _] rfl rfl ?_
      refine DJ.yd 22 rfl (by kernel_rfl) (by kernel_rfl) (by kernel_rfl) rfl rfl (Yd.asS rfl) ?_
      refine DJ.done (by kernel_rfl) ?_
      refine CJ.ret ?_
      refine Fin.RL 2 (Res.one (ResV.tmp (v := .slice _ _ _) rfl)) rfl (by first | rfl | omega | (simp; done) | (simp; omega) | (simp [upN_len]; omega) | (simp [idxBy_len]; omega) | (simp [marks_len]; omega) | (simp [upN_len]; done) | (simp [idxBy_len]; done) | (simp [marks_len]; done) | (simp at *; omega)) ?_
      rfl
    · refine Ctr.body (args := [_, _]) Try.func90 rfl Try.ntmps90 Try.results90 (by simp) ?_
      refine CJ.seq ?_
      refine CJ.region ?_
      refine LJ.boxG (vs := [_, _, _, _, _]) rfl rfl (fun b1 => ?_)
      refine LJ.boxG (vs := [_, _, _, _]) rfl rfl (fun b2 => ?_)
      refine LJ.yd rfl (Yd.asS rfl) ?_
      refine LJ.nil ?_
      refine CJ.seq ?_
      refine CJ.seq ?_
      refine CJ.region ?_
      refine LJ.yd rfl (Yd.fieldAddr rfl) ?_
      refine LJ.yd rfl (Yd.loadC 0 rfl rfl rfl) ?_
      refine LJ.nil ?_
      refine CJ.block ?_
      refine CJ.seq ?_
      refine CJ.region ?_
      refine LJ.yd rfl (Yd.cmpT (Yd.eql rfl rfl) (by decide)) ?_
      refine LJ.yd rfl (Yd.asB rfl) ?_
      refine LJ.nil ?_
      refine CJ.condT rfl ?_
      refine CJ.seq ?_
      refine CJ.regionD [0, 1] [] (by kernel_rfl) rfl ?_
      refine DJ.norm [_, _] [] rfl rfl ?_
      refine DJ.yd 0 rfl (by kernel_rfl) (by kernel_rfl) (by kernel_rfl) rfl rfl (Yd.fieldAddr rfl) ?_
      refine DJ.yd 1 rfl (by kernel_rfl) (by kernel_rfl) (by kernel_rfl) rfl rfl (Yd.loadC 0 rfl rfl rfl) ?_
      refine DJ.yd 2 rfl (by kernel_rfl) (by kernel_rfl) (by kernel_rfl) rfl rfl (Yd.indexAddr rfl rfl (by omega) (by simp)) ?_
      refine DJ.yd 3 rfl (by kernel_rfl) (by kernel_rfl) (by kernel_rfl) rfl rfl (Yd.loadRow (i := 0) hrow.up rfl (by simp) rfl hl.len) ?_
      refine DJ.yd 4 rfl (by kernel_rfl) (by kernel_rfl) (by kernel_rfl) rfl rfl (Yd.fieldAddr rfl) ?_
      refine DJ.yd 5 rfl (by kernel_rfl) (by kernel_rfl) (by kernel_rfl) rfl rfl (Yd.loadC 1 rfl rfl rfl) ?_
      refine DJ.yd 6 rfl (by kernel_rfl) (by kernel_rfl) (by kernel_rfl) rfl rfl (Yd.fieldAddr rfl) ?_
      refine DJ.yd 7 rfl (by kernel_rfl) (by kernel_rfl) (by kernel_rfl) rfl rfl (Yd.loadC 1 rfl rfl rfl) ?_
      refine DJ.yd 8 rfl (by kernel_rfl) (by kernel_rfl) (by kernel_rfl) rfl rfl (Yd.fieldAddr rfl) ?_
      refine DJ.yd 9 rfl (by kernel_rfl) (by kernel_rfl) (by kernel_rfl) rfl rfl (Yd.loadC 0 rfl rfl rfl) ?_
      refine DJ.yd 10 rfl (by kernel_rfl) (by kernel_rfl) (by kernel_rfl) rfl rfl (Yd.fieldAddr rfl) ?_
      refine DJ.yd 11 rfl (by kernel_rfl) (by kernel_rfl) (by kernel_rfl) rfl rfl (Yd.loadC 1 rfl rfl rfl) ?_
      refine DJ.yd 12 rfl (by kernel_rfl) (by kernel_rfl) (by kernel_rfl) rfl rfl (Yd.build (cs := [_, _, _, _]) rfl) ?_
      refine DJ.one (i := 13) (by kernel_rfl) ?_
      refine DO.call0 rfl rfl rfl (fun k0 hk0 dk0 k hk dk => ihl _ _ (bxL true x g) (by omega) g1 f1 hl.up) ?_
      rintro _ _ ⟨ra24, rc24, rfl, rfl⟩
      refine DJ.norm [_, _] [_] rfl rfl ?_
      refine DJ.yd 14 rfl (by kernel_rfl) (by kernel_rfl) (by kernel_rfl) rfl rfl (Yd.asS rfl) ?_
      refine DJ.done (by kernel_rfl) ?_
      refine CJ.seq ?_
      refine CJ.regionD [0, 1] [2] (by kernel_rfl) rfl ?_
      refine DJ.norm [_, _] [_] rfl rfl ?_
      refine DJ.yd 0 rfl (by kernel_rfl) (by kernel_rfl) (by kernel_rfl) rfl rfl (Yd.mvS rfl) ?_
      refine DJ.yd 1 rfl (by kernel_rfl) (by kernel_rfl) (by kernel_rfl) rfl rfl (Yd.fieldAddr rfl) ?_
      refine DJ.yd 2 rfl (by kernel_rfl) (by kernel_rfl) (by kernel_rfl) rfl rfl (Yd.loadC 0 rfl rfl rfl) ?_
      refine DJ.yd 3 rfl (by kernel_rfl) (by kernel_rfl) (by kernel_rfl) rfl rfl (Yd.indexAddr rfl rfl (by omega) (by simp)) ?_
      refine DJ.yd 4 rfl (by kernel_rfl) (by kernel_rfl) (by kernel_rfl) rfl rfl (Yd.loadRow (i := 1) hrow.up rfl (by simp) rfl hr.len) ?_
      refine DJ.yd 5 rfl (by kernel_rfl) (by kernel_rfl) (by kernel_rfl) rfl rfl (Yd.fieldAddr rfl) ?_
      refine DJ.yd 6 rfl (by kernel_rfl) (by kernel_rfl) (by kernel_rfl) rfl rfl (Yd.loadC 1 rfl rfl rfl) ?_
      refine DJ.yd 7 rfl (by kernel_rfl) (by kernel_rfl) (by kernel_rfl) rfl rfl (Yd.fieldAddr rfl) ?_
      refine DJ.yd 8 rfl (by kernel_rfl) (by kernel_rfl) (by kernel_rfl) rfl rfl (Yd.loadC 0 rfl rfl rfl) ?_
      refine DJ.yd 9 rfl (by kernel_rfl) (by kernel_rfl) (by kernel_rfl) rfl rfl (Yd.add rfl rfl (by unfold I64; omega)) ?_
      refine DJ.yd 10 rfl (by kernel_rfl) (by kernel_rfl) (by kernel_rfl) rfl rfl (Yd.fieldAddr rfl) ?_
      refine DJ.yd 11 rfl (by kernel_rfl) (by kernel_rfl) (by kernel_rfl) rfl rfl (Yd.loadC 1 rfl rfl rfl) ?_
      refine DJ.yd 12 rfl (by kernel_rfl) (by kernel_rfl) (by kernel_rfl) rfl rfl (Yd.fieldAddr rfl) ?_
      refine DJ.yd 13 rfl (by kernel_rfl) (by kernel_rfl) (by kernel_rfl) rfl rfl (Yd.loadC 1 rfl rfl rfl) ?_
      refine DJ.yd 14 rfl (by kernel_rfl) (by kernel_rfl) (by kernel_rfl) rfl rfl (Yd.fieldAddr rfl) ?_
      refine DJ.yd 15 rfl (by kernel_rfl) (by kernel_rfl) (by kernel_rfl) rfl rfl (Yd.loadC 0 rfl rfl rfl) ?_
      refine DJ.yd 16 rfl (by kernel_rfl) (by kernel_rfl) (by kernel_rfl) rfl rfl (Yd.sub rfl rfl (by unfold I64; omega)) ?_
      refine DJ.yd 17 rfl (by kernel_rfl) (by kernel_rfl) (by kernel_rfl) rfl rfl (Yd.fieldAddr rfl) ?_
      refine DJ.yd 18 rfl (by kernel_rfl) (by kernel_rfl) (by kernel_rfl) rfl rfl (Yd.loadC 1 rfl rfl rfl) ?_
      refine DJ.yd 19 rfl (by kernel_rfl) (by kernel_rfl) (by kernel_rfl) rfl rfl (Yd.build (cs := [_, _, _, _]) rfl) ?_
      refine DJ.one (i := 20) (by kernel_rfl) ?_
      refine DO.call0 rfl rfl rfl (fun k0 hk0 dk0 k hk dk => ihr _ _ (bxR true x g) (by omega) g2 f2 hr.up) ?_
      rintro _ _ ⟨ra45, rc45, rfl, rfl⟩
      refine DJ.norm [_, _] [_, _] rfl rfl ?_
      refine DJ.one (i := 21) (by kernel_rfl) ?_
      refine DO.op rfl rfl rfl (fun k0 hk0 dk0 => OpR.apR (enc := encPl) 0 1 rfl rfl rfl (by first | rfl | omega | (simp; done) | (simp; omega) | (simp [upN_len]; omega) | (simp [idxBy_len]; omega) | (simp [marks_len]; omega) | (simp [upN_len]; done) | (simp [idxBy_len]; done) | (simp [marks_len]; done) | (simp at *; omega)) rfl (by first | rfl | omega | (simp; done) | (simp; omega) | (simp [upN_len]; omega) | (simp [idxBy_len]; omega) | (simp [marks_len]; omega) | (simp [upN_len]; done) | (simp [idxBy_len]; done) | (simp [marks_len]; done) | (simp at *; omega)) (fun _ => rfl) (by first | rfl | omega | (simp; done) | (simp; omega) | (simp [upN_len]; omega) | (simp [idxBy_len]; omega) | (simp [marks_len]; omega) | (simp [upN_len]; done) | (simp [idxBy_len]; done) | (simp [marks_len]; done) | (simp at *; omega))) ?_
      rintro _ _ ⟨ra46, rc46, rfl, rfl⟩
      refine DJ.norm [_, _] [_, _] rfl rfl ?_
      refine DJ.yd 22 rfl (by kernel_rfl) (by kernel_rfl) (by kernel_rfl) rfl rfl (Yd.asS rfl) ?_
      refine DJ.done (by kernel_rfl) ?_
      refine CJ.ret ?_
      refine Fin.RL 2 (Res.one (ResV.tmp (v := .slice _ _ _) rfl)) rfl (by first | rfl | omega | (simp; done) | (simp; omega) | (simp [upN_len]; omega) | (simp [idxBy_len]; omega) | (simp [marks_len]; omega) | (simp [upN_len]; done) | (simp [idxBy_len]; done) | (simp [marks_len]; done) | (simp at *; omega)) ?_
      rfl
theorem flat_sp {L : List Plc} : (L.flatMap spT).length ≤ L.length ∧ ∀ u ∈ L.flatMap spT, u ∈ L := by
  induction L with
  | nil => simp
  | cons x r ih =>
    simp only [List.flatMap_cons, spT]
    split
    · exact ⟨by simp only [List.length_append, List.length_cons, List.length_nil]; have := ih.1; omega, fun u hu => by
        rcases List.mem_append.1 hu with h | h
        · rw [List.mem_singleton] at h; subst h; exact List.mem_cons_self
        · exact List.mem_cons_of_mem _ (ih.2 u h)⟩
    · exact ⟨by simp only [List.nil_append, List.length_cons]; have := ih.1; omega, fun u hu => List.mem_cons_of_mem _ (ih.2 u hu)⟩
/-- the places of a plan that need not be valid -/
def plG (b : BT) (W H : Int) : List Plc := (b.spr (shB W H)).flatMap spT
theorem plG_facts {b : BT} {W H : Int} (hg : GOk (shB W H)) (hf : b.geo W H = true) : ((plG b W H).length : Int) ≤ b.sz ∧ ∀ u ∈ plG b W H, GOk u.b :=
  ⟨by have h1 := spr_len b (shB W H); have h2 := (flat_sp (L := b.spr (shB W H))).1; rw [plG]; omega, fun u hu => spr_gok b (shB W H) hf hg u (flat_sp.2 u hu)⟩
theorem flat_takeP {L : List Plc} {k : Nat} {u : Plc} {β : Type} (f : Plc → List β) (h : L[k]? = some u) : (L.take (k + 1)).flatMap f = (L.take k).flatMap f ++ f u := by rw [takeC h, List.flatMap_append]; simp
theorem placesOfG_ok {A : Amb} {W H : Int} {a : Option Addr} {n c : Nat} {cs : List Value} {b : BT} (hz : b.sz ≤ 255) (hg : GOk (shB W H)) (hf : b.geo W H = true) (hr : RdT A.h cs b) : Ctr Try.prog 91 #[.agg #[vI W, vI H, .slice a n c], .agg cs.toArray] A [] (RLP encPl 88 6 (plG b W H)) := by
  obtain ⟨o, e, i, t, x, m, l, rfl⟩ := hr.i64
  have hl := spr_len b (shB W H)
  refine Ctr.body (args := [_, _]) Try.func91 rfl Try.ntmps91 Try.results91 (by simp) ?_
  refine CJ.seq ?_
  refine CJ.region ?_
  refine LJ.boxG (vs := [_, _, _]) rfl rfl (fun b1 => ?_)
  refine LJ.boxG (vs := [_, _, _, _, _]) rfl rfl (fun b2 => ?_)
  refine LJ.yd rfl (Yd.asS rfl) ?_
  refine LJ.nil ?_
  refine CJ.seq ?_
  refine CJ.region ?_
  refine LJ.op rfl (OpR.buildSlice (cs := []) rfl rfl) ?_
  rintro _ _ ⟨b3, rfl, rfl⟩
  refine LJ.yd rfl (Yd.asS rfl) ?_
  refine LJ.nil ?_
  refine CJ.seq ?_
  refine CJ.region ?_
  refine LJ.yd rfl (Yd.loadG (us := [_, _, _, _, _]) 1 rfl rfl rfl rfl) ?_
  refine LJ.yd rfl (Yd.fieldAddr rfl) ?_
  refine LJ.yd rfl (Yd.loadC 0 rfl rfl rfl) ?_
  refine LJ.yd rfl (Yd.fieldAddr rfl) ?_
  refine LJ.yd rfl (Yd.loadC 0 rfl rfl rfl) ?_
  refine LJ.yd rfl (Yd.build (cs := [_, _, _, _]) rfl) ?_
  refine LJ.call0 rfl (fun k hk dk => spreadG_ok b _ _ (shB W H) (by omega) hg hf hr.up) ?_
  rintro _ _ ⟨ra15, rc15, rfl, rfl⟩
  refine LJ.norm [_, _, _, _] rfl ?_
  refine LJ.yd rfl (Yd.asS rfl) ?_
  refine LJ.nil ?_
  refine CJ.seq ?_
  refine CJ.seq ?_
  refine CJ.region ?_
  refine LJ.yd rfl (Yd.asI rfl) ?_
  refine LJ.nil ?_
  refine CJ.block ?_
  refine CJ.imp1 2 rfl (fun _ h => Cel.lr (enc := encPl) (k := 6) (m := 0) [] rfl rfl rfl rfl h) ?_
  refine CJ.norm [_, _, _, _] rfl ?_
  refine CJ.loopF [4, 6] (Nat × List (Plc) × Option Addr × Nat × Nat) (fun ⟨k, O, OA, ON, OC⟩ => (ON = O.length) ∧ k ≤ (b.spr (shB W H)).length ∧ O.length ≤ k ∧ O = ((b.spr (shB W H)).take k).flatMap spT) (fun ⟨k, O, OA, ON, OC⟩ => [(7, vI k), (5, .slice OA ON OC)]) (fun ⟨k, O, OA, ON, OC⟩ => [LR encPl 88 6 OA OC O]) (fun ⟨k, O, OA, ON, OC⟩ => (b.spr (shB W H)).length - k) (0, [], _, _, _) [_, _, _] [0, 1, 3] [2] rfl rfl rfl ?_ ⟨rfl, rfl, trivial⟩ ?_
  · exact ⟨(by first | rfl | omega | (simp; done) | (simp; omega) | (simp [upN_len]; omega) | (simp [idxBy_len]; omega) | (simp [marks_len]; omega) | (simp [upN_len]; done) | (simp [idxBy_len]; done) | (simp [marks_len]; done) | (simp at *; omega)), ⟨by omega, by simp, rfl⟩⟩
  · rintro ⟨k, O, OA, ON, OC⟩ σ ⟨hlNO, ⟨hk1, hOl, hO⟩⟩
    subst hlNO
    refine CJ.norm [_, _, _, _] rfl ?_
    refine CJ.seq ?_
    refine CJ.seq ?_
    refine CJ.region ?_
    refine LJ.yd rfl (Yd.mvI rfl) ?_
    refine LJ.yd rfl (Yd.mvS rfl) ?_
    refine LJ.yd rfl (Yd.len rfl) ?_
    refine LJ.splitD rfl (Yd.lss rfl rfl) (fun h19 => ?_) (fun h19 => ?_)
    · refine LJ.nil ?_
      refine CJ.condT rfl ?_
      refine CJ.skip ?_
      refine CJ.seq ?_
      refine CJ.block ?_
      refine CJ.seq ?_
      refine CJ.region ?_
      refine LJ.yd rfl (Yd.mvS rfl) ?_
      refine LJ.yd rfl (Yd.mvI rfl) ?_
      refine LJ.idxR 2 rfl rfl rfl rfl (by omega) (by first | rfl | omega | (simp; done) | (simp; omega) | (simp [upN_len]; omega) | (simp [idxBy_len]; omega) | (simp [marks_len]; omega) | (simp [upN_len]; done) | (simp [idxBy_len]; done) | (simp [marks_len]; done) | (simp at *; omega)) (by first | rfl | omega | (simp; done) | (simp; omega) | (simp [upN_len]; omega) | (simp [idxBy_len]; omega) | (simp [marks_len]; omega) | (simp [upN_len]; done) | (simp [idxBy_len]; done) | (simp [marks_len]; done) | (simp at *; omega)) (fun ib24 ia24 => ?_)
      refine LJ.yd rfl (Yd.fieldAddr rfl) ?_
      refine LJ.ldR 2 0 (fun u => vI u.p) (fun _ => rfl) rfl ia24 rfl rfl rfl (by first | rfl | omega | (simp; done) | (simp; omega) | (simp [upN_len]; omega) | (simp [idxBy_len]; omega) | (simp [marks_len]; omega) | (simp [upN_len]; done) | (simp [idxBy_len]; done) | (simp [marks_len]; done) | (simp at *; omega)) (fun u26 hu26 => ?_)
      try simp only [Int.toNat_natCast] at hu26
      refine LJ.splitD rfl (Yd.geq rfl rfl) (fun h27 => ?_) (fun h27 => ?_)
      · refine LJ.nil ?_
        refine CJ.condT rfl ?_
        refine CJ.region ?_
        refine LJ.yd rfl (Yd.mvS rfl) ?_
        refine LJ.yd rfl (Yd.mvS rfl) ?_
        refine LJ.yd rfl (Yd.mvI rfl) ?_
        refine LJ.idxR 2 rfl rfl rfl rfl (by omega) (by first | rfl | omega | (simp; done) | (simp; omega) | (simp [upN_len]; omega) | (simp [idxBy_len]; omega) | (simp [marks_len]; omega) | (simp [upN_len]; done) | (simp [idxBy_len]; done) | (simp [marks_len]; done) | (simp at *; omega)) (by first | rfl | omega | (simp; done) | (simp; omega) | (simp [upN_len]; omega) | (simp [idxBy_len]; omega) | (simp [marks_len]; omega) | (simp [upN_len]; done) | (simp [idxBy_len]; done) | (simp [marks_len]; done) | (simp at *; omega)) (fun ib31 ia31 => ?_)
        refine LJ.lgR 2 (enc := encPl) (fun u => [vI u.p, .bool u.t, vI u.b.X, vI u.b.Y, vI u.b.W, vI u.b.H]) (fun _ => rfl) (fun _ => rfl) rfl ia31 rfl rfl rfl (by first | rfl | omega | (simp; done) | (simp; omega) | (simp [upN_len]; omega) | (simp [idxBy_len]; omega) | (simp [marks_len]; omega) | (simp [upN_len]; done) | (simp [idxBy_len]; done) | (simp [marks_len]; done) | (simp at *; omega)) (fun u32 hu32 => ?_)
        try simp only [Int.toNat_natCast] at hu32
        obtain rfl : u26 = u32 := by rw [hu26] at hu32; exact Option.some.inj hu32
        refine LJ.op rfl (OpR.buildSlice (cs := [_, _, _, _, _, _]) rfl rfl) ?_
        rintro _ _ ⟨b4, rfl, rfl⟩
        refine LJ.op rfl (OpR.apT (enc := encPl) [⟨_, _, ⟨_, _, _, _⟩⟩] 3 4 rfl rfl rfl (by first | rfl | omega | (simp; done) | (simp; omega) | (simp [upN_len]; omega) | (simp [idxBy_len]; omega) | (simp [marks_len]; omega) | (simp [upN_len]; done) | (simp [idxBy_len]; done) | (simp [marks_len]; done) | (simp at *; omega)) rfl rfl rfl rfl rfl (by first | rfl | omega | (simp; done) | (simp; omega) | (simp [upN_len]; omega) | (simp [idxBy_len]; omega) | (simp [marks_len]; omega) | (simp [upN_len]; done) | (simp [idxBy_len]; done) | (simp [marks_len]; done) | (simp at *; omega))) ?_
        rintro _ _ ⟨ra34, rc34, rfl, rfl⟩
        refine LJ.norm [_, _, _, _, _] rfl ?_
        refine LJ.yd rfl (Yd.asS rfl) ?_
        refine LJ.nil ?_
        refine CJ.region ?_
        refine LJ.yd rfl (Yd.mvI rfl) ?_
        refine LJ.yd rfl (Yd.add rfl rfl (by unfold I64; omega)) ?_
        refine LJ.yd rfl (Yd.asI rfl) ?_
        refine LJ.nil ?_
        refine ⟨(k + 1, _, _, _, _), ?_, ⟨rfl, rfl, trivial⟩, ⟨rfl, rfl, trivial⟩, Ent.pick [0, 1, 2, 3] [4] rfl, ?_⟩
        · refine ⟨(by first | rfl | omega | (simp; done) | (simp; omega) | (simp [upN_len]; omega) | (simp [idxBy_len]; omega) | (simp [marks_len]; omega) | (simp [upN_len]; done) | (simp [idxBy_len]; done) | (simp [marks_len]; done) | (simp at *; omega)), ?_⟩
          refine ⟨by omega, ?_⟩
          rw [flat_takeP spT hu26, spT]
          first
            | (rw [if_pos (by assumption), ← hO]; exact ⟨by rw [List.length_append]; exact Nat.add_le_add hOl (Nat.le_refl 1), rfl⟩)
            | (rw [if_neg (by assumption), List.append_nil]; exact ⟨Nat.le_succ_of_le hOl, hO⟩)
        · first | omega | (dsimp only; omega) | (simp only []; omega)
      · refine LJ.nil ?_
        refine CJ.condF rfl ?_
        refine CJ.skip ?_
        refine CJ.region ?_
        refine LJ.yd rfl (Yd.mvI rfl) ?_
        refine LJ.yd rfl (Yd.add rfl rfl (by unfold I64; omega)) ?_
        refine LJ.yd rfl (Yd.asI rfl) ?_
        refine LJ.nil ?_
        refine ⟨(k + 1, _, _, _, _), ?_, ⟨rfl, rfl, trivial⟩, ⟨rfl, rfl, trivial⟩, Ent.refl _, ?_⟩
        · refine ⟨(by first | rfl | omega | (simp; done) | (simp; omega) | (simp [upN_len]; omega) | (simp [idxBy_len]; omega) | (simp [marks_len]; omega) | (simp [upN_len]; done) | (simp [idxBy_len]; done) | (simp [marks_len]; done) | (simp at *; omega)), ?_⟩
          refine ⟨by omega, ?_⟩
          rw [flat_takeP spT hu26, spT]
          first
            | (rw [if_pos (by assumption), ← hO]; exact ⟨by rw [List.length_append]; exact Nat.add_le_add hOl (Nat.le_refl 1), rfl⟩)
            | (rw [if_neg (by assumption), List.append_nil]; exact ⟨Nat.le_succ_of_le hOl, hO⟩)
        · first | omega | (dsimp only; omega) | (simp only []; omega)
    · refine LJ.nil ?_
      refine CJ.condF rfl ?_
      refine CJ.exit ?_
      refine CJ.seq ?_
      refine CJ.region ?_
      refine LJ.yd rfl (Yd.mvS rfl) ?_
      refine LJ.yd rfl (Yd.asS rfl) ?_
      refine LJ.nil ?_
      refine CJ.ret ?_
      refine Fin.RL 3 (Res.one (ResV.tmp (v := .slice _ _ _) rfl)) rfl (by first | rfl | omega | (simp; done) | (simp; omega) | (simp [upN_len]; omega) | (simp [idxBy_len]; omega) | (simp [marks_len]; omega) | (simp [upN_len]; done) | (simp [idxBy_len]; done) | (simp [marks_len]; done) | (simp at *; omega)) ?_
      rw [hO, List.take_of_length_le (by omega)]; rfl
def GrowR2 (rb : Nat) (a : Option Addr) (n c : Nat) (p g : Int) (kb : Nat) (W H x0 y0 : Int) (v : Value) (fs : List HProp) : Prop :=
  ∃ (o e i : Int) (t : Bool) (x : Option Addr) (m l : Nat) (b : BT) (q : Int) (ps : List Pane) (ka : Option Addr) (kc : Nat), v = .agg #[vI o, vI e, vI i, .bool t, .slice x m l] ∧
    fs = [Rd rb a n c q, Cel kb 25 [vI W, vI H, .slice ka (ps.map Pane.enc).length kc], Row 120 4 ka kc (ps.map Pane.enc), fun h => RdT h [vI o, vI e, vI i, .bool t, .slice x m l] b] ∧
    p ≤ q ∧ q ≤ p + g ∧ ps.length ≤ 24 ∧ (∀ z ∈ ps, z.wf) ∧ b.sz ≤ g + 1 ∧ b.geo x0 y0 = true
theorem GrowR2.of {rb n c : Nat} {a : Option Addr} {p g : Int} {kb : Nat} {W H x0 y0 : Int} {o e i : Int} {t : Bool} {x : Option Addr} {m l : Nat} {b : BT} {q : Int} {ps : List Pane} {ka : Option Addr} {kc : Nat} {css : List (List Value)} (hc : css = ps.map Pane.enc)
    (h1 : p ≤ q) (h2 : q ≤ p + g) (h3 : ps.length ≤ 24) (h4 : ∀ z ∈ ps, z.wf) (h5 : b.sz ≤ g + 1) (h6 : b.geo x0 y0 = true) : GrowR2 rb a n c p g kb W H x0 y0 (.agg #[vI o, vI e, vI i, .bool t, .slice x m l])
      [Rd rb a n c q, Cel kb 25 [vI W, vI H, .slice ka css.length kc], Row 120 4 ka kc css, fun h => RdT h [vI o, vI e, vI i, .bool t, .slice x m l] b] := by
  subst hc; exact ⟨_, _, _, _, _, _, _, _, _, _, _, _, rfl, rfl, h1, h2, h3, h4, h5, h6⟩
theorem growG_ok (N : Nat) : ∀ (A : Amb) (rb n c : Nat) (a : Option Addr) (p : Int) (kb : Nat) (W H : Int) (ps : List Pane) (ka : Option Addr) (kc : Nat) (x y deep : Int), RdCode A.h a n → 0 ≤ p → p + gF N ≤ 1000000 → ps.length ≤ 24 → (∀ z ∈ ps, z.wf) →
    1 ≤ x → x ≤ 1000 → 1 ≤ y → y ≤ 1000 → 0 ≤ deep → deep ≤ 1000 → deep < N → Ctr Try.prog 106 #[.pointer (some ⟨rb, 0, none⟩), .pointer (some ⟨kb, 0, none⟩), vI x, vI y, vI deep] A
      [Rd rb a n c p, Cel kb 25 [vI W, vI H, .slice ka (ps.map Pane.enc).length kc], Row 120 4 ka kc (ps.map Pane.enc)] (GrowR2 rb a n c p (gF N) kb W H x y) := by
  induction N with
  | zero => intros; omega
  | succ N ih =>
    intro A rb n c a p kb W H ps ka kc x y deep hcode hp0 hp1 hps hwf hx0 hx1 hy0 hy1 hd0 hdm hd1
    have hlm : (ps.map Pane.enc).length = ps.length := List.length_map _
    have hN : gF (N + 1) = 4 + 2 * gF N := rfl
    have hg := gF_pos N
    have hla : ∀ e : List Value, (List.map Pane.enc ps ++ [e]).length = ps.length + 1 := fun e => by simp
    refine Ctr.body (args := [_, _, _, _, _]) Try.func106 rfl Try.ntmps106 Try.results106 (by simp) ?_
    refine CJ.seq ?_
    refine CJ.region ?_
    refine LJ.alloc ([_, _, _, _, _] : List Value) rfl rfl (fun b1 => ?_)
    refine LJ.nil ?_
    refine CJ.seq ?_
    refine CJ.region ?_
    refine LJ.yd rfl (Yd.mvP rfl) ?_
    refine LJ.call (pickF _ [1, 2, 3]) (pickF _ [0]) rfl (perm_pickF _ [1, 2, 3] [0] rfl) (fun k hk dk => pick_ok (hcode.up) (by omega) (by omega)) ?_
    rintro _ _ ⟨x22, rfl, hx22, hy22, rfl⟩
    refine LJ.norm [_, _, _, _] rfl ?_
    refine LJ.yd rfl (Yd.asI rfl) ?_
    refine LJ.nil ?_
    refine CJ.seqK [0, 1, 2, 3, 4, 10, 11] Unit (fun _ => True) (fun _ => []) ?_ ?_
    · refine CJ.seq ?_
      refine CJ.region ?_
      refine LJ.yd rfl (Yd.mvI rfl) ?_
      refine LJ.splitD rfl (Yd.gtr rfl rfl) (fun h24 => ?_) (fun h24 => ?_)
      · refine LJ.yd rfl (Yd.mvB rfl) ?_
        refine LJ.gT rfl ?_
        refine LJ.yd rfl (Yd.mvI rfl) ?_
        refine LJ.gT rfl ?_
        refine LJ.splitD rfl (Yd.gtr rfl rfl) (fun h27 => ?_) (fun h27 => ?_)
        · refine LJ.yd rfl (Yd.pickTB rfl rfl) ?_
          refine LJ.yd rfl (Yd.mvB rfl) ?_
          refine LJ.gT rfl ?_
          refine LJ.yd rfl (Yd.mvI rfl) ?_
          refine LJ.gT rfl ?_
          refine LJ.splitD rfl (Yd.lss rfl rfl) (fun h31 => ?_) (fun h31 => ?_)
          · refine LJ.gT rfl ?_
            refine LJ.yd rfl (Yd.mvB rfl) ?_
            refine LJ.gF rfl rfl ?_
            refine LJ.gF rfl rfl ?_
            refine LJ.gF rfl rfl ?_
            refine LJ.gF rfl rfl ?_
            refine LJ.gF rfl rfl ?_
            refine LJ.gF rfl rfl ?_
            refine LJ.gT rfl ?_
            refine LJ.yd rfl (Yd.pickTB rfl rfl) ?_
            refine LJ.yd rfl (Yd.pickTB rfl rfl) ?_
            refine LJ.nil ?_
            refine CJ.condT rfl ?_
            refine CJ.seq ?_
            refine CJ.region ?_
            refine LJ.yd rfl (Yd.mvP rfl) ?_
            refine LJ.yd rfl (Yd.mvI rfl) ?_
            refine LJ.yd rfl (Yd.sub rfl rfl (by unfold I64; omega)) ?_
            refine LJ.call (pickF _ [0, 1, 2]) (pickF _ [3]) rfl (perm_pickF _ [0, 1, 2] [3] rfl) (fun k hk dk => pick_ok (hcode.up) (by omega) (by omega)) ?_
            rintro _ _ ⟨x44, rfl, hx44, hy44, rfl⟩
            refine LJ.norm [_, _, _, _] rfl ?_
            refine LJ.yd rfl (Yd.add rfl rfl (by unfold I64; omega)) ?_
            refine LJ.yd rfl (Yd.asI rfl) ?_
            refine LJ.nil ?_
            refine CJ.seq ?_
            refine CJ.region ?_
            refine LJ.yd rfl (Yd.mvP rfl) ?_
            refine LJ.yd rfl (Yd.mvP rfl) ?_
            refine LJ.yd rfl (Yd.mvI rfl) ?_
            refine LJ.yd rfl (Yd.mvI rfl) ?_
            refine LJ.yd rfl (Yd.mvI rfl) ?_
            refine LJ.yd rfl (Yd.sub rfl rfl (by unfold I64; omega)) ?_
            refine LJ.call (pickF _ [2]) (pickF _ [3, 0, 1]) rfl (perm_pickF _ [2] [3, 0, 1] rfl) (fun k hk dk => ih _ _ _ _ _ _ _ _ _ ps _ _ _ _ _ hcode.up (by omega) (by omega) hps hwf (by omega) (by omega) hy0 hy1 (by omega) (by omega) (by omega)) ?_
            rintro _ _ ⟨oK0, aK0, pK0, tK0, xK0, mK0, cK0, bK0, qK0, psK0, kaK0, kcK0, rfl, rfl, hqK0, hrK0, hlK0, hwK0, hzK0, hgK0⟩
            refine LJ.norm [_, _, _, _, _] rfl ?_
            refine LJ.alloc ([_, _, _, _, _] : List Value) rfl rfl (fun b2 => ?_)
            refine LJ.store (v := .agg #[_, _, _, _, _]) (us := [_, _, _, _, _]) 5 rfl rfl rfl rfl rfl rfl rfl rfl ?_
            refine LJ.nil ?_
            refine CJ.seq ?_
            refine CJ.regionD [4, 5] [0, 1, 2, 3] (by kernel_rfl) rfl ?_
            refine DJ.norm [_, _] [_, _, _, _] rfl rfl ?_
            refine DJ.yd 0 rfl (by kernel_rfl) (by kernel_rfl) (by kernel_rfl) rfl rfl (Yd.mvI rfl) ?_
            refine DJ.yd 1 rfl (by kernel_rfl) (by kernel_rfl) (by kernel_rfl) rfl rfl (Yd.loadG (us := [_, _, _, _, _]) 1 rfl rfl rfl rfl) ?_
            refine DJ.yd 2 rfl (by kernel_rfl) (by kernel_rfl) (by kernel_rfl) rfl rfl (Yd.mvP rfl) ?_
            refine DJ.yd 3 rfl (by kernel_rfl) (by kernel_rfl) (by kernel_rfl) rfl rfl (Yd.mvP rfl) ?_
            refine DJ.yd 4 rfl (by kernel_rfl) (by kernel_rfl) (by kernel_rfl) rfl rfl (Yd.mvI rfl) ?_
            refine DJ.yd 5 rfl (by kernel_rfl) (by kernel_rfl) (by kernel_rfl) rfl rfl (Yd.mvI rfl) ?_
            refine DJ.yd 6 rfl (by kernel_rfl) (by kernel_rfl) (by kernel_rfl) rfl rfl (Yd.sub rfl rfl (by unfold I64; omega)) ?_
            refine DJ.yd 7 rfl (by kernel_rfl) (by kernel_rfl) (by kernel_rfl) rfl rfl (Yd.mvI rfl) ?_
            refine DJ.yd 8 rfl (by kernel_rfl) (by kernel_rfl) (by kernel_rfl) rfl rfl (Yd.mvI rfl) ?_
            refine DJ.yd 9 rfl (by kernel_rfl) (by kernel_rfl) (by kernel_rfl) rfl rfl (Yd.sub rfl rfl (by unfold I64; omega)) ?_
            refine DJ.one (i := 10) (by kernel_rfl) ?_
            refine DO.call (pickF _ [0]) (pickF _ [1, 2, 3]) rfl rfl rfl (perm_pickF _ [0] [1, 2, 3] rfl) (fun k0 hk0 dk0 k hk dk => ih _ _ _ _ _ _ _ _ _ psK0 _ _ _ _ _ hcode.up (by omega) (by omega) hlK0 hwK0 (by omega) (by omega) hy0 hy1 (by omega) (by omega) (by omega)) ?_
            rintro _ _ ⟨oK1, aK1, pK1, tK1, xK1, mK1, cK1, bK1, qK1, psK1, kaK1, kcK1, rfl, rfl, hqK1, hrK1, hlK1, hwK1, hzK1, hgK1⟩
            refine DJ.norm [_, _] [_, _, _, _, _] rfl rfl ?_
            refine DJ.one (i := 11) (by kernel_rfl) ?_
            refine DO.op rfl rfl rfl (fun k0 hk0 dk0 => OpR.buildSlice (cs := [_, _, _, _, _, _, _, _, _, _]) rfl rfl) ?_
            rintro _ _ ⟨b3, rfl, rfl⟩
            refine DJ.yd 12 rfl (by kernel_rfl) (by kernel_rfl) (by kernel_rfl) rfl rfl (Yd.build (cs := [_, _, _, _, _]) rfl) ?_
            refine DJ.one (i := 13) (by kernel_rfl) ?_
            refine DO.store (v := .agg #[_, _, _, _, _]) (us := [_, _, _, _, _]) 0 rfl rfl rfl rfl rfl rfl rfl rfl rfl rfl ?_
            refine DJ.done (by kernel_rfl) ?_
            refine CJ.ret ?_
            exact Fin.R [_, _, _, _] (Res.one (ResV.cell (us := [_, _, _, _, _]) 2 rfl rfl rfl rfl)) ⟨_, _, _, _, _, _, _, (.c true _ bK0 bK1), _, psK1, kaK1, kcK1, rfl, rfl, (by omega), (by simp only [gF]; omega), hlK1, hwK1, (by simp only [BT.sz, gF]; omega), (geo_T (by omega) (by omega) hgK0 hgK1)⟩ (Ent.pickFold [3, 4, 5] [0, 6, 7] [1, 2] rfl (RdT.foldV (d := true) (by unfold I64; omega)))
          · refine LJ.gT rfl ?_
            refine LJ.yd rfl (Yd.mvB rfl) ?_
            refine LJ.gT rfl ?_
            refine LJ.yd rfl (Yd.mvI rfl) ?_
            refine LJ.gT rfl ?_
            refine LJ.splitD rfl (Yd.lss rfl rfl) (fun h34 => ?_) (fun h34 => ?_)
            · refine LJ.gT rfl ?_
              refine LJ.yd rfl (Yd.mvB rfl) ?_
              refine LJ.gT rfl ?_
              refine LJ.yd rfl (Yd.mvI rfl) ?_
              refine LJ.gT rfl ?_
              refine LJ.splitD rfl (Yd.eql rfl rfl) (fun h37 => ?_) (fun h37 => ?_)
              · refine LJ.gT rfl ?_
                refine LJ.yd rfl (Yd.pickTB rfl rfl) ?_
                refine LJ.gT rfl ?_
                refine LJ.yd rfl (Yd.pickFB rfl rfl) ?_
                refine LJ.yd rfl (Yd.pickTB rfl rfl) ?_
                refine LJ.nil ?_
                refine CJ.condT rfl ?_
                refine CJ.seq ?_
                refine CJ.region ?_
                refine LJ.yd rfl (Yd.mvP rfl) ?_
                refine LJ.yd rfl (Yd.mvI rfl) ?_
                refine LJ.yd rfl (Yd.sub rfl rfl (by unfold I64; omega)) ?_
                refine LJ.call (pickF _ [0, 1, 2]) (pickF _ [3]) rfl (perm_pickF _ [0, 1, 2] [3] rfl) (fun k hk dk => pick_ok (hcode.up) (by omega) (by omega)) ?_
                rintro _ _ ⟨x44, rfl, hx44, hy44, rfl⟩
                refine LJ.norm [_, _, _, _] rfl ?_
                refine LJ.yd rfl (Yd.add rfl rfl (by unfold I64; omega)) ?_
                refine LJ.yd rfl (Yd.asI rfl) ?_
                refine LJ.nil ?_
                refine CJ.seq ?_
                refine CJ.region ?_
                refine LJ.yd rfl (Yd.mvP rfl) ?_
                refine LJ.yd rfl (Yd.mvP rfl) ?_
                refine LJ.yd rfl (Yd.mvI rfl) ?_
                refine LJ.yd rfl (Yd.mvI rfl) ?_
                refine LJ.yd rfl (Yd.mvI rfl) ?_
                refine LJ.yd rfl (Yd.sub rfl rfl (by unfold I64; omega)) ?_
                refine LJ.call (pickF _ [2]) (pickF _ [3, 0, 1]) rfl (perm_pickF _ [2] [3, 0, 1] rfl) (fun k hk dk => ih _ _ _ _ _ _ _ _ _ ps _ _ _ _ _ hcode.up (by omega) (by omega) hps hwf (by omega) (by omega) hy0 hy1 (by omega) (by omega) (by omega)) ?_
                rintro _ _ ⟨oK0, aK0, pK0, tK0, xK0, mK0, cK0, bK0, qK0, psK0, kaK0, kcK0, rfl, rfl, hqK0, hrK0, hlK0, hwK0, hzK0, hgK0⟩
                refine LJ.norm [_, _, _, _, _] rfl ?_
                refine LJ.alloc ([_, _, _, _, _] : List Value) rfl rfl (fun b4 => ?_)
                refine LJ.store (v := .agg #[_, _, _, _, _]) (us := [_, _, _, _, _]) 5 rfl rfl rfl rfl rfl rfl rfl rfl ?_
                refine LJ.nil ?_
                refine CJ.seq ?_
                refine CJ.regionD [4, 5] [0, 1, 2, 3] (by kernel_rfl) rfl ?_
                refine DJ.norm [_, _] [_, _, _, _] rfl rfl ?_
                refine DJ.yd 0 rfl (by kernel_rfl) (by kernel_rfl) (by kernel_rfl) rfl rfl (Yd.mvI rfl) ?_
                refine DJ.yd 1 rfl (by kernel_rfl) (by kernel_rfl) (by kernel_rfl) rfl rfl (Yd.loadG (us := [_, _, _, _, _]) 1 rfl rfl rfl rfl) ?_
                refine DJ.yd 2 rfl (by kernel_rfl) (by kernel_rfl) (by kernel_rfl) rfl rfl (Yd.mvP rfl) ?_
                refine DJ.yd 3 rfl (by kernel_rfl) (by kernel_rfl) (by kernel_rfl) rfl rfl (Yd.mvP rfl) ?_
                refine DJ.yd 4 rfl (by kernel_rfl) (by kernel_rfl) (by kernel_rfl) rfl rfl (Yd.mvI rfl) ?_
                refine DJ.yd 5 rfl (by kernel_rfl) (by kernel_rfl) (by kernel_rfl) rfl rfl (Yd.mvI rfl) ?_
                refine DJ.yd 6 rfl (by kernel_rfl) (by kernel_rfl) (by kernel_rfl) rfl rfl (Yd.sub rfl rfl (by unfold I64; omega)) ?_
                refine DJ.yd 7 rfl (by kernel_rfl) (by kernel_rfl) (by kernel_rfl) rfl rfl (Yd.mvI rfl) ?_
                refine DJ.yd 8 rfl (by kernel_rfl) (by kernel_rfl) (by kernel_rfl) rfl rfl (Yd.mvI rfl) ?_
                refine DJ.yd 9 rfl (by kernel_rfl) (by kernel_rfl) (by kernel_rfl) rfl rfl (Yd.sub rfl rfl (by unfold I64; omega)) ?_
                refine DJ.one (i := 10) (by kernel_rfl) ?_
                refine DO.call (pickF _ [0]) (pickF _ [1, 2, 3]) rfl rfl rfl (perm_pickF _ [0] [1, 2, 3] rfl) (fun k0 hk0 dk0 k hk dk => ih _ _ _ _ _ _ _ _ _ psK0 _ _ _ _ _ hcode.up (by omega) (by omega) hlK0 hwK0 (by omega) (by omega) hy0 hy1 (by omega) (by omega) (by omega)) ?_
                rintro _ _ ⟨oK1, aK1, pK1, tK1, xK1, mK1, cK1, bK1, qK1, psK1, kaK1, kcK1, rfl, rfl, hqK1, hrK1, hlK1, hwK1, hzK1, hgK1⟩
                refine DJ.norm [_, _] [_, _, _, _, _] rfl rfl ?_
                refine DJ.one (i := 11) (by kernel_rfl) ?_
                refine DO.op rfl rfl rfl (fun k0 hk0 dk0 => OpR.buildSlice (cs := [_, _, _, _, _, _, _, _, _, _]) rfl rfl) ?_
                rintro _ _ ⟨b5, rfl, rfl⟩
                refine DJ.yd 12 rfl (by kernel_rfl) (by kernel_rfl) (by kernel_rfl) rfl rfl (Yd.build (cs := [_, _, _, _, _]) rfl) ?_
                refine DJ.one (i := 13) (by kernel_rfl) ?_
                refine DO.store (v := .agg #[_, _, _, _, _]) (us := [_, _, _, _, _]) 0 rfl rfl rfl rfl rfl rfl rfl rfl rfl rfl ?_
                refine DJ.done (by kernel_rfl) ?_
                refine CJ.ret ?_
                exact Fin.R [_, _, _, _] (Res.one (ResV.cell (us := [_, _, _, _, _]) 2 rfl rfl rfl rfl)) ⟨_, _, _, _, _, _, _, (.c true _ bK0 bK1), _, psK1, kaK1, kcK1, rfl, rfl, (by omega), (by simp only [gF]; omega), hlK1, hwK1, (by simp only [BT.sz, gF]; omega), (geo_T (by omega) (by omega) hgK0 hgK1)⟩ (Ent.pickFold [3, 4, 5] [0, 6, 7] [1, 2] rfl (RdT.foldV (d := true) (by unfold I64; omega)))
              · refine LJ.gT rfl ?_
                refine LJ.yd rfl (Yd.pickTB rfl rfl) ?_
                refine LJ.gT rfl ?_
                refine LJ.yd rfl (Yd.pickFB rfl rfl) ?_
                refine LJ.yd rfl (Yd.pickTB rfl rfl) ?_
                refine LJ.nil ?_
                refine CJ.condF rfl ?_
                refine CJ.skip ?_
                refine ⟨(), ?_, ?_, ?_, Ent.refl _⟩
                · trivial
                · exact ⟨rfl, rfl, rfl, rfl, rfl, rfl, rfl, trivial⟩
                · exact trivial
            · refine LJ.gT rfl ?_
              refine LJ.yd rfl (Yd.mvB rfl) ?_
              refine LJ.gF rfl rfl ?_
              refine LJ.gF rfl rfl ?_
              refine LJ.gT rfl ?_
              refine LJ.yd rfl (Yd.pickFB rfl rfl) ?_
              refine LJ.gT rfl ?_
              refine LJ.yd rfl (Yd.pickFB rfl rfl) ?_
              refine LJ.yd rfl (Yd.pickTB rfl rfl) ?_
              refine LJ.nil ?_
              refine CJ.condF rfl ?_
              refine CJ.skip ?_
              refine ⟨(), ?_, ?_, ?_, Ent.refl _⟩
              · trivial
              · exact ⟨rfl, rfl, rfl, rfl, rfl, rfl, rfl, trivial⟩
              · exact trivial
        · refine LJ.yd rfl (Yd.pickTB rfl rfl) ?_
          refine LJ.yd rfl (Yd.mvB rfl) ?_
          refine LJ.gF rfl rfl ?_
          refine LJ.gF rfl rfl ?_
          refine LJ.gF rfl rfl ?_
          refine LJ.gF rfl rfl ?_
          refine LJ.gF rfl rfl ?_
          refine LJ.gF rfl rfl ?_
          refine LJ.gF rfl rfl ?_
          refine LJ.gF rfl rfl ?_
          refine LJ.gF rfl rfl ?_
          refine LJ.gF rfl rfl ?_
          refine LJ.yd rfl (Yd.pickFB rfl rfl) ?_
          refine LJ.nil ?_
          refine CJ.condF rfl ?_
          refine CJ.skip ?_
          refine ⟨(), ?_, ?_, ?_, Ent.refl _⟩
          · trivial
          · exact ⟨rfl, rfl, rfl, rfl, rfl, rfl, rfl, trivial⟩
          · exact trivial
      · refine LJ.yd rfl (Yd.mvB rfl) ?_
        refine LJ.gF rfl rfl ?_
        refine LJ.gF rfl rfl ?_
        refine LJ.yd rfl (Yd.pickFB rfl rfl) ?_
        refine LJ.yd rfl (Yd.mvB rfl) ?_
        refine LJ.gF rfl rfl ?_
        refine LJ.gF rfl rfl ?_
        refine LJ.gF rfl rfl ?_
        refine LJ.gF rfl rfl ?_
        refine LJ.gF rfl rfl ?_
        refine LJ.gF rfl rfl ?_
        refine LJ.gF rfl rfl ?_
        refine LJ.gF rfl rfl ?_
        refine LJ.gF rfl rfl ?_
        refine LJ.gF rfl rfl ?_
        refine LJ.yd rfl (Yd.pickFB rfl rfl) ?_
        refine LJ.nil ?_
        refine CJ.condF rfl ?_
        refine CJ.skip ?_
        refine ⟨(), ?_, ?_, ?_, Ent.refl _⟩
        · trivial
        · exact ⟨rfl, rfl, rfl, rfl, rfl, rfl, rfl, trivial⟩
        · exact trivial
    · rintro _ σ hp
      refine CJ.seqK [0, 1, 2, 3, 10, 11] Unit (fun _ => True) (fun _ => []) ?_ ?_
      · refine CJ.seq ?_
        refine CJ.region ?_
        refine LJ.yd rfl (Yd.mvI rfl) ?_
        refine LJ.splitD rfl (Yd.gtr rfl rfl) (fun h67 => ?_) (fun h67 => ?_)
        · refine LJ.yd rfl (Yd.mvB rfl) ?_
          refine LJ.gT rfl ?_
          refine LJ.yd rfl (Yd.mvI rfl) ?_
          refine LJ.gT rfl ?_
          refine LJ.splitD rfl (Yd.gtr rfl rfl) (fun h70 => ?_) (fun h70 => ?_)
          · refine LJ.yd rfl (Yd.pickTB rfl rfl) ?_
            refine LJ.yd rfl (Yd.mvB rfl) ?_
            refine LJ.gT rfl ?_
            refine LJ.yd rfl (Yd.mvI rfl) ?_
            refine LJ.gT rfl ?_
            refine LJ.splitD rfl (Yd.lss rfl rfl) (fun h74 => ?_) (fun h74 => ?_)
            · refine LJ.yd rfl (Yd.pickTB rfl rfl) ?_
              refine LJ.nil ?_
              refine CJ.condT rfl ?_
              refine CJ.seq ?_
              refine CJ.region ?_
              refine LJ.yd rfl (Yd.mvP rfl) ?_
              refine LJ.yd rfl (Yd.mvI rfl) ?_
              refine LJ.yd rfl (Yd.sub rfl rfl (by unfold I64; omega)) ?_
              refine LJ.call (pickF _ [0, 1, 2]) (pickF _ [3]) rfl (perm_pickF _ [0, 1, 2] [3] rfl) (fun k hk dk => pick_ok (hcode.up) (by omega) (by omega)) ?_
              rintro _ _ ⟨x79, rfl, hx79, hy79, rfl⟩
              refine LJ.norm [_, _, _, _] rfl ?_
              refine LJ.yd rfl (Yd.add rfl rfl (by unfold I64; omega)) ?_
              refine LJ.yd rfl (Yd.asI rfl) ?_
              refine LJ.nil ?_
              refine CJ.seq ?_
              refine CJ.region ?_
              refine LJ.yd rfl (Yd.mvP rfl) ?_
              refine LJ.yd rfl (Yd.mvP rfl) ?_
              refine LJ.yd rfl (Yd.mvI rfl) ?_
              refine LJ.yd rfl (Yd.mvI rfl) ?_
              refine LJ.yd rfl (Yd.mvI rfl) ?_
              refine LJ.yd rfl (Yd.sub rfl rfl (by unfold I64; omega)) ?_
              refine LJ.call (pickF _ [2]) (pickF _ [3, 0, 1]) rfl (perm_pickF _ [2] [3, 0, 1] rfl) (fun k hk dk => ih _ _ _ _ _ _ _ _ _ ps _ _ _ _ _ hcode.up (by omega) (by omega) hps hwf hx0 hx1 (by omega) (by omega) (by omega) (by omega) (by omega)) ?_
              rintro _ _ ⟨oK0, aK0, pK0, tK0, xK0, mK0, cK0, bK0, qK0, psK0, kaK0, kcK0, rfl, rfl, hqK0, hrK0, hlK0, hwK0, hzK0, hgK0⟩
              refine LJ.norm [_, _, _, _, _] rfl ?_
              refine LJ.alloc ([_, _, _, _, _] : List Value) rfl rfl (fun b6 => ?_)
              refine LJ.store (v := .agg #[_, _, _, _, _]) (us := [_, _, _, _, _]) 5 rfl rfl rfl rfl rfl rfl rfl rfl ?_
              refine LJ.nil ?_
              refine CJ.seq ?_
              refine CJ.regionD [4, 5] [0, 1, 2, 3] (by kernel_rfl) rfl ?_
              refine DJ.norm [_, _] [_, _, _, _] rfl rfl ?_
              refine DJ.yd 0 rfl (by kernel_rfl) (by kernel_rfl) (by kernel_rfl) rfl rfl (Yd.mvI rfl) ?_
              refine DJ.yd 1 rfl (by kernel_rfl) (by kernel_rfl) (by kernel_rfl) rfl rfl (Yd.loadG (us := [_, _, _, _, _]) 1 rfl rfl rfl rfl) ?_
              refine DJ.yd 2 rfl (by kernel_rfl) (by kernel_rfl) (by kernel_rfl) rfl rfl (Yd.mvP rfl) ?_
              refine DJ.yd 3 rfl (by kernel_rfl) (by kernel_rfl) (by kernel_rfl) rfl rfl (Yd.mvP rfl) ?_
              refine DJ.yd 4 rfl (by kernel_rfl) (by kernel_rfl) (by kernel_rfl) rfl rfl (Yd.mvI rfl) ?_
              refine DJ.yd 5 rfl (by kernel_rfl) (by kernel_rfl) (by kernel_rfl) rfl rfl (Yd.mvI rfl) ?_
              refine DJ.yd 6 rfl (by kernel_rfl) (by kernel_rfl) (by kernel_rfl) rfl rfl (Yd.mvI rfl) ?_
              refine DJ.yd 7 rfl (by kernel_rfl) (by kernel_rfl) (by kernel_rfl) rfl rfl (Yd.sub rfl rfl (by unfold I64; omega)) ?_
              refine DJ.yd 8 rfl (by kernel_rfl) (by kernel_rfl) (by kernel_rfl) rfl rfl (Yd.mvI rfl) ?_
              refine DJ.yd 9 rfl (by kernel_rfl) (by kernel_rfl) (by kernel_rfl) rfl rfl (Yd.sub rfl rfl (by unfold I64; omega)) ?_
              refine DJ.one (i := 10) (by kernel_rfl) ?_
              refine DO.call (pickF _ [0]) (pickF _ [1, 2, 3]) rfl rfl rfl (perm_pickF _ [0] [1, 2, 3] rfl) (fun k0 hk0 dk0 k hk dk => ih _ _ _ _ _ _ _ _ _ psK0 _ _ _ _ _ hcode.up (by omega) (by omega) hlK0 hwK0 hx0 hx1 (by omega) (by omega) (by omega) (by omega) (by omega)) ?_
              rintro _ _ ⟨oK1, aK1, pK1, tK1, xK1, mK1, cK1, bK1, qK1, psK1, kaK1, kcK1, rfl, rfl, hqK1, hrK1, hlK1, hwK1, hzK1, hgK1⟩
              refine DJ.norm [_, _] [_, _, _, _, _] rfl rfl ?_
              refine DJ.one (i := 11) (by kernel_rfl) ?_
              refine DO.op rfl rfl rfl (fun k0 hk0 dk0 => OpR.buildSlice (cs := [_, _, _, _, _, _, _, _, _, _]) rfl rfl) ?_
              rintro _ _ ⟨b7, rfl, rfl⟩
              refine DJ.yd 12 rfl (by kernel_rfl) (by kernel_rfl) (by kernel_rfl) rfl rfl (Yd.build (cs := [_, _, _, _, _]) rfl) ?_
              refine DJ.one (i := 13) (by kernel_rfl) ?_
              refine DO.store (v := .agg #[_, _, _, _, _]) (us := [_, _, _, _, _]) 0 rfl rfl rfl rfl rfl rfl rfl rfl rfl rfl ?_
              refine DJ.done (by kernel_rfl) ?_
              refine CJ.ret ?_
              exact Fin.R [_, _, _, _] (Res.one (ResV.cell (us := [_, _, _, _, _]) 2 rfl rfl rfl rfl)) ⟨_, _, _, _, _, _, _, (.c false _ bK0 bK1), _, psK1, kaK1, kcK1, rfl, rfl, (by omega), (by simp only [gF]; omega), hlK1, hwK1, (by simp only [BT.sz, gF]; omega), (geo_F (by omega) (by omega) hgK0 hgK1)⟩ (Ent.pickFold [3, 4, 5] [0, 6, 7] [1, 2] rfl (RdT.foldV (d := false) (by unfold I64; omega)))
            · refine LJ.yd rfl (Yd.pickTB rfl rfl) ?_
              refine LJ.nil ?_
              refine CJ.condF rfl ?_
              refine CJ.skip ?_
              refine ⟨(), ?_, ?_, ?_, Ent.refl _⟩
              · trivial
              · exact ⟨rfl, rfl, rfl, rfl, rfl, rfl, trivial⟩
              · exact trivial
          · refine LJ.yd rfl (Yd.pickTB rfl rfl) ?_
            refine LJ.yd rfl (Yd.mvB rfl) ?_
            refine LJ.gF rfl rfl ?_
            refine LJ.gF rfl rfl ?_
            refine LJ.yd rfl (Yd.pickFB rfl rfl) ?_
            refine LJ.nil ?_
            refine CJ.condF rfl ?_
            refine CJ.skip ?_
            refine ⟨(), ?_, ?_, ?_, Ent.refl _⟩
            · trivial
            · exact ⟨rfl, rfl, rfl, rfl, rfl, rfl, trivial⟩
            · exact trivial
        · refine LJ.yd rfl (Yd.mvB rfl) ?_
          refine LJ.gF rfl rfl ?_
          refine LJ.gF rfl rfl ?_
          refine LJ.yd rfl (Yd.pickFB rfl rfl) ?_
          refine LJ.yd rfl (Yd.mvB rfl) ?_
          refine LJ.gF rfl rfl ?_
          refine LJ.gF rfl rfl ?_
          refine LJ.yd rfl (Yd.pickFB rfl rfl) ?_
          refine LJ.nil ?_
          refine CJ.condF rfl ?_
          refine CJ.skip ?_
          refine ⟨(), ?_, ?_, ?_, Ent.refl _⟩
          · trivial
          · exact ⟨rfl, rfl, rfl, rfl, rfl, rfl, trivial⟩
          · exact trivial
      · rintro _ σ hp
        refine CJ.seqK [0, 1, 2, 3, 10] Unit (fun _ => True) (fun _ => []) ?_ ?_
        · refine CJ.seq ?_
          refine CJ.region ?_
          refine LJ.yd rfl (Yd.mvI rfl) ?_
          refine LJ.splitD rfl (Yd.eql rfl rfl) (fun h102 => ?_) (fun h102 => ?_)
          · refine LJ.nil ?_
            refine CJ.condT rfl ?_
            refine CJ.seq ?_
            refine CJ.region ?_
            refine LJ.yd rfl (Yd.build (cs := [_, _, _, _, _]) rfl) ?_
            refine LJ.store (v := .agg #[_, _, _, _, _]) (us := [_, _, _, _, _]) 2 rfl rfl rfl rfl rfl rfl rfl rfl ?_
            refine LJ.nil ?_
            refine CJ.ret ?_
            exact Fin.R [_, _, _, _] (Res.one (ResV.cell (us := [_, _, _, _, _]) 2 rfl rfl rfl rfl)) ⟨_, _, _, _, _, _, _, .w, _, ps, ka, kc, rfl, rfl, (by omega), (by have := gF_pos N; omega), hps, hwf, (by have := gF_pos N; simp only [BT.sz, gF]; omega), rfl⟩ (Ent.pickFold [3, 0, 1] [] [2] rfl (fun _ _ => .w))
          · refine LJ.nil ?_
            refine CJ.condF rfl ?_
            refine CJ.skip ?_
            refine ⟨(), ?_, ?_, ?_, Ent.refl _⟩
            · trivial
            · exact ⟨rfl, rfl, rfl, rfl, rfl, trivial⟩
            · exact trivial
        · rintro _ σ hp
          refine CJ.seq ?_
          refine CJ.seq ?_
          refine CJ.region ?_
          refine LJ.yd rfl (Yd.asI rfl) ?_
          refine LJ.nil ?_
          refine CJ.block ?_
          refine CJ.loopK [0, 1, 2, 3, 10] Nat (fun k => k ≤ ps.length) (fun k => [(16, vI k)]) (fun k => ps.length - k) 0 ?_ ?_ ?_
          · omega
          · exact ⟨rfl, trivial⟩
          · rintro k σ hp
            refine CJ.seq ?_
            refine CJ.seq ?_
            refine CJ.region ?_
            refine LJ.yd rfl (Yd.mvI rfl) ?_
            refine LJ.yd rfl (Yd.mvP rfl) ?_
            refine LJ.yd rfl (Yd.nilCheck rfl) ?_
            refine LJ.yd rfl (Yd.fieldAddr rfl) ?_
            refine LJ.yd rfl (Yd.loadC 0 rfl rfl rfl) ?_
            refine LJ.yd rfl (Yd.len rfl) ?_
            refine LJ.splitD rfl (Yd.lss rfl rfl) (fun h110 => ?_) (fun h110 => ?_)
            · refine LJ.nil ?_
              refine CJ.condT rfl ?_
              refine CJ.skip ?_
              refine CJ.seq ?_
              refine CJ.block ?_
              refine CJ.seq ?_
              refine CJ.region ?_
              refine LJ.yd rfl (Yd.asI rfl) ?_
              refine LJ.nil ?_
              refine CJ.block ?_
              refine CJ.loopK [0, 1, 2, 3, 10, 16, 104, 105, 106, 107, 108, 109, 110] Nat (fun j => j ≤ 2) (fun j => [(17, vI j)]) (fun j => 2 - j) 0 ?_ ?_ ?_
              · omega
              · exact ⟨rfl, trivial⟩
              · rintro j σ hp
                refine CJ.seq ?_
                refine CJ.seq ?_
                refine CJ.region ?_
                refine LJ.yd rfl (Yd.mvI rfl) ?_
                refine LJ.splitD rfl (Yd.lss rfl rfl) (fun h114 => ?_) (fun h114 => ?_)
                · refine LJ.nil ?_
                  refine CJ.condT rfl ?_
                  refine CJ.skip ?_
                  refine CJ.seq ?_
                  refine CJ.block ?_
                  refine CJ.seq ?_
                  refine CJ.region ?_
                  refine LJ.yd rfl (Yd.mvI rfl) ?_
                  refine LJ.yd rfl (Yd.mvI rfl) ?_
                  refine LJ.yd rfl (Yd.eql rfl rfl) ?_
                  refine LJ.yd rfl (Yd.build (cs := [_, _, _, _, _]) rfl) ?_
                  refine LJ.alloc ([_, _, _, _, _] : List Value) rfl rfl (fun b8 => ?_)
                  refine LJ.store (v := .agg #[_, _, _, _, _]) (us := [_, _, _, _, _]) 4 rfl rfl rfl rfl rfl rfl rfl rfl ?_
                  refine LJ.nil ?_
                  refine CJ.seq ?_
                  refine CJ.regionD [0, 1, 2, 3, 4] [] (by kernel_rfl) rfl ?_
                  refine DJ.norm [_, _, _, _, _] [] rfl rfl ?_
                  refine DJ.yd 0 rfl (by kernel_rfl) (by kernel_rfl) (by kernel_rfl) rfl rfl (Yd.mvP rfl) ?_
                  refine DJ.yd 1 rfl (by kernel_rfl) (by kernel_rfl) (by kernel_rfl) rfl rfl (Yd.nilCheck rfl) ?_
                  refine DJ.yd 2 rfl (by kernel_rfl) (by kernel_rfl) (by kernel_rfl) rfl rfl (Yd.loadG (us := [_, _, _]) 0 rfl rfl rfl rfl) ?_
                  refine DJ.yd 3 rfl (by kernel_rfl) (by kernel_rfl) (by kernel_rfl) rfl rfl (Yd.loadG (us := [_, _, _, _, _]) 4 rfl rfl rfl rfl) ?_
                  refine DJ.yd 4 rfl (by kernel_rfl) (by kernel_rfl) (by kernel_rfl) rfl rfl (Yd.mvI rfl) ?_
                  refine DJ.yd 5 rfl (by kernel_rfl) (by kernel_rfl) (by kernel_rfl) rfl rfl (Yd.mvI rfl) ?_
                  refine DJ.one (i := 6) (by kernel_rfl) ?_
                  refine DO.callB rfl rfl rfl (fun k0 hk0 dk0 k hk dk => fitsPlanS_p (ps := ps) (Sts.row hk0 dk0 1 (by omega) rfl).up) (fun h127 => ?_) (fun h127 => ?_)
                  · refine DJ.done (by kernel_rfl) ?_
                    refine CJ.condT rfl ?_
                    refine CJ.seq ?_
                    refine CJ.region ?_
                    refine LJ.yd rfl (Yd.loadG (us := [_, _, _, _, _]) 4 rfl rfl rfl rfl) ?_
                    refine LJ.store (v := .agg #[_, _, _, _, _]) (us := [_, _, _, _, _]) 2 rfl rfl rfl rfl rfl rfl rfl rfl ?_
                    refine LJ.nil ?_
                    refine CJ.ret ?_
                    exact Fin.R [_, _, _, _] (Res.one (ResV.cell (us := [_, _, _, _, _]) 2 rfl rfl rfl rfl)) ⟨_, _, _, _, _, _, _, (.p _ _), _, ps, ka, kc, rfl, rfl, (by omega), (by have := gF_pos N; omega), hps, hwf, (by have := gF_pos N; simp only [BT.sz, gF]; omega), rfl⟩ (Ent.pickFold [3, 0, 1] [] [2, 4] rfl (fun _ _ => .p (by unfold I64; omega)))
                  · refine DJ.done (by kernel_rfl) ?_
                    refine CJ.condF rfl ?_
                    refine CJ.skip ?_
                    refine CJ.region ?_
                    refine LJ.yd rfl (Yd.mvI rfl) ?_
                    refine LJ.yd rfl (Yd.add rfl rfl (by unfold I64; omega)) ?_
                    refine LJ.yd rfl (Yd.asI rfl) ?_
                    refine LJ.nil ?_
                    refine ⟨(j + 1), ?_, ?_, ?_, Ent.pick [0, 1, 2, 3] [4] rfl, ?_⟩
                    · omega
                    · exact ⟨rfl, rfl, rfl, rfl, rfl, rfl, rfl, rfl, rfl, rfl, rfl, rfl, rfl, trivial⟩
                    · exact ⟨rfl, trivial⟩
                    · omega
                · refine LJ.nil ?_
                  refine CJ.condF rfl ?_
                  refine CJ.exit ?_
                  refine CJ.region ?_
                  refine LJ.yd rfl (Yd.mvI rfl) ?_
                  refine LJ.yd rfl (Yd.add rfl rfl (by unfold I64; omega)) ?_
                  refine LJ.yd rfl (Yd.asI rfl) ?_
                  refine LJ.nil ?_
                  refine ⟨(k + 1), ?_, ?_, ?_, Ent.refl _, ?_⟩
                  · omega
                  · exact ⟨rfl, rfl, rfl, rfl, rfl, trivial⟩
                  · exact ⟨rfl, trivial⟩
                  · omega
            · refine LJ.nil ?_
              refine CJ.condF rfl ?_
              refine CJ.exit ?_
              refine CJ.seq ?_
              refine CJ.seq ?_
              refine CJ.region ?_
              refine LJ.yd rfl (Yd.mvP rfl) ?_
              refine LJ.yd rfl (Yd.nilCheck rfl) ?_
              refine LJ.yd rfl (Yd.fieldAddr rfl) ?_
              refine LJ.yd rfl (Yd.loadC 0 rfl rfl rfl) ?_
              refine LJ.yd rfl (Yd.len rfl) ?_
              refine LJ.splitD rfl (Yd.eql rfl rfl) (fun h134 => ?_) (fun h134 => ?_)
              · refine LJ.nil ?_
                refine CJ.condT rfl ?_
                refine CJ.seq ?_
                refine CJ.region ?_
                refine LJ.yd rfl (Yd.build (cs := [_, _, _, _, _]) rfl) ?_
                refine LJ.store (v := .agg #[_, _, _, _, _]) (us := [_, _, _, _, _]) 2 rfl rfl rfl rfl rfl rfl rfl rfl ?_
                refine LJ.nil ?_
                refine CJ.ret ?_
                exact Fin.R [_, _, _, _] (Res.one (ResV.cell (us := [_, _, _, _, _]) 2 rfl rfl rfl rfl)) ⟨_, _, _, _, _, _, _, .w, _, ps, ka, kc, rfl, rfl, (by omega), (by have := gF_pos N; omega), hps, hwf, (by have := gF_pos N; simp only [BT.sz, gF]; omega), rfl⟩ (Ent.pickFold [3, 0, 1] [] [2] rfl (fun _ _ => .w))
              · refine LJ.nil ?_
                refine CJ.condF rfl ?_
                refine CJ.skip ?_
                refine CJ.seq ?_
                refine CJ.region ?_
                refine LJ.yd rfl (Yd.mvP rfl) ?_
                refine LJ.call (pickF _ [0, 1, 2]) (pickF _ [3]) rfl (perm_pickF _ [0, 1, 2] [3] rfl) (fun k hk dk => pick_ok (hcode.up) (by omega) (by omega)) ?_
                rintro _ _ ⟨x137, rfl, hx137, hy137, rfl⟩
                refine LJ.norm [_, _, _, _] rfl ?_
                refine LJ.splitD rfl (Yd.eql rfl rfl) (fun h138 => ?_) (fun h138 => ?_)
                · refine LJ.yd rfl (Yd.mvB rfl) ?_
                  refine LJ.gT rfl ?_
                  refine LJ.yd rfl (Yd.mvI rfl) ?_
                  refine LJ.gT rfl ?_
                  refine LJ.yd rfl (Yd.mvI rfl) ?_
                  refine LJ.gT rfl ?_
                  refine LJ.splitN rfl (Yd.neq rfl rfl) (fun h142 => ?_) (fun h142 => ?_)
                  · refine LJ.yd rfl (Yd.pickTB rfl rfl) ?_
                    refine LJ.yd rfl (Yd.asB rfl) ?_
                    refine LJ.nil ?_
                    refine CJ.seq ?_
                    refine CJ.region ?_
                    refine LJ.yd rfl (Yd.mvI rfl) ?_
                    refine LJ.yd rfl (Yd.mvI rfl) ?_
                    refine LJ.yd rfl (Yd.mvB rfl) ?_
                    refine LJ.yd rfl (Yd.mvB rfl) ?_
                    refine LJ.gF rfl rfl ?_
                    refine LJ.gF rfl rfl ?_
                    refine LJ.gF rfl rfl ?_
                    refine LJ.yd rfl (Yd.pickTB rfl rfl) ?_
                    refine LJ.yd rfl (Yd.mvP rfl) ?_
                    refine LJ.call (pickF _ [0, 1, 2]) (pickF _ [3]) rfl (perm_pickF _ [0, 1, 2] [3] rfl) (fun k hk dk => pick_ok (hcode.up) (by omega) (by omega)) ?_
                    rintro _ _ ⟨x153, rfl, hx153, hy153, rfl⟩
                    refine LJ.norm [_, _, _, _] rfl ?_
                    refine LJ.yd rfl (Yd.build (cs := [_, _, _, _]) rfl) ?_
                    refine LJ.alloc ([_, _, _, _] : List Value) rfl rfl (fun b9 => ?_)
                    refine LJ.store (v := .agg #[_, _, _, _]) (us := [_, _, _, _]) 4 rfl rfl rfl rfl rfl rfl rfl rfl ?_
                    refine LJ.nil ?_
                    refine CJ.seq ?_
                    refine CJ.seq ?_
                    refine CJ.region ?_
                    refine LJ.yd rfl (Yd.mvB rfl) ?_
                    refine LJ.nil ?_
                    refine CJ.condT rfl ?_
                    refine CJ.seq ?_
                    refine CJ.region ?_
                    refine LJ.yd rfl (Yd.mvI rfl) ?_
                    refine LJ.yd rfl (Yd.fieldAddr rfl) ?_
                    refine LJ.store (v := .int _ _) (us := [_, _, _, _]) 4 rfl rfl rfl rfl rfl rfl rfl rfl ?_
                    refine LJ.nil ?_
                    refine CJ.region ?_
                    refine LJ.yd rfl (Yd.mvI rfl) ?_
                    refine LJ.yd rfl (Yd.fieldAddr rfl) ?_
                    refine LJ.store (v := .int _ _) (us := [_, _, _, _]) 4 rfl rfl rfl rfl rfl rfl rfl rfl ?_
                    refine LJ.nil ?_
                    refine CJ.seq ?_
                    refine CJ.regionD [2, 3, 4] [0, 1] (by kernel_rfl) rfl ?_
                    refine DJ.norm [_, _, _] [_, _] rfl rfl ?_
                    refine DJ.yd 0 rfl (by kernel_rfl) (by kernel_rfl) (by kernel_rfl) rfl rfl (Yd.mvP rfl) ?_
                    refine DJ.yd 1 rfl (by kernel_rfl) (by kernel_rfl) (by kernel_rfl) rfl rfl (Yd.mvP rfl) ?_
                    refine DJ.yd 2 rfl (by kernel_rfl) (by kernel_rfl) (by kernel_rfl) rfl rfl (Yd.nilCheck rfl) ?_
                    refine DJ.yd 3 rfl (by kernel_rfl) (by kernel_rfl) (by kernel_rfl) rfl rfl (Yd.fieldAddr rfl) ?_
                    refine DJ.yd 5 rfl (by kernel_rfl) (by kernel_rfl) (by kernel_rfl) rfl rfl (Yd.loadG (us := [_, _, _, _]) 2 rfl rfl rfl rfl) ?_
                    refine DJ.two (i := 4) (j := 6) (by kernel_rfl) ?_ ?_
                    · refine DO.yd rfl rfl rfl (fun _ _ _ => Yd.loadC 0 rfl rfl rfl) ?_
                      refine DJ.one (i := 6) (by kernel_rfl) ?_
                      refine DO.op rfl rfl rfl (fun k0 hk0 dk0 => OpR.buildSlice (cs := [_, _, _, _]) rfl rfl) ?_
                      rintro _ _ ⟨b10, rfl, rfl⟩
                      refine DJ.one (i := 7) (by kernel_rfl) ?_
                      refine DO.op rfl rfl rfl (fun k0 hk0 dk0 => OpR.appendT [[_, _, _, _]] 1 2 rfl rfl rfl rfl rfl rfl rfl rfl (by omega)) ?_
                      rintro _ _ ⟨ra167, rc167, rfl, rfl⟩
                      refine DJ.yd 8 rfl (by kernel_rfl) (by kernel_rfl) (by kernel_rfl) rfl rfl (Yd.nilCheck rfl) ?_
                      refine DJ.yd 9 rfl (by kernel_rfl) (by kernel_rfl) (by kernel_rfl) rfl rfl (Yd.fieldAddr rfl) ?_
                      refine DJ.one (i := 10) (by kernel_rfl) ?_
                      refine DO.store (v := .slice _ _ _) (us := [_, _, _]) 0 rfl rfl rfl rfl rfl rfl rfl rfl rfl rfl ?_
                      refine DJ.done (by kernel_rfl) ?_
                      refine CJ.seq ?_
                      refine CJ.region ?_
                      refine LJ.yd rfl (Yd.mvP rfl) ?_
                      refine LJ.yd rfl (Yd.nilCheck rfl) ?_
                      refine LJ.yd rfl (Yd.fieldAddr rfl) ?_
                      refine LJ.yd rfl (Yd.loadC 3 rfl rfl rfl) ?_
                      refine LJ.yd rfl (Yd.len rfl) ?_
                      refine LJ.yd rfl (Yd.sub rfl rfl (by rw [hla]; unfold I64; omega)) ?_
                      refine LJ.yd rfl (Yd.mvB rfl) ?_
                      refine LJ.yd rfl (Yd.build (cs := [_, _, _, _, _]) rfl) ?_
                      refine LJ.store (v := .agg #[_, _, _, _, _]) (us := [_, _, _, _, _]) 0 rfl rfl rfl rfl rfl rfl rfl rfl ?_
                      refine LJ.nil ?_
                      refine CJ.ret ?_
                      have hps2 : (ps ++ [(⟨y, x, true, x153⟩ : Pane)]).length ≤ 24 := by simp; omega
                      have hwf2 : ∀ z ∈ ps ++ [(⟨y, x, true, x153⟩ : Pane)], z.wf := by
                        intro z hz
                        rcases List.mem_append.1 hz with hz | hz
                        · exact hwf z hz
                        · cases List.mem_singleton.1 hz
                          exact ⟨by simp only [I64]; omega, by simp only [I64]; omega, by simp only [I64]; omega⟩
                      exact Fin.R [_, _, _, _] (Res.one (ResV.cell (us := [_, _, _, _, _]) 0 rfl rfl rfl rfl)) (GrowR2.of (ps := ps ++ [⟨y, x, true, x153⟩]) (b := BT.p _ _) (by rw [List.map_append]; rfl) (by omega) (by omega) hps2 hwf2 (by have := gF_pos N; simp only [BT.sz, gF]; omega) rfl) (Ent.pickFold [1, 3, 4] [] [0, 2, 5] rfl (fun _ _ => RdT.p (by rw [hla]; unfold I64; omega)))
                    · refine DO.op rfl rfl rfl (fun k0 hk0 dk0 => OpR.buildSlice (cs := [_, _, _, _]) rfl rfl) ?_
                      rintro _ _ ⟨b11, rfl, rfl⟩
                      refine DJ.one (i := 4) (by kernel_rfl) ?_
                      refine DO.yd rfl rfl rfl (fun _ _ _ => Yd.loadC 0 rfl rfl rfl) ?_
                      refine DJ.one (i := 7) (by kernel_rfl) ?_
                      refine DO.op rfl rfl rfl (fun k0 hk0 dk0 => OpR.appendT [[_, _, _, _]] 1 2 rfl rfl rfl rfl rfl rfl rfl rfl (by omega)) ?_
                      rintro _ _ ⟨ra167, rc167, rfl, rfl⟩
                      refine DJ.yd 8 rfl (by kernel_rfl) (by kernel_rfl) (by kernel_rfl) rfl rfl (Yd.nilCheck rfl) ?_
                      refine DJ.yd 9 rfl (by kernel_rfl) (by kernel_rfl) (by kernel_rfl) rfl rfl (Yd.fieldAddr rfl) ?_
                      refine DJ.one (i := 10) (by kernel_rfl) ?_
                      refine DO.store (v := .slice _ _ _) (us := [_, _, _]) 0 rfl rfl rfl rfl rfl rfl rfl rfl rfl rfl ?_
                      refine DJ.done (by kernel_rfl) ?_
                      refine CJ.seq ?_
                      refine CJ.region ?_
                      refine LJ.yd rfl (Yd.mvP rfl) ?_
                      refine LJ.yd rfl (Yd.nilCheck rfl) ?_
                      refine LJ.yd rfl (Yd.fieldAddr rfl) ?_
                      refine LJ.yd rfl (Yd.loadC 3 rfl rfl rfl) ?_
                      refine LJ.yd rfl (Yd.len rfl) ?_
                      refine LJ.yd rfl (Yd.sub rfl rfl (by rw [hla]; unfold I64; omega)) ?_
                      refine LJ.yd rfl (Yd.mvB rfl) ?_
                      refine LJ.yd rfl (Yd.build (cs := [_, _, _, _, _]) rfl) ?_
                      refine LJ.store (v := .agg #[_, _, _, _, _]) (us := [_, _, _, _, _]) 0 rfl rfl rfl rfl rfl rfl rfl rfl ?_
                      refine LJ.nil ?_
                      refine CJ.ret ?_
                      have hps2 : (ps ++ [(⟨y, x, true, x153⟩ : Pane)]).length ≤ 24 := by simp; omega
                      have hwf2 : ∀ z ∈ ps ++ [(⟨y, x, true, x153⟩ : Pane)], z.wf := by
                        intro z hz
                        rcases List.mem_append.1 hz with hz | hz
                        · exact hwf z hz
                        · cases List.mem_singleton.1 hz
                          exact ⟨by simp only [I64]; omega, by simp only [I64]; omega, by simp only [I64]; omega⟩
                      exact Fin.R [_, _, _, _] (Res.one (ResV.cell (us := [_, _, _, _, _]) 0 rfl rfl rfl rfl)) (GrowR2.of (ps := ps ++ [⟨y, x, true, x153⟩]) (b := BT.p _ _) (by rw [List.map_append]; rfl) (by omega) (by omega) hps2 hwf2 (by have := gF_pos N; simp only [BT.sz, gF]; omega) rfl) (Ent.pickFold [1, 3, 4] [] [0, 2, 5] rfl (fun _ _ => RdT.p (by rw [hla]; unfold I64; omega)))
                  · refine LJ.yd rfl (Yd.pickTB rfl rfl) ?_
                    refine LJ.yd rfl (Yd.asB rfl) ?_
                    refine LJ.nil ?_
                    refine CJ.seq ?_
                    refine CJ.region ?_
                    refine LJ.yd rfl (Yd.mvI rfl) ?_
                    refine LJ.yd rfl (Yd.mvI rfl) ?_
                    refine LJ.yd rfl (Yd.mvB rfl) ?_
                    refine LJ.yd rfl (Yd.mvB rfl) ?_
                    refine LJ.gT rfl ?_
                    refine LJ.yd rfl (Yd.mvP rfl) ?_
                    refine LJ.gT rfl ?_
                    refine LJ.call (pickF _ [0, 1, 2]) (pickF _ [3]) rfl (perm_pickF _ [0, 1, 2] [3] rfl) (fun k hk dk => pick_ok (hcode.up) (by omega) (by omega)) ?_
                    rintro _ _ ⟨x149, rfl, hx149, hy149, rfl⟩
                    refine LJ.norm [_, _, _, _] rfl ?_
                    refine LJ.gT rfl ?_
                    refine LJ.yd rfl (Yd.eql rfl rfl) ?_
                    refine LJ.yd rfl (Yd.pickFB rfl rfl) ?_
                    refine LJ.yd rfl (Yd.mvP rfl) ?_
                    refine LJ.call (pickF _ [0, 1, 2]) (pickF _ [3]) rfl (perm_pickF _ [0, 1, 2] [3] rfl) (fun k hk dk => pick_ok (hcode.up) (by omega) (by omega)) ?_
                    rintro _ _ ⟨x153, rfl, hx153, hy153, rfl⟩
                    refine LJ.norm [_, _, _, _] rfl ?_
                    refine LJ.yd rfl (Yd.build (cs := [_, _, _, _]) rfl) ?_
                    refine LJ.alloc ([_, _, _, _] : List Value) rfl rfl (fun b12 => ?_)
                    refine LJ.store (v := .agg #[_, _, _, _]) (us := [_, _, _, _]) 4 rfl rfl rfl rfl rfl rfl rfl rfl ?_
                    refine LJ.nil ?_
                    refine CJ.seq ?_
                    refine CJ.seq ?_
                    refine CJ.region ?_
                    refine LJ.yd rfl (Yd.mvB rfl) ?_
                    refine LJ.nil ?_
                    refine CJ.condF rfl ?_
                    refine CJ.skip ?_
                    refine CJ.seq ?_
                    refine CJ.regionD [2, 3, 4] [0, 1] (by kernel_rfl) rfl ?_
                    refine DJ.norm [_, _, _] [_, _] rfl rfl ?_
                    refine DJ.yd 0 rfl (by kernel_rfl) (by kernel_rfl) (by kernel_rfl) rfl rfl (Yd.mvP rfl) ?_
                    refine DJ.yd 1 rfl (by kernel_rfl) (by kernel_rfl) (by kernel_rfl) rfl rfl (Yd.mvP rfl) ?_
                    refine DJ.yd 2 rfl (by kernel_rfl) (by kernel_rfl) (by kernel_rfl) rfl rfl (Yd.nilCheck rfl) ?_
                    refine DJ.yd 3 rfl (by kernel_rfl) (by kernel_rfl) (by kernel_rfl) rfl rfl (Yd.fieldAddr rfl) ?_
                    refine DJ.yd 5 rfl (by kernel_rfl) (by kernel_rfl) (by kernel_rfl) rfl rfl (Yd.loadG (us := [_, _, _, _]) 2 rfl rfl rfl rfl) ?_
                    refine DJ.two (i := 4) (j := 6) (by kernel_rfl) ?_ ?_
                    · refine DO.yd rfl rfl rfl (fun _ _ _ => Yd.loadC 0 rfl rfl rfl) ?_
                      refine DJ.one (i := 6) (by kernel_rfl) ?_
                      refine DO.op rfl rfl rfl (fun k0 hk0 dk0 => OpR.buildSlice (cs := [_, _, _, _]) rfl rfl) ?_
                      rintro _ _ ⟨b13, rfl, rfl⟩
                      refine DJ.one (i := 7) (by kernel_rfl) ?_
                      refine DO.op rfl rfl rfl (fun k0 hk0 dk0 => OpR.appendT [[_, _, _, _]] 1 2 rfl rfl rfl rfl rfl rfl rfl rfl (by omega)) ?_
                      rintro _ _ ⟨ra167, rc167, rfl, rfl⟩
                      refine DJ.yd 8 rfl (by kernel_rfl) (by kernel_rfl) (by kernel_rfl) rfl rfl (Yd.nilCheck rfl) ?_
                      refine DJ.yd 9 rfl (by kernel_rfl) (by kernel_rfl) (by kernel_rfl) rfl rfl (Yd.fieldAddr rfl) ?_
                      refine DJ.one (i := 10) (by kernel_rfl) ?_
                      refine DO.store (v := .slice _ _ _) (us := [_, _, _]) 0 rfl rfl rfl rfl rfl rfl rfl rfl rfl rfl ?_
                      refine DJ.done (by kernel_rfl) ?_
                      refine CJ.seq ?_
                      refine CJ.region ?_
                      refine LJ.yd rfl (Yd.mvP rfl) ?_
                      refine LJ.yd rfl (Yd.nilCheck rfl) ?_
                      refine LJ.yd rfl (Yd.fieldAddr rfl) ?_
                      refine LJ.yd rfl (Yd.loadC 3 rfl rfl rfl) ?_
                      refine LJ.yd rfl (Yd.len rfl) ?_
                      refine LJ.yd rfl (Yd.sub rfl rfl (by rw [hla]; unfold I64; omega)) ?_
                      refine LJ.yd rfl (Yd.mvB rfl) ?_
                      refine LJ.yd rfl (Yd.build (cs := [_, _, _, _, _]) rfl) ?_
                      refine LJ.store (v := .agg #[_, _, _, _, _]) (us := [_, _, _, _, _]) 0 rfl rfl rfl rfl rfl rfl rfl rfl ?_
                      refine LJ.nil ?_
                      refine CJ.ret ?_
                      have hps2 : (ps ++ [(⟨x, y, decide (x149 = 0), x153⟩ : Pane)]).length ≤ 24 := by simp; omega
                      have hwf2 : ∀ z ∈ ps ++ [(⟨x, y, decide (x149 = 0), x153⟩ : Pane)], z.wf := by
                        intro z hz
                        rcases List.mem_append.1 hz with hz | hz
                        · exact hwf z hz
                        · cases List.mem_singleton.1 hz
                          exact ⟨by simp only [I64]; omega, by simp only [I64]; omega, by simp only [I64]; omega⟩
                      exact Fin.R [_, _, _, _] (Res.one (ResV.cell (us := [_, _, _, _, _]) 0 rfl rfl rfl rfl)) (GrowR2.of (ps := ps ++ [⟨x, y, decide (x149 = 0), x153⟩]) (b := BT.p _ _) (by rw [List.map_append]; rfl) (by omega) (by omega) hps2 hwf2 (by have := gF_pos N; simp only [BT.sz, gF]; omega) rfl) (Ent.pickFold [1, 3, 4] [] [0, 2, 5] rfl (fun _ _ => RdT.p (by rw [hla]; unfold I64; omega)))
                    · refine DO.op rfl rfl rfl (fun k0 hk0 dk0 => OpR.buildSlice (cs := [_, _, _, _]) rfl rfl) ?_
                      rintro _ _ ⟨b14, rfl, rfl⟩
                      refine DJ.one (i := 4) (by kernel_rfl) ?_
                      refine DO.yd rfl rfl rfl (fun _ _ _ => Yd.loadC 0 rfl rfl rfl) ?_
                      refine DJ.one (i := 7) (by kernel_rfl) ?_
                      refine DO.op rfl rfl rfl (fun k0 hk0 dk0 => OpR.appendT [[_, _, _, _]] 1 2 rfl rfl rfl rfl rfl rfl rfl rfl (by omega)) ?_
                      rintro _ _ ⟨ra167, rc167, rfl, rfl⟩
                      refine DJ.yd 8 rfl (by kernel_rfl) (by kernel_rfl) (by kernel_rfl) rfl rfl (Yd.nilCheck rfl) ?_
                      refine DJ.yd 9 rfl (by kernel_rfl) (by kernel_rfl) (by kernel_rfl) rfl rfl (Yd.fieldAddr rfl) ?_
                      refine DJ.one (i := 10) (by kernel_rfl) ?_
                      refine DO.store (v := .slice _ _ _) (us := [_, _, _]) 0 rfl rfl rfl rfl rfl rfl rfl rfl rfl rfl ?_
                      refine DJ.done (by kernel_rfl) ?_
                      refine CJ.seq ?_
                      refine CJ.region ?_
                      refine LJ.yd rfl (Yd.mvP rfl) ?_
                      refine LJ.yd rfl (Yd.nilCheck rfl) ?_
                      refine LJ.yd rfl (Yd.fieldAddr rfl) ?_
                      refine LJ.yd rfl (Yd.loadC 3 rfl rfl rfl) ?_
                      refine LJ.yd rfl (Yd.len rfl) ?_
                      refine LJ.yd rfl (Yd.sub rfl rfl (by rw [hla]; unfold I64; omega)) ?_
                      refine LJ.yd rfl (Yd.mvB rfl) ?_
                      refine LJ.yd rfl (Yd.build (cs := [_, _, _, _, _]) rfl) ?_
                      refine LJ.store (v := .agg #[_, _, _, _, _]) (us := [_, _, _, _, _]) 0 rfl rfl rfl rfl rfl rfl rfl rfl ?_
                      refine LJ.nil ?_
                      refine CJ.ret ?_
                      have hps2 : (ps ++ [(⟨x, y, decide (x149 = 0), x153⟩ : Pane)]).length ≤ 24 := by simp; omega
                      have hwf2 : ∀ z ∈ ps ++ [(⟨x, y, decide (x149 = 0), x153⟩ : Pane)], z.wf := by
                        intro z hz
                        rcases List.mem_append.1 hz with hz | hz
                        · exact hwf z hz
                        · cases List.mem_singleton.1 hz
                          exact ⟨by simp only [I64]; omega, by simp only [I64]; omega, by simp only [I64]; omega⟩
                      exact Fin.R [_, _, _, _] (Res.one (ResV.cell (us := [_, _, _, _, _]) 0 rfl rfl rfl rfl)) (GrowR2.of (ps := ps ++ [⟨x, y, decide (x149 = 0), x153⟩]) (b := BT.p _ _) (by rw [List.map_append]; rfl) (by omega) (by omega) hps2 hwf2 (by have := gF_pos N; simp only [BT.sz, gF]; omega) rfl) (Ent.pickFold [1, 3, 4] [] [0, 2, 5] rfl (fun _ _ => RdT.p (by rw [hla]; unfold I64; omega)))
                · refine LJ.yd rfl (Yd.mvB rfl) ?_
                  refine LJ.gF rfl rfl ?_
                  refine LJ.gF rfl rfl ?_
                  refine LJ.gF rfl rfl ?_
                  refine LJ.yd rfl (Yd.pickFB rfl rfl) ?_
                  refine LJ.yd rfl (Yd.asB rfl) ?_
                  refine LJ.nil ?_
                  refine CJ.seq ?_
                  refine CJ.region ?_
                  refine LJ.yd rfl (Yd.mvI rfl) ?_
                  refine LJ.yd rfl (Yd.mvI rfl) ?_
                  refine LJ.yd rfl (Yd.mvB rfl) ?_
                  refine LJ.yd rfl (Yd.mvB rfl) ?_
                  refine LJ.gT rfl ?_
                  refine LJ.yd rfl (Yd.mvP rfl) ?_
                  refine LJ.gT rfl ?_
                  refine LJ.call (pickF _ [0, 1, 2]) (pickF _ [3]) rfl (perm_pickF _ [0, 1, 2] [3] rfl) (fun k hk dk => pick_ok (hcode.up) (by omega) (by omega)) ?_
                  rintro _ _ ⟨x149, rfl, hx149, hy149, rfl⟩
                  refine LJ.norm [_, _, _, _] rfl ?_
                  refine LJ.gT rfl ?_
                  refine LJ.yd rfl (Yd.eql rfl rfl) ?_
                  refine LJ.yd rfl (Yd.pickFB rfl rfl) ?_
                  refine LJ.yd rfl (Yd.mvP rfl) ?_
                  refine LJ.call (pickF _ [0, 1, 2]) (pickF _ [3]) rfl (perm_pickF _ [0, 1, 2] [3] rfl) (fun k hk dk => pick_ok (hcode.up) (by omega) (by omega)) ?_
                  rintro _ _ ⟨x153, rfl, hx153, hy153, rfl⟩
                  refine LJ.norm [_, _, _, _] rfl ?_
                  refine LJ.yd rfl (Yd.build (cs := [_, _, _, _]) rfl) ?_
                  refine LJ.alloc ([_, _, _, _] : List Value) rfl rfl (fun b15 => ?_)
                  refine LJ.store (v := .agg #[_, _, _, _]) (us := [_, _, _, _]) 4 rfl rfl rfl rfl rfl rfl rfl rfl ?_
                  refine LJ.nil ?_
                  refine CJ.seq ?_
                  refine CJ.seq ?_
                  refine CJ.region ?_
                  refine LJ.yd rfl (Yd.mvB rfl) ?_
                  refine LJ.nil ?_
                  refine CJ.condF rfl ?_
                  refine CJ.skip ?_
                  refine CJ.seq ?_
                  refine CJ.regionD [2, 3, 4] [0, 1] (by kernel_rfl) rfl ?_
                  refine DJ.norm [_, _, _] [_, _] rfl rfl ?_
                  refine DJ.yd 0 rfl (by kernel_rfl) (by kernel_rfl) (by kernel_rfl) rfl rfl (Yd.mvP rfl) ?_
                  refine DJ.yd 1 rfl (by kernel_rfl) (by kernel_rfl) (by kernel_rfl) rfl rfl (Yd.mvP rfl) ?_
                  refine DJ.yd 2 rfl (by kernel_rfl) (by kernel_rfl) (by kernel_rfl) rfl rfl (Yd.nilCheck rfl) ?_
                  refine DJ.yd 3 rfl (by kernel_rfl) (by kernel_rfl) (by kernel_rfl) rfl rfl (Yd.fieldAddr rfl) ?_
                  refine DJ.yd 5 rfl (by kernel_rfl) (by kernel_rfl) (by kernel_rfl) rfl rfl (Yd.loadG (us := [_, _, _, _]) 2 rfl rfl rfl rfl) ?_
                  refine DJ.two (i := 4) (j := 6) (by kernel_rfl) ?_ ?_
                  · refine DO.yd rfl rfl rfl (fun _ _ _ => Yd.loadC 0 rfl rfl rfl) ?_
                    refine DJ.one (i := 6) (by kernel_rfl) ?_
                    refine DO.op rfl rfl rfl (fun k0 hk0 dk0 => OpR.buildSlice (cs := [_, _, _, _]) rfl rfl) ?_
                    rintro _ _ ⟨b16, rfl, rfl⟩
                    refine DJ.one (i := 7) (by kernel_rfl) ?_
                    refine DO.op rfl rfl rfl (fun k0 hk0 dk0 => OpR.appendT [[_, _, _, _]] 1 2 rfl rfl rfl rfl rfl rfl rfl rfl (by omega)) ?_
                    rintro _ _ ⟨ra167, rc167, rfl, rfl⟩
                    refine DJ.yd 8 rfl (by kernel_rfl) (by kernel_rfl) (by kernel_rfl) rfl rfl (Yd.nilCheck rfl) ?_
                    refine DJ.yd 9 rfl (by kernel_rfl) (by kernel_rfl) (by kernel_rfl) rfl rfl (Yd.fieldAddr rfl) ?_
                    refine DJ.one (i := 10) (by kernel_rfl) ?_
                    refine DO.store (v := .slice _ _ _) (us := [_, _, _]) 0 rfl rfl rfl rfl rfl rfl rfl rfl rfl rfl ?_
                    refine DJ.done (by kernel_rfl) ?_
                    refine CJ.seq ?_
                    refine CJ.region ?_
                    refine LJ.yd rfl (Yd.mvP rfl) ?_
                    refine LJ.yd rfl (Yd.nilCheck rfl) ?_
                    refine LJ.yd rfl (Yd.fieldAddr rfl) ?_
                    refine LJ.yd rfl (Yd.loadC 3 rfl rfl rfl) ?_
                    refine LJ.yd rfl (Yd.len rfl) ?_
                    refine LJ.yd rfl (Yd.sub rfl rfl (by rw [hla]; unfold I64; omega)) ?_
                    refine LJ.yd rfl (Yd.mvB rfl) ?_
                    refine LJ.yd rfl (Yd.build (cs := [_, _, _, _, _]) rfl) ?_
                    refine LJ.store (v := .agg #[_, _, _, _, _]) (us := [_, _, _, _, _]) 0 rfl rfl rfl rfl rfl rfl rfl rfl ?_
                    refine LJ.nil ?_
                    refine CJ.ret ?_
                    have hps2 : (ps ++ [(⟨x, y, decide (x149 = 0), x153⟩ : Pane)]).length ≤ 24 := by simp; omega
                    have hwf2 : ∀ z ∈ ps ++ [(⟨x, y, decide (x149 = 0), x153⟩ : Pane)], z.wf := by
                      intro z hz
                      rcases List.mem_append.1 hz with hz | hz
                      · exact hwf z hz
                      · cases List.mem_singleton.1 hz
                        exact ⟨by simp only [I64]; omega, by simp only [I64]; omega, by simp only [I64]; omega⟩
                    exact Fin.R [_, _, _, _] (Res.one (ResV.cell (us := [_, _, _, _, _]) 0 rfl rfl rfl rfl)) (GrowR2.of (ps := ps ++ [⟨x, y, decide (x149 = 0), x153⟩]) (b := BT.p _ _) (by rw [List.map_append]; rfl) (by omega) (by omega) hps2 hwf2 (by have := gF_pos N; simp only [BT.sz, gF]; omega) rfl) (Ent.pickFold [1, 3, 4] [] [0, 2, 5] rfl (fun _ _ => RdT.p (by rw [hla]; unfold I64; omega)))
                  · refine DO.op rfl rfl rfl (fun k0 hk0 dk0 => OpR.buildSlice (cs := [_, _, _, _]) rfl rfl) ?_
                    rintro _ _ ⟨b17, rfl, rfl⟩
                    refine DJ.one (i := 4) (by kernel_rfl) ?_
                    refine DO.yd rfl rfl rfl (fun _ _ _ => Yd.loadC 0 rfl rfl rfl) ?_
                    refine DJ.one (i := 7) (by kernel_rfl) ?_
                    refine DO.op rfl rfl rfl (fun k0 hk0 dk0 => OpR.appendT [[_, _, _, _]] 1 2 rfl rfl rfl rfl rfl rfl rfl rfl (by omega)) ?_
                    rintro _ _ ⟨ra167, rc167, rfl, rfl⟩
                    refine DJ.yd 8 rfl (by kernel_rfl) (by kernel_rfl) (by kernel_rfl) rfl rfl (Yd.nilCheck rfl) ?_
                    refine DJ.yd 9 rfl (by kernel_rfl) (by kernel_rfl) (by kernel_rfl) rfl rfl (Yd.fieldAddr rfl) ?_
                    refine DJ.one (i := 10) (by kernel_rfl) ?_
                    refine DO.store (v := .slice _ _ _) (us := [_, _, _]) 0 rfl rfl rfl rfl rfl rfl rfl rfl rfl rfl ?_
                    refine DJ.done (by kernel_rfl) ?_
                    refine CJ.seq ?_
                    refine CJ.region ?_
                    refine LJ.yd rfl (Yd.mvP rfl) ?_
                    refine LJ.yd rfl (Yd.nilCheck rfl) ?_
                    refine LJ.yd rfl (Yd.fieldAddr rfl) ?_
                    refine LJ.yd rfl (Yd.loadC 3 rfl rfl rfl) ?_
                    refine LJ.yd rfl (Yd.len rfl) ?_
                    refine LJ.yd rfl (Yd.sub rfl rfl (by rw [hla]; unfold I64; omega)) ?_
                    refine LJ.yd rfl (Yd.mvB rfl) ?_
                    refine LJ.yd rfl (Yd.build (cs := [_, _, _, _, _]) rfl) ?_
                    refine LJ.store (v := .agg #[_, _, _, _, _]) (us := [_, _, _, _, _]) 0 rfl rfl rfl rfl rfl rfl rfl rfl ?_
                    refine LJ.nil ?_
                    refine CJ.ret ?_
                    have hps2 : (ps ++ [(⟨x, y, decide (x149 = 0), x153⟩ : Pane)]).length ≤ 24 := by simp; omega
                    have hwf2 : ∀ z ∈ ps ++ [(⟨x, y, decide (x149 = 0), x153⟩ : Pane)], z.wf := by
                      intro z hz
                      rcases List.mem_append.1 hz with hz | hz
                      · exact hwf z hz
                      · cases List.mem_singleton.1 hz
                        exact ⟨by simp only [I64]; omega, by simp only [I64]; omega, by simp only [I64]; omega⟩
                    exact Fin.R [_, _, _, _] (Res.one (ResV.cell (us := [_, _, _, _, _]) 0 rfl rfl rfl rfl)) (GrowR2.of (ps := ps ++ [⟨x, y, decide (x149 = 0), x153⟩]) (b := BT.p _ _) (by rw [List.map_append]; rfl) (by omega) (by omega) hps2 hwf2 (by have := gF_pos N; simp only [BT.sz, gF]; omega) rfl) (Ent.pickFold [1, 3, 4] [] [0, 2, 5] rfl (fun _ _ => RdT.p (by rw [hla]; unfold I64; omega)))
def WorkPlanR2 (rb : Nat) (a : Option Addr) (n c : Nat) (p : Int) (v : Value) (fs : List HProp) : Prop :=
  ∃ (W H : Int) (ka : Option Addr) (km kc : Nat) (o e i : Int) (t : Bool) (x : Option Addr) (m l : Nat) (b : BT) (q : Int) (ps : List Pane), v = .tuple #[.agg #[vI W, vI H, .slice ka km kc], .agg #[vI o, vI e, vI i, .bool t, .slice x m l]] ∧
    fs = [Rd rb a n c q, fun h => RdPanes h (.slice ka km kc) ps, fun h => RdT h [vI o, vI e, vI i, .bool t, .slice x m l] b] ∧ p ≤ q ∧ q ≤ p + 200 ∧ 1 ≤ W ∧ W ≤ 30 ∧ 1 ≤ H ∧ H ≤ 30 ∧ ps.length ≤ 24 ∧ (∀ z ∈ ps, z.wf) ∧ b.sz ≤ 125 ∧ b.geo W H = true
theorem workPlanG_ok {A : Amb} {rb n c : Nat} {a : Option Addr} {p : Int} (hcode : RdCode A.h a n) (hp0 : 0 ≤ p) (hp1 : p ≤ 100000) :
    Ctr Try.prog 82 #[.pointer (some ⟨rb, 0, none⟩)] A [Rd rb a n c p] (WorkPlanR2 rb a n c p) := by
  have hg5 : gF 5 = 124 := by simp [gF]
  refine Ctr.body (args := [_]) Try.func82 rfl Try.ntmps82 Try.results82 (by simp) ?_
  refine CJ.seq ?_
  refine CJ.region ?_
  refine LJ.alloc ([_, _, _] : List Value) rfl rfl (fun b1 => ?_)
  refine LJ.alloc ([_, _, _, _, _] : List Value) rfl rfl (fun b2 => ?_)
  refine LJ.nil ?_
  refine CJ.seq ?_
  refine CJ.region ?_
  refine LJ.yd rfl (Yd.mvP rfl) ?_
  refine LJ.op rfl (OpR.buildSlice (cs := [_, _, _, _, _, _]) rfl rfl) ?_
  rintro _ _ ⟨b3, rfl, rfl⟩
  refine LJ.call (pickF _ [1, 2, 3]) (pickF _ [0]) rfl (perm_pickF _ [1, 2, 3] [0] rfl) (fun k hk dk => one_ok (l := [12, 20, 8, 30, 1, 5]) (hcode.up) (LitAt.of (l := [12, 20, 8, 30, 1, 5]) hk dk 2 rfl) (by simp) (by omega) (by omega)) ?_
  rintro _ _ ⟨x8, rfl, hx8, rfl⟩
  simp only [List.mem_cons, List.not_mem_nil, or_false] at hx8
  refine LJ.norm [_, _, _, _] rfl ?_
  refine LJ.yd rfl (Yd.mvP rfl) ?_
  refine LJ.op rfl (OpR.buildSlice (cs := [_, _, _, _, _, _]) rfl rfl) ?_
  rintro _ _ ⟨b4, rfl, rfl⟩
  refine LJ.call (pickF _ [0, 1, 2, 4]) (pickF _ [3]) rfl (perm_pickF _ [0, 1, 2, 4] [3] rfl) (fun k hk dk => one_ok (l := [10, 16, 6, 20, 1, 9]) (hcode.up) (LitAt.of (l := [10, 16, 6, 20, 1, 9]) hk dk 3 rfl) (by simp) (by omega) (by omega)) ?_
  rintro _ _ ⟨x11, rfl, hx11, rfl⟩
  simp only [List.mem_cons, List.not_mem_nil, or_false] at hx11
  refine LJ.norm [_, _, _, _, _] rfl ?_
  refine LJ.yd rfl (Yd.build (cs := [_, _, _]) rfl) ?_
  refine LJ.alloc ([_, _, _] : List Value) rfl rfl (fun b5 => ?_)
  refine LJ.store (v := .agg #[_, _, _]) (us := [_, _, _]) 5 rfl rfl rfl rfl rfl rfl rfl rfl ?_
  refine LJ.nil ?_
  refine CJ.seqH [2, 3, 4] (Nat × Int × Int × Int × Bool × Option Addr × Nat × Nat × BT × Int × List Pane × Option Addr × Nat) (fun ⟨bb, o, e, i, t, x, m, l, b, q, ps, ka, kc⟩ => p ≤ q ∧ q ≤ p + 200 ∧ ps.length ≤ 24 ∧ (∀ z ∈ ps, z.wf) ∧ b.sz ≤ 125 ∧ b.geo x8 x11 = true) (fun ⟨bb, o, e, i, t, x, m, l, b, q, ps, ka, kc⟩ => [(5, .pointer (some ⟨bb, 0, none⟩))]) (fun ⟨bb, o, e, i, t, x, m, l, b, q, ps, ka, kc⟩ => [Cel b1 25 [vI 0, vI 0, .slice none 0 0], Cel b2 28 [vI 0, vI 0, vI 0, .bool false, .slice none 0 0], Rd rb a n c q, Cel b5 25 [vI x8, vI x11, .slice ka (ps.map Pane.enc).length kc], Row 120 4 ka kc (ps.map Pane.enc), Cel bb 28 [vI o, vI e, vI i, .bool t, .slice x m l], fun h => RdT h [vI o, vI e, vI i, .bool t, .slice x m l] b]) ?_ ?_
  · refine CJ.addRow 120 4 ?_
    refine CJ.regionD [0, 1, 2, 3] [4, 5, 6] (by kernel_rfl) rfl ?_
    refine DJ.norm [_, _, _, _] [_, _, _] rfl rfl ?_
    refine DJ.yd 0 rfl (by kernel_rfl) (by kernel_rfl) (by kernel_rfl) rfl rfl (Yd.mvP rfl) ?_
    refine DJ.yd 1 rfl (by kernel_rfl) (by kernel_rfl) (by kernel_rfl) rfl rfl (Yd.fieldAddr rfl) ?_
    refine DJ.yd 3 rfl (by kernel_rfl) (by kernel_rfl) (by kernel_rfl) rfl rfl (Yd.fieldAddr rfl) ?_
    refine DJ.yd 5 rfl (by kernel_rfl) (by kernel_rfl) (by kernel_rfl) rfl rfl (Yd.mvP rfl) ?_
    refine DJ.four (i := 2) (j := 4) (m := 6) (o := 9) (by kernel_rfl) ?_ ?_ ?_ ?_
    · refine DO.yd rfl rfl rfl (fun _ _ _ => Yd.loadC 1 rfl rfl rfl) ?_
      refine DJ.three (i := 4) (j := 6) (m := 9) (by kernel_rfl) ?_ ?_ ?_
      · refine DO.yd rfl rfl rfl (fun _ _ _ => Yd.loadC 1 rfl rfl rfl) ?_
        refine DJ.two (i := 6) (j := 9) (by kernel_rfl) ?_ ?_
        · refine DO.op rfl rfl rfl (fun k0 hk0 dk0 => OpR.buildSlice (cs := [_, _, _, _, _]) rfl rfl) ?_
          rintro _ _ ⟨b6, rfl, rfl⟩
          refine DJ.two (i := 7) (j := 9) (by kernel_rfl) ?_ ?_
          · refine DO.call (pickF _ [1, 2, 3]) (pickF _ [0]) rfl rfl rfl (perm_pickF _ [1, 2, 3] [0] rfl) (fun k0 hk0 dk0 k hk dk => one_ok (l := [3, 2, 4, 1, 0]) (hcode.up) (LitAt.of (l := [3, 2, 4, 1, 0]) hk dk 2 rfl) (by simp) (by omega) (by omega)) ?_
            rintro _ _ ⟨x20, rfl, hx20, rfl⟩
            simp only [List.mem_cons, List.not_mem_nil, or_false] at hx20
            refine DJ.norm [_, _, _, _] [_, _, _, _] rfl rfl ?_
            refine DJ.two (i := 8) (j := 9) (by kernel_rfl) ?_ ?_
            · refine DO.call (pickF _ [2]) (pickF _ [3, 0, 1]) rfl rfl rfl (perm_pickF _ [2] [3, 0, 1] rfl) (fun k0 hk0 dk0 k hk dk => growG_ok 5 _ _ _ _ _ _ _ _ _ [] _ _ _ _ _ hcode.up (by omega) (by omega) (by simp) (by simp) (by omega) (by omega) (by omega) (by omega) (by omega) (by omega) (by omega)) ?_
              rintro _ _ ⟨oK0, aK0, pK0, tK0, xK0, mK0, cK0, bK0, qK0, psK0, kaK0, kcK0, rfl, rfl, hqK0, hrK0, hlK0, hwK0, hzK0, hgK0⟩
              refine DJ.norm [_, _, _, _] [_, _, _, _, _] rfl rfl ?_
              refine DJ.one (i := 9) (by kernel_rfl) ?_
              refine DO.alloc ([_, _, _, _, _] : List Value) rfl rfl rfl rfl (fun b7 => ?_)
              refine DJ.one (i := 10) (by kernel_rfl) ?_
              refine DO.store (v := .agg #[_, _, _, _, _]) (us := [_, _, _, _, _]) 5 rfl rfl rfl rfl rfl rfl rfl rfl rfl rfl ?_
              refine DJ.done (by kernel_rfl) ?_
              refine ⟨(b7, oK0, aK0, pK0, tK0, xK0, mK0, cK0, bK0, qK0, psK0, kaK0, kcK0), ?_, ?_, ?_, Ent.pick [0, 1, 5, 6, 7, 9, 8] [2, 3, 4] rfl⟩
              · exact ⟨by omega, by omega, hlK0, hwK0, by omega, hgK0⟩
              · exact ⟨rfl, rfl, rfl, trivial⟩
              · exact ⟨rfl, trivial⟩
            · refine DO.alloc ([_, _, _, _, _] : List Value) rfl rfl rfl rfl (fun b8 => ?_)
              refine DJ.one (i := 8) (by kernel_rfl) ?_
              refine DO.call (pickF _ [2, 4]) (pickF _ [3, 0, 1]) rfl rfl rfl (perm_pickF _ [2, 4] [3, 0, 1] rfl) (fun k0 hk0 dk0 k hk dk => growG_ok 5 _ _ _ _ _ _ _ _ _ [] _ _ _ _ _ hcode.up (by omega) (by omega) (by simp) (by simp) (by omega) (by omega) (by omega) (by omega) (by omega) (by omega) (by omega)) ?_
              rintro _ _ ⟨oK0, aK0, pK0, tK0, xK0, mK0, cK0, bK0, qK0, psK0, kaK0, kcK0, rfl, rfl, hqK0, hrK0, hlK0, hwK0, hzK0, hgK0⟩
              refine DJ.norm [_, _, _, _] [_, _, _, _, _, _] rfl rfl ?_
              refine DJ.one (i := 10) (by kernel_rfl) ?_
              refine DO.store (v := .agg #[_, _, _, _, _]) (us := [_, _, _, _, _]) 1 rfl rfl rfl rfl rfl rfl rfl rfl rfl rfl ?_
              refine DJ.done (by kernel_rfl) ?_
              refine ⟨(b8, oK0, aK0, pK0, tK0, xK0, mK0, cK0, bK0, qK0, psK0, kaK0, kcK0), ?_, ?_, ?_, Ent.pick [0, 1, 6, 7, 8, 5, 9] [2, 3, 4] rfl⟩
              · exact ⟨by omega, by omega, hlK0, hwK0, by omega, hgK0⟩
              · exact ⟨rfl, rfl, rfl, trivial⟩
              · exact ⟨rfl, trivial⟩
          · refine DO.alloc ([_, _, _, _, _] : List Value) rfl rfl rfl rfl (fun b9 => ?_)
            refine DJ.one (i := 7) (by kernel_rfl) ?_
            refine DO.call (pickF _ [1, 2, 3, 4]) (pickF _ [0]) rfl rfl rfl (perm_pickF _ [1, 2, 3, 4] [0] rfl) (fun k0 hk0 dk0 k hk dk => one_ok (l := [3, 2, 4, 1, 0]) (hcode.up) (LitAt.of (l := [3, 2, 4, 1, 0]) hk dk 2 rfl) (by simp) (by omega) (by omega)) ?_
            rintro _ _ ⟨x20, rfl, hx20, rfl⟩
            simp only [List.mem_cons, List.not_mem_nil, or_false] at hx20
            refine DJ.norm [_, _, _, _] [_, _, _, _, _] rfl rfl ?_
            refine DJ.one (i := 8) (by kernel_rfl) ?_
            refine DO.call (pickF _ [2, 3]) (pickF _ [4, 0, 1]) rfl rfl rfl (perm_pickF _ [2, 3] [4, 0, 1] rfl) (fun k0 hk0 dk0 k hk dk => growG_ok 5 _ _ _ _ _ _ _ _ _ [] _ _ _ _ _ hcode.up (by omega) (by omega) (by simp) (by simp) (by omega) (by omega) (by omega) (by omega) (by omega) (by omega) (by omega)) ?_
            rintro _ _ ⟨oK0, aK0, pK0, tK0, xK0, mK0, cK0, bK0, qK0, psK0, kaK0, kcK0, rfl, rfl, hqK0, hrK0, hlK0, hwK0, hzK0, hgK0⟩
            refine DJ.norm [_, _, _, _] [_, _, _, _, _, _] rfl rfl ?_
            refine DJ.one (i := 10) (by kernel_rfl) ?_
            refine DO.store (v := .agg #[_, _, _, _, _]) (us := [_, _, _, _, _]) 1 rfl rfl rfl rfl rfl rfl rfl rfl rfl rfl ?_
            refine DJ.done (by kernel_rfl) ?_
            refine ⟨(b9, oK0, aK0, pK0, tK0, xK0, mK0, cK0, bK0, qK0, psK0, kaK0, kcK0), ?_, ?_, ?_, Ent.pick [0, 1, 6, 7, 8, 5, 9] [2, 3, 4] rfl⟩
            · exact ⟨by omega, by omega, hlK0, hwK0, by omega, hgK0⟩
            · exact ⟨rfl, rfl, rfl, trivial⟩
            · exact ⟨rfl, trivial⟩
        · refine DO.alloc ([_, _, _, _, _] : List Value) rfl rfl rfl rfl (fun b10 => ?_)
          refine DJ.one (i := 6) (by kernel_rfl) ?_
          refine DO.op rfl rfl rfl (fun k0 hk0 dk0 => OpR.buildSlice (cs := [_, _, _, _, _]) rfl rfl) ?_
          rintro _ _ ⟨b11, rfl, rfl⟩
          refine DJ.one (i := 7) (by kernel_rfl) ?_
          refine DO.call (pickF _ [1, 2, 3, 4]) (pickF _ [0]) rfl rfl rfl (perm_pickF _ [1, 2, 3, 4] [0] rfl) (fun k0 hk0 dk0 k hk dk => one_ok (l := [3, 2, 4, 1, 0]) (hcode.up) (LitAt.of (l := [3, 2, 4, 1, 0]) hk dk 3 rfl) (by simp) (by omega) (by omega)) ?_
          rintro _ _ ⟨x20, rfl, hx20, rfl⟩
          simp only [List.mem_cons, List.not_mem_nil, or_false] at hx20
          refine DJ.norm [_, _, _, _] [_, _, _, _, _] rfl rfl ?_
          refine DJ.one (i := 8) (by kernel_rfl) ?_
          refine DO.call (pickF _ [2, 3]) (pickF _ [4, 0, 1]) rfl rfl rfl (perm_pickF _ [2, 3] [4, 0, 1] rfl) (fun k0 hk0 dk0 k hk dk => growG_ok 5 _ _ _ _ _ _ _ _ _ [] _ _ _ _ _ hcode.up (by omega) (by omega) (by simp) (by simp) (by omega) (by omega) (by omega) (by omega) (by omega) (by omega) (by omega)) ?_
          rintro _ _ ⟨oK0, aK0, pK0, tK0, xK0, mK0, cK0, bK0, qK0, psK0, kaK0, kcK0, rfl, rfl, hqK0, hrK0, hlK0, hwK0, hzK0, hgK0⟩
          refine DJ.norm [_, _, _, _] [_, _, _, _, _, _] rfl rfl ?_
          refine DJ.one (i := 10) (by kernel_rfl) ?_
          refine DO.store (v := .agg #[_, _, _, _, _]) (us := [_, _, _, _, _]) 0 rfl rfl rfl rfl rfl rfl rfl rfl rfl rfl ?_
          refine DJ.done (by kernel_rfl) ?_
          refine ⟨(b10, oK0, aK0, pK0, tK0, xK0, mK0, cK0, bK0, qK0, psK0, kaK0, kcK0), ?_, ?_, ?_, Ent.pick [0, 1, 6, 7, 8, 4, 9] [2, 3, 5] rfl⟩
          · exact ⟨by omega, by omega, hlK0, hwK0, by omega, hgK0⟩
          · exact ⟨rfl, rfl, rfl, trivial⟩
          · exact ⟨rfl, trivial⟩
      · refine DO.op rfl rfl rfl (fun k0 hk0 dk0 => OpR.buildSlice (cs := [_, _, _, _, _]) rfl rfl) ?_
        rintro _ _ ⟨b12, rfl, rfl⟩
        refine DJ.three (i := 4) (j := 7) (m := 9) (by kernel_rfl) ?_ ?_ ?_
        · refine DO.yd rfl rfl rfl (fun _ _ _ => Yd.loadC 1 rfl rfl rfl) ?_
          refine DJ.two (i := 7) (j := 9) (by kernel_rfl) ?_ ?_
          · refine DO.call (pickF _ [1, 2, 3]) (pickF _ [0]) rfl rfl rfl (perm_pickF _ [1, 2, 3] [0] rfl) (fun k0 hk0 dk0 k hk dk => one_ok (l := [3, 2, 4, 1, 0]) (hcode.up) (LitAt.of (l := [3, 2, 4, 1, 0]) hk dk 2 rfl) (by simp) (by omega) (by omega)) ?_
            rintro _ _ ⟨x20, rfl, hx20, rfl⟩
            simp only [List.mem_cons, List.not_mem_nil, or_false] at hx20
            refine DJ.norm [_, _, _, _] [_, _, _, _] rfl rfl ?_
            refine DJ.two (i := 8) (j := 9) (by kernel_rfl) ?_ ?_
            · refine DO.call (pickF _ [2]) (pickF _ [3, 0, 1]) rfl rfl rfl (perm_pickF _ [2] [3, 0, 1] rfl) (fun k0 hk0 dk0 k hk dk => growG_ok 5 _ _ _ _ _ _ _ _ _ [] _ _ _ _ _ hcode.up (by omega) (by omega) (by simp) (by simp) (by omega) (by omega) (by omega) (by omega) (by omega) (by omega) (by omega)) ?_
              rintro _ _ ⟨oK0, aK0, pK0, tK0, xK0, mK0, cK0, bK0, qK0, psK0, kaK0, kcK0, rfl, rfl, hqK0, hrK0, hlK0, hwK0, hzK0, hgK0⟩
              refine DJ.norm [_, _, _, _] [_, _, _, _, _] rfl rfl ?_
              refine DJ.one (i := 9) (by kernel_rfl) ?_
              refine DO.alloc ([_, _, _, _, _] : List Value) rfl rfl rfl rfl (fun b13 => ?_)
              refine DJ.one (i := 10) (by kernel_rfl) ?_
              refine DO.store (v := .agg #[_, _, _, _, _]) (us := [_, _, _, _, _]) 5 rfl rfl rfl rfl rfl rfl rfl rfl rfl rfl ?_
              refine DJ.done (by kernel_rfl) ?_
              refine ⟨(b13, oK0, aK0, pK0, tK0, xK0, mK0, cK0, bK0, qK0, psK0, kaK0, kcK0), ?_, ?_, ?_, Ent.pick [0, 1, 5, 6, 7, 9, 8] [2, 3, 4] rfl⟩
              · exact ⟨by omega, by omega, hlK0, hwK0, by omega, hgK0⟩
              · exact ⟨rfl, rfl, rfl, trivial⟩
              · exact ⟨rfl, trivial⟩
            · refine DO.alloc ([_, _, _, _, _] : List Value) rfl rfl rfl rfl (fun b14 => ?_)
              refine DJ.one (i := 8) (by kernel_rfl) ?_
              refine DO.call (pickF _ [2, 4]) (pickF _ [3, 0, 1]) rfl rfl rfl (perm_pickF _ [2, 4] [3, 0, 1] rfl) (fun k0 hk0 dk0 k hk dk => growG_ok 5 _ _ _ _ _ _ _ _ _ [] _ _ _ _ _ hcode.up (by omega) (by omega) (by simp) (by simp) (by omega) (by omega) (by omega) (by omega) (by omega) (by omega) (by omega)) ?_
              rintro _ _ ⟨oK0, aK0, pK0, tK0, xK0, mK0, cK0, bK0, qK0, psK0, kaK0, kcK0, rfl, rfl, hqK0, hrK0, hlK0, hwK0, hzK0, hgK0⟩
              refine DJ.norm [_, _, _, _] [_, _, _, _, _, _] rfl rfl ?_
              refine DJ.one (i := 10) (by kernel_rfl) ?_
              refine DO.store (v := .agg #[_, _, _, _, _]) (us := [_, _, _, _, _]) 1 rfl rfl rfl rfl rfl rfl rfl rfl rfl rfl ?_
              refine DJ.done (by kernel_rfl) ?_
              refine ⟨(b14, oK0, aK0, pK0, tK0, xK0, mK0, cK0, bK0, qK0, psK0, kaK0, kcK0), ?_, ?_, ?_, Ent.pick [0, 1, 6, 7, 8, 5, 9] [2, 3, 4] rfl⟩
              · exact ⟨by omega, by omega, hlK0, hwK0, by omega, hgK0⟩
              · exact ⟨rfl, rfl, rfl, trivial⟩
              · exact ⟨rfl, trivial⟩
          · refine DO.alloc ([_, _, _, _, _] : List Value) rfl rfl rfl rfl (fun b15 => ?_)
            refine DJ.one (i := 7) (by kernel_rfl) ?_
            refine DO.call (pickF _ [1, 2, 3, 4]) (pickF _ [0]) rfl rfl rfl (perm_pickF _ [1, 2, 3, 4] [0] rfl) (fun k0 hk0 dk0 k hk dk => one_ok (l := [3, 2, 4, 1, 0]) (hcode.up) (LitAt.of (l := [3, 2, 4, 1, 0]) hk dk 2 rfl) (by simp) (by omega) (by omega)) ?_
            rintro _ _ ⟨x20, rfl, hx20, rfl⟩
            simp only [List.mem_cons, List.not_mem_nil, or_false] at hx20
            refine DJ.norm [_, _, _, _] [_, _, _, _, _] rfl rfl ?_
            refine DJ.one (i := 8) (by kernel_rfl) ?_
            refine DO.call (pickF _ [2, 3]) (pickF _ [4, 0, 1]) rfl rfl rfl (perm_pickF _ [2, 3] [4, 0, 1] rfl) (fun k0 hk0 dk0 k hk dk => growG_ok 5 _ _ _ _ _ _ _ _ _ [] _ _ _ _ _ hcode.up (by omega) (by omega) (by simp) (by simp) (by omega) (by omega) (by omega) (by omega) (by omega) (by omega) (by omega)) ?_
            rintro _ _ ⟨oK0, aK0, pK0, tK0, xK0, mK0, cK0, bK0, qK0, psK0, kaK0, kcK0, rfl, rfl, hqK0, hrK0, hlK0, hwK0, hzK0, hgK0⟩
            refine DJ.norm [_, _, _, _] [_, _, _, _, _, _] rfl rfl ?_
            refine DJ.one (i := 10) (by kernel_rfl) ?_
            refine DO.store (v := .agg #[_, _, _, _, _]) (us := [_, _, _, _, _]) 1 rfl rfl rfl rfl rfl rfl rfl rfl rfl rfl ?_
            refine DJ.done (by kernel_rfl) ?_
            refine ⟨(b15, oK0, aK0, pK0, tK0, xK0, mK0, cK0, bK0, qK0, psK0, kaK0, kcK0), ?_, ?_, ?_, Ent.pick [0, 1, 6, 7, 8, 5, 9] [2, 3, 4] rfl⟩
            · exact ⟨by omega, by omega, hlK0, hwK0, by omega, hgK0⟩
            · exact ⟨rfl, rfl, rfl, trivial⟩
            · exact ⟨rfl, trivial⟩
        · refine DO.call (pickF _ [1, 2, 3]) (pickF _ [0]) rfl rfl rfl (perm_pickF _ [1, 2, 3] [0] rfl) (fun k0 hk0 dk0 k hk dk => one_ok (l := [3, 2, 4, 1, 0]) (hcode.up) (LitAt.of (l := [3, 2, 4, 1, 0]) hk dk 2 rfl) (by simp) (by omega) (by omega)) ?_
          rintro _ _ ⟨x20, rfl, hx20, rfl⟩
          simp only [List.mem_cons, List.not_mem_nil, or_false] at hx20
          refine DJ.norm [_, _, _, _] [_, _, _, _] rfl rfl ?_
          refine DJ.two (i := 4) (j := 9) (by kernel_rfl) ?_ ?_
          · refine DO.yd rfl rfl rfl (fun _ _ _ => Yd.loadC 0 rfl rfl rfl) ?_
            refine DJ.two (i := 8) (j := 9) (by kernel_rfl) ?_ ?_
            · refine DO.call (pickF _ [2]) (pickF _ [3, 0, 1]) rfl rfl rfl (perm_pickF _ [2] [3, 0, 1] rfl) (fun k0 hk0 dk0 k hk dk => growG_ok 5 _ _ _ _ _ _ _ _ _ [] _ _ _ _ _ hcode.up (by omega) (by omega) (by simp) (by simp) (by omega) (by omega) (by omega) (by omega) (by omega) (by omega) (by omega)) ?_
              rintro _ _ ⟨oK0, aK0, pK0, tK0, xK0, mK0, cK0, bK0, qK0, psK0, kaK0, kcK0, rfl, rfl, hqK0, hrK0, hlK0, hwK0, hzK0, hgK0⟩
              refine DJ.norm [_, _, _, _] [_, _, _, _, _] rfl rfl ?_
              refine DJ.one (i := 9) (by kernel_rfl) ?_
              refine DO.alloc ([_, _, _, _, _] : List Value) rfl rfl rfl rfl (fun b16 => ?_)
              refine DJ.one (i := 10) (by kernel_rfl) ?_
              refine DO.store (v := .agg #[_, _, _, _, _]) (us := [_, _, _, _, _]) 5 rfl rfl rfl rfl rfl rfl rfl rfl rfl rfl ?_
              refine DJ.done (by kernel_rfl) ?_
              refine ⟨(b16, oK0, aK0, pK0, tK0, xK0, mK0, cK0, bK0, qK0, psK0, kaK0, kcK0), ?_, ?_, ?_, Ent.pick [0, 1, 5, 6, 7, 9, 8] [2, 3, 4] rfl⟩
              · exact ⟨by omega, by omega, hlK0, hwK0, by omega, hgK0⟩
              · exact ⟨rfl, rfl, rfl, trivial⟩
              · exact ⟨rfl, trivial⟩
            · refine DO.alloc ([_, _, _, _, _] : List Value) rfl rfl rfl rfl (fun b17 => ?_)
              refine DJ.one (i := 8) (by kernel_rfl) ?_
              refine DO.call (pickF _ [2, 4]) (pickF _ [3, 0, 1]) rfl rfl rfl (perm_pickF _ [2, 4] [3, 0, 1] rfl) (fun k0 hk0 dk0 k hk dk => growG_ok 5 _ _ _ _ _ _ _ _ _ [] _ _ _ _ _ hcode.up (by omega) (by omega) (by simp) (by simp) (by omega) (by omega) (by omega) (by omega) (by omega) (by omega) (by omega)) ?_
              rintro _ _ ⟨oK0, aK0, pK0, tK0, xK0, mK0, cK0, bK0, qK0, psK0, kaK0, kcK0, rfl, rfl, hqK0, hrK0, hlK0, hwK0, hzK0, hgK0⟩
              refine DJ.norm [_, _, _, _] [_, _, _, _, _, _] rfl rfl ?_
              refine DJ.one (i := 10) (by kernel_rfl) ?_
              refine DO.store (v := .agg #[_, _, _, _, _]) (us := [_, _, _, _, _]) 1 rfl rfl rfl rfl rfl rfl rfl rfl rfl rfl ?_
              refine DJ.done (by kernel_rfl) ?_
              refine ⟨(b17, oK0, aK0, pK0, tK0, xK0, mK0, cK0, bK0, qK0, psK0, kaK0, kcK0), ?_, ?_, ?_, Ent.pick [0, 1, 6, 7, 8, 5, 9] [2, 3, 4] rfl⟩
              · exact ⟨by omega, by omega, hlK0, hwK0, by omega, hgK0⟩
              · exact ⟨rfl, rfl, rfl, trivial⟩
              · exact ⟨rfl, trivial⟩
          · refine DO.alloc ([_, _, _, _, _] : List Value) rfl rfl rfl rfl (fun b18 => ?_)
            refine DJ.one (i := 4) (by kernel_rfl) ?_
            refine DO.yd rfl rfl rfl (fun _ _ _ => Yd.loadC 0 rfl rfl rfl) ?_
            refine DJ.one (i := 8) (by kernel_rfl) ?_
            refine DO.call (pickF _ [2, 4]) (pickF _ [3, 0, 1]) rfl rfl rfl (perm_pickF _ [2, 4] [3, 0, 1] rfl) (fun k0 hk0 dk0 k hk dk => growG_ok 5 _ _ _ _ _ _ _ _ _ [] _ _ _ _ _ hcode.up (by omega) (by omega) (by simp) (by simp) (by omega) (by omega) (by omega) (by omega) (by omega) (by omega) (by omega)) ?_
            rintro _ _ ⟨oK0, aK0, pK0, tK0, xK0, mK0, cK0, bK0, qK0, psK0, kaK0, kcK0, rfl, rfl, hqK0, hrK0, hlK0, hwK0, hzK0, hgK0⟩
            refine DJ.norm [_, _, _, _] [_, _, _, _, _, _] rfl rfl ?_
            refine DJ.one (i := 10) (by kernel_rfl) ?_
            refine DO.store (v := .agg #[_, _, _, _, _]) (us := [_, _, _, _, _]) 1 rfl rfl rfl rfl rfl rfl rfl rfl rfl rfl ?_
            refine DJ.done (by kernel_rfl) ?_
            refine ⟨(b18, oK0, aK0, pK0, tK0, xK0, mK0, cK0, bK0, qK0, psK0, kaK0, kcK0), ?_, ?_, ?_, Ent.pick [0, 1, 6, 7, 8, 5, 9] [2, 3, 4] rfl⟩
            · exact ⟨by omega, by omega, hlK0, hwK0, by omega, hgK0⟩
            · exact ⟨rfl, rfl, rfl, trivial⟩
            · exact ⟨rfl, trivial⟩
        · refine DO.alloc ([_, _, _, _, _] : List Value) rfl rfl rfl rfl (fun b19 => ?_)
          refine DJ.two (i := 4) (j := 7) (by kernel_rfl) ?_ ?_
          · refine DO.yd rfl rfl rfl (fun _ _ _ => Yd.loadC 1 rfl rfl rfl) ?_
            refine DJ.one (i := 7) (by kernel_rfl) ?_
            refine DO.call (pickF _ [1, 2, 3, 4]) (pickF _ [0]) rfl rfl rfl (perm_pickF _ [1, 2, 3, 4] [0] rfl) (fun k0 hk0 dk0 k hk dk => one_ok (l := [3, 2, 4, 1, 0]) (hcode.up) (LitAt.of (l := [3, 2, 4, 1, 0]) hk dk 2 rfl) (by simp) (by omega) (by omega)) ?_
            rintro _ _ ⟨x20, rfl, hx20, rfl⟩
            simp only [List.mem_cons, List.not_mem_nil, or_false] at hx20
            refine DJ.norm [_, _, _, _] [_, _, _, _, _] rfl rfl ?_
            refine DJ.one (i := 8) (by kernel_rfl) ?_
            refine DO.call (pickF _ [2, 3]) (pickF _ [4, 0, 1]) rfl rfl rfl (perm_pickF _ [2, 3] [4, 0, 1] rfl) (fun k0 hk0 dk0 k hk dk => growG_ok 5 _ _ _ _ _ _ _ _ _ [] _ _ _ _ _ hcode.up (by omega) (by omega) (by simp) (by simp) (by omega) (by omega) (by omega) (by omega) (by omega) (by omega) (by omega)) ?_
            rintro _ _ ⟨oK0, aK0, pK0, tK0, xK0, mK0, cK0, bK0, qK0, psK0, kaK0, kcK0, rfl, rfl, hqK0, hrK0, hlK0, hwK0, hzK0, hgK0⟩
            refine DJ.norm [_, _, _, _] [_, _, _, _, _, _] rfl rfl ?_
            refine DJ.one (i := 10) (by kernel_rfl) ?_
            refine DO.store (v := .agg #[_, _, _, _, _]) (us := [_, _, _, _, _]) 1 rfl rfl rfl rfl rfl rfl rfl rfl rfl rfl ?_
            refine DJ.done (by kernel_rfl) ?_
            refine ⟨(b19, oK0, aK0, pK0, tK0, xK0, mK0, cK0, bK0, qK0, psK0, kaK0, kcK0), ?_, ?_, ?_, Ent.pick [0, 1, 6, 7, 8, 5, 9] [2, 3, 4] rfl⟩
            · exact ⟨by omega, by omega, hlK0, hwK0, by omega, hgK0⟩
            · exact ⟨rfl, rfl, rfl, trivial⟩
            · exact ⟨rfl, trivial⟩
          · refine DO.call (pickF _ [1, 2, 3, 4]) (pickF _ [0]) rfl rfl rfl (perm_pickF _ [1, 2, 3, 4] [0] rfl) (fun k0 hk0 dk0 k hk dk => one_ok (l := [3, 2, 4, 1, 0]) (hcode.up) (LitAt.of (l := [3, 2, 4, 1, 0]) hk dk 2 rfl) (by simp) (by omega) (by omega)) ?_
            rintro _ _ ⟨x20, rfl, hx20, rfl⟩
            simp only [List.mem_cons, List.not_mem_nil, or_false] at hx20
            refine DJ.norm [_, _, _, _] [_, _, _, _, _] rfl rfl ?_
            refine DJ.one (i := 4) (by kernel_rfl) ?_
            refine DO.yd rfl rfl rfl (fun _ _ _ => Yd.loadC 0 rfl rfl rfl) ?_
            refine DJ.one (i := 8) (by kernel_rfl) ?_
            refine DO.call (pickF _ [2, 3]) (pickF _ [4, 0, 1]) rfl rfl rfl (perm_pickF _ [2, 3] [4, 0, 1] rfl) (fun k0 hk0 dk0 k hk dk => growG_ok 5 _ _ _ _ _ _ _ _ _ [] _ _ _ _ _ hcode.up (by omega) (by omega) (by simp) (by simp) (by omega) (by omega) (by omega) (by omega) (by omega) (by omega) (by omega)) ?_
            rintro _ _ ⟨oK0, aK0, pK0, tK0, xK0, mK0, cK0, bK0, qK0, psK0, kaK0, kcK0, rfl, rfl, hqK0, hrK0, hlK0, hwK0, hzK0, hgK0⟩
            refine DJ.norm [_, _, _, _] [_, _, _, _, _, _] rfl rfl ?_
            refine DJ.one (i := 10) (by kernel_rfl) ?_
            refine DO.store (v := .agg #[_, _, _, _, _]) (us := [_, _, _, _, _]) 1 rfl rfl rfl rfl rfl rfl rfl rfl rfl rfl ?_
            refine DJ.done (by kernel_rfl) ?_
            refine ⟨(b19, oK0, aK0, pK0, tK0, xK0, mK0, cK0, bK0, qK0, psK0, kaK0, kcK0), ?_, ?_, ?_, Ent.pick [0, 1, 6, 7, 8, 5, 9] [2, 3, 4] rfl⟩
            · exact ⟨by omega, by omega, hlK0, hwK0, by omega, hgK0⟩
            · exact ⟨rfl, rfl, rfl, trivial⟩
            · exact ⟨rfl, trivial⟩
      · refine DO.alloc ([_, _, _, _, _] : List Value) rfl rfl rfl rfl (fun b20 => ?_)
        refine DJ.two (i := 4) (j := 6) (by kernel_rfl) ?_ ?_
        · refine DO.yd rfl rfl rfl (fun _ _ _ => Yd.loadC 1 rfl rfl rfl) ?_
          refine DJ.one (i := 6) (by kernel_rfl) ?_
          refine DO.op rfl rfl rfl (fun k0 hk0 dk0 => OpR.buildSlice (cs := [_, _, _, _, _]) rfl rfl) ?_
          rintro _ _ ⟨b21, rfl, rfl⟩
          refine DJ.one (i := 7) (by kernel_rfl) ?_
          refine DO.call (pickF _ [1, 2, 3, 4]) (pickF _ [0]) rfl rfl rfl (perm_pickF _ [1, 2, 3, 4] [0] rfl) (fun k0 hk0 dk0 k hk dk => one_ok (l := [3, 2, 4, 1, 0]) (hcode.up) (LitAt.of (l := [3, 2, 4, 1, 0]) hk dk 3 rfl) (by simp) (by omega) (by omega)) ?_
          rintro _ _ ⟨x20, rfl, hx20, rfl⟩
          simp only [List.mem_cons, List.not_mem_nil, or_false] at hx20
          refine DJ.norm [_, _, _, _] [_, _, _, _, _] rfl rfl ?_
          refine DJ.one (i := 8) (by kernel_rfl) ?_
          refine DO.call (pickF _ [2, 3]) (pickF _ [4, 0, 1]) rfl rfl rfl (perm_pickF _ [2, 3] [4, 0, 1] rfl) (fun k0 hk0 dk0 k hk dk => growG_ok 5 _ _ _ _ _ _ _ _ _ [] _ _ _ _ _ hcode.up (by omega) (by omega) (by simp) (by simp) (by omega) (by omega) (by omega) (by omega) (by omega) (by omega) (by omega)) ?_
          rintro _ _ ⟨oK0, aK0, pK0, tK0, xK0, mK0, cK0, bK0, qK0, psK0, kaK0, kcK0, rfl, rfl, hqK0, hrK0, hlK0, hwK0, hzK0, hgK0⟩
          refine DJ.norm [_, _, _, _] [_, _, _, _, _, _] rfl rfl ?_
          refine DJ.one (i := 10) (by kernel_rfl) ?_
          refine DO.store (v := .agg #[_, _, _, _, _]) (us := [_, _, _, _, _]) 0 rfl rfl rfl rfl rfl rfl rfl rfl rfl rfl ?_
          refine DJ.done (by kernel_rfl) ?_
          refine ⟨(b20, oK0, aK0, pK0, tK0, xK0, mK0, cK0, bK0, qK0, psK0, kaK0, kcK0), ?_, ?_, ?_, Ent.pick [0, 1, 6, 7, 8, 4, 9] [2, 3, 5] rfl⟩
          · exact ⟨by omega, by omega, hlK0, hwK0, by omega, hgK0⟩
          · exact ⟨rfl, rfl, rfl, trivial⟩
          · exact ⟨rfl, trivial⟩
        · refine DO.op rfl rfl rfl (fun k0 hk0 dk0 => OpR.buildSlice (cs := [_, _, _, _, _]) rfl rfl) ?_
          rintro _ _ ⟨b22, rfl, rfl⟩
          refine DJ.two (i := 4) (j := 7) (by kernel_rfl) ?_ ?_
          · refine DO.yd rfl rfl rfl (fun _ _ _ => Yd.loadC 1 rfl rfl rfl) ?_
            refine DJ.one (i := 7) (by kernel_rfl) ?_
            refine DO.call (pickF _ [1, 2, 3, 4]) (pickF _ [0]) rfl rfl rfl (perm_pickF _ [1, 2, 3, 4] [0] rfl) (fun k0 hk0 dk0 k hk dk => one_ok (l := [3, 2, 4, 1, 0]) (hcode.up) (LitAt.of (l := [3, 2, 4, 1, 0]) hk dk 3 rfl) (by simp) (by omega) (by omega)) ?_
            rintro _ _ ⟨x20, rfl, hx20, rfl⟩
            simp only [List.mem_cons, List.not_mem_nil, or_false] at hx20
            refine DJ.norm [_, _, _, _] [_, _, _, _, _] rfl rfl ?_
            refine DJ.one (i := 8) (by kernel_rfl) ?_
            refine DO.call (pickF _ [2, 3]) (pickF _ [4, 0, 1]) rfl rfl rfl (perm_pickF _ [2, 3] [4, 0, 1] rfl) (fun k0 hk0 dk0 k hk dk => growG_ok 5 _ _ _ _ _ _ _ _ _ [] _ _ _ _ _ hcode.up (by omega) (by omega) (by simp) (by simp) (by omega) (by omega) (by omega) (by omega) (by omega) (by omega) (by omega)) ?_
            rintro _ _ ⟨oK0, aK0, pK0, tK0, xK0, mK0, cK0, bK0, qK0, psK0, kaK0, kcK0, rfl, rfl, hqK0, hrK0, hlK0, hwK0, hzK0, hgK0⟩
            refine DJ.norm [_, _, _, _] [_, _, _, _, _, _] rfl rfl ?_
            refine DJ.one (i := 10) (by kernel_rfl) ?_
            refine DO.store (v := .agg #[_, _, _, _, _]) (us := [_, _, _, _, _]) 0 rfl rfl rfl rfl rfl rfl rfl rfl rfl rfl ?_
            refine DJ.done (by kernel_rfl) ?_
            refine ⟨(b20, oK0, aK0, pK0, tK0, xK0, mK0, cK0, bK0, qK0, psK0, kaK0, kcK0), ?_, ?_, ?_, Ent.pick [0, 1, 6, 7, 8, 4, 9] [2, 3, 5] rfl⟩
            · exact ⟨by omega, by omega, hlK0, hwK0, by omega, hgK0⟩
            · exact ⟨rfl, rfl, rfl, trivial⟩
            · exact ⟨rfl, trivial⟩
          · refine DO.call (pickF _ [1, 2, 3, 4]) (pickF _ [0]) rfl rfl rfl (perm_pickF _ [1, 2, 3, 4] [0] rfl) (fun k0 hk0 dk0 k hk dk => one_ok (l := [3, 2, 4, 1, 0]) (hcode.up) (LitAt.of (l := [3, 2, 4, 1, 0]) hk dk 3 rfl) (by simp) (by omega) (by omega)) ?_
            rintro _ _ ⟨x20, rfl, hx20, rfl⟩
            simp only [List.mem_cons, List.not_mem_nil, or_false] at hx20
            refine DJ.norm [_, _, _, _] [_, _, _, _, _] rfl rfl ?_
            refine DJ.one (i := 4) (by kernel_rfl) ?_
            refine DO.yd rfl rfl rfl (fun _ _ _ => Yd.loadC 0 rfl rfl rfl) ?_
            refine DJ.one (i := 8) (by kernel_rfl) ?_
            refine DO.call (pickF _ [2, 3]) (pickF _ [4, 0, 1]) rfl rfl rfl (perm_pickF _ [2, 3] [4, 0, 1] rfl) (fun k0 hk0 dk0 k hk dk => growG_ok 5 _ _ _ _ _ _ _ _ _ [] _ _ _ _ _ hcode.up (by omega) (by omega) (by simp) (by simp) (by omega) (by omega) (by omega) (by omega) (by omega) (by omega) (by omega)) ?_
            rintro _ _ ⟨oK0, aK0, pK0, tK0, xK0, mK0, cK0, bK0, qK0, psK0, kaK0, kcK0, rfl, rfl, hqK0, hrK0, hlK0, hwK0, hzK0, hgK0⟩
            refine DJ.norm [_, _, _, _] [_, _, _, _, _, _] rfl rfl ?_
            refine DJ.one (i := 10) (by kernel_rfl) ?_
            refine DO.store (v := .agg #[_, _, _, _, _]) (us := [_, _, _, _, _]) 0 rfl rfl rfl rfl rfl rfl rfl rfl rfl rfl ?_
            refine DJ.done (by kernel_rfl) ?_
            refine ⟨(b20, oK0, aK0, pK0, tK0, xK0, mK0, cK0, bK0, qK0, psK0, kaK0, kcK0), ?_, ?_, ?_, Ent.pick [0, 1, 6, 7, 8, 4, 9] [2, 3, 5] rfl⟩
            · exact ⟨by omega, by omega, hlK0, hwK0, by omega, hgK0⟩
            · exact ⟨rfl, rfl, rfl, trivial⟩
            · exact ⟨rfl, trivial⟩
    · refine DO.yd rfl rfl rfl (fun _ _ _ => Yd.loadC 1 rfl rfl rfl) ?_
      refine DJ.three (i := 2) (j := 6) (m := 9) (by kernel_rfl) ?_ ?_ ?_
      · refine DO.yd rfl rfl rfl (fun _ _ _ => Yd.loadC 1 rfl rfl rfl) ?_
        refine DJ.two (i := 6) (j := 9) (by kernel_rfl) ?_ ?_
        · refine DO.op rfl rfl rfl (fun k0 hk0 dk0 => OpR.buildSlice (cs := [_, _, _, _, _]) rfl rfl) ?_
          rintro _ _ ⟨b23, rfl, rfl⟩
          refine DJ.two (i := 7) (j := 9) (by kernel_rfl) ?_ ?_
          · refine DO.call (pickF _ [1, 2, 3]) (pickF _ [0]) rfl rfl rfl (perm_pickF _ [1, 2, 3] [0] rfl) (fun k0 hk0 dk0 k hk dk => one_ok (l := [3, 2, 4, 1, 0]) (hcode.up) (LitAt.of (l := [3, 2, 4, 1, 0]) hk dk 2 rfl) (by simp) (by omega) (by omega)) ?_
            rintro _ _ ⟨x20, rfl, hx20, rfl⟩
            simp only [List.mem_cons, List.not_mem_nil, or_false] at hx20
            refine DJ.norm [_, _, _, _] [_, _, _, _] rfl rfl ?_
            refine DJ.two (i := 8) (j := 9) (by kernel_rfl) ?_ ?_
            · refine DO.call (pickF _ [2]) (pickF _ [3, 0, 1]) rfl rfl rfl (perm_pickF _ [2] [3, 0, 1] rfl) (fun k0 hk0 dk0 k hk dk => growG_ok 5 _ _ _ _ _ _ _ _ _ [] _ _ _ _ _ hcode.up (by omega) (by omega) (by simp) (by simp) (by omega) (by omega) (by omega) (by omega) (by omega) (by omega) (by omega)) ?_
              rintro _ _ ⟨oK0, aK0, pK0, tK0, xK0, mK0, cK0, bK0, qK0, psK0, kaK0, kcK0, rfl, rfl, hqK0, hrK0, hlK0, hwK0, hzK0, hgK0⟩
              refine DJ.norm [_, _, _, _] [_, _, _, _, _] rfl rfl ?_
              refine DJ.one (i := 9) (by kernel_rfl) ?_
              refine DO.alloc ([_, _, _, _, _] : List Value) rfl rfl rfl rfl (fun b24 => ?_)
              refine DJ.one (i := 10) (by kernel_rfl) ?_
              refine DO.store (v := .agg #[_, _, _, _, _]) (us := [_, _, _, _, _]) 5 rfl rfl rfl rfl rfl rfl rfl rfl rfl rfl ?_
              refine DJ.done (by kernel_rfl) ?_
              refine ⟨(b24, oK0, aK0, pK0, tK0, xK0, mK0, cK0, bK0, qK0, psK0, kaK0, kcK0), ?_, ?_, ?_, Ent.pick [0, 1, 5, 6, 7, 9, 8] [2, 3, 4] rfl⟩
              · exact ⟨by omega, by omega, hlK0, hwK0, by omega, hgK0⟩
              · exact ⟨rfl, rfl, rfl, trivial⟩
              · exact ⟨rfl, trivial⟩
            · refine DO.alloc ([_, _, _, _, _] : List Value) rfl rfl rfl rfl (fun b25 => ?_)
              refine DJ.one (i := 8) (by kernel_rfl) ?_
              refine DO.call (pickF _ [2, 4]) (pickF _ [3, 0, 1]) rfl rfl rfl (perm_pickF _ [2, 4] [3, 0, 1] rfl) (fun k0 hk0 dk0 k hk dk => growG_ok 5 _ _ _ _ _ _ _ _ _ [] _ _ _ _ _ hcode.up (by omega) (by omega) (by simp) (by simp) (by omega) (by omega) (by omega) (by omega) (by omega) (by omega) (by omega)) ?_
              rintro _ _ ⟨oK0, aK0, pK0, tK0, xK0, mK0, cK0, bK0, qK0, psK0, kaK0, kcK0, rfl, rfl, hqK0, hrK0, hlK0, hwK0, hzK0, hgK0⟩
              refine DJ.norm [_, _, _, _] [_, _, _, _, _, _] rfl rfl ?_
              refine DJ.one (i := 10) (by kernel_rfl) ?_
              refine DO.store (v := .agg #[_, _, _, _, _]) (us := [_, _, _, _, _]) 1 rfl rfl rfl rfl rfl rfl rfl rfl rfl rfl ?_
              refine DJ.done (by kernel_rfl) ?_
              refine ⟨(b25, oK0, aK0, pK0, tK0, xK0, mK0, cK0, bK0, qK0, psK0, kaK0, kcK0), ?_, ?_, ?_, Ent.pick [0, 1, 6, 7, 8, 5, 9] [2, 3, 4] rfl⟩
              · exact ⟨by omega, by omega, hlK0, hwK0, by omega, hgK0⟩
              · exact ⟨rfl, rfl, rfl, trivial⟩
              · exact ⟨rfl, trivial⟩
          · refine DO.alloc ([_, _, _, _, _] : List Value) rfl rfl rfl rfl (fun b26 => ?_)
            refine DJ.one (i := 7) (by kernel_rfl) ?_
            refine DO.call (pickF _ [1, 2, 3, 4]) (pickF _ [0]) rfl rfl rfl (perm_pickF _ [1, 2, 3, 4] [0] rfl) (fun k0 hk0 dk0 k hk dk => one_ok (l := [3, 2, 4, 1, 0]) (hcode.up) (LitAt.of (l := [3, 2, 4, 1, 0]) hk dk 2 rfl) (by simp) (by omega) (by omega)) ?_
            rintro _ _ ⟨x20, rfl, hx20, rfl⟩
            simp only [List.mem_cons, List.not_mem_nil, or_false] at hx20
            refine DJ.norm [_, _, _, _] [_, _, _, _, _] rfl rfl ?_
            refine DJ.one (i := 8) (by kernel_rfl) ?_
            refine DO.call (pickF _ [2, 3]) (pickF _ [4, 0, 1]) rfl rfl rfl (perm_pickF _ [2, 3] [4, 0, 1] rfl) (fun k0 hk0 dk0 k hk dk => growG_ok 5 _ _ _ _ _ _ _ _ _ [] _ _ _ _ _ hcode.up (by omega) (by omega) (by simp) (by simp) (by omega) (by omega) (by omega) (by omega) (by omega) (by omega) (by omega)) ?_
            rintro _ _ ⟨oK0, aK0, pK0, tK0, xK0, mK0, cK0, bK0, qK0, psK0, kaK0, kcK0, rfl, rfl, hqK0, hrK0, hlK0, hwK0, hzK0, hgK0⟩
            refine DJ.norm [_, _, _, _] [_, _, _, _, _, _] rfl rfl ?_
            refine DJ.one (i := 10) (by kernel_rfl) ?_
            refine DO.store (v := .agg #[_, _, _, _, _]) (us := [_, _, _, _, _]) 1 rfl rfl rfl rfl rfl rfl rfl rfl rfl rfl ?_
            refine DJ.done (by kernel_rfl) ?_
            refine ⟨(b26, oK0, aK0, pK0, tK0, xK0, mK0, cK0, bK0, qK0, psK0, kaK0, kcK0), ?_, ?_, ?_, Ent.pick [0, 1, 6, 7, 8, 5, 9] [2, 3, 4] rfl⟩
            · exact ⟨by omega, by omega, hlK0, hwK0, by omega, hgK0⟩
            · exact ⟨rfl, rfl, rfl, trivial⟩
            · exact ⟨rfl, trivial⟩
        · refine DO.alloc ([_, _, _, _, _] : List Value) rfl rfl rfl rfl (fun b27 => ?_)
          refine DJ.one (i := 6) (by kernel_rfl) ?_
          refine DO.op rfl rfl rfl (fun k0 hk0 dk0 => OpR.buildSlice (cs := [_, _, _, _, _]) rfl rfl) ?_
          rintro _ _ ⟨b28, rfl, rfl⟩
          refine DJ.one (i := 7) (by kernel_rfl) ?_
          refine DO.call (pickF _ [1, 2, 3, 4]) (pickF _ [0]) rfl rfl rfl (perm_pickF _ [1, 2, 3, 4] [0] rfl) (fun k0 hk0 dk0 k hk dk => one_ok (l := [3, 2, 4, 1, 0]) (hcode.up) (LitAt.of (l := [3, 2, 4, 1, 0]) hk dk 3 rfl) (by simp) (by omega) (by omega)) ?_
          rintro _ _ ⟨x20, rfl, hx20, rfl⟩
          simp only [List.mem_cons, List.not_mem_nil, or_false] at hx20
          refine DJ.norm [_, _, _, _] [_, _, _, _, _] rfl rfl ?_
          refine DJ.one (i := 8) (by kernel_rfl) ?_
          refine DO.call (pickF _ [2, 3]) (pickF _ [4, 0, 1]) rfl rfl rfl (perm_pickF _ [2, 3] [4, 0, 1] rfl) (fun k0 hk0 dk0 k hk dk => growG_ok 5 _ _ _ _ _ _ _ _ _ [] _ _ _ _ _ hcode.up (by omega) (by omega) (by simp) (by simp) (by omega) (by omega) (by omega) (by omega) (by omega) (by omega) (by omega)) ?_
          rintro _ _ ⟨oK0, aK0, pK0, tK0, xK0, mK0, cK0, bK0, qK0, psK0, kaK0, kcK0, rfl, rfl, hqK0, hrK0, hlK0, hwK0, hzK0, hgK0⟩
          refine DJ.norm [_, _, _, _] [_, _, _, _, _, _] rfl rfl ?_
          refine DJ.one (i := 10) (by kernel_rfl) ?_
          refine DO.store (v := .agg #[_, _, _, _, _]) (us := [_, _, _, _, _]) 0 rfl rfl rfl rfl rfl rfl rfl rfl rfl rfl ?_
          refine DJ.done (by kernel_rfl) ?_
          refine ⟨(b27, oK0, aK0, pK0, tK0, xK0, mK0, cK0, bK0, qK0, psK0, kaK0, kcK0), ?_, ?_, ?_, Ent.pick [0, 1, 6, 7, 8, 4, 9] [2, 3, 5] rfl⟩
          · exact ⟨by omega, by omega, hlK0, hwK0, by omega, hgK0⟩
          · exact ⟨rfl, rfl, rfl, trivial⟩
          · exact ⟨rfl, trivial⟩
      · refine DO.op rfl rfl rfl (fun k0 hk0 dk0 => OpR.buildSlice (cs := [_, _, _, _, _]) rfl rfl) ?_
        rintro _ _ ⟨b29, rfl, rfl⟩
        refine DJ.three (i := 2) (j := 7) (m := 9) (by kernel_rfl) ?_ ?_ ?_
        · refine DO.yd rfl rfl rfl (fun _ _ _ => Yd.loadC 1 rfl rfl rfl) ?_
          refine DJ.two (i := 7) (j := 9) (by kernel_rfl) ?_ ?_
          · refine DO.call (pickF _ [1, 2, 3]) (pickF _ [0]) rfl rfl rfl (perm_pickF _ [1, 2, 3] [0] rfl) (fun k0 hk0 dk0 k hk dk => one_ok (l := [3, 2, 4, 1, 0]) (hcode.up) (LitAt.of (l := [3, 2, 4, 1, 0]) hk dk 2 rfl) (by simp) (by omega) (by omega)) ?_
            rintro _ _ ⟨x20, rfl, hx20, rfl⟩
            simp only [List.mem_cons, List.not_mem_nil, or_false] at hx20
            refine DJ.norm [_, _, _, _] [_, _, _, _] rfl rfl ?_
            refine DJ.two (i := 8) (j := 9) (by kernel_rfl) ?_ ?_
            · refine DO.call (pickF _ [2]) (pickF _ [3, 0, 1]) rfl rfl rfl (perm_pickF _ [2] [3, 0, 1] rfl) (fun k0 hk0 dk0 k hk dk => growG_ok 5 _ _ _ _ _ _ _ _ _ [] _ _ _ _ _ hcode.up (by omega) (by omega) (by simp) (by simp) (by omega) (by omega) (by omega) (by omega) (by omega) (by omega) (by omega)) ?_
              rintro _ _ ⟨oK0, aK0, pK0, tK0, xK0, mK0, cK0, bK0, qK0, psK0, kaK0, kcK0, rfl, rfl, hqK0, hrK0, hlK0, hwK0, hzK0, hgK0⟩
              refine DJ.norm [_, _, _, _] [_, _, _, _, _] rfl rfl ?_
              refine DJ.one (i := 9) (by kernel_rfl) ?_
              refine DO.alloc ([_, _, _, _, _] : List Value) rfl rfl rfl rfl (fun b30 => ?_)
              refine DJ.one (i := 10) (by kernel_rfl) ?_
              refine DO.store (v := .agg #[_, _, _, _, _]) (us := [_, _, _, _, _]) 5 rfl rfl rfl rfl rfl rfl rfl rfl rfl rfl ?_
              refine DJ.done (by kernel_rfl) ?_
              refine ⟨(b30, oK0, aK0, pK0, tK0, xK0, mK0, cK0, bK0, qK0, psK0, kaK0, kcK0), ?_, ?_, ?_, Ent.pick [0, 1, 5, 6, 7, 9, 8] [2, 3, 4] rfl⟩
              · exact ⟨by omega, by omega, hlK0, hwK0, by omega, hgK0⟩
              · exact ⟨rfl, rfl, rfl, trivial⟩
              · exact ⟨rfl, trivial⟩
            · refine DO.alloc ([_, _, _, _, _] : List Value) rfl rfl rfl rfl (fun b31 => ?_)
              refine DJ.one (i := 8) (by kernel_rfl) ?_
              refine DO.call (pickF _ [2, 4]) (pickF _ [3, 0, 1]) rfl rfl rfl (perm_pickF _ [2, 4] [3, 0, 1] rfl) (fun k0 hk0 dk0 k hk dk => growG_ok 5 _ _ _ _ _ _ _ _ _ [] _ _ _ _ _ hcode.up (by omega) (by omega) (by simp) (by simp) (by omega) (by omega) (by omega) (by omega) (by omega) (by omega) (by omega)) ?_
              rintro _ _ ⟨oK0, aK0, pK0, tK0, xK0, mK0, cK0, bK0, qK0, psK0, kaK0, kcK0, rfl, rfl, hqK0, hrK0, hlK0, hwK0, hzK0, hgK0⟩
              refine DJ.norm [_, _, _, _] [_, _, _, _, _, _] rfl rfl ?_
              refine DJ.one (i := 10) (by kernel_rfl) ?_
              refine DO.store (v := .agg #[_, _, _, _, _]) (us := [_, _, _, _, _]) 1 rfl rfl rfl rfl rfl rfl rfl rfl rfl rfl ?_
              refine DJ.done (by kernel_rfl) ?_
              refine ⟨(b31, oK0, aK0, pK0, tK0, xK0, mK0, cK0, bK0, qK0, psK0, kaK0, kcK0), ?_, ?_, ?_, Ent.pick [0, 1, 6, 7, 8, 5, 9] [2, 3, 4] rfl⟩
              · exact ⟨by omega, by omega, hlK0, hwK0, by omega, hgK0⟩
              · exact ⟨rfl, rfl, rfl, trivial⟩
              · exact ⟨rfl, trivial⟩
          · refine DO.alloc ([_, _, _, _, _] : List Value) rfl rfl rfl rfl (fun b32 => ?_)
            refine DJ.one (i := 7) (by kernel_rfl) ?_
            refine DO.call (pickF _ [1, 2, 3, 4]) (pickF _ [0]) rfl rfl rfl (perm_pickF _ [1, 2, 3, 4] [0] rfl) (fun k0 hk0 dk0 k hk dk => one_ok (l := [3, 2, 4, 1, 0]) (hcode.up) (LitAt.of (l := [3, 2, 4, 1, 0]) hk dk 2 rfl) (by simp) (by omega) (by omega)) ?_
            rintro _ _ ⟨x20, rfl, hx20, rfl⟩
            simp only [List.mem_cons, List.not_mem_nil, or_false] at hx20
            refine DJ.norm [_, _, _, _] [_, _, _, _, _] rfl rfl ?_
            refine DJ.one (i := 8) (by kernel_rfl) ?_
            refine DO.call (pickF _ [2, 3]) (pickF _ [4, 0, 1]) rfl rfl rfl (perm_pickF _ [2, 3] [4, 0, 1] rfl) (fun k0 hk0 dk0 k hk dk => growG_ok 5 _ _ _ _ _ _ _ _ _ [] _ _ _ _ _ hcode.up (by omega) (by omega) (by simp) (by simp) (by omega) (by omega) (by omega) (by omega) (by omega) (by omega) (by omega)) ?_
            rintro _ _ ⟨oK0, aK0, pK0, tK0, xK0, mK0, cK0, bK0, qK0, psK0, kaK0, kcK0, rfl, rfl, hqK0, hrK0, hlK0, hwK0, hzK0, hgK0⟩
            refine DJ.norm [_, _, _, _] [_, _, _, _, _, _] rfl rfl ?_
            refine DJ.one (i := 10) (by kernel_rfl) ?_
            refine DO.store (v := .agg #[_, _, _, _, _]) (us := [_, _, _, _, _]) 1 rfl rfl rfl rfl rfl rfl rfl rfl rfl rfl ?_
            refine DJ.done (by kernel_rfl) ?_
            refine ⟨(b32, oK0, aK0, pK0, tK0, xK0, mK0, cK0, bK0, qK0, psK0, kaK0, kcK0), ?_, ?_, ?_, Ent.pick [0, 1, 6, 7, 8, 5, 9] [2, 3, 4] rfl⟩
            · exact ⟨by omega, by omega, hlK0, hwK0, by omega, hgK0⟩
            · exact ⟨rfl, rfl, rfl, trivial⟩
            · exact ⟨rfl, trivial⟩
        · refine DO.call (pickF _ [1, 2, 3]) (pickF _ [0]) rfl rfl rfl (perm_pickF _ [1, 2, 3] [0] rfl) (fun k0 hk0 dk0 k hk dk => one_ok (l := [3, 2, 4, 1, 0]) (hcode.up) (LitAt.of (l := [3, 2, 4, 1, 0]) hk dk 2 rfl) (by simp) (by omega) (by omega)) ?_
          rintro _ _ ⟨x20, rfl, hx20, rfl⟩
          simp only [List.mem_cons, List.not_mem_nil, or_false] at hx20
          refine DJ.norm [_, _, _, _] [_, _, _, _] rfl rfl ?_
          refine DJ.two (i := 2) (j := 9) (by kernel_rfl) ?_ ?_
          · refine DO.yd rfl rfl rfl (fun _ _ _ => Yd.loadC 0 rfl rfl rfl) ?_
            refine DJ.two (i := 8) (j := 9) (by kernel_rfl) ?_ ?_
            · refine DO.call (pickF _ [2]) (pickF _ [3, 0, 1]) rfl rfl rfl (perm_pickF _ [2] [3, 0, 1] rfl) (fun k0 hk0 dk0 k hk dk => growG_ok 5 _ _ _ _ _ _ _ _ _ [] _ _ _ _ _ hcode.up (by omega) (by omega) (by simp) (by simp) (by omega) (by omega) (by omega) (by omega) (by omega) (by omega) (by omega)) ?_
              rintro _ _ ⟨oK0, aK0, pK0, tK0, xK0, mK0, cK0, bK0, qK0, psK0, kaK0, kcK0, rfl, rfl, hqK0, hrK0, hlK0, hwK0, hzK0, hgK0⟩
              refine DJ.norm [_, _, _, _] [_, _, _, _, _] rfl rfl ?_
              refine DJ.one (i := 9) (by kernel_rfl) ?_
              refine DO.alloc ([_, _, _, _, _] : List Value) rfl rfl rfl rfl (fun b33 => ?_)
              refine DJ.one (i := 10) (by kernel_rfl) ?_
              refine DO.store (v := .agg #[_, _, _, _, _]) (us := [_, _, _, _, _]) 5 rfl rfl rfl rfl rfl rfl rfl rfl rfl rfl ?_
              refine DJ.done (by kernel_rfl) ?_
              refine ⟨(b33, oK0, aK0, pK0, tK0, xK0, mK0, cK0, bK0, qK0, psK0, kaK0, kcK0), ?_, ?_, ?_, Ent.pick [0, 1, 5, 6, 7, 9, 8] [2, 3, 4] rfl⟩
              · exact ⟨by omega, by omega, hlK0, hwK0, by omega, hgK0⟩
              · exact ⟨rfl, rfl, rfl, trivial⟩
              · exact ⟨rfl, trivial⟩
            · refine DO.alloc ([_, _, _, _, _] : List Value) rfl rfl rfl rfl (fun b34 => ?_)
              refine DJ.one (i := 8) (by kernel_rfl) ?_
              refine DO.call (pickF _ [2, 4]) (pickF _ [3, 0, 1]) rfl rfl rfl (perm_pickF _ [2, 4] [3, 0, 1] rfl) (fun k0 hk0 dk0 k hk dk => growG_ok 5 _ _ _ _ _ _ _ _ _ [] _ _ _ _ _ hcode.up (by omega) (by omega) (by simp) (by simp) (by omega) (by omega) (by omega) (by omega) (by omega) (by omega) (by omega)) ?_
              rintro _ _ ⟨oK0, aK0, pK0, tK0, xK0, mK0, cK0, bK0, qK0, psK0, kaK0, kcK0, rfl, rfl, hqK0, hrK0, hlK0, hwK0, hzK0, hgK0⟩
              refine DJ.norm [_, _, _, _] [_, _, _, _, _, _] rfl rfl ?_
              refine DJ.one (i := 10) (by kernel_rfl) ?_
              refine DO.store (v := .agg #[_, _, _, _, _]) (us := [_, _, _, _, _]) 1 rfl rfl rfl rfl rfl rfl rfl rfl rfl rfl ?_
              refine DJ.done (by kernel_rfl) ?_
              refine ⟨(b34, oK0, aK0, pK0, tK0, xK0, mK0, cK0, bK0, qK0, psK0, kaK0, kcK0), ?_, ?_, ?_, Ent.pick [0, 1, 6, 7, 8, 5, 9] [2, 3, 4] rfl⟩
              · exact ⟨by omega, by omega, hlK0, hwK0, by omega, hgK0⟩
              · exact ⟨rfl, rfl, rfl, trivial⟩
              · exact ⟨rfl, trivial⟩
          · refine DO.alloc ([_, _, _, _, _] : List Value) rfl rfl rfl rfl (fun b35 => ?_)
            refine DJ.one (i := 2) (by kernel_rfl) ?_
            refine DO.yd rfl rfl rfl (fun _ _ _ => Yd.loadC 0 rfl rfl rfl) ?_
            refine DJ.one (i := 8) (by kernel_rfl) ?_
            refine DO.call (pickF _ [2, 4]) (pickF _ [3, 0, 1]) rfl rfl rfl (perm_pickF _ [2, 4] [3, 0, 1] rfl) (fun k0 hk0 dk0 k hk dk => growG_ok 5 _ _ _ _ _ _ _ _ _ [] _ _ _ _ _ hcode.up (by omega) (by omega) (by simp) (by simp) (by omega) (by omega) (by omega) (by omega) (by omega) (by omega) (by omega)) ?_
            rintro _ _ ⟨oK0, aK0, pK0, tK0, xK0, mK0, cK0, bK0, qK0, psK0, kaK0, kcK0, rfl, rfl, hqK0, hrK0, hlK0, hwK0, hzK0, hgK0⟩
            refine DJ.norm [_, _, _, _] [_, _, _, _, _, _] rfl rfl ?_
            refine DJ.one (i := 10) (by kernel_rfl) ?_
            refine DO.store (v := .agg #[_, _, _, _, _]) (us := [_, _, _, _, _]) 1 rfl rfl rfl rfl rfl rfl rfl rfl rfl rfl ?_
            refine DJ.done (by kernel_rfl) ?_
            refine ⟨(b35, oK0, aK0, pK0, tK0, xK0, mK0, cK0, bK0, qK0, psK0, kaK0, kcK0), ?_, ?_, ?_, Ent.pick [0, 1, 6, 7, 8, 5, 9] [2, 3, 4] rfl⟩
            · exact ⟨by omega, by omega, hlK0, hwK0, by omega, hgK0⟩
            · exact ⟨rfl, rfl, rfl, trivial⟩
            · exact ⟨rfl, trivial⟩
        · refine DO.alloc ([_, _, _, _, _] : List Value) rfl rfl rfl rfl (fun b36 => ?_)
          refine DJ.two (i := 2) (j := 7) (by kernel_rfl) ?_ ?_
          · refine DO.yd rfl rfl rfl (fun _ _ _ => Yd.loadC 1 rfl rfl rfl) ?_
            refine DJ.one (i := 7) (by kernel_rfl) ?_
            refine DO.call (pickF _ [1, 2, 3, 4]) (pickF _ [0]) rfl rfl rfl (perm_pickF _ [1, 2, 3, 4] [0] rfl) (fun k0 hk0 dk0 k hk dk => one_ok (l := [3, 2, 4, 1, 0]) (hcode.up) (LitAt.of (l := [3, 2, 4, 1, 0]) hk dk 2 rfl) (by simp) (by omega) (by omega)) ?_
            rintro _ _ ⟨x20, rfl, hx20, rfl⟩
            simp only [List.mem_cons, List.not_mem_nil, or_false] at hx20
            refine DJ.norm [_, _, _, _] [_, _, _, _, _] rfl rfl ?_
            refine DJ.one (i := 8) (by kernel_rfl) ?_
            refine DO.call (pickF _ [2, 3]) (pickF _ [4, 0, 1]) rfl rfl rfl (perm_pickF _ [2, 3] [4, 0, 1] rfl) (fun k0 hk0 dk0 k hk dk => growG_ok 5 _ _ _ _ _ _ _ _ _ [] _ _ _ _ _ hcode.up (by omega) (by omega) (by simp) (by simp) (by omega) (by omega) (by omega) (by omega) (by omega) (by omega) (by omega)) ?_
            rintro _ _ ⟨oK0, aK0, pK0, tK0, xK0, mK0, cK0, bK0, qK0, psK0, kaK0, kcK0, rfl, rfl, hqK0, hrK0, hlK0, hwK0, hzK0, hgK0⟩
            refine DJ.norm [_, _, _, _] [_, _, _, _, _, _] rfl rfl ?_
            refine DJ.one (i := 10) (by kernel_rfl) ?_
            refine DO.store (v := .agg #[_, _, _, _, _]) (us := [_, _, _, _, _]) 1 rfl rfl rfl rfl rfl rfl rfl rfl rfl rfl ?_
            refine DJ.done (by kernel_rfl) ?_
            refine ⟨(b36, oK0, aK0, pK0, tK0, xK0, mK0, cK0, bK0, qK0, psK0, kaK0, kcK0), ?_, ?_, ?_, Ent.pick [0, 1, 6, 7, 8, 5, 9] [2, 3, 4] rfl⟩
            · exact ⟨by omega, by omega, hlK0, hwK0, by omega, hgK0⟩
            · exact ⟨rfl, rfl, rfl, trivial⟩
            · exact ⟨rfl, trivial⟩
          · refine DO.call (pickF _ [1, 2, 3, 4]) (pickF _ [0]) rfl rfl rfl (perm_pickF _ [1, 2, 3, 4] [0] rfl) (fun k0 hk0 dk0 k hk dk => one_ok (l := [3, 2, 4, 1, 0]) (hcode.up) (LitAt.of (l := [3, 2, 4, 1, 0]) hk dk 2 rfl) (by simp) (by omega) (by omega)) ?_
            rintro _ _ ⟨x20, rfl, hx20, rfl⟩
            simp only [List.mem_cons, List.not_mem_nil, or_false] at hx20
            refine DJ.norm [_, _, _, _] [_, _, _, _, _] rfl rfl ?_
            refine DJ.one (i := 2) (by kernel_rfl) ?_
            refine DO.yd rfl rfl rfl (fun _ _ _ => Yd.loadC 0 rfl rfl rfl) ?_
            refine DJ.one (i := 8) (by kernel_rfl) ?_
            refine DO.call (pickF _ [2, 3]) (pickF _ [4, 0, 1]) rfl rfl rfl (perm_pickF _ [2, 3] [4, 0, 1] rfl) (fun k0 hk0 dk0 k hk dk => growG_ok 5 _ _ _ _ _ _ _ _ _ [] _ _ _ _ _ hcode.up (by omega) (by omega) (by simp) (by simp) (by omega) (by omega) (by omega) (by omega) (by omega) (by omega) (by omega)) ?_
            rintro _ _ ⟨oK0, aK0, pK0, tK0, xK0, mK0, cK0, bK0, qK0, psK0, kaK0, kcK0, rfl, rfl, hqK0, hrK0, hlK0, hwK0, hzK0, hgK0⟩
            refine DJ.norm [_, _, _, _] [_, _, _, _, _, _] rfl rfl ?_
            refine DJ.one (i := 10) (by kernel_rfl) ?_
            refine DO.store (v := .agg #[_, _, _, _, _]) (us := [_, _, _, _, _]) 1 rfl rfl rfl rfl rfl rfl rfl rfl rfl rfl ?_
            refine DJ.done (by kernel_rfl) ?_
            refine ⟨(b36, oK0, aK0, pK0, tK0, xK0, mK0, cK0, bK0, qK0, psK0, kaK0, kcK0), ?_, ?_, ?_, Ent.pick [0, 1, 6, 7, 8, 5, 9] [2, 3, 4] rfl⟩
            · exact ⟨by omega, by omega, hlK0, hwK0, by omega, hgK0⟩
            · exact ⟨rfl, rfl, rfl, trivial⟩
            · exact ⟨rfl, trivial⟩
      · refine DO.alloc ([_, _, _, _, _] : List Value) rfl rfl rfl rfl (fun b37 => ?_)
        refine DJ.two (i := 2) (j := 6) (by kernel_rfl) ?_ ?_
        · refine DO.yd rfl rfl rfl (fun _ _ _ => Yd.loadC 1 rfl rfl rfl) ?_
          refine DJ.one (i := 6) (by kernel_rfl) ?_
          refine DO.op rfl rfl rfl (fun k0 hk0 dk0 => OpR.buildSlice (cs := [_, _, _, _, _]) rfl rfl) ?_
          rintro _ _ ⟨b38, rfl, rfl⟩
          refine DJ.one (i := 7) (by kernel_rfl) ?_
          refine DO.call (pickF _ [1, 2, 3, 4]) (pickF _ [0]) rfl rfl rfl (perm_pickF _ [1, 2, 3, 4] [0] rfl) (fun k0 hk0 dk0 k hk dk => one_ok (l := [3, 2, 4, 1, 0]) (hcode.up) (LitAt.of (l := [3, 2, 4, 1, 0]) hk dk 3 rfl) (by simp) (by omega) (by omega)) ?_
          rintro _ _ ⟨x20, rfl, hx20, rfl⟩
          simp only [List.mem_cons, List.not_mem_nil, or_false] at hx20
          refine DJ.norm [_, _, _, _] [_, _, _, _, _] rfl rfl ?_
          refine DJ.one (i := 8) (by kernel_rfl) ?_
          refine DO.call (pickF _ [2, 3]) (pickF _ [4, 0, 1]) rfl rfl rfl (perm_pickF _ [2, 3] [4, 0, 1] rfl) (fun k0 hk0 dk0 k hk dk => growG_ok 5 _ _ _ _ _ _ _ _ _ [] _ _ _ _ _ hcode.up (by omega) (by omega) (by simp) (by simp) (by omega) (by omega) (by omega) (by omega) (by omega) (by omega) (by omega)) ?_
          rintro _ _ ⟨oK0, aK0, pK0, tK0, xK0, mK0, cK0, bK0, qK0, psK0, kaK0, kcK0, rfl, rfl, hqK0, hrK0, hlK0, hwK0, hzK0, hgK0⟩
          refine DJ.norm [_, _, _, _] [_, _, _, _, _, _] rfl rfl ?_
          refine DJ.one (i := 10) (by kernel_rfl) ?_
          refine DO.store (v := .agg #[_, _, _, _, _]) (us := [_, _, _, _, _]) 0 rfl rfl rfl rfl rfl rfl rfl rfl rfl rfl ?_
          refine DJ.done (by kernel_rfl) ?_
          refine ⟨(b37, oK0, aK0, pK0, tK0, xK0, mK0, cK0, bK0, qK0, psK0, kaK0, kcK0), ?_, ?_, ?_, Ent.pick [0, 1, 6, 7, 8, 4, 9] [2, 3, 5] rfl⟩
          · exact ⟨by omega, by omega, hlK0, hwK0, by omega, hgK0⟩
          · exact ⟨rfl, rfl, rfl, trivial⟩
          · exact ⟨rfl, trivial⟩
        · refine DO.op rfl rfl rfl (fun k0 hk0 dk0 => OpR.buildSlice (cs := [_, _, _, _, _]) rfl rfl) ?_
          rintro _ _ ⟨b39, rfl, rfl⟩
          refine DJ.two (i := 2) (j := 7) (by kernel_rfl) ?_ ?_
          · refine DO.yd rfl rfl rfl (fun _ _ _ => Yd.loadC 1 rfl rfl rfl) ?_
            refine DJ.one (i := 7) (by kernel_rfl) ?_
            refine DO.call (pickF _ [1, 2, 3, 4]) (pickF _ [0]) rfl rfl rfl (perm_pickF _ [1, 2, 3, 4] [0] rfl) (fun k0 hk0 dk0 k hk dk => one_ok (l := [3, 2, 4, 1, 0]) (hcode.up) (LitAt.of (l := [3, 2, 4, 1, 0]) hk dk 3 rfl) (by simp) (by omega) (by omega)) ?_
            rintro _ _ ⟨x20, rfl, hx20, rfl⟩
            simp only [List.mem_cons, List.not_mem_nil, or_false] at hx20
            refine DJ.norm [_, _, _, _] [_, _, _, _, _] rfl rfl ?_
            refine DJ.one (i := 8) (by kernel_rfl) ?_
            refine DO.call (pickF _ [2, 3]) (pickF _ [4, 0, 1]) rfl rfl rfl (perm_pickF _ [2, 3] [4, 0, 1] rfl) (fun k0 hk0 dk0 k hk dk => growG_ok 5 _ _ _ _ _ _ _ _ _ [] _ _ _ _ _ hcode.up (by omega) (by omega) (by simp) (by simp) (by omega) (by omega) (by omega) (by omega) (by omega) (by omega) (by omega)) ?_
            rintro _ _ ⟨oK0, aK0, pK0, tK0, xK0, mK0, cK0, bK0, qK0, psK0, kaK0, kcK0, rfl, rfl, hqK0, hrK0, hlK0, hwK0, hzK0, hgK0⟩
            refine DJ.norm [_, _, _, _] [_, _, _, _, _, _] rfl rfl ?_
            refine DJ.one (i := 10) (by kernel_rfl) ?_
            refine DO.store (v := .agg #[_, _, _, _, _]) (us := [_, _, _, _, _]) 0 rfl rfl rfl rfl rfl rfl rfl rfl rfl rfl ?_
            refine DJ.done (by kernel_rfl) ?_
            refine ⟨(b37, oK0, aK0, pK0, tK0, xK0, mK0, cK0, bK0, qK0, psK0, kaK0, kcK0), ?_, ?_, ?_, Ent.pick [0, 1, 6, 7, 8, 4, 9] [2, 3, 5] rfl⟩
            · exact ⟨by omega, by omega, hlK0, hwK0, by omega, hgK0⟩
            · exact ⟨rfl, rfl, rfl, trivial⟩
            · exact ⟨rfl, trivial⟩
          · refine DO.call (pickF _ [1, 2, 3, 4]) (pickF _ [0]) rfl rfl rfl (perm_pickF _ [1, 2, 3, 4] [0] rfl) (fun k0 hk0 dk0 k hk dk => one_ok (l := [3, 2, 4, 1, 0]) (hcode.up) (LitAt.of (l := [3, 2, 4, 1, 0]) hk dk 3 rfl) (by simp) (by omega) (by omega)) ?_
            rintro _ _ ⟨x20, rfl, hx20, rfl⟩
            simp only [List.mem_cons, List.not_mem_nil, or_false] at hx20
            refine DJ.norm [_, _, _, _] [_, _, _, _, _] rfl rfl ?_
            refine DJ.one (i := 2) (by kernel_rfl) ?_
            refine DO.yd rfl rfl rfl (fun _ _ _ => Yd.loadC 0 rfl rfl rfl) ?_
            refine DJ.one (i := 8) (by kernel_rfl) ?_
            refine DO.call (pickF _ [2, 3]) (pickF _ [4, 0, 1]) rfl rfl rfl (perm_pickF _ [2, 3] [4, 0, 1] rfl) (fun k0 hk0 dk0 k hk dk => growG_ok 5 _ _ _ _ _ _ _ _ _ [] _ _ _ _ _ hcode.up (by omega) (by omega) (by simp) (by simp) (by omega) (by omega) (by omega) (by omega) (by omega) (by omega) (by omega)) ?_
            rintro _ _ ⟨oK0, aK0, pK0, tK0, xK0, mK0, cK0, bK0, qK0, psK0, kaK0, kcK0, rfl, rfl, hqK0, hrK0, hlK0, hwK0, hzK0, hgK0⟩
            refine DJ.norm [_, _, _, _] [_, _, _, _, _, _] rfl rfl ?_
            refine DJ.one (i := 10) (by kernel_rfl) ?_
            refine DO.store (v := .agg #[_, _, _, _, _]) (us := [_, _, _, _, _]) 0 rfl rfl rfl rfl rfl rfl rfl rfl rfl rfl ?_
            refine DJ.done (by kernel_rfl) ?_
            refine ⟨(b37, oK0, aK0, pK0, tK0, xK0, mK0, cK0, bK0, qK0, psK0, kaK0, kcK0), ?_, ?_, ?_, Ent.pick [0, 1, 6, 7, 8, 4, 9] [2, 3, 5] rfl⟩
            · exact ⟨by omega, by omega, hlK0, hwK0, by omega, hgK0⟩
            · exact ⟨rfl, rfl, rfl, trivial⟩
            · exact ⟨rfl, trivial⟩
    · refine DO.op rfl rfl rfl (fun k0 hk0 dk0 => OpR.buildSlice (cs := [_, _, _, _, _]) rfl rfl) ?_
      rintro _ _ ⟨b40, rfl, rfl⟩
      refine DJ.four (i := 2) (j := 4) (m := 7) (o := 9) (by kernel_rfl) ?_ ?_ ?_ ?_
      · refine DO.yd rfl rfl rfl (fun _ _ _ => Yd.loadC 1 rfl rfl rfl) ?_
        refine DJ.three (i := 4) (j := 7) (m := 9) (by kernel_rfl) ?_ ?_ ?_
        · refine DO.yd rfl rfl rfl (fun _ _ _ => Yd.loadC 1 rfl rfl rfl) ?_
          refine DJ.two (i := 7) (j := 9) (by kernel_rfl) ?_ ?_
          · refine DO.call (pickF _ [1, 2, 3]) (pickF _ [0]) rfl rfl rfl (perm_pickF _ [1, 2, 3] [0] rfl) (fun k0 hk0 dk0 k hk dk => one_ok (l := [3, 2, 4, 1, 0]) (hcode.up) (LitAt.of (l := [3, 2, 4, 1, 0]) hk dk 2 rfl) (by simp) (by omega) (by omega)) ?_
            rintro _ _ ⟨x20, rfl, hx20, rfl⟩
            simp only [List.mem_cons, List.not_mem_nil, or_false] at hx20
            refine DJ.norm [_, _, _, _] [_, _, _, _] rfl rfl ?_
            refine DJ.two (i := 8) (j := 9) (by kernel_rfl) ?_ ?_
            · refine DO.call (pickF _ [2]) (pickF _ [3, 0, 1]) rfl rfl rfl (perm_pickF _ [2] [3, 0, 1] rfl) (fun k0 hk0 dk0 k hk dk => growG_ok 5 _ _ _ _ _ _ _ _ _ [] _ _ _ _ _ hcode.up (by omega) (by omega) (by simp) (by simp) (by omega) (by omega) (by omega) (by omega) (by omega) (by omega) (by omega)) ?_
              rintro _ _ ⟨oK0, aK0, pK0, tK0, xK0, mK0, cK0, bK0, qK0, psK0, kaK0, kcK0, rfl, rfl, hqK0, hrK0, hlK0, hwK0, hzK0, hgK0⟩
              refine DJ.norm [_, _, _, _] [_, _, _, _, _] rfl rfl ?_
              refine DJ.one (i := 9) (by kernel_rfl) ?_
              refine DO.alloc ([_, _, _, _, _] : List Value) rfl rfl rfl rfl (fun b41 => ?_)
              refine DJ.one (i := 10) (by kernel_rfl) ?_
              refine DO.store (v := .agg #[_, _, _, _, _]) (us := [_, _, _, _, _]) 5 rfl rfl rfl rfl rfl rfl rfl rfl rfl rfl ?_
              refine DJ.done (by kernel_rfl) ?_
              refine ⟨(b41, oK0, aK0, pK0, tK0, xK0, mK0, cK0, bK0, qK0, psK0, kaK0, kcK0), ?_, ?_, ?_, Ent.pick [0, 1, 5, 6, 7, 9, 8] [2, 3, 4] rfl⟩
              · exact ⟨by omega, by omega, hlK0, hwK0, by omega, hgK0⟩
              · exact ⟨rfl, rfl, rfl, trivial⟩
              · exact ⟨rfl, trivial⟩
            · refine DO.alloc ([_, _, _, _, _] : List Value) rfl rfl rfl rfl (fun b42 => ?_)
              refine DJ.one (i := 8) (by kernel_rfl) ?_
              refine DO.call (pickF _ [2, 4]) (pickF _ [3, 0, 1]) rfl rfl rfl (perm_pickF _ [2, 4] [3, 0, 1] rfl) (fun k0 hk0 dk0 k hk dk => growG_ok 5 _ _ _ _ _ _ _ _ _ [] _ _ _ _ _ hcode.up (by omega) (by omega) (by simp) (by simp) (by omega) (by omega) (by omega) (by omega) (by omega) (by omega) (by omega)) ?_
              rintro _ _ ⟨oK0, aK0, pK0, tK0, xK0, mK0, cK0, bK0, qK0, psK0, kaK0, kcK0, rfl, rfl, hqK0, hrK0, hlK0, hwK0, hzK0, hgK0⟩
              refine DJ.norm [_, _, _, _] [_, _, _, _, _, _] rfl rfl ?_
              refine DJ.one (i := 10) (by kernel_rfl) ?_
              refine DO.store (v := .agg #[_, _, _, _, _]) (us := [_, _, _, _, _]) 1 rfl rfl rfl rfl rfl rfl rfl rfl rfl rfl ?_
              refine DJ.done (by kernel_rfl) ?_
              refine ⟨(b42, oK0, aK0, pK0, tK0, xK0, mK0, cK0, bK0, qK0, psK0, kaK0, kcK0), ?_, ?_, ?_, Ent.pick [0, 1, 6, 7, 8, 5, 9] [2, 3, 4] rfl⟩
              · exact ⟨by omega, by omega, hlK0, hwK0, by omega, hgK0⟩
              · exact ⟨rfl, rfl, rfl, trivial⟩
              · exact ⟨rfl, trivial⟩
          · refine DO.alloc ([_, _, _, _, _] : List Value) rfl rfl rfl rfl (fun b43 => ?_)
            refine DJ.one (i := 7) (by kernel_rfl) ?_
            refine DO.call (pickF _ [1, 2, 3, 4]) (pickF _ [0]) rfl rfl rfl (perm_pickF _ [1, 2, 3, 4] [0] rfl) (fun k0 hk0 dk0 k hk dk => one_ok (l := [3, 2, 4, 1, 0]) (hcode.up) (LitAt.of (l := [3, 2, 4, 1, 0]) hk dk 2 rfl) (by simp) (by omega) (by omega)) ?_
            rintro _ _ ⟨x20, rfl, hx20, rfl⟩
            simp only [List.mem_cons, List.not_mem_nil, or_false] at hx20
            refine DJ.norm [_, _, _, _] [_, _, _, _, _] rfl rfl ?_
            refine DJ.one (i := 8) (by kernel_rfl) ?_
            refine DO.call (pickF _ [2, 3]) (pickF _ [4, 0, 1]) rfl rfl rfl (perm_pickF _ [2, 3] [4, 0, 1] rfl) (fun k0 hk0 dk0 k hk dk => growG_ok 5 _ _ _ _ _ _ _ _ _ [] _ _ _ _ _ hcode.up (by omega) (by omega) (by simp) (by simp) (by omega) (by omega) (by omega) (by omega) (by omega) (by omega) (by omega)) ?_
            rintro _ _ ⟨oK0, aK0, pK0, tK0, xK0, mK0, cK0, bK0, qK0, psK0, kaK0, kcK0, rfl, rfl, hqK0, hrK0, hlK0, hwK0, hzK0, hgK0⟩
            refine DJ.norm [_, _, _, _] [_, _, _, _, _, _] rfl rfl ?_
            refine DJ.one (i := 10) (by kernel_rfl) ?_
            refine DO.store (v := .agg #[_, _, _, _, _]) (us := [_, _, _, _, _]) 1 rfl rfl rfl rfl rfl rfl rfl rfl rfl rfl ?_
            refine DJ.done (by kernel_rfl) ?_
            refine ⟨(b43, oK0, aK0, pK0, tK0, xK0, mK0, cK0, bK0, qK0, psK0, kaK0, kcK0), ?_, ?_, ?_, Ent.pick [0, 1, 6, 7, 8, 5, 9] [2, 3, 4] rfl⟩
            · exact ⟨by omega, by omega, hlK0, hwK0, by omega, hgK0⟩
            · exact ⟨rfl, rfl, rfl, trivial⟩
            · exact ⟨rfl, trivial⟩
        · refine DO.call (pickF _ [1, 2, 3]) (pickF _ [0]) rfl rfl rfl (perm_pickF _ [1, 2, 3] [0] rfl) (fun k0 hk0 dk0 k hk dk => one_ok (l := [3, 2, 4, 1, 0]) (hcode.up) (LitAt.of (l := [3, 2, 4, 1, 0]) hk dk 2 rfl) (by simp) (by omega) (by omega)) ?_
          rintro _ _ ⟨x20, rfl, hx20, rfl⟩
          simp only [List.mem_cons, List.not_mem_nil, or_false] at hx20
          refine DJ.norm [_, _, _, _] [_, _, _, _] rfl rfl ?_
          refine DJ.two (i := 4) (j := 9) (by kernel_rfl) ?_ ?_
          · refine DO.yd rfl rfl rfl (fun _ _ _ => Yd.loadC 0 rfl rfl rfl) ?_
            refine DJ.two (i := 8) (j := 9) (by kernel_rfl) ?_ ?_
            · refine DO.call (pickF _ [2]) (pickF _ [3, 0, 1]) rfl rfl rfl (perm_pickF _ [2] [3, 0, 1] rfl) (fun k0 hk0 dk0 k hk dk => growG_ok 5 _ _ _ _ _ _ _ _ _ [] _ _ _ _ _ hcode.up (by omega) (by omega) (by simp) (by simp) (by omega) (by omega) (by omega) (by omega) (by omega) (by omega) (by omega)) ?_
              rintro _ _ ⟨oK0, aK0, pK0, tK0, xK0, mK0, cK0, bK0, qK0, psK0, kaK0, kcK0, rfl, rfl, hqK0, hrK0, hlK0, hwK0, hzK0, hgK0⟩
              refine DJ.norm [_, _, _, _] [_, _, _, _, _] rfl rfl ?_
              refine DJ.one (i := 9) (by kernel_rfl) ?_
              refine DO.alloc ([_, _, _, _, _] : List Value) rfl rfl rfl rfl (fun b44 => ?_)
              refine DJ.one (i := 10) (by kernel_rfl) ?_
              refine DO.store (v := .agg #[_, _, _, _, _]) (us := [_, _, _, _, _]) 5 rfl rfl rfl rfl rfl rfl rfl rfl rfl rfl ?_
              refine DJ.done (by kernel_rfl) ?_
              refine ⟨(b44, oK0, aK0, pK0, tK0, xK0, mK0, cK0, bK0, qK0, psK0, kaK0, kcK0), ?_, ?_, ?_, Ent.pick [0, 1, 5, 6, 7, 9, 8] [2, 3, 4] rfl⟩
              · exact ⟨by omega, by omega, hlK0, hwK0, by omega, hgK0⟩
              · exact ⟨rfl, rfl, rfl, trivial⟩
              · exact ⟨rfl, trivial⟩
            · refine DO.alloc ([_, _, _, _, _] : List Value) rfl rfl rfl rfl (fun b45 => ?_)
              refine DJ.one (i := 8) (by kernel_rfl) ?_
              refine DO.call (pickF _ [2, 4]) (pickF _ [3, 0, 1]) rfl rfl rfl (perm_pickF _ [2, 4] [3, 0, 1] rfl) (fun k0 hk0 dk0 k hk dk => growG_ok 5 _ _ _ _ _ _ _ _ _ [] _ _ _ _ _ hcode.up (by omega) (by omega) (by simp) (by simp) (by omega) (by omega) (by omega) (by omega) (by omega) (by omega) (by omega)) ?_
              rintro _ _ ⟨oK0, aK0, pK0, tK0, xK0, mK0, cK0, bK0, qK0, psK0, kaK0, kcK0, rfl, rfl, hqK0, hrK0, hlK0, hwK0, hzK0, hgK0⟩
              refine DJ.norm [_, _, _, _] [_, _, _, _, _, _] rfl rfl ?_
              refine DJ.one (i := 10) (by kernel_rfl) ?_
              refine DO.store (v := .agg #[_, _, _, _, _]) (us := [_, _, _, _, _]) 1 rfl rfl rfl rfl rfl rfl rfl rfl rfl rfl ?_
              refine DJ.done (by kernel_rfl) ?_
              refine ⟨(b45, oK0, aK0, pK0, tK0, xK0, mK0, cK0, bK0, qK0, psK0, kaK0, kcK0), ?_, ?_, ?_, Ent.pick [0, 1, 6, 7, 8, 5, 9] [2, 3, 4] rfl⟩
              · exact ⟨by omega, by omega, hlK0, hwK0, by omega, hgK0⟩
              · exact ⟨rfl, rfl, rfl, trivial⟩
              · exact ⟨rfl, trivial⟩
          · refine DO.alloc ([_, _, _, _, _] : List Value) rfl rfl rfl rfl (fun b46 => ?_)
            refine DJ.one (i := 4) (by kernel_rfl) ?_
            refine DO.yd rfl rfl rfl (fun _ _ _ => Yd.loadC 0 rfl rfl rfl) ?_
            refine DJ.one (i := 8) (by kernel_rfl) ?_
            refine DO.call (pickF _ [2, 4]) (pickF _ [3, 0, 1]) rfl rfl rfl (perm_pickF _ [2, 4] [3, 0, 1] rfl) (fun k0 hk0 dk0 k hk dk => growG_ok 5 _ _ _ _ _ _ _ _ _ [] _ _ _ _ _ hcode.up (by omega) (by omega) (by simp) (by simp) (by omega) (by omega) (by omega) (by omega) (by omega) (by omega) (by omega)) ?_
            rintro _ _ ⟨oK0, aK0, pK0, tK0, xK0, mK0, cK0, bK0, qK0, psK0, kaK0, kcK0, rfl, rfl, hqK0, hrK0, hlK0, hwK0, hzK0, hgK0⟩
            refine DJ.norm [_, _, _, _] [_, _, _, _, _, _] rfl rfl ?_
            refine DJ.one (i := 10) (by kernel_rfl) ?_
            refine DO.store (v := .agg #[_, _, _, _, _]) (us := [_, _, _, _, _]) 1 rfl rfl rfl rfl rfl rfl rfl rfl rfl rfl ?_
            refine DJ.done (by kernel_rfl) ?_
            refine ⟨(b46, oK0, aK0, pK0, tK0, xK0, mK0, cK0, bK0, qK0, psK0, kaK0, kcK0), ?_, ?_, ?_, Ent.pick [0, 1, 6, 7, 8, 5, 9] [2, 3, 4] rfl⟩
            · exact ⟨by omega, by omega, hlK0, hwK0, by omega, hgK0⟩
            · exact ⟨rfl, rfl, rfl, trivial⟩
            · exact ⟨rfl, trivial⟩
        · refine DO.alloc ([_, _, _, _, _] : List Value) rfl rfl rfl rfl (fun b47 => ?_)
          refine DJ.two (i := 4) (j := 7) (by kernel_rfl) ?_ ?_
          · refine DO.yd rfl rfl rfl (fun _ _ _ => Yd.loadC 1 rfl rfl rfl) ?_
            refine DJ.one (i := 7) (by kernel_rfl) ?_
            refine DO.call (pickF _ [1, 2, 3, 4]) (pickF _ [0]) rfl rfl rfl (perm_pickF _ [1, 2, 3, 4] [0] rfl) (fun k0 hk0 dk0 k hk dk => one_ok (l := [3, 2, 4, 1, 0]) (hcode.up) (LitAt.of (l := [3, 2, 4, 1, 0]) hk dk 2 rfl) (by simp) (by omega) (by omega)) ?_
            rintro _ _ ⟨x20, rfl, hx20, rfl⟩
            simp only [List.mem_cons, List.not_mem_nil, or_false] at hx20
            refine DJ.norm [_, _, _, _] [_, _, _, _, _] rfl rfl ?_
            refine DJ.one (i := 8) (by kernel_rfl) ?_
            refine DO.call (pickF _ [2, 3]) (pickF _ [4, 0, 1]) rfl rfl rfl (perm_pickF _ [2, 3] [4, 0, 1] rfl) (fun k0 hk0 dk0 k hk dk => growG_ok 5 _ _ _ _ _ _ _ _ _ [] _ _ _ _ _ hcode.up (by omega) (by omega) (by simp) (by simp) (by omega) (by omega) (by omega) (by omega) (by omega) (by omega) (by omega)) ?_
            rintro _ _ ⟨oK0, aK0, pK0, tK0, xK0, mK0, cK0, bK0, qK0, psK0, kaK0, kcK0, rfl, rfl, hqK0, hrK0, hlK0, hwK0, hzK0, hgK0⟩
            refine DJ.norm [_, _, _, _] [_, _, _, _, _, _] rfl rfl ?_
            refine DJ.one (i := 10) (by kernel_rfl) ?_
            refine DO.store (v := .agg #[_, _, _, _, _]) (us := [_, _, _, _, _]) 1 rfl rfl rfl rfl rfl rfl rfl rfl rfl rfl ?_
            refine DJ.done (by kernel_rfl) ?_
            refine ⟨(b47, oK0, aK0, pK0, tK0, xK0, mK0, cK0, bK0, qK0, psK0, kaK0, kcK0), ?_, ?_, ?_, Ent.pick [0, 1, 6, 7, 8, 5, 9] [2, 3, 4] rfl⟩
            · exact ⟨by omega, by omega, hlK0, hwK0, by omega, hgK0⟩
            · exact ⟨rfl, rfl, rfl, trivial⟩
            · exact ⟨rfl, trivial⟩
          · refine DO.call (pickF _ [1, 2, 3, 4]) (pickF _ [0]) rfl rfl rfl (perm_pickF _ [1, 2, 3, 4] [0] rfl) (fun k0 hk0 dk0 k hk dk => one_ok (l := [3, 2, 4, 1, 0]) (hcode.up) (LitAt.of (l := [3, 2, 4, 1, 0]) hk dk 2 rfl) (by simp) (by omega) (by omega)) ?_
            rintro _ _ ⟨x20, rfl, hx20, rfl⟩
            simp only [List.mem_cons, List.not_mem_nil, or_false] at hx20
            refine DJ.norm [_, _, _, _] [_, _, _, _, _] rfl rfl ?_
            refine DJ.one (i := 4) (by kernel_rfl) ?_
            refine DO.yd rfl rfl rfl (fun _ _ _ => Yd.loadC 0 rfl rfl rfl) ?_
            refine DJ.one (i := 8) (by kernel_rfl) ?_
            refine DO.call (pickF _ [2, 3]) (pickF _ [4, 0, 1]) rfl rfl rfl (perm_pickF _ [2, 3] [4, 0, 1] rfl) (fun k0 hk0 dk0 k hk dk => growG_ok 5 _ _ _ _ _ _ _ _ _ [] _ _ _ _ _ hcode.up (by omega) (by omega) (by simp) (by simp) (by omega) (by omega) (by omega) (by omega) (by omega) (by omega) (by omega)) ?_
            rintro _ _ ⟨oK0, aK0, pK0, tK0, xK0, mK0, cK0, bK0, qK0, psK0, kaK0, kcK0, rfl, rfl, hqK0, hrK0, hlK0, hwK0, hzK0, hgK0⟩
            refine DJ.norm [_, _, _, _] [_, _, _, _, _, _] rfl rfl ?_
            refine DJ.one (i := 10) (by kernel_rfl) ?_
            refine DO.store (v := .agg #[_, _, _, _, _]) (us := [_, _, _, _, _]) 1 rfl rfl rfl rfl rfl rfl rfl rfl rfl rfl ?_
            refine DJ.done (by kernel_rfl) ?_
            refine ⟨(b47, oK0, aK0, pK0, tK0, xK0, mK0, cK0, bK0, qK0, psK0, kaK0, kcK0), ?_, ?_, ?_, Ent.pick [0, 1, 6, 7, 8, 5, 9] [2, 3, 4] rfl⟩
            · exact ⟨by omega, by omega, hlK0, hwK0, by omega, hgK0⟩
            · exact ⟨rfl, rfl, rfl, trivial⟩
            · exact ⟨rfl, trivial⟩
      · refine DO.yd rfl rfl rfl (fun _ _ _ => Yd.loadC 1 rfl rfl rfl) ?_
        refine DJ.three (i := 2) (j := 7) (m := 9) (by kernel_rfl) ?_ ?_ ?_
        · refine DO.yd rfl rfl rfl (fun _ _ _ => Yd.loadC 1 rfl rfl rfl) ?_
          refine DJ.two (i := 7) (j := 9) (by kernel_rfl) ?_ ?_
          · refine DO.call (pickF _ [1, 2, 3]) (pickF _ [0]) rfl rfl rfl (perm_pickF _ [1, 2, 3] [0] rfl) (fun k0 hk0 dk0 k hk dk => one_ok (l := [3, 2, 4, 1, 0]) (hcode.up) (LitAt.of (l := [3, 2, 4, 1, 0]) hk dk 2 rfl) (by simp) (by omega) (by omega)) ?_
            rintro _ _ ⟨x20, rfl, hx20, rfl⟩
            simp only [List.mem_cons, List.not_mem_nil, or_false] at hx20
            refine DJ.norm [_, _, _, _] [_, _, _, _] rfl rfl ?_
            refine DJ.two (i := 8) (j := 9) (by kernel_rfl) ?_ ?_
            · refine DO.call (pickF _ [2]) (pickF _ [3, 0, 1]) rfl rfl rfl (perm_pickF _ [2] [3, 0, 1] rfl) (fun k0 hk0 dk0 k hk dk => growG_ok 5 _ _ _ _ _ _ _ _ _ [] _ _ _ _ _ hcode.up (by omega) (by omega) (by simp) (by simp) (by omega) (by omega) (by omega) (by omega) (by omega) (by omega) (by omega)) ?_
              rintro _ _ ⟨oK0, aK0, pK0, tK0, xK0, mK0, cK0, bK0, qK0, psK0, kaK0, kcK0, rfl, rfl, hqK0, hrK0, hlK0, hwK0, hzK0, hgK0⟩
              refine DJ.norm [_, _, _, _] [_, _, _, _, _] rfl rfl ?_
              refine DJ.one (i := 9) (by kernel_rfl) ?_
              refine DO.alloc ([_, _, _, _, _] : List Value) rfl rfl rfl rfl (fun b48 => ?_)
              refine DJ.one (i := 10) (by kernel_rfl) ?_
              refine DO.store (v := .agg #[_, _, _, _, _]) (us := [_, _, _, _, _]) 5 rfl rfl rfl rfl rfl rfl rfl rfl rfl rfl ?_
              refine DJ.done (by kernel_rfl) ?_
              refine ⟨(b48, oK0, aK0, pK0, tK0, xK0, mK0, cK0, bK0, qK0, psK0, kaK0, kcK0), ?_, ?_, ?_, Ent.pick [0, 1, 5, 6, 7, 9, 8] [2, 3, 4] rfl⟩
              · exact ⟨by omega, by omega, hlK0, hwK0, by omega, hgK0⟩
              · exact ⟨rfl, rfl, rfl, trivial⟩
              · exact ⟨rfl, trivial⟩
            · refine DO.alloc ([_, _, _, _, _] : List Value) rfl rfl rfl rfl (fun b49 => ?_)
              refine DJ.one (i := 8) (by kernel_rfl) ?_
              refine DO.call (pickF _ [2, 4]) (pickF _ [3, 0, 1]) rfl rfl rfl (perm_pickF _ [2, 4] [3, 0, 1] rfl) (fun k0 hk0 dk0 k hk dk => growG_ok 5 _ _ _ _ _ _ _ _ _ [] _ _ _ _ _ hcode.up (by omega) (by omega) (by simp) (by simp) (by omega) (by omega) (by omega) (by omega) (by omega) (by omega) (by omega)) ?_
              rintro _ _ ⟨oK0, aK0, pK0, tK0, xK0, mK0, cK0, bK0, qK0, psK0, kaK0, kcK0, rfl, rfl, hqK0, hrK0, hlK0, hwK0, hzK0, hgK0⟩
              refine DJ.norm [_, _, _, _] [_, _, _, _, _, _] rfl rfl ?_
              refine DJ.one (i := 10) (by kernel_rfl) ?_
              refine DO.store (v := .agg #[_, _, _, _, _]) (us := [_, _, _, _, _]) 1 rfl rfl rfl rfl rfl rfl rfl rfl rfl rfl ?_
              refine DJ.done (by kernel_rfl) ?_
              refine ⟨(b49, oK0, aK0, pK0, tK0, xK0, mK0, cK0, bK0, qK0, psK0, kaK0, kcK0), ?_, ?_, ?_, Ent.pick [0, 1, 6, 7, 8, 5, 9] [2, 3, 4] rfl⟩
              · exact ⟨by omega, by omega, hlK0, hwK0, by omega, hgK0⟩
              · exact ⟨rfl, rfl, rfl, trivial⟩
              · exact ⟨rfl, trivial⟩
          · refine DO.alloc ([_, _, _, _, _] : List Value) rfl rfl rfl rfl (fun b50 => ?_)
            refine DJ.one (i := 7) (by kernel_rfl) ?_
            refine DO.call (pickF _ [1, 2, 3, 4]) (pickF _ [0]) rfl rfl rfl (perm_pickF _ [1, 2, 3, 4] [0] rfl) (fun k0 hk0 dk0 k hk dk => one_ok (l := [3, 2, 4, 1, 0]) (hcode.up) (LitAt.of (l := [3, 2, 4, 1, 0]) hk dk 2 rfl) (by simp) (by omega) (by omega)) ?_
            rintro _ _ ⟨x20, rfl, hx20, rfl⟩
            simp only [List.mem_cons, List.not_mem_nil, or_false] at hx20
            refine DJ.norm [_, _, _, _] [_, _, _, _, _] rfl rfl ?_
            refine DJ.one (i := 8) (by kernel_rfl) ?_
            refine DO.call (pickF _ [2, 3]) (pickF _ [4, 0, 1]) rfl rfl rfl (perm_pickF _ [2, 3] [4, 0, 1] rfl) (fun k0 hk0 dk0 k hk dk => growG_ok 5 _ _ _ _ _ _ _ _ _ [] _ _ _ _ _ hcode.up (by omega) (by omega) (by simp) (by simp) (by omega) (by omega) (by omega) (by omega) (by omega) (by omega) (by omega)) ?_
            rintro _ _ ⟨oK0, aK0, pK0, tK0, xK0, mK0, cK0, bK0, qK0, psK0, kaK0, kcK0, rfl, rfl, hqK0, hrK0, hlK0, hwK0, hzK0, hgK0⟩
            refine DJ.norm [_, _, _, _] [_, _, _, _, _, _] rfl rfl ?_
            refine DJ.one (i := 10) (by kernel_rfl) ?_
            refine DO.store (v := .agg #[_, _, _, _, _]) (us := [_, _, _, _, _]) 1 rfl rfl rfl rfl rfl rfl rfl rfl rfl rfl ?_
            refine DJ.done (by kernel_rfl) ?_
            refine ⟨(b50, oK0, aK0, pK0, tK0, xK0, mK0, cK0, bK0, qK0, psK0, kaK0, kcK0), ?_, ?_, ?_, Ent.pick [0, 1, 6, 7, 8, 5, 9] [2, 3, 4] rfl⟩
            · exact ⟨by omega, by omega, hlK0, hwK0, by omega, hgK0⟩
            · exact ⟨rfl, rfl, rfl, trivial⟩
            · exact ⟨rfl, trivial⟩
        · refine DO.call (pickF _ [1, 2, 3]) (pickF _ [0]) rfl rfl rfl (perm_pickF _ [1, 2, 3] [0] rfl) (fun k0 hk0 dk0 k hk dk => one_ok (l := [3, 2, 4, 1, 0]) (hcode.up) (LitAt.of (l := [3, 2, 4, 1, 0]) hk dk 2 rfl) (by simp) (by omega) (by omega)) ?_
          rintro _ _ ⟨x20, rfl, hx20, rfl⟩
          simp only [List.mem_cons, List.not_mem_nil, or_false] at hx20
          refine DJ.norm [_, _, _, _] [_, _, _, _] rfl rfl ?_
          refine DJ.two (i := 2) (j := 9) (by kernel_rfl) ?_ ?_
          · refine DO.yd rfl rfl rfl (fun _ _ _ => Yd.loadC 0 rfl rfl rfl) ?_
            refine DJ.two (i := 8) (j := 9) (by kernel_rfl) ?_ ?_
            · refine DO.call (pickF _ [2]) (pickF _ [3, 0, 1]) rfl rfl rfl (perm_pickF _ [2] [3, 0, 1] rfl) (fun k0 hk0 dk0 k hk dk => growG_ok 5 _ _ _ _ _ _ _ _ _ [] _ _ _ _ _ hcode.up (by omega) (by omega) (by simp) (by simp) (by omega) (by omega) (by omega) (by omega) (by omega) (by omega) (by omega)) ?_
              rintro _ _ ⟨oK0, aK0, pK0, tK0, xK0, mK0, cK0, bK0, qK0, psK0, kaK0, kcK0, rfl, rfl, hqK0, hrK0, hlK0, hwK0, hzK0, hgK0⟩
              refine DJ.norm [_, _, _, _] [_, _, _, _, _] rfl rfl ?_
              refine DJ.one (i := 9) (by kernel_rfl) ?_
              refine DO.alloc ([_, _, _, _, _] : List Value) rfl rfl rfl rfl (fun b51 => ?_)
              refine DJ.one (i := 10) (by kernel_rfl) ?_
              refine DO.store (v := .agg #[_, _, _, _, _]) (us := [_, _, _, _, _]) 5 rfl rfl rfl rfl rfl rfl rfl rfl rfl rfl ?_
              refine DJ.done (by kernel_rfl) ?_
              refine ⟨(b51, oK0, aK0, pK0, tK0, xK0, mK0, cK0, bK0, qK0, psK0, kaK0, kcK0), ?_, ?_, ?_, Ent.pick [0, 1, 5, 6, 7, 9, 8] [2, 3, 4] rfl⟩
              · exact ⟨by omega, by omega, hlK0, hwK0, by omega, hgK0⟩
              · exact ⟨rfl, rfl, rfl, trivial⟩
              · exact ⟨rfl, trivial⟩
            · refine DO.alloc ([_, _, _, _, _] : List Value) rfl rfl rfl rfl (fun b52 => ?_)
              refine DJ.one (i := 8) (by kernel_rfl) ?_
              refine DO.call (pickF _ [2, 4]) (pickF _ [3, 0, 1]) rfl rfl rfl (perm_pickF _ [2, 4] [3, 0, 1] rfl) (fun k0 hk0 dk0 k hk dk => growG_ok 5 _ _ _ _ _ _ _ _ _ [] _ _ _ _ _ hcode.up (by omega) (by omega) (by simp) (by simp) (by omega) (by omega) (by omega) (by omega) (by omega) (by omega) (by omega)) ?_
              rintro _ _ ⟨oK0, aK0, pK0, tK0, xK0, mK0, cK0, bK0, qK0, psK0, kaK0, kcK0, rfl, rfl, hqK0, hrK0, hlK0, hwK0, hzK0, hgK0⟩
              refine DJ.norm [_, _, _, _] [_, _, _, _, _, _] rfl rfl ?_
              refine DJ.one (i := 10) (by kernel_rfl) ?_
              refine DO.store (v := .agg #[_, _, _, _, _]) (us := [_, _, _, _, _]) 1 rfl rfl rfl rfl rfl rfl rfl rfl rfl rfl ?_
              refine DJ.done (by kernel_rfl) ?_
              refine ⟨(b52, oK0, aK0, pK0, tK0, xK0, mK0, cK0, bK0, qK0, psK0, kaK0, kcK0), ?_, ?_, ?_, Ent.pick [0, 1, 6, 7, 8, 5, 9] [2, 3, 4] rfl⟩
              · exact ⟨by omega, by omega, hlK0, hwK0, by omega, hgK0⟩
              · exact ⟨rfl, rfl, rfl, trivial⟩
              · exact ⟨rfl, trivial⟩
          · refine DO.alloc ([_, _, _, _, _] : List Value) rfl rfl rfl rfl (fun b53 => ?_)
            refine DJ.one (i := 2) (by kernel_rfl) ?_
            refine DO.yd rfl rfl rfl (fun _ _ _ => Yd.loadC 0 rfl rfl rfl) ?_
            refine DJ.one (i := 8) (by kernel_rfl) ?_
            refine DO.call (pickF _ [2, 4]) (pickF _ [3, 0, 1]) rfl rfl rfl (perm_pickF _ [2, 4] [3, 0, 1] rfl) (fun k0 hk0 dk0 k hk dk => growG_ok 5 _ _ _ _ _ _ _ _ _ [] _ _ _ _ _ hcode.up (by omega) (by omega) (by simp) (by simp) (by omega) (by omega) (by omega) (by omega) (by omega) (by omega) (by omega)) ?_
            rintro _ _ ⟨oK0, aK0, pK0, tK0, xK0, mK0, cK0, bK0, qK0, psK0, kaK0, kcK0, rfl, rfl, hqK0, hrK0, hlK0, hwK0, hzK0, hgK0⟩
            refine DJ.norm [_, _, _, _] [_, _, _, _, _, _] rfl rfl ?_
            refine DJ.one (i := 10) (by kernel_rfl) ?_
            refine DO.store (v := .agg #[_, _, _, _, _]) (us := [_, _, _, _, _]) 1 rfl rfl rfl rfl rfl rfl rfl rfl rfl rfl ?_
            refine DJ.done (by kernel_rfl) ?_
            refine ⟨(b53, oK0, aK0, pK0, tK0, xK0, mK0, cK0, bK0, qK0, psK0, kaK0, kcK0), ?_, ?_, ?_, Ent.pick [0, 1, 6, 7, 8, 5, 9] [2, 3, 4] rfl⟩
            · exact ⟨by omega, by omega, hlK0, hwK0, by omega, hgK0⟩
            · exact ⟨rfl, rfl, rfl, trivial⟩
            · exact ⟨rfl, trivial⟩
        · refine DO.alloc ([_, _, _, _, _] : List Value) rfl rfl rfl rfl (fun b54 => ?_)
          refine DJ.two (i := 2) (j := 7) (by kernel_rfl) ?_ ?_
          · refine DO.yd rfl rfl rfl (fun _ _ _ => Yd.loadC 1 rfl rfl rfl) ?_
            refine DJ.one (i := 7) (by kernel_rfl) ?_
            refine DO.call (pickF _ [1, 2, 3, 4]) (pickF _ [0]) rfl rfl rfl (perm_pickF _ [1, 2, 3, 4] [0] rfl) (fun k0 hk0 dk0 k hk dk => one_ok (l := [3, 2, 4, 1, 0]) (hcode.up) (LitAt.of (l := [3, 2, 4, 1, 0]) hk dk 2 rfl) (by simp) (by omega) (by omega)) ?_
            rintro _ _ ⟨x20, rfl, hx20, rfl⟩
            simp only [List.mem_cons, List.not_mem_nil, or_false] at hx20
            refine DJ.norm [_, _, _, _] [_, _, _, _, _] rfl rfl ?_
            refine DJ.one (i := 8) (by kernel_rfl) ?_
            refine DO.call (pickF _ [2, 3]) (pickF _ [4, 0, 1]) rfl rfl rfl (perm_pickF _ [2, 3] [4, 0, 1] rfl) (fun k0 hk0 dk0 k hk dk => growG_ok 5 _ _ _ _ _ _ _ _ _ [] _ _ _ _ _ hcode.up (by omega) (by omega) (by simp) (by simp) (by omega) (by omega) (by omega) (by omega) (by omega) (by omega) (by omega)) ?_
            rintro _ _ ⟨oK0, aK0, pK0, tK0, xK0, mK0, cK0, bK0, qK0, psK0, kaK0, kcK0, rfl, rfl, hqK0, hrK0, hlK0, hwK0, hzK0, hgK0⟩
            refine DJ.norm [_, _, _, _] [_, _, _, _, _, _] rfl rfl ?_
            refine DJ.one (i := 10) (by kernel_rfl) ?_
            refine DO.store (v := .agg #[_, _, _, _, _]) (us := [_, _, _, _, _]) 1 rfl rfl rfl rfl rfl rfl rfl rfl rfl rfl ?_
            refine DJ.done (by kernel_rfl) ?_
            refine ⟨(b54, oK0, aK0, pK0, tK0, xK0, mK0, cK0, bK0, qK0, psK0, kaK0, kcK0), ?_, ?_, ?_, Ent.pick [0, 1, 6, 7, 8, 5, 9] [2, 3, 4] rfl⟩
            · exact ⟨by omega, by omega, hlK0, hwK0, by omega, hgK0⟩
            · exact ⟨rfl, rfl, rfl, trivial⟩
            · exact ⟨rfl, trivial⟩
          · refine DO.call (pickF _ [1, 2, 3, 4]) (pickF _ [0]) rfl rfl rfl (perm_pickF _ [1, 2, 3, 4] [0] rfl) (fun k0 hk0 dk0 k hk dk => one_ok (l := [3, 2, 4, 1, 0]) (hcode.up) (LitAt.of (l := [3, 2, 4, 1, 0]) hk dk 2 rfl) (by simp) (by omega) (by omega)) ?_
            rintro _ _ ⟨x20, rfl, hx20, rfl⟩
            simp only [List.mem_cons, List.not_mem_nil, or_false] at hx20
            refine DJ.norm [_, _, _, _] [_, _, _, _, _] rfl rfl ?_
            refine DJ.one (i := 2) (by kernel_rfl) ?_
            refine DO.yd rfl rfl rfl (fun _ _ _ => Yd.loadC 0 rfl rfl rfl) ?_
            refine DJ.one (i := 8) (by kernel_rfl) ?_
            refine DO.call (pickF _ [2, 3]) (pickF _ [4, 0, 1]) rfl rfl rfl (perm_pickF _ [2, 3] [4, 0, 1] rfl) (fun k0 hk0 dk0 k hk dk => growG_ok 5 _ _ _ _ _ _ _ _ _ [] _ _ _ _ _ hcode.up (by omega) (by omega) (by simp) (by simp) (by omega) (by omega) (by omega) (by omega) (by omega) (by omega) (by omega)) ?_
            rintro _ _ ⟨oK0, aK0, pK0, tK0, xK0, mK0, cK0, bK0, qK0, psK0, kaK0, kcK0, rfl, rfl, hqK0, hrK0, hlK0, hwK0, hzK0, hgK0⟩
            refine DJ.norm [_, _, _, _] [_, _, _, _, _, _] rfl rfl ?_
            refine DJ.one (i := 10) (by kernel_rfl) ?_
            refine DO.store (v := .agg #[_, _, _, _, _]) (us := [_, _, _, _, _]) 1 rfl rfl rfl rfl rfl rfl rfl rfl rfl rfl ?_
            refine DJ.done (by kernel_rfl) ?_
            refine ⟨(b54, oK0, aK0, pK0, tK0, xK0, mK0, cK0, bK0, qK0, psK0, kaK0, kcK0), ?_, ?_, ?_, Ent.pick [0, 1, 6, 7, 8, 5, 9] [2, 3, 4] rfl⟩
            · exact ⟨by omega, by omega, hlK0, hwK0, by omega, hgK0⟩
            · exact ⟨rfl, rfl, rfl, trivial⟩
            · exact ⟨rfl, trivial⟩
      · refine DO.call (pickF _ [1, 2, 3]) (pickF _ [0]) rfl rfl rfl (perm_pickF _ [1, 2, 3] [0] rfl) (fun k0 hk0 dk0 k hk dk => one_ok (l := [3, 2, 4, 1, 0]) (hcode.up) (LitAt.of (l := [3, 2, 4, 1, 0]) hk dk 2 rfl) (by simp) (by omega) (by omega)) ?_
        rintro _ _ ⟨x20, rfl, hx20, rfl⟩
        simp only [List.mem_cons, List.not_mem_nil, or_false] at hx20
        refine DJ.norm [_, _, _, _] [_, _, _, _] rfl rfl ?_
        refine DJ.three (i := 2) (j := 4) (m := 9) (by kernel_rfl) ?_ ?_ ?_
        · refine DO.yd rfl rfl rfl (fun _ _ _ => Yd.loadC 0 rfl rfl rfl) ?_
          refine DJ.two (i := 4) (j := 9) (by kernel_rfl) ?_ ?_
          · refine DO.yd rfl rfl rfl (fun _ _ _ => Yd.loadC 0 rfl rfl rfl) ?_
            refine DJ.two (i := 8) (j := 9) (by kernel_rfl) ?_ ?_
            · refine DO.call (pickF _ [2]) (pickF _ [3, 0, 1]) rfl rfl rfl (perm_pickF _ [2] [3, 0, 1] rfl) (fun k0 hk0 dk0 k hk dk => growG_ok 5 _ _ _ _ _ _ _ _ _ [] _ _ _ _ _ hcode.up (by omega) (by omega) (by simp) (by simp) (by omega) (by omega) (by omega) (by omega) (by omega) (by omega) (by omega)) ?_
              rintro _ _ ⟨oK0, aK0, pK0, tK0, xK0, mK0, cK0, bK0, qK0, psK0, kaK0, kcK0, rfl, rfl, hqK0, hrK0, hlK0, hwK0, hzK0, hgK0⟩
              refine DJ.norm [_, _, _, _] [_, _, _, _, _] rfl rfl ?_
              refine DJ.one (i := 9) (by kernel_rfl) ?_
              refine DO.alloc ([_, _, _, _, _] : List Value) rfl rfl rfl rfl (fun b55 => ?_)
              refine DJ.one (i := 10) (by kernel_rfl) ?_
              refine DO.store (v := .agg #[_, _, _, _, _]) (us := [_, _, _, _, _]) 5 rfl rfl rfl rfl rfl rfl rfl rfl rfl rfl ?_
              refine DJ.done (by kernel_rfl) ?_
              refine ⟨(b55, oK0, aK0, pK0, tK0, xK0, mK0, cK0, bK0, qK0, psK0, kaK0, kcK0), ?_, ?_, ?_, Ent.pick [0, 1, 5, 6, 7, 9, 8] [2, 3, 4] rfl⟩
              · exact ⟨by omega, by omega, hlK0, hwK0, by omega, hgK0⟩
              · exact ⟨rfl, rfl, rfl, trivial⟩
              · exact ⟨rfl, trivial⟩
            · refine DO.alloc ([_, _, _, _, _] : List Value) rfl rfl rfl rfl (fun b56 => ?_)
              refine DJ.one (i := 8) (by kernel_rfl) ?_
              refine DO.call (pickF _ [2, 4]) (pickF _ [3, 0, 1]) rfl rfl rfl (perm_pickF _ [2, 4] [3, 0, 1] rfl) (fun k0 hk0 dk0 k hk dk => growG_ok 5 _ _ _ _ _ _ _ _ _ [] _ _ _ _ _ hcode.up (by omega) (by omega) (by simp) (by simp) (by omega) (by omega) (by omega) (by omega) (by omega) (by omega) (by omega)) ?_
              rintro _ _ ⟨oK0, aK0, pK0, tK0, xK0, mK0, cK0, bK0, qK0, psK0, kaK0, kcK0, rfl, rfl, hqK0, hrK0, hlK0, hwK0, hzK0, hgK0⟩
              refine DJ.norm [_, _, _, _] [_, _, _, _, _, _] rfl rfl ?_
              refine DJ.one (i := 10) (by kernel_rfl) ?_
              refine DO.store (v := .agg #[_, _, _, _, _]) (us := [_, _, _, _, _]) 1 rfl rfl rfl rfl rfl rfl rfl rfl rfl rfl ?_
              refine DJ.done (by kernel_rfl) ?_
              refine ⟨(b56, oK0, aK0, pK0, tK0, xK0, mK0, cK0, bK0, qK0, psK0, kaK0, kcK0), ?_, ?_, ?_, Ent.pick [0, 1, 6, 7, 8, 5, 9] [2, 3, 4] rfl⟩
              · exact ⟨by omega, by omega, hlK0, hwK0, by omega, hgK0⟩
              · exact ⟨rfl, rfl, rfl, trivial⟩
              · exact ⟨rfl, trivial⟩
          · refine DO.alloc ([_, _, _, _, _] : List Value) rfl rfl rfl rfl (fun b57 => ?_)
            refine DJ.one (i := 4) (by kernel_rfl) ?_
            refine DO.yd rfl rfl rfl (fun _ _ _ => Yd.loadC 0 rfl rfl rfl) ?_
            refine DJ.one (i := 8) (by kernel_rfl) ?_
            refine DO.call (pickF _ [2, 4]) (pickF _ [3, 0, 1]) rfl rfl rfl (perm_pickF _ [2, 4] [3, 0, 1] rfl) (fun k0 hk0 dk0 k hk dk => growG_ok 5 _ _ _ _ _ _ _ _ _ [] _ _ _ _ _ hcode.up (by omega) (by omega) (by simp) (by simp) (by omega) (by omega) (by omega) (by omega) (by omega) (by omega) (by omega)) ?_
            rintro _ _ ⟨oK0, aK0, pK0, tK0, xK0, mK0, cK0, bK0, qK0, psK0, kaK0, kcK0, rfl, rfl, hqK0, hrK0, hlK0, hwK0, hzK0, hgK0⟩
            refine DJ.norm [_, _, _, _] [_, _, _, _, _, _] rfl rfl ?_
            refine DJ.one (i := 10) (by kernel_rfl) ?_
            refine DO.store (v := .agg #[_, _, _, _, _]) (us := [_, _, _, _, _]) 1 rfl rfl rfl rfl rfl rfl rfl rfl rfl rfl ?_
            refine DJ.done (by kernel_rfl) ?_
            refine ⟨(b57, oK0, aK0, pK0, tK0, xK0, mK0, cK0, bK0, qK0, psK0, kaK0, kcK0), ?_, ?_, ?_, Ent.pick [0, 1, 6, 7, 8, 5, 9] [2, 3, 4] rfl⟩
            · exact ⟨by omega, by omega, hlK0, hwK0, by omega, hgK0⟩
            · exact ⟨rfl, rfl, rfl, trivial⟩
            · exact ⟨rfl, trivial⟩
        · refine DO.yd rfl rfl rfl (fun _ _ _ => Yd.loadC 0 rfl rfl rfl) ?_
          refine DJ.two (i := 2) (j := 9) (by kernel_rfl) ?_ ?_
          · refine DO.yd rfl rfl rfl (fun _ _ _ => Yd.loadC 0 rfl rfl rfl) ?_
            refine DJ.two (i := 8) (j := 9) (by kernel_rfl) ?_ ?_
            · refine DO.call (pickF _ [2]) (pickF _ [3, 0, 1]) rfl rfl rfl (perm_pickF _ [2] [3, 0, 1] rfl) (fun k0 hk0 dk0 k hk dk => growG_ok 5 _ _ _ _ _ _ _ _ _ [] _ _ _ _ _ hcode.up (by omega) (by omega) (by simp) (by simp) (by omega) (by omega) (by omega) (by omega) (by omega) (by omega) (by omega)) ?_
              rintro _ _ ⟨oK0, aK0, pK0, tK0, xK0, mK0, cK0, bK0, qK0, psK0, kaK0, kcK0, rfl, rfl, hqK0, hrK0, hlK0, hwK0, hzK0, hgK0⟩
              refine DJ.norm [_, _, _, _] [_, _, _, _, _] rfl rfl ?_
              refine DJ.one (i := 9) (by kernel_rfl) ?_
              refine DO.alloc ([_, _, _, _, _] : List Value) rfl rfl rfl rfl (fun b58 => ?_)
              refine DJ.one (i := 10) (by kernel_rfl) ?_
              refine DO.store (v := .agg #[_, _, _, _, _]) (us := [_, _, _, _, _]) 5 rfl rfl rfl rfl rfl rfl rfl rfl rfl rfl ?_
              refine DJ.done (by kernel_rfl) ?_
              refine ⟨(b58, oK0, aK0, pK0, tK0, xK0, mK0, cK0, bK0, qK0, psK0, kaK0, kcK0), ?_, ?_, ?_, Ent.pick [0, 1, 5, 6, 7, 9, 8] [2, 3, 4] rfl⟩
              · exact ⟨by omega, by omega, hlK0, hwK0, by omega, hgK0⟩
              · exact ⟨rfl, rfl, rfl, trivial⟩
              · exact ⟨rfl, trivial⟩
            · refine DO.alloc ([_, _, _, _, _] : List Value) rfl rfl rfl rfl (fun b59 => ?_)
              refine DJ.one (i := 8) (by kernel_rfl) ?_
              refine DO.call (pickF _ [2, 4]) (pickF _ [3, 0, 1]) rfl rfl rfl (perm_pickF _ [2, 4] [3, 0, 1] rfl) (fun k0 hk0 dk0 k hk dk => growG_ok 5 _ _ _ _ _ _ _ _ _ [] _ _ _ _ _ hcode.up (by omega) (by omega) (by simp) (by simp) (by omega) (by omega) (by omega) (by omega) (by omega) (by omega) (by omega)) ?_
              rintro _ _ ⟨oK0, aK0, pK0, tK0, xK0, mK0, cK0, bK0, qK0, psK0, kaK0, kcK0, rfl, rfl, hqK0, hrK0, hlK0, hwK0, hzK0, hgK0⟩
              refine DJ.norm [_, _, _, _] [_, _, _, _, _, _] rfl rfl ?_
              refine DJ.one (i := 10) (by kernel_rfl) ?_
              refine DO.store (v := .agg #[_, _, _, _, _]) (us := [_, _, _, _, _]) 1 rfl rfl rfl rfl rfl rfl rfl rfl rfl rfl ?_
              refine DJ.done (by kernel_rfl) ?_
              refine ⟨(b59, oK0, aK0, pK0, tK0, xK0, mK0, cK0, bK0, qK0, psK0, kaK0, kcK0), ?_, ?_, ?_, Ent.pick [0, 1, 6, 7, 8, 5, 9] [2, 3, 4] rfl⟩
              · exact ⟨by omega, by omega, hlK0, hwK0, by omega, hgK0⟩
              · exact ⟨rfl, rfl, rfl, trivial⟩
              · exact ⟨rfl, trivial⟩
          · refine DO.alloc ([_, _, _, _, _] : List Value) rfl rfl rfl rfl (fun b60 => ?_)
            refine DJ.one (i := 2) (by kernel_rfl) ?_
            refine DO.yd rfl rfl rfl (fun _ _ _ => Yd.loadC 0 rfl rfl rfl) ?_
            refine DJ.one (i := 8) (by kernel_rfl) ?_
            refine DO.call (pickF _ [2, 4]) (pickF _ [3, 0, 1]) rfl rfl rfl (perm_pickF _ [2, 4] [3, 0, 1] rfl) (fun k0 hk0 dk0 k hk dk => growG_ok 5 _ _ _ _ _ _ _ _ _ [] _ _ _ _ _ hcode.up (by omega) (by omega) (by simp) (by simp) (by omega) (by omega) (by omega) (by omega) (by omega) (by omega) (by omega)) ?_
            rintro _ _ ⟨oK0, aK0, pK0, tK0, xK0, mK0, cK0, bK0, qK0, psK0, kaK0, kcK0, rfl, rfl, hqK0, hrK0, hlK0, hwK0, hzK0, hgK0⟩
            refine DJ.norm [_, _, _, _] [_, _, _, _, _, _] rfl rfl ?_
            refine DJ.one (i := 10) (by kernel_rfl) ?_
            refine DO.store (v := .agg #[_, _, _, _, _]) (us := [_, _, _, _, _]) 1 rfl rfl rfl rfl rfl rfl rfl rfl rfl rfl ?_
            refine DJ.done (by kernel_rfl) ?_
            refine ⟨(b60, oK0, aK0, pK0, tK0, xK0, mK0, cK0, bK0, qK0, psK0, kaK0, kcK0), ?_, ?_, ?_, Ent.pick [0, 1, 6, 7, 8, 5, 9] [2, 3, 4] rfl⟩
            · exact ⟨by omega, by omega, hlK0, hwK0, by omega, hgK0⟩
            · exact ⟨rfl, rfl, rfl, trivial⟩
            · exact ⟨rfl, trivial⟩
        · refine DO.alloc ([_, _, _, _, _] : List Value) rfl rfl rfl rfl (fun b61 => ?_)
          refine DJ.two (i := 2) (j := 4) (by kernel_rfl) ?_ ?_
          · refine DO.yd rfl rfl rfl (fun _ _ _ => Yd.loadC 0 rfl rfl rfl) ?_
            refine DJ.one (i := 4) (by kernel_rfl) ?_
            refine DO.yd rfl rfl rfl (fun _ _ _ => Yd.loadC 0 rfl rfl rfl) ?_
            refine DJ.one (i := 8) (by kernel_rfl) ?_
            refine DO.call (pickF _ [2, 4]) (pickF _ [3, 0, 1]) rfl rfl rfl (perm_pickF _ [2, 4] [3, 0, 1] rfl) (fun k0 hk0 dk0 k hk dk => growG_ok 5 _ _ _ _ _ _ _ _ _ [] _ _ _ _ _ hcode.up (by omega) (by omega) (by simp) (by simp) (by omega) (by omega) (by omega) (by omega) (by omega) (by omega) (by omega)) ?_
            rintro _ _ ⟨oK0, aK0, pK0, tK0, xK0, mK0, cK0, bK0, qK0, psK0, kaK0, kcK0, rfl, rfl, hqK0, hrK0, hlK0, hwK0, hzK0, hgK0⟩
            refine DJ.norm [_, _, _, _] [_, _, _, _, _, _] rfl rfl ?_
            refine DJ.one (i := 10) (by kernel_rfl) ?_
            refine DO.store (v := .agg #[_, _, _, _, _]) (us := [_, _, _, _, _]) 1 rfl rfl rfl rfl rfl rfl rfl rfl rfl rfl ?_
            refine DJ.done (by kernel_rfl) ?_
            refine ⟨(b61, oK0, aK0, pK0, tK0, xK0, mK0, cK0, bK0, qK0, psK0, kaK0, kcK0), ?_, ?_, ?_, Ent.pick [0, 1, 6, 7, 8, 5, 9] [2, 3, 4] rfl⟩
            · exact ⟨by omega, by omega, hlK0, hwK0, by omega, hgK0⟩
            · exact ⟨rfl, rfl, rfl, trivial⟩
            · exact ⟨rfl, trivial⟩
          · refine DO.yd rfl rfl rfl (fun _ _ _ => Yd.loadC 0 rfl rfl rfl) ?_
            refine DJ.one (i := 2) (by kernel_rfl) ?_
            refine DO.yd rfl rfl rfl (fun _ _ _ => Yd.loadC 0 rfl rfl rfl) ?_
            refine DJ.one (i := 8) (by kernel_rfl) ?_
            refine DO.call (pickF _ [2, 4]) (pickF _ [3, 0, 1]) rfl rfl rfl (perm_pickF _ [2, 4] [3, 0, 1] rfl) (fun k0 hk0 dk0 k hk dk => growG_ok 5 _ _ _ _ _ _ _ _ _ [] _ _ _ _ _ hcode.up (by omega) (by omega) (by simp) (by simp) (by omega) (by omega) (by omega) (by omega) (by omega) (by omega) (by omega)) ?_
            rintro _ _ ⟨oK0, aK0, pK0, tK0, xK0, mK0, cK0, bK0, qK0, psK0, kaK0, kcK0, rfl, rfl, hqK0, hrK0, hlK0, hwK0, hzK0, hgK0⟩
            refine DJ.norm [_, _, _, _] [_, _, _, _, _, _] rfl rfl ?_
            refine DJ.one (i := 10) (by kernel_rfl) ?_
            refine DO.store (v := .agg #[_, _, _, _, _]) (us := [_, _, _, _, _]) 1 rfl rfl rfl rfl rfl rfl rfl rfl rfl rfl ?_
            refine DJ.done (by kernel_rfl) ?_
            refine ⟨(b61, oK0, aK0, pK0, tK0, xK0, mK0, cK0, bK0, qK0, psK0, kaK0, kcK0), ?_, ?_, ?_, Ent.pick [0, 1, 6, 7, 8, 5, 9] [2, 3, 4] rfl⟩
            · exact ⟨by omega, by omega, hlK0, hwK0, by omega, hgK0⟩
            · exact ⟨rfl, rfl, rfl, trivial⟩
            · exact ⟨rfl, trivial⟩
      · refine DO.alloc ([_, _, _, _, _] : List Value) rfl rfl rfl rfl (fun b62 => ?_)
        refine DJ.three (i := 2) (j := 4) (m := 7) (by kernel_rfl) ?_ ?_ ?_
        · refine DO.yd rfl rfl rfl (fun _ _ _ => Yd.loadC 1 rfl rfl rfl) ?_
          refine DJ.two (i := 4) (j := 7) (by kernel_rfl) ?_ ?_
          · refine DO.yd rfl rfl rfl (fun _ _ _ => Yd.loadC 1 rfl rfl rfl) ?_
            refine DJ.one (i := 7) (by kernel_rfl) ?_
            refine DO.call (pickF _ [1, 2, 3, 4]) (pickF _ [0]) rfl rfl rfl (perm_pickF _ [1, 2, 3, 4] [0] rfl) (fun k0 hk0 dk0 k hk dk => one_ok (l := [3, 2, 4, 1, 0]) (hcode.up) (LitAt.of (l := [3, 2, 4, 1, 0]) hk dk 2 rfl) (by simp) (by omega) (by omega)) ?_
            rintro _ _ ⟨x20, rfl, hx20, rfl⟩
            simp only [List.mem_cons, List.not_mem_nil, or_false] at hx20
            refine DJ.norm [_, _, _, _] [_, _, _, _, _] rfl rfl ?_
            refine DJ.one (i := 8) (by kernel_rfl) ?_
            refine DO.call (pickF _ [2, 3]) (pickF _ [4, 0, 1]) rfl rfl rfl (perm_pickF _ [2, 3] [4, 0, 1] rfl) (fun k0 hk0 dk0 k hk dk => growG_ok 5 _ _ _ _ _ _ _ _ _ [] _ _ _ _ _ hcode.up (by omega) (by omega) (by simp) (by simp) (by omega) (by omega) (by omega) (by omega) (by omega) (by omega) (by omega)) ?_
            rintro _ _ ⟨oK0, aK0, pK0, tK0, xK0, mK0, cK0, bK0, qK0, psK0, kaK0, kcK0, rfl, rfl, hqK0, hrK0, hlK0, hwK0, hzK0, hgK0⟩
            refine DJ.norm [_, _, _, _] [_, _, _, _, _, _] rfl rfl ?_
            refine DJ.one (i := 10) (by kernel_rfl) ?_
            refine DO.store (v := .agg #[_, _, _, _, _]) (us := [_, _, _, _, _]) 1 rfl rfl rfl rfl rfl rfl rfl rfl rfl rfl ?_
            refine DJ.done (by kernel_rfl) ?_
            refine ⟨(b62, oK0, aK0, pK0, tK0, xK0, mK0, cK0, bK0, qK0, psK0, kaK0, kcK0), ?_, ?_, ?_, Ent.pick [0, 1, 6, 7, 8, 5, 9] [2, 3, 4] rfl⟩
            · exact ⟨by omega, by omega, hlK0, hwK0, by omega, hgK0⟩
            · exact ⟨rfl, rfl, rfl, trivial⟩
            · exact ⟨rfl, trivial⟩
          · refine DO.call (pickF _ [1, 2, 3, 4]) (pickF _ [0]) rfl rfl rfl (perm_pickF _ [1, 2, 3, 4] [0] rfl) (fun k0 hk0 dk0 k hk dk => one_ok (l := [3, 2, 4, 1, 0]) (hcode.up) (LitAt.of (l := [3, 2, 4, 1, 0]) hk dk 2 rfl) (by simp) (by omega) (by omega)) ?_
            rintro _ _ ⟨x20, rfl, hx20, rfl⟩
            simp only [List.mem_cons, List.not_mem_nil, or_false] at hx20
            refine DJ.norm [_, _, _, _] [_, _, _, _, _] rfl rfl ?_
            refine DJ.one (i := 4) (by kernel_rfl) ?_
            refine DO.yd rfl rfl rfl (fun _ _ _ => Yd.loadC 0 rfl rfl rfl) ?_
            refine DJ.one (i := 8) (by kernel_rfl) ?_
            refine DO.call (pickF _ [2, 3]) (pickF _ [4, 0, 1]) rfl rfl rfl (perm_pickF _ [2, 3] [4, 0, 1] rfl) (fun k0 hk0 dk0 k hk dk => growG_ok 5 _ _ _ _ _ _ _ _ _ [] _ _ _ _ _ hcode.up (by omega) (by omega) (by simp) (by simp) (by omega) (by omega) (by omega) (by omega) (by omega) (by omega) (by omega)) ?_
            rintro _ _ ⟨oK0, aK0, pK0, tK0, xK0, mK0, cK0, bK0, qK0, psK0, kaK0, kcK0, rfl, rfl, hqK0, hrK0, hlK0, hwK0, hzK0, hgK0⟩
            refine DJ.norm [_, _, _, _] [_, _, _, _, _, _] rfl rfl ?_
            refine DJ.one (i := 10) (by kernel_rfl) ?_
            refine DO.store (v := .agg #[_, _, _, _, _]) (us := [_, _, _, _, _]) 1 rfl rfl rfl rfl rfl rfl rfl rfl rfl rfl ?_
            refine DJ.done (by kernel_rfl) ?_
            refine ⟨(b62, oK0, aK0, pK0, tK0, xK0, mK0, cK0, bK0, qK0, psK0, kaK0, kcK0), ?_, ?_, ?_, Ent.pick [0, 1, 6, 7, 8, 5, 9] [2, 3, 4] rfl⟩
            · exact ⟨by omega, by omega, hlK0, hwK0, by omega, hgK0⟩
            · exact ⟨rfl, rfl, rfl, trivial⟩
            · exact ⟨rfl, trivial⟩
        · refine DO.yd rfl rfl rfl (fun _ _ _ => Yd.loadC 1 rfl rfl rfl) ?_
          refine DJ.two (i := 2) (j := 7) (by kernel_rfl) ?_ ?_
          · refine DO.yd rfl rfl rfl (fun _ _ _ => Yd.loadC 1 rfl rfl rfl) ?_
            refine DJ.one (i := 7) (by kernel_rfl) ?_
            refine DO.call (pickF _ [1, 2, 3, 4]) (pickF _ [0]) rfl rfl rfl (perm_pickF _ [1, 2, 3, 4] [0] rfl) (fun k0 hk0 dk0 k hk dk => one_ok (l := [3, 2, 4, 1, 0]) (hcode.up) (LitAt.of (l := [3, 2, 4, 1, 0]) hk dk 2 rfl) (by simp) (by omega) (by omega)) ?_
            rintro _ _ ⟨x20, rfl, hx20, rfl⟩
            simp only [List.mem_cons, List.not_mem_nil, or_false] at hx20
            refine DJ.norm [_, _, _, _] [_, _, _, _, _] rfl rfl ?_
            refine DJ.one (i := 8) (by kernel_rfl) ?_
            refine DO.call (pickF _ [2, 3]) (pickF _ [4, 0, 1]) rfl rfl rfl (perm_pickF _ [2, 3] [4, 0, 1] rfl) (fun k0 hk0 dk0 k hk dk => growG_ok 5 _ _ _ _ _ _ _ _ _ [] _ _ _ _ _ hcode.up (by omega) (by omega) (by simp) (by simp) (by omega) (by omega) (by omega) (by omega) (by omega) (by omega) (by omega)) ?_
            rintro _ _ ⟨oK0, aK0, pK0, tK0, xK0, mK0, cK0, bK0, qK0, psK0, kaK0, kcK0, rfl, rfl, hqK0, hrK0, hlK0, hwK0, hzK0, hgK0⟩
            refine DJ.norm [_, _, _, _] [_, _, _, _, _, _] rfl rfl ?_
            refine DJ.one (i := 10) (by kernel_rfl) ?_
            refine DO.store (v := .agg #[_, _, _, _, _]) (us := [_, _, _, _, _]) 1 rfl rfl rfl rfl rfl rfl rfl rfl rfl rfl ?_
            refine DJ.done (by kernel_rfl) ?_
            refine ⟨(b62, oK0, aK0, pK0, tK0, xK0, mK0, cK0, bK0, qK0, psK0, kaK0, kcK0), ?_, ?_, ?_, Ent.pick [0, 1, 6, 7, 8, 5, 9] [2, 3, 4] rfl⟩
            · exact ⟨by omega, by omega, hlK0, hwK0, by omega, hgK0⟩
            · exact ⟨rfl, rfl, rfl, trivial⟩
            · exact ⟨rfl, trivial⟩
          · refine DO.call (pickF _ [1, 2, 3, 4]) (pickF _ [0]) rfl rfl rfl (perm_pickF _ [1, 2, 3, 4] [0] rfl) (fun k0 hk0 dk0 k hk dk => one_ok (l := [3, 2, 4, 1, 0]) (hcode.up) (LitAt.of (l := [3, 2, 4, 1, 0]) hk dk 2 rfl) (by simp) (by omega) (by omega)) ?_
            rintro _ _ ⟨x20, rfl, hx20, rfl⟩
            simp only [List.mem_cons, List.not_mem_nil, or_false] at hx20
            refine DJ.norm [_, _, _, _] [_, _, _, _, _] rfl rfl ?_
            refine DJ.one (i := 2) (by kernel_rfl) ?_
            refine DO.yd rfl rfl rfl (fun _ _ _ => Yd.loadC 0 rfl rfl rfl) ?_
            refine DJ.one (i := 8) (by kernel_rfl) ?_
            refine DO.call (pickF _ [2, 3]) (pickF _ [4, 0, 1]) rfl rfl rfl (perm_pickF _ [2, 3] [4, 0, 1] rfl) (fun k0 hk0 dk0 k hk dk => growG_ok 5 _ _ _ _ _ _ _ _ _ [] _ _ _ _ _ hcode.up (by omega) (by omega) (by simp) (by simp) (by omega) (by omega) (by omega) (by omega) (by omega) (by omega) (by omega)) ?_
            rintro _ _ ⟨oK0, aK0, pK0, tK0, xK0, mK0, cK0, bK0, qK0, psK0, kaK0, kcK0, rfl, rfl, hqK0, hrK0, hlK0, hwK0, hzK0, hgK0⟩
            refine DJ.norm [_, _, _, _] [_, _, _, _, _, _] rfl rfl ?_
            refine DJ.one (i := 10) (by kernel_rfl) ?_
            refine DO.store (v := .agg #[_, _, _, _, _]) (us := [_, _, _, _, _]) 1 rfl rfl rfl rfl rfl rfl rfl rfl rfl rfl ?_
            refine DJ.done (by kernel_rfl) ?_
            refine ⟨(b62, oK0, aK0, pK0, tK0, xK0, mK0, cK0, bK0, qK0, psK0, kaK0, kcK0), ?_, ?_, ?_, Ent.pick [0, 1, 6, 7, 8, 5, 9] [2, 3, 4] rfl⟩
            · exact ⟨by omega, by omega, hlK0, hwK0, by omega, hgK0⟩
            · exact ⟨rfl, rfl, rfl, trivial⟩
            · exact ⟨rfl, trivial⟩
        · refine DO.call (pickF _ [1, 2, 3, 4]) (pickF _ [0]) rfl rfl rfl (perm_pickF _ [1, 2, 3, 4] [0] rfl) (fun k0 hk0 dk0 k hk dk => one_ok (l := [3, 2, 4, 1, 0]) (hcode.up) (LitAt.of (l := [3, 2, 4, 1, 0]) hk dk 2 rfl) (by simp) (by omega) (by omega)) ?_
          rintro _ _ ⟨x20, rfl, hx20, rfl⟩
          simp only [List.mem_cons, List.not_mem_nil, or_false] at hx20
          refine DJ.norm [_, _, _, _] [_, _, _, _, _] rfl rfl ?_
          refine DJ.two (i := 2) (j := 4) (by kernel_rfl) ?_ ?_
          · refine DO.yd rfl rfl rfl (fun _ _ _ => Yd.loadC 0 rfl rfl rfl) ?_
            refine DJ.one (i := 4) (by kernel_rfl) ?_
            refine DO.yd rfl rfl rfl (fun _ _ _ => Yd.loadC 0 rfl rfl rfl) ?_
            refine DJ.one (i := 8) (by kernel_rfl) ?_
            refine DO.call (pickF _ [2, 3]) (pickF _ [4, 0, 1]) rfl rfl rfl (perm_pickF _ [2, 3] [4, 0, 1] rfl) (fun k0 hk0 dk0 k hk dk => growG_ok 5 _ _ _ _ _ _ _ _ _ [] _ _ _ _ _ hcode.up (by omega) (by omega) (by simp) (by simp) (by omega) (by omega) (by omega) (by omega) (by omega) (by omega) (by omega)) ?_
            rintro _ _ ⟨oK0, aK0, pK0, tK0, xK0, mK0, cK0, bK0, qK0, psK0, kaK0, kcK0, rfl, rfl, hqK0, hrK0, hlK0, hwK0, hzK0, hgK0⟩
            refine DJ.norm [_, _, _, _] [_, _, _, _, _, _] rfl rfl ?_
            refine DJ.one (i := 10) (by kernel_rfl) ?_
            refine DO.store (v := .agg #[_, _, _, _, _]) (us := [_, _, _, _, _]) 1 rfl rfl rfl rfl rfl rfl rfl rfl rfl rfl ?_
            refine DJ.done (by kernel_rfl) ?_
            refine ⟨(b62, oK0, aK0, pK0, tK0, xK0, mK0, cK0, bK0, qK0, psK0, kaK0, kcK0), ?_, ?_, ?_, Ent.pick [0, 1, 6, 7, 8, 5, 9] [2, 3, 4] rfl⟩
            · exact ⟨by omega, by omega, hlK0, hwK0, by omega, hgK0⟩
            · exact ⟨rfl, rfl, rfl, trivial⟩
            · exact ⟨rfl, trivial⟩
          · refine DO.yd rfl rfl rfl (fun _ _ _ => Yd.loadC 0 rfl rfl rfl) ?_
            refine DJ.one (i := 2) (by kernel_rfl) ?_
            refine DO.yd rfl rfl rfl (fun _ _ _ => Yd.loadC 0 rfl rfl rfl) ?_
            refine DJ.one (i := 8) (by kernel_rfl) ?_
            refine DO.call (pickF _ [2, 3]) (pickF _ [4, 0, 1]) rfl rfl rfl (perm_pickF _ [2, 3] [4, 0, 1] rfl) (fun k0 hk0 dk0 k hk dk => growG_ok 5 _ _ _ _ _ _ _ _ _ [] _ _ _ _ _ hcode.up (by omega) (by omega) (by simp) (by simp) (by omega) (by omega) (by omega) (by omega) (by omega) (by omega) (by omega)) ?_
            rintro _ _ ⟨oK0, aK0, pK0, tK0, xK0, mK0, cK0, bK0, qK0, psK0, kaK0, kcK0, rfl, rfl, hqK0, hrK0, hlK0, hwK0, hzK0, hgK0⟩
            refine DJ.norm [_, _, _, _] [_, _, _, _, _, _] rfl rfl ?_
            refine DJ.one (i := 10) (by kernel_rfl) ?_
            refine DO.store (v := .agg #[_, _, _, _, _]) (us := [_, _, _, _, _]) 1 rfl rfl rfl rfl rfl rfl rfl rfl rfl rfl ?_
            refine DJ.done (by kernel_rfl) ?_
            refine ⟨(b62, oK0, aK0, pK0, tK0, xK0, mK0, cK0, bK0, qK0, psK0, kaK0, kcK0), ?_, ?_, ?_, Ent.pick [0, 1, 6, 7, 8, 5, 9] [2, 3, 4] rfl⟩
            · exact ⟨by omega, by omega, hlK0, hwK0, by omega, hgK0⟩
            · exact ⟨rfl, rfl, rfl, trivial⟩
            · exact ⟨rfl, trivial⟩
    · refine DO.alloc ([_, _, _, _, _] : List Value) rfl rfl rfl rfl (fun b63 => ?_)
      refine DJ.three (i := 2) (j := 4) (m := 6) (by kernel_rfl) ?_ ?_ ?_
      · refine DO.yd rfl rfl rfl (fun _ _ _ => Yd.loadC 1 rfl rfl rfl) ?_
        refine DJ.two (i := 4) (j := 6) (by kernel_rfl) ?_ ?_
        · refine DO.yd rfl rfl rfl (fun _ _ _ => Yd.loadC 1 rfl rfl rfl) ?_
          refine DJ.one (i := 6) (by kernel_rfl) ?_
          refine DO.op rfl rfl rfl (fun k0 hk0 dk0 => OpR.buildSlice (cs := [_, _, _, _, _]) rfl rfl) ?_
          rintro _ _ ⟨b64, rfl, rfl⟩
          refine DJ.one (i := 7) (by kernel_rfl) ?_
          refine DO.call (pickF _ [1, 2, 3, 4]) (pickF _ [0]) rfl rfl rfl (perm_pickF _ [1, 2, 3, 4] [0] rfl) (fun k0 hk0 dk0 k hk dk => one_ok (l := [3, 2, 4, 1, 0]) (hcode.up) (LitAt.of (l := [3, 2, 4, 1, 0]) hk dk 3 rfl) (by simp) (by omega) (by omega)) ?_
          rintro _ _ ⟨x20, rfl, hx20, rfl⟩
          simp only [List.mem_cons, List.not_mem_nil, or_false] at hx20
          refine DJ.norm [_, _, _, _] [_, _, _, _, _] rfl rfl ?_
          refine DJ.one (i := 8) (by kernel_rfl) ?_
          refine DO.call (pickF _ [2, 3]) (pickF _ [4, 0, 1]) rfl rfl rfl (perm_pickF _ [2, 3] [4, 0, 1] rfl) (fun k0 hk0 dk0 k hk dk => growG_ok 5 _ _ _ _ _ _ _ _ _ [] _ _ _ _ _ hcode.up (by omega) (by omega) (by simp) (by simp) (by omega) (by omega) (by omega) (by omega) (by omega) (by omega) (by omega)) ?_
          rintro _ _ ⟨oK0, aK0, pK0, tK0, xK0, mK0, cK0, bK0, qK0, psK0, kaK0, kcK0, rfl, rfl, hqK0, hrK0, hlK0, hwK0, hzK0, hgK0⟩
          refine DJ.norm [_, _, _, _] [_, _, _, _, _, _] rfl rfl ?_
          refine DJ.one (i := 10) (by kernel_rfl) ?_
          refine DO.store (v := .agg #[_, _, _, _, _]) (us := [_, _, _, _, _]) 0 rfl rfl rfl rfl rfl rfl rfl rfl rfl rfl ?_
          refine DJ.done (by kernel_rfl) ?_
          refine ⟨(b63, oK0, aK0, pK0, tK0, xK0, mK0, cK0, bK0, qK0, psK0, kaK0, kcK0), ?_, ?_, ?_, Ent.pick [0, 1, 6, 7, 8, 4, 9] [2, 3, 5] rfl⟩
          · exact ⟨by omega, by omega, hlK0, hwK0, by omega, hgK0⟩
          · exact ⟨rfl, rfl, rfl, trivial⟩
          · exact ⟨rfl, trivial⟩
        · refine DO.op rfl rfl rfl (fun k0 hk0 dk0 => OpR.buildSlice (cs := [_, _, _, _, _]) rfl rfl) ?_
          rintro _ _ ⟨b65, rfl, rfl⟩
          refine DJ.two (i := 4) (j := 7) (by kernel_rfl) ?_ ?_
          · refine DO.yd rfl rfl rfl (fun _ _ _ => Yd.loadC 1 rfl rfl rfl) ?_
            refine DJ.one (i := 7) (by kernel_rfl) ?_
            refine DO.call (pickF _ [1, 2, 3, 4]) (pickF _ [0]) rfl rfl rfl (perm_pickF _ [1, 2, 3, 4] [0] rfl) (fun k0 hk0 dk0 k hk dk => one_ok (l := [3, 2, 4, 1, 0]) (hcode.up) (LitAt.of (l := [3, 2, 4, 1, 0]) hk dk 3 rfl) (by simp) (by omega) (by omega)) ?_
            rintro _ _ ⟨x20, rfl, hx20, rfl⟩
            simp only [List.mem_cons, List.not_mem_nil, or_false] at hx20
            refine DJ.norm [_, _, _, _] [_, _, _, _, _] rfl rfl ?_
            refine DJ.one (i := 8) (by kernel_rfl) ?_
            refine DO.call (pickF _ [2, 3]) (pickF _ [4, 0, 1]) rfl rfl rfl (perm_pickF _ [2, 3] [4, 0, 1] rfl) (fun k0 hk0 dk0 k hk dk => growG_ok 5 _ _ _ _ _ _ _ _ _ [] _ _ _ _ _ hcode.up (by omega) (by omega) (by simp) (by simp) (by omega) (by omega) (by omega) (by omega) (by omega) (by omega) (by omega)) ?_
            rintro _ _ ⟨oK0, aK0, pK0, tK0, xK0, mK0, cK0, bK0, qK0, psK0, kaK0, kcK0, rfl, rfl, hqK0, hrK0, hlK0, hwK0, hzK0, hgK0⟩
            refine DJ.norm [_, _, _, _] [_, _, _, _, _, _] rfl rfl ?_
            refine DJ.one (i := 10) (by kernel_rfl) ?_
            refine DO.store (v := .agg #[_, _, _, _, _]) (us := [_, _, _, _, _]) 0 rfl rfl rfl rfl rfl rfl rfl rfl rfl rfl ?_
            refine DJ.done (by kernel_rfl) ?_
            refine ⟨(b63, oK0, aK0, pK0, tK0, xK0, mK0, cK0, bK0, qK0, psK0, kaK0, kcK0), ?_, ?_, ?_, Ent.pick [0, 1, 6, 7, 8, 4, 9] [2, 3, 5] rfl⟩
            · exact ⟨by omega, by omega, hlK0, hwK0, by omega, hgK0⟩
            · exact ⟨rfl, rfl, rfl, trivial⟩
            · exact ⟨rfl, trivial⟩
          · refine DO.call (pickF _ [1, 2, 3, 4]) (pickF _ [0]) rfl rfl rfl (perm_pickF _ [1, 2, 3, 4] [0] rfl) (fun k0 hk0 dk0 k hk dk => one_ok (l := [3, 2, 4, 1, 0]) (hcode.up) (LitAt.of (l := [3, 2, 4, 1, 0]) hk dk 3 rfl) (by simp) (by omega) (by omega)) ?_
            rintro _ _ ⟨x20, rfl, hx20, rfl⟩
            simp only [List.mem_cons, List.not_mem_nil, or_false] at hx20
            refine DJ.norm [_, _, _, _] [_, _, _, _, _] rfl rfl ?_
            refine DJ.one (i := 4) (by kernel_rfl) ?_
            refine DO.yd rfl rfl rfl (fun _ _ _ => Yd.loadC 0 rfl rfl rfl) ?_
            refine DJ.one (i := 8) (by kernel_rfl) ?_
            refine DO.call (pickF _ [2, 3]) (pickF _ [4, 0, 1]) rfl rfl rfl (perm_pickF _ [2, 3] [4, 0, 1] rfl) (fun k0 hk0 dk0 k hk dk => growG_ok 5 _ _ _ _ _ _ _ _ _ [] _ _ _ _ _ hcode.up (by omega) (by omega) (by simp) (by simp) (by omega) (by omega) (by omega) (by omega) (by omega) (by omega) (by omega)) ?_
            rintro _ _ ⟨oK0, aK0, pK0, tK0, xK0, mK0, cK0, bK0, qK0, psK0, kaK0, kcK0, rfl, rfl, hqK0, hrK0, hlK0, hwK0, hzK0, hgK0⟩
            refine DJ.norm [_, _, _, _] [_, _, _, _, _, _] rfl rfl ?_
            refine DJ.one (i := 10) (by kernel_rfl) ?_
            refine DO.store (v := .agg #[_, _, _, _, _]) (us := [_, _, _, _, _]) 0 rfl rfl rfl rfl rfl rfl rfl rfl rfl rfl ?_
            refine DJ.done (by kernel_rfl) ?_
            refine ⟨(b63, oK0, aK0, pK0, tK0, xK0, mK0, cK0, bK0, qK0, psK0, kaK0, kcK0), ?_, ?_, ?_, Ent.pick [0, 1, 6, 7, 8, 4, 9] [2, 3, 5] rfl⟩
            · exact ⟨by omega, by omega, hlK0, hwK0, by omega, hgK0⟩
            · exact ⟨rfl, rfl, rfl, trivial⟩
            · exact ⟨rfl, trivial⟩
      · refine DO.yd rfl rfl rfl (fun _ _ _ => Yd.loadC 1 rfl rfl rfl) ?_
        refine DJ.two (i := 2) (j := 6) (by kernel_rfl) ?_ ?_
        · refine DO.yd rfl rfl rfl (fun _ _ _ => Yd.loadC 1 rfl rfl rfl) ?_
          refine DJ.one (i := 6) (by kernel_rfl) ?_
          refine DO.op rfl rfl rfl (fun k0 hk0 dk0 => OpR.buildSlice (cs := [_, _, _, _, _]) rfl rfl) ?_
          rintro _ _ ⟨b66, rfl, rfl⟩
          refine DJ.one (i := 7) (by kernel_rfl) ?_
          refine DO.call (pickF _ [1, 2, 3, 4]) (pickF _ [0]) rfl rfl rfl (perm_pickF _ [1, 2, 3, 4] [0] rfl) (fun k0 hk0 dk0 k hk dk => one_ok (l := [3, 2, 4, 1, 0]) (hcode.up) (LitAt.of (l := [3, 2, 4, 1, 0]) hk dk 3 rfl) (by simp) (by omega) (by omega)) ?_
          rintro _ _ ⟨x20, rfl, hx20, rfl⟩
          simp only [List.mem_cons, List.not_mem_nil, or_false] at hx20
          refine DJ.norm [_, _, _, _] [_, _, _, _, _] rfl rfl ?_
          refine DJ.one (i := 8) (by kernel_rfl) ?_
          refine DO.call (pickF _ [2, 3]) (pickF _ [4, 0, 1]) rfl rfl rfl (perm_pickF _ [2, 3] [4, 0, 1] rfl) (fun k0 hk0 dk0 k hk dk => growG_ok 5 _ _ _ _ _ _ _ _ _ [] _ _ _ _ _ hcode.up (by omega) (by omega) (by simp) (by simp) (by omega) (by omega) (by omega) (by omega) (by omega) (by omega) (by omega)) ?_
          rintro _ _ ⟨oK0, aK0, pK0, tK0, xK0, mK0, cK0, bK0, qK0, psK0, kaK0, kcK0, rfl, rfl, hqK0, hrK0, hlK0, hwK0, hzK0, hgK0⟩
          refine DJ.norm [_, _, _, _] [_, _, _, _, _, _] rfl rfl ?_
          refine DJ.one (i := 10) (by kernel_rfl) ?_
          refine DO.store (v := .agg #[_, _, _, _, _]) (us := [_, _, _, _, _]) 0 rfl rfl rfl rfl rfl rfl rfl rfl rfl rfl ?_
          refine DJ.done (by kernel_rfl) ?_
          refine ⟨(b63, oK0, aK0, pK0, tK0, xK0, mK0, cK0, bK0, qK0, psK0, kaK0, kcK0), ?_, ?_, ?_, Ent.pick [0, 1, 6, 7, 8, 4, 9] [2, 3, 5] rfl⟩
          · exact ⟨by omega, by omega, hlK0, hwK0, by omega, hgK0⟩
          · exact ⟨rfl, rfl, rfl, trivial⟩
          · exact ⟨rfl, trivial⟩
        · refine DO.op rfl rfl rfl (fun k0 hk0 dk0 => OpR.buildSlice (cs := [_, _, _, _, _]) rfl rfl) ?_
          rintro _ _ ⟨b67, rfl, rfl⟩
          refine DJ.two (i := 2) (j := 7) (by kernel_rfl) ?_ ?_
          · refine DO.yd rfl rfl rfl (fun _ _ _ => Yd.loadC 1 rfl rfl rfl) ?_
            refine DJ.one (i := 7) (by kernel_rfl) ?_
            refine DO.call (pickF _ [1, 2, 3, 4]) (pickF _ [0]) rfl rfl rfl (perm_pickF _ [1, 2, 3, 4] [0] rfl) (fun k0 hk0 dk0 k hk dk => one_ok (l := [3, 2, 4, 1, 0]) (hcode.up) (LitAt.of (l := [3, 2, 4, 1, 0]) hk dk 3 rfl) (by simp) (by omega) (by omega)) ?_
            rintro _ _ ⟨x20, rfl, hx20, rfl⟩
            simp only [List.mem_cons, List.not_mem_nil, or_false] at hx20
            refine DJ.norm [_, _, _, _] [_, _, _, _, _] rfl rfl ?_
            refine DJ.one (i := 8) (by kernel_rfl) ?_
            refine DO.call (pickF _ [2, 3]) (pickF _ [4, 0, 1]) rfl rfl rfl (perm_pickF _ [2, 3] [4, 0, 1] rfl) (fun k0 hk0 dk0 k hk dk => growG_ok 5 _ _ _ _ _ _ _ _ _ [] _ _ _ _ _ hcode.up (by omega) (by omega) (by simp) (by simp) (by omega) (by omega) (by omega) (by omega) (by omega) (by omega) (by omega)) ?_
            rintro _ _ ⟨oK0, aK0, pK0, tK0, xK0, mK0, cK0, bK0, qK0, psK0, kaK0, kcK0, rfl, rfl, hqK0, hrK0, hlK0, hwK0, hzK0, hgK0⟩
            refine DJ.norm [_, _, _, _] [_, _, _, _, _, _] rfl rfl ?_
            refine DJ.one (i := 10) (by kernel_rfl) ?_
            refine DO.store (v := .agg #[_, _, _, _, _]) (us := [_, _, _, _, _]) 0 rfl rfl rfl rfl rfl rfl rfl rfl rfl rfl ?_
            refine DJ.done (by kernel_rfl) ?_
            refine ⟨(b63, oK0, aK0, pK0, tK0, xK0, mK0, cK0, bK0, qK0, psK0, kaK0, kcK0), ?_, ?_, ?_, Ent.pick [0, 1, 6, 7, 8, 4, 9] [2, 3, 5] rfl⟩
            · exact ⟨by omega, by omega, hlK0, hwK0, by omega, hgK0⟩
            · exact ⟨rfl, rfl, rfl, trivial⟩
            · exact ⟨rfl, trivial⟩
          · refine DO.call (pickF _ [1, 2, 3, 4]) (pickF _ [0]) rfl rfl rfl (perm_pickF _ [1, 2, 3, 4] [0] rfl) (fun k0 hk0 dk0 k hk dk => one_ok (l := [3, 2, 4, 1, 0]) (hcode.up) (LitAt.of (l := [3, 2, 4, 1, 0]) hk dk 3 rfl) (by simp) (by omega) (by omega)) ?_
            rintro _ _ ⟨x20, rfl, hx20, rfl⟩
            simp only [List.mem_cons, List.not_mem_nil, or_false] at hx20
            refine DJ.norm [_, _, _, _] [_, _, _, _, _] rfl rfl ?_
            refine DJ.one (i := 2) (by kernel_rfl) ?_
            refine DO.yd rfl rfl rfl (fun _ _ _ => Yd.loadC 0 rfl rfl rfl) ?_
            refine DJ.one (i := 8) (by kernel_rfl) ?_
            refine DO.call (pickF _ [2, 3]) (pickF _ [4, 0, 1]) rfl rfl rfl (perm_pickF _ [2, 3] [4, 0, 1] rfl) (fun k0 hk0 dk0 k hk dk => growG_ok 5 _ _ _ _ _ _ _ _ _ [] _ _ _ _ _ hcode.up (by omega) (by omega) (by simp) (by simp) (by omega) (by omega) (by omega) (by omega) (by omega) (by omega) (by omega)) ?_
            rintro _ _ ⟨oK0, aK0, pK0, tK0, xK0, mK0, cK0, bK0, qK0, psK0, kaK0, kcK0, rfl, rfl, hqK0, hrK0, hlK0, hwK0, hzK0, hgK0⟩
            refine DJ.norm [_, _, _, _] [_, _, _, _, _, _] rfl rfl ?_
            refine DJ.one (i := 10) (by kernel_rfl) ?_
            refine DO.store (v := .agg #[_, _, _, _, _]) (us := [_, _, _, _, _]) 0 rfl rfl rfl rfl rfl rfl rfl rfl rfl rfl ?_
            refine DJ.done (by kernel_rfl) ?_
            refine ⟨(b63, oK0, aK0, pK0, tK0, xK0, mK0, cK0, bK0, qK0, psK0, kaK0, kcK0), ?_, ?_, ?_, Ent.pick [0, 1, 6, 7, 8, 4, 9] [2, 3, 5] rfl⟩
            · exact ⟨by omega, by omega, hlK0, hwK0, by omega, hgK0⟩
            · exact ⟨rfl, rfl, rfl, trivial⟩
            · exact ⟨rfl, trivial⟩
      · refine DO.op rfl rfl rfl (fun k0 hk0 dk0 => OpR.buildSlice (cs := [_, _, _, _, _]) rfl rfl) ?_
        rintro _ _ ⟨b68, rfl, rfl⟩
        refine DJ.three (i := 2) (j := 4) (m := 7) (by kernel_rfl) ?_ ?_ ?_
        · refine DO.yd rfl rfl rfl (fun _ _ _ => Yd.loadC 1 rfl rfl rfl) ?_
          refine DJ.two (i := 4) (j := 7) (by kernel_rfl) ?_ ?_
          · refine DO.yd rfl rfl rfl (fun _ _ _ => Yd.loadC 1 rfl rfl rfl) ?_
            refine DJ.one (i := 7) (by kernel_rfl) ?_
            refine DO.call (pickF _ [1, 2, 3, 4]) (pickF _ [0]) rfl rfl rfl (perm_pickF _ [1, 2, 3, 4] [0] rfl) (fun k0 hk0 dk0 k hk dk => one_ok (l := [3, 2, 4, 1, 0]) (hcode.up) (LitAt.of (l := [3, 2, 4, 1, 0]) hk dk 3 rfl) (by simp) (by omega) (by omega)) ?_
            rintro _ _ ⟨x20, rfl, hx20, rfl⟩
            simp only [List.mem_cons, List.not_mem_nil, or_false] at hx20
            refine DJ.norm [_, _, _, _] [_, _, _, _, _] rfl rfl ?_
            refine DJ.one (i := 8) (by kernel_rfl) ?_
            refine DO.call (pickF _ [2, 3]) (pickF _ [4, 0, 1]) rfl rfl rfl (perm_pickF _ [2, 3] [4, 0, 1] rfl) (fun k0 hk0 dk0 k hk dk => growG_ok 5 _ _ _ _ _ _ _ _ _ [] _ _ _ _ _ hcode.up (by omega) (by omega) (by simp) (by simp) (by omega) (by omega) (by omega) (by omega) (by omega) (by omega) (by omega)) ?_
            rintro _ _ ⟨oK0, aK0, pK0, tK0, xK0, mK0, cK0, bK0, qK0, psK0, kaK0, kcK0, rfl, rfl, hqK0, hrK0, hlK0, hwK0, hzK0, hgK0⟩
            refine DJ.norm [_, _, _, _] [_, _, _, _, _, _] rfl rfl ?_
            refine DJ.one (i := 10) (by kernel_rfl) ?_
            refine DO.store (v := .agg #[_, _, _, _, _]) (us := [_, _, _, _, _]) 0 rfl rfl rfl rfl rfl rfl rfl rfl rfl rfl ?_
            refine DJ.done (by kernel_rfl) ?_
            refine ⟨(b63, oK0, aK0, pK0, tK0, xK0, mK0, cK0, bK0, qK0, psK0, kaK0, kcK0), ?_, ?_, ?_, Ent.pick [0, 1, 6, 7, 8, 4, 9] [2, 3, 5] rfl⟩
            · exact ⟨by omega, by omega, hlK0, hwK0, by omega, hgK0⟩
            · exact ⟨rfl, rfl, rfl, trivial⟩
            · exact ⟨rfl, trivial⟩
          · refine DO.call (pickF _ [1, 2, 3, 4]) (pickF _ [0]) rfl rfl rfl (perm_pickF _ [1, 2, 3, 4] [0] rfl) (fun k0 hk0 dk0 k hk dk => one_ok (l := [3, 2, 4, 1, 0]) (hcode.up) (LitAt.of (l := [3, 2, 4, 1, 0]) hk dk 3 rfl) (by simp) (by omega) (by omega)) ?_
            rintro _ _ ⟨x20, rfl, hx20, rfl⟩
            simp only [List.mem_cons, List.not_mem_nil, or_false] at hx20
            refine DJ.norm [_, _, _, _] [_, _, _, _, _] rfl rfl ?_
            refine DJ.one (i := 4) (by kernel_rfl) ?_
            refine DO.yd rfl rfl rfl (fun _ _ _ => Yd.loadC 0 rfl rfl rfl) ?_
            refine DJ.one (i := 8) (by kernel_rfl) ?_
            refine DO.call (pickF _ [2, 3]) (pickF _ [4, 0, 1]) rfl rfl rfl (perm_pickF _ [2, 3] [4, 0, 1] rfl) (fun k0 hk0 dk0 k hk dk => growG_ok 5 _ _ _ _ _ _ _ _ _ [] _ _ _ _ _ hcode.up (by omega) (by omega) (by simp) (by simp) (by omega) (by omega) (by omega) (by omega) (by omega) (by omega) (by omega)) ?_
            rintro _ _ ⟨oK0, aK0, pK0, tK0, xK0, mK0, cK0, bK0, qK0, psK0, kaK0, kcK0, rfl, rfl, hqK0, hrK0, hlK0, hwK0, hzK0, hgK0⟩
            refine DJ.norm [_, _, _, _] [_, _, _, _, _, _] rfl rfl ?_
            refine DJ.one (i := 10) (by kernel_rfl) ?_
            refine DO.store (v := .agg #[_, _, _, _, _]) (us := [_, _, _, _, _]) 0 rfl rfl rfl rfl rfl rfl rfl rfl rfl rfl ?_
            refine DJ.done (by kernel_rfl) ?_
            refine ⟨(b63, oK0, aK0, pK0, tK0, xK0, mK0, cK0, bK0, qK0, psK0, kaK0, kcK0), ?_, ?_, ?_, Ent.pick [0, 1, 6, 7, 8, 4, 9] [2, 3, 5] rfl⟩
            · exact ⟨by omega, by omega, hlK0, hwK0, by omega, hgK0⟩
            · exact ⟨rfl, rfl, rfl, trivial⟩
            · exact ⟨rfl, trivial⟩
        · refine DO.yd rfl rfl rfl (fun _ _ _ => Yd.loadC 1 rfl rfl rfl) ?_
          refine DJ.two (i := 2) (j := 7) (by kernel_rfl) ?_ ?_
          · refine DO.yd rfl rfl rfl (fun _ _ _ => Yd.loadC 1 rfl rfl rfl) ?_
            refine DJ.one (i := 7) (by kernel_rfl) ?_
            refine DO.call (pickF _ [1, 2, 3, 4]) (pickF _ [0]) rfl rfl rfl (perm_pickF _ [1, 2, 3, 4] [0] rfl) (fun k0 hk0 dk0 k hk dk => one_ok (l := [3, 2, 4, 1, 0]) (hcode.up) (LitAt.of (l := [3, 2, 4, 1, 0]) hk dk 3 rfl) (by simp) (by omega) (by omega)) ?_
            rintro _ _ ⟨x20, rfl, hx20, rfl⟩
            simp only [List.mem_cons, List.not_mem_nil, or_false] at hx20
            refine DJ.norm [_, _, _, _] [_, _, _, _, _] rfl rfl ?_
            refine DJ.one (i := 8) (by kernel_rfl) ?_
            refine DO.call (pickF _ [2, 3]) (pickF _ [4, 0, 1]) rfl rfl rfl (perm_pickF _ [2, 3] [4, 0, 1] rfl) (fun k0 hk0 dk0 k hk dk => growG_ok 5 _ _ _ _ _ _ _ _ _ [] _ _ _ _ _ hcode.up (by omega) (by omega) (by simp) (by simp) (by omega) (by omega) (by omega) (by omega) (by omega) (by omega) (by omega)) ?_
            rintro _ _ ⟨oK0, aK0, pK0, tK0, xK0, mK0, cK0, bK0, qK0, psK0, kaK0, kcK0, rfl, rfl, hqK0, hrK0, hlK0, hwK0, hzK0, hgK0⟩
            refine DJ.norm [_, _, _, _] [_, _, _, _, _, _] rfl rfl ?_
            refine DJ.one (i := 10) (by kernel_rfl) ?_
            refine DO.store (v := .agg #[_, _, _, _, _]) (us := [_, _, _, _, _]) 0 rfl rfl rfl rfl rfl rfl rfl rfl rfl rfl ?_
            refine DJ.done (by kernel_rfl) ?_
            refine ⟨(b63, oK0, aK0, pK0, tK0, xK0, mK0, cK0, bK0, qK0, psK0, kaK0, kcK0), ?_, ?_, ?_, Ent.pick [0, 1, 6, 7, 8, 4, 9] [2, 3, 5] rfl⟩
            · exact ⟨by omega, by omega, hlK0, hwK0, by omega, hgK0⟩
            · exact ⟨rfl, rfl, rfl, trivial⟩
            · exact ⟨rfl, trivial⟩
          · refine DO.call (pickF _ [1, 2, 3, 4]) (pickF _ [0]) rfl rfl rfl (perm_pickF _ [1, 2, 3, 4] [0] rfl) (fun k0 hk0 dk0 k hk dk => one_ok (l := [3, 2, 4, 1, 0]) (hcode.up) (LitAt.of (l := [3, 2, 4, 1, 0]) hk dk 3 rfl) (by simp) (by omega) (by omega)) ?_
            rintro _ _ ⟨x20, rfl, hx20, rfl⟩
            simp only [List.mem_cons, List.not_mem_nil, or_false] at hx20
            refine DJ.norm [_, _, _, _] [_, _, _, _, _] rfl rfl ?_
            refine DJ.one (i := 2) (by kernel_rfl) ?_
            refine DO.yd rfl rfl rfl (fun _ _ _ => Yd.loadC 0 rfl rfl rfl) ?_
            refine DJ.one (i := 8) (by kernel_rfl) ?_
            refine DO.call (pickF _ [2, 3]) (pickF _ [4, 0, 1]) rfl rfl rfl (perm_pickF _ [2, 3] [4, 0, 1] rfl) (fun k0 hk0 dk0 k hk dk => growG_ok 5 _ _ _ _ _ _ _ _ _ [] _ _ _ _ _ hcode.up (by omega) (by omega) (by simp) (by simp) (by omega) (by omega) (by omega) (by omega) (by omega) (by omega) (by omega)) ?_
            rintro _ _ ⟨oK0, aK0, pK0, tK0, xK0, mK0, cK0, bK0, qK0, psK0, kaK0, kcK0, rfl, rfl, hqK0, hrK0, hlK0, hwK0, hzK0, hgK0⟩
            refine DJ.norm [_, _, _, _] [_, _, _, _, _, _] rfl rfl ?_
            refine DJ.one (i := 10) (by kernel_rfl) ?_
            refine DO.store (v := .agg #[_, _, _, _, _]) (us := [_, _, _, _, _]) 0 rfl rfl rfl rfl rfl rfl rfl rfl rfl rfl ?_
            refine DJ.done (by kernel_rfl) ?_
            refine ⟨(b63, oK0, aK0, pK0, tK0, xK0, mK0, cK0, bK0, qK0, psK0, kaK0, kcK0), ?_, ?_, ?_, Ent.pick [0, 1, 6, 7, 8, 4, 9] [2, 3, 5] rfl⟩
            · exact ⟨by omega, by omega, hlK0, hwK0, by omega, hgK0⟩
            · exact ⟨rfl, rfl, rfl, trivial⟩
            · exact ⟨rfl, trivial⟩
        · refine DO.call (pickF _ [1, 2, 3, 4]) (pickF _ [0]) rfl rfl rfl (perm_pickF _ [1, 2, 3, 4] [0] rfl) (fun k0 hk0 dk0 k hk dk => one_ok (l := [3, 2, 4, 1, 0]) (hcode.up) (LitAt.of (l := [3, 2, 4, 1, 0]) hk dk 3 rfl) (by simp) (by omega) (by omega)) ?_
          rintro _ _ ⟨x20, rfl, hx20, rfl⟩
          simp only [List.mem_cons, List.not_mem_nil, or_false] at hx20
          refine DJ.norm [_, _, _, _] [_, _, _, _, _] rfl rfl ?_
          refine DJ.two (i := 2) (j := 4) (by kernel_rfl) ?_ ?_
          · refine DO.yd rfl rfl rfl (fun _ _ _ => Yd.loadC 0 rfl rfl rfl) ?_
            refine DJ.one (i := 4) (by kernel_rfl) ?_
            refine DO.yd rfl rfl rfl (fun _ _ _ => Yd.loadC 0 rfl rfl rfl) ?_
            refine DJ.one (i := 8) (by kernel_rfl) ?_
            refine DO.call (pickF _ [2, 3]) (pickF _ [4, 0, 1]) rfl rfl rfl (perm_pickF _ [2, 3] [4, 0, 1] rfl) (fun k0 hk0 dk0 k hk dk => growG_ok 5 _ _ _ _ _ _ _ _ _ [] _ _ _ _ _ hcode.up (by omega) (by omega) (by simp) (by simp) (by omega) (by omega) (by omega) (by omega) (by omega) (by omega) (by omega)) ?_
            rintro _ _ ⟨oK0, aK0, pK0, tK0, xK0, mK0, cK0, bK0, qK0, psK0, kaK0, kcK0, rfl, rfl, hqK0, hrK0, hlK0, hwK0, hzK0, hgK0⟩
            refine DJ.norm [_, _, _, _] [_, _, _, _, _, _] rfl rfl ?_
            refine DJ.one (i := 10) (by kernel_rfl) ?_
            refine DO.store (v := .agg #[_, _, _, _, _]) (us := [_, _, _, _, _]) 0 rfl rfl rfl rfl rfl rfl rfl rfl rfl rfl ?_
            refine DJ.done (by kernel_rfl) ?_
            refine ⟨(b63, oK0, aK0, pK0, tK0, xK0, mK0, cK0, bK0, qK0, psK0, kaK0, kcK0), ?_, ?_, ?_, Ent.pick [0, 1, 6, 7, 8, 4, 9] [2, 3, 5] rfl⟩
            · exact ⟨by omega, by omega, hlK0, hwK0, by omega, hgK0⟩
            · exact ⟨rfl, rfl, rfl, trivial⟩
            · exact ⟨rfl, trivial⟩
          · refine DO.yd rfl rfl rfl (fun _ _ _ => Yd.loadC 0 rfl rfl rfl) ?_
            refine DJ.one (i := 2) (by kernel_rfl) ?_
            refine DO.yd rfl rfl rfl (fun _ _ _ => Yd.loadC 0 rfl rfl rfl) ?_
            refine DJ.one (i := 8) (by kernel_rfl) ?_
            refine DO.call (pickF _ [2, 3]) (pickF _ [4, 0, 1]) rfl rfl rfl (perm_pickF _ [2, 3] [4, 0, 1] rfl) (fun k0 hk0 dk0 k hk dk => growG_ok 5 _ _ _ _ _ _ _ _ _ [] _ _ _ _ _ hcode.up (by omega) (by omega) (by simp) (by simp) (by omega) (by omega) (by omega) (by omega) (by omega) (by omega) (by omega)) ?_
            rintro _ _ ⟨oK0, aK0, pK0, tK0, xK0, mK0, cK0, bK0, qK0, psK0, kaK0, kcK0, rfl, rfl, hqK0, hrK0, hlK0, hwK0, hzK0, hgK0⟩
            refine DJ.norm [_, _, _, _] [_, _, _, _, _, _] rfl rfl ?_
            refine DJ.one (i := 10) (by kernel_rfl) ?_
            refine DO.store (v := .agg #[_, _, _, _, _]) (us := [_, _, _, _, _]) 0 rfl rfl rfl rfl rfl rfl rfl rfl rfl rfl ?_
            refine DJ.done (by kernel_rfl) ?_
            refine ⟨(b63, oK0, aK0, pK0, tK0, xK0, mK0, cK0, bK0, qK0, psK0, kaK0, kcK0), ?_, ?_, ?_, Ent.pick [0, 1, 6, 7, 8, 4, 9] [2, 3, 5] rfl⟩
            · exact ⟨by omega, by omega, hlK0, hwK0, by omega, hgK0⟩
            · exact ⟨rfl, rfl, rfl, trivial⟩
            · exact ⟨rfl, trivial⟩
  · rintro ⟨bb, o, e, i, t, x, m, l, b, q, ps, ka, kc⟩ σ ⟨hq1, hq2, hlK0, hwK0, hzK0, hgK0⟩
    refine CJ.seq ?_
    refine CJ.regionD [2, 3, 4, 5, 6] [0, 1] (by kernel_rfl) rfl ?_
    refine DJ.norm [_, _, _, _, _] [_, _] rfl rfl ?_
    refine DJ.yd 0 rfl (by kernel_rfl) (by kernel_rfl) (by kernel_rfl) rfl rfl (Yd.loadG (us := [_, _, _]) 1 rfl rfl rfl rfl) ?_
    refine DJ.yd 1 rfl (by kernel_rfl) (by kernel_rfl) (by kernel_rfl) rfl rfl (Yd.loadG (us := [_, _, _, _, _]) 3 rfl rfl rfl rfl) ?_
    refine DJ.one (i := 2) (by kernel_rfl) ?_
    refine DO.store (v := .agg #[_, _, _]) (us := [_, _, _]) 0 rfl rfl rfl rfl rfl rfl rfl rfl rfl rfl ?_
    refine DJ.one (i := 3) (by kernel_rfl) ?_
    refine DO.store (v := .agg #[_, _, _, _, _]) (us := [_, _, _, _, _]) 1 rfl rfl rfl rfl rfl rfl rfl rfl rfl rfl ?_
    refine DJ.done (by kernel_rfl) ?_
    refine CJ.ret ?_
    exact Fin.R [_, _, _] (Res.two (ResV.cell (us := [_, _, _]) 5 rfl rfl rfl rfl) (ResV.cell (us := [_, _, _, _, _]) 6 rfl rfl rfl rfl)) ⟨_, _, _, _, _, _, _, _, _, _, _, _, _, _, _, rfl, rfl, by omega, by omega, by omega, by omega, by omega, by omega, hlK0, hwK0, hzK0, hgK0⟩ (Ent.thn (Ent.impAt 2 rfl (fun _ r => Row.rd r (by rw [List.length_map]; omega))) (Ent.pick [0, 2, 4] [1, 3, 5, 6] rfl))
end Go.Proofs.Ytlpjienaennmaaa
