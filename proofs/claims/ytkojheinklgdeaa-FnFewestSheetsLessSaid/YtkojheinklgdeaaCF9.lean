/-
  Works of a few panes, drawn; panes turned; bounds by areas.
-/
import Derived.Test.YtkojheinklgdeaaCF7
import Derived.Test.YtkojheinklgdeaaCF8
namespace Go.Proofs.Ytkojheinklgdeaa
open Go
set_option maxRecDepth 20000
set_option maxHeartbeats 1000000

theorem anySheetWork_ok {A : Amb} {rb n c : Nat} {a : Option Addr} {p : Int} {t : Bool} (hcode : RdCode A.h a n) (hp0 : 0 ≤ p) (hp1 : p ≤ 4000) :
    Ctr Try.prog 89 #[.pointer (some ⟨rb, 0, none⟩), .bool t] A [Rd rb a n c p] (WkD rb a n c p 120) := by
  refine Ctr.body (args := [_, _]) Try.func89 rfl Try.ntmps89 Try.results89 (by simp) ?_
  refine CJ.seq ?_
  refine CJ.region ?_
  refine LJ.alloc ([_, _, _] : List Value) rfl rfl (fun b1 => ?_)
  refine LJ.nil ?_
  refine CJ.seq ?_
  refine CJ.region ?_
  refine LJ.yd rfl (Yd.mvP rfl) ?_
  refine LJ.yd rfl (Yd.mvB rfl) ?_
  refine LJ.call (pickF _ [1]) (pickF _ [0]) rfl (perm_pickF _ [1] [0] rfl) (fun k hk dk => sheetWork_ok hcode.up (by omega) (by omega)) ?_
  rintro _ _ ⟨W, H, q1, F, fa, fm, fc, rfl, rfl, rfl, hq1, hq2, hW, hH, hFl⟩
  refine LJ.norm [_, _, _] rfl ?_
  refine LJ.alloc ([_, _, _] : List Value) rfl rfl (fun b2 => ?_)
  refine LJ.store (v := .agg #[_, _, _]) (us := [_, _, _]) 3 rfl rfl rfl rfl rfl rfl rfl rfl ?_
  refine LJ.nil ?_
  refine CJ.seq ?_
  refine CJ.seq ?_
  refine CJ.region ?_
  refine LJ.yd rfl (Yd.mvP rfl) ?_
  refine LJ.call (pickF _ [0, 2, 3]) (pickF _ [1]) rfl (perm_pickF _ [0, 2, 3] [1] rfl) (fun k hk dk => pick_ok (hcode.up) (by omega) (by omega)) ?_
  rintro _ _ ⟨x10, rfl, hx10, hy10, rfl⟩
  refine LJ.norm [_, _, _, _] rfl ?_
  refine LJ.nil ?_
  refine CJ.block ?_
  refine CJ.seq ?_
  refine CJ.region ?_
  refine LJ.splitD rfl (Yd.eql rfl rfl) (fun h12 => ?_) (fun h12 => ?_)
  · refine LJ.yd rfl (Yd.asB rfl) ?_
    refine LJ.nil ?_
    refine CJ.condT rfl ?_
    refine CJ.region ?_
    refine LJ.yd rfl (Yd.mvP rfl) ?_
    refine LJ.op rfl (OpR.buildSlice (cs := [_, _, _]) rfl rfl) ?_
    rintro _ _ ⟨b3, rfl, rfl⟩
    refine LJ.call (pickF _ [0, 1, 2, 4]) (pickF _ [3]) rfl (perm_pickF _ [0, 1, 2, 4] [3] rfl) (fun k hk dk => one_ok (l := [0, 17, 201]) (hcode.up) (LitAt.of (l := [0, 17, 201]) hk dk 3 rfl) (by simp) (by omega) (by omega)) ?_
    rintro _ _ ⟨x15, rfl, hx15, rfl⟩
    simp only [List.mem_cons, List.not_mem_nil, or_false] at hx15
    refine LJ.norm [_, _, _, _, _] rfl ?_
    refine LJ.yd rfl (Yd.fieldAddr rfl) ?_
    refine LJ.store (v := .int _ _) (us := [_, _, _]) 2 rfl rfl rfl rfl rfl rfl rfl rfl ?_
    refine LJ.nil ?_
    refine CJ.seq ?_
    refine CJ.region ?_
    refine LJ.yd rfl (Yd.loadG (us := [_, _, _]) 2 rfl rfl rfl rfl) ?_
    refine LJ.store (v := .agg #[_, _, _]) (us := [_, _, _]) 0 rfl rfl rfl rfl rfl rfl rfl rfl ?_
    refine LJ.nil ?_
    refine CJ.ret ?_
    exact Fin.R [_, _] (Res.one (ResV.cell (us := [_, _, _]) 0 rfl rfl rfl rfl)) ⟨_, _, _, F, _, _, _, rfl, rfl, rfl, by omega, by omega, by omega, by omega, by first | omega | (simp; omega)⟩ (Ent.pick [4, 1] [0, 2, 3] rfl)
  · refine LJ.yd rfl (Yd.asB rfl) ?_
    refine LJ.nil ?_
    refine CJ.condF rfl ?_
    refine CJ.seq ?_
    refine CJ.region ?_
    refine LJ.splitD rfl (Yd.eql rfl rfl) (fun h18 => ?_) (fun h18 => ?_)
    · refine LJ.yd rfl (Yd.asB rfl) ?_
      refine LJ.nil ?_
      refine CJ.condT rfl ?_
      refine CJ.seq ?_
      refine CJ.region ?_
      refine LJ.yd rfl (Yd.fieldAddr rfl) ?_
      refine LJ.yd rfl (Yd.loadC 2 rfl rfl rfl) ?_
      refine LJ.yd rfl (Yd.len rfl) ?_
      refine LJ.splitD rfl (Yd.gtr rfl rfl) (fun h22 => ?_) (fun h22 => ?_)
      · refine LJ.nil ?_
        refine CJ.condT rfl ?_
        refine CJ.region ?_
        refine LJ.yd rfl (Yd.fieldAddr rfl) ?_
        refine LJ.yd rfl (Yd.loadC 2 rfl rfl rfl) ?_
        refine LJ.yd rfl (Yd.fieldAddr rfl) ?_
        refine LJ.yd rfl (Yd.loadC 2 rfl rfl rfl) ?_
        refine LJ.yd rfl (Yd.add rfl rfl (by unfold I64; omega)) ?_
        refine LJ.idxR 1 rfl rfl rfl rfl (by omega) (by first | rfl | omega | (simp; done) | (simp; omega) | (simp [upN_len]; omega) | (simp [idxBy_len]; omega) | (simp [marks_len]; omega) | (simp [upN_len]; done) | (simp [idxBy_len]; done) | (simp [marks_len]; done) | (simp at *; omega)) (by first | rfl | omega | (simp; done) | (simp; omega) | (simp [upN_len]; omega) | (simp [idxBy_len]; omega) | (simp [marks_len]; omega) | (simp [upN_len]; done) | (simp [idxBy_len]; done) | (simp [marks_len]; done) | (simp at *; omega)) (fun ib28 ia28 => ?_)
        refine LJ.yd rfl (Yd.fieldAddr rfl) ?_
        refine LJ.op rfl (OpR.stR (enc := Pane.enc) (u' := ⟨W + 1, (F[0]'(by omega)).H, (F[0]'(by omega)).Turns, (F[0]'(by omega)).Kind⟩) 1 0 rfl ia28 rfl rfl (List.getElem?_eq_getElem (show 0 < F.length by omega)) rfl rfl rfl rfl rfl) ?_
        rintro _ _ ⟨rfl, rfl⟩
        refine LJ.norm [_, _, _, _] rfl ?_
        refine LJ.nil ?_
        refine CJ.seq ?_
        refine CJ.region ?_
        refine LJ.yd rfl (Yd.loadG (us := [_, _, _]) 2 rfl rfl rfl rfl) ?_
        refine LJ.store (v := .agg #[_, _, _]) (us := [_, _, _]) 0 rfl rfl rfl rfl rfl rfl rfl rfl ?_
        refine LJ.nil ?_
        refine CJ.ret ?_
        exact Fin.R [_, _] (Res.one (ResV.cell (us := [_, _, _]) 0 rfl rfl rfl rfl)) ⟨_, _, _, F.set 0 ⟨W + 1, (F[0]'(by omega)).H, (F[0]'(by omega)).Turns, (F[0]'(by omega)).Kind⟩, _, _, _, rfl, rfl, by simp, by omega, by omega, by omega, by omega, by first | omega | (simp; omega)⟩ (Ent.pick [3, 1] [0, 2] rfl)
      · refine LJ.nil ?_
        refine CJ.condF rfl ?_
        refine CJ.skip ?_
        refine CJ.seq ?_
        refine CJ.region ?_
        refine LJ.yd rfl (Yd.loadG (us := [_, _, _]) 2 rfl rfl rfl rfl) ?_
        refine LJ.store (v := .agg #[_, _, _]) (us := [_, _, _]) 0 rfl rfl rfl rfl rfl rfl rfl rfl ?_
        refine LJ.nil ?_
        refine CJ.ret ?_
        exact Fin.R [_, _] (Res.one (ResV.cell (us := [_, _, _]) 0 rfl rfl rfl rfl)) ⟨_, _, _, F, _, _, _, rfl, rfl, rfl, by omega, by omega, by omega, by omega, by first | omega | (simp; omega)⟩ (Ent.pick [3, 1] [0, 2] rfl)
    · refine LJ.yd rfl (Yd.asB rfl) ?_
      refine LJ.nil ?_
      refine CJ.condF rfl ?_
      refine CJ.skip ?_
      refine CJ.seq ?_
      refine CJ.region ?_
      refine LJ.yd rfl (Yd.loadG (us := [_, _, _]) 2 rfl rfl rfl rfl) ?_
      refine LJ.store (v := .agg #[_, _, _]) (us := [_, _, _]) 0 rfl rfl rfl rfl rfl rfl rfl rfl ?_
      refine LJ.nil ?_
      refine CJ.ret ?_
      exact Fin.R [_, _] (Res.one (ResV.cell (us := [_, _, _]) 0 rfl rfl rfl rfl)) ⟨_, _, _, F, _, _, _, rfl, rfl, rfl, by omega, by omega, by omega, by omega, by first | omega | (simp; omega)⟩ (Ent.pick [3, 1] [0, 2] rfl)
theorem fewWork_ok {A : Amb} {rb n c : Nat} {a : Option Addr} {p : Int} (hcode : RdCode A.h a n) (hp0 : 0 ≤ p) (hp1 : p ≤ 3000) :
    Ctr Try.prog 70 #[.pointer (some ⟨rb, 0, none⟩)] A [Rd rb a n c p] (WkD rb a n c p 130) := by
  refine Ctr.body (args := [_]) Try.func70 rfl Try.ntmps70 Try.results70 (by simp) ?_
  refine CJ.seq ?_
  refine CJ.region ?_
  refine LJ.alloc ([_, _, _] : List Value) rfl rfl (fun b1 => ?_)
  refine LJ.nil ?_
  refine CJ.seq ?_
  refine CJ.region ?_
  refine LJ.yd rfl (Yd.mvP rfl) ?_
  refine LJ.call (pickF _ [1]) (pickF _ [0]) rfl (perm_pickF _ [1] [0] rfl) (fun k hk dk => anySheetWork_ok hcode.up (by omega) (by omega)) ?_
  rintro _ _ ⟨W, H, q1, F, fa, fm, fc, rfl, rfl, rfl, hq1, hq2, hW, hH, hFl⟩
  refine LJ.norm [_, _, _] rfl ?_
  refine LJ.alloc ([_, _, _] : List Value) rfl rfl (fun b2 => ?_)
  refine LJ.store (v := .agg #[_, _, _]) (us := [_, _, _]) 3 rfl rfl rfl rfl rfl rfl rfl rfl ?_
  refine LJ.nil ?_
  refine CJ.seq ?_
  refine CJ.region ?_
  refine LJ.yd rfl (Yd.fieldAddr rfl) ?_
  refine LJ.yd rfl (Yd.loadC 3 rfl rfl rfl) ?_
  refine LJ.yd rfl (Yd.min' rfl rfl) ?_
  refine LJ.yd rfl (Yd.fieldAddr rfl) ?_
  refine LJ.store (v := .int _ _) (us := [_, _, _]) 3 rfl rfl rfl rfl rfl rfl rfl rfl ?_
  refine LJ.nil ?_
  refine CJ.seq ?_
  refine CJ.seq ?_
  refine CJ.region ?_
  refine LJ.yd rfl (Yd.fieldAddr rfl) ?_
  refine LJ.yd rfl (Yd.loadC 3 rfl rfl rfl) ?_
  refine LJ.yd rfl (Yd.len rfl) ?_
  refine LJ.splitD rfl (Yd.gtr rfl rfl) (fun h13 => ?_) (fun h13 => ?_)
  · refine LJ.yd rfl (Yd.mvB rfl) ?_
    refine LJ.gT rfl ?_
    refine LJ.yd rfl (Yd.mvP rfl) ?_
    refine LJ.gT rfl ?_
    refine LJ.call (pickF _ [0, 2, 3]) (pickF _ [1]) rfl (perm_pickF _ [0, 2, 3] [1] rfl) (fun k hk dk => pick_ok (hcode.up) (by omega) (by omega)) ?_
    rintro _ _ ⟨x16, rfl, hx16, hy16, rfl⟩
    refine LJ.norm [_, _, _, _] rfl ?_
    refine LJ.gT rfl ?_
    refine LJ.splitD rfl (Yd.gtr rfl rfl) (fun h17 => ?_) (fun h17 => ?_)
    · refine LJ.yd rfl (Yd.pickTB rfl rfl) ?_
      refine LJ.nil ?_
      refine CJ.condT rfl ?_
      refine CJ.region ?_
      refine LJ.yd rfl (Yd.fieldAddr rfl) ?_
      refine LJ.yd rfl (Yd.loadC 2 rfl rfl rfl) ?_
      refine LJ.slHR 1 rfl rfl rfl rfl (by omega) (by first | rfl | omega | (simp; done) | (simp; omega) | (simp [upN_len]; omega) | (simp [idxBy_len]; omega) | (simp [marks_len]; omega) | (simp [upN_len]; done) | (simp [idxBy_len]; done) | (simp [marks_len]; done) | (simp at *; omega)) (fun sm21 hsm21 hs21 => ?_)
      refine LJ.yd rfl (Yd.fieldAddr rfl) ?_
      refine LJ.store (v := .slice _ _ _) (us := [_, _, _]) 2 rfl rfl rfl rfl rfl rfl rfl rfl ?_
      refine LJ.nil ?_
      refine CJ.seq ?_
      refine CJ.region ?_
      refine LJ.yd rfl (Yd.loadG (us := [_, _, _]) 2 rfl rfl rfl rfl) ?_
      refine LJ.store (v := .agg #[_, _, _]) (us := [_, _, _]) 0 rfl rfl rfl rfl rfl rfl rfl rfl ?_
      refine LJ.nil ?_
      refine CJ.ret ?_
      exact Fin.R [_, _] (Res.one (ResV.cell (us := [_, _, _]) 0 rfl rfl rfl rfl)) ⟨_, _, _, F.take sm21, _, _, _, rfl, rfl, by simp; omega, by omega, by omega, by omega, by omega, by simp; omega⟩ (Ent.thn (Ent.impAt 1 rfl (fun _ r => Row.shorten sm21 (by omega) r)) (Ent.pick [3, 1] [0, 2] rfl))
    · refine LJ.yd rfl (Yd.pickTB rfl rfl) ?_
      refine LJ.nil ?_
      refine CJ.condF rfl ?_
      refine CJ.skip ?_
      refine CJ.seq ?_
      refine CJ.region ?_
      refine LJ.yd rfl (Yd.loadG (us := [_, _, _]) 2 rfl rfl rfl rfl) ?_
      refine LJ.store (v := .agg #[_, _, _]) (us := [_, _, _]) 0 rfl rfl rfl rfl rfl rfl rfl rfl ?_
      refine LJ.nil ?_
      refine CJ.ret ?_
      exact Fin.R [_, _] (Res.one (ResV.cell (us := [_, _, _]) 0 rfl rfl rfl rfl)) ⟨_, _, _, F, _, _, _, rfl, rfl, rfl, by omega, by omega, by omega, by omega, by omega⟩ (Ent.pick [3, 1] [0, 2] rfl)
  · refine LJ.yd rfl (Yd.mvB rfl) ?_
    refine LJ.gF rfl rfl ?_
    refine LJ.gF rfl rfl ?_
    refine LJ.gF rfl rfl ?_
    refine LJ.yd rfl (Yd.pickFB rfl rfl) ?_
    refine LJ.nil ?_
    refine CJ.condF rfl ?_
    refine CJ.skip ?_
    refine CJ.seq ?_
    refine CJ.region ?_
    refine LJ.yd rfl (Yd.loadG (us := [_, _, _]) 3 rfl rfl rfl rfl) ?_
    refine LJ.store (v := .agg #[_, _, _]) (us := [_, _, _]) 0 rfl rfl rfl rfl rfl rfl rfl rfl ?_
    refine LJ.nil ?_
    refine CJ.ret ?_
    exact Fin.R [_, _] (Res.one (ResV.cell (us := [_, _, _]) 0 rfl rfl rfl rfl)) ⟨_, _, _, F, _, _, _, rfl, rfl, rfl, by omega, by omega, by omega, by omega, by omega⟩ (Ent.pick [1, 2] [0, 3] rfl)
def WkE (v : Value) (gs : List HProp) : Prop := ∃ (W H : Int) (ps : List Pane) (pa : Option Addr) (m pc : Nat), v = .agg #[vI W, vI H, .slice pa m pc] ∧ gs = [LR Pane.enc 28 4 pa pc ps] ∧ m = ps.length ∧ (0 ≤ W ∧ W ≤ 201) ∧ (0 ≤ H ∧ H ≤ 201) ∧ ps.length ≤ 8
theorem DrawCutsFrom_ok {A : Amb} {a : Option Addr} {n c : Nat} (h : Code A.h a n c) : Ctr Try.prog 32 #[.slice a n c] A [] WkE := by
  obtain ⟨hcode, hn, ha, hs⟩ := h
  refine Ctr.body (args := [_]) Try.func32 rfl Try.ntmps32 Try.results32 (by simp) ?_
  refine CJ.seq ?_
  refine CJ.region ?_
  refine LJ.alloc ([_, _, _] : List Value) rfl rfl (fun b1 => ?_)
  refine LJ.nil ?_
  refine CJ.seq ?_
  refine CJ.region ?_
  refine LJ.yd rfl (Yd.mvS rfl) ?_
  refine LJ.call0 rfl (fun k hk dk => newReader_ok hn hcode.up ha hs) ?_
  rintro _ _ ⟨rb, n2, rfl, hn1, hn2, rfl⟩
  have hcode2 := hcode.le hn2
  refine LJ.call (pickF _ [0]) (pickF _ [1]) rfl (perm_pickF _ [0] [1] rfl) (fun k hk dk => fewWork_ok hcode2.up (by omega) (by omega)) ?_
  rintro _ _ ⟨W, H, q1, F, fa, fm, fc, rfl, rfl, rfl, hq1, hq2, hW, hH, hFl⟩
  refine LJ.norm [_, _, _] rfl ?_
  refine LJ.store (v := .agg #[_, _, _]) (us := [_, _, _]) 0 rfl rfl rfl rfl rfl rfl rfl rfl ?_
  refine LJ.nil ?_
  refine CJ.ret ?_
  exact Fin.R [_] (Res.one (ResV.cell (us := [_, _, _]) 0 rfl rfl rfl rfl)) ⟨_, _, F, _, _, _, rfl, rfl, rfl, hW, hH, hFl⟩ (Ent.pick [2] [0, 1] rfl)
theorem DrawFewestSheets_ok {A : Amb} {a : Option Addr} {n c : Nat} (h : Code A.h a n c) : Ctr Try.prog 38 #[.slice a n c] A [] WkE := by
  obtain ⟨hcode, hn, ha, hs⟩ := h
  refine Ctr.body (args := [_]) Try.func38 rfl Try.ntmps38 Try.results38 (by simp) ?_
  refine CJ.seq ?_
  refine CJ.region ?_
  refine LJ.alloc ([_, _, _] : List Value) rfl rfl (fun b1 => ?_)
  refine LJ.nil ?_
  refine CJ.seq ?_
  refine CJ.region ?_
  refine LJ.yd rfl (Yd.mvS rfl) ?_
  refine LJ.call0 rfl (fun k hk dk => newReader_ok hn hcode.up ha hs) ?_
  rintro _ _ ⟨rb, n2, rfl, hn1, hn2, rfl⟩
  have hcode2 := hcode.le hn2
  refine LJ.call (pickF _ [0]) (pickF _ [1]) rfl (perm_pickF _ [0] [1] rfl) (fun k hk dk => fewWork_ok hcode2.up (by omega) (by omega)) ?_
  rintro _ _ ⟨W, H, q1, F, fa, fm, fc, rfl, rfl, rfl, hq1, hq2, hW, hH, hFl⟩
  refine LJ.norm [_, _, _] rfl ?_
  refine LJ.store (v := .agg #[_, _, _]) (us := [_, _, _]) 0 rfl rfl rfl rfl rfl rfl rfl rfl ?_
  refine LJ.nil ?_
  refine CJ.ret ?_
  exact Fin.R [_] (Res.one (ResV.cell (us := [_, _, _]) 0 rfl rfl rfl rfl)) ⟨_, _, F, _, _, _, rfl, rfl, rfl, hW, hH, hFl⟩ (Ent.pick [2] [0, 1] rfl)
theorem swapSides_ok (A : Amb) (p : Pane) : Ctr Try.prog 75 #[.agg #[vI p.W, vI p.H, .bool p.Turns, vI p.Kind]] A [] (Val (.agg #[vI p.H, vI p.W, .bool p.Turns, vI p.Kind])) := by
  refine Ctr.body (args := [_]) Try.func75 rfl Try.ntmps75 Try.results75 (by simp) ?_
  refine CJ.seq ?_
  refine CJ.region ?_
  refine LJ.boxG (vs := [_, _, _, _]) rfl rfl (fun b1 => ?_)
  refine LJ.alloc ([_, _, _, _] : List Value) rfl rfl (fun b2 => ?_)
  refine LJ.nil ?_
  refine CJ.seq ?_
  refine CJ.region ?_
  refine LJ.yd rfl (Yd.fieldAddr rfl) ?_
  refine LJ.yd rfl (Yd.loadC 0 rfl rfl rfl) ?_
  refine LJ.yd rfl (Yd.fieldAddr rfl) ?_
  refine LJ.yd rfl (Yd.loadC 0 rfl rfl rfl) ?_
  refine LJ.yd rfl (Yd.fieldAddr rfl) ?_
  refine LJ.store (v := .int _ _) (us := [_, _, _, _]) 0 rfl rfl rfl rfl rfl rfl rfl rfl ?_
  refine LJ.yd rfl (Yd.fieldAddr rfl) ?_
  refine LJ.store (v := .int _ _) (us := [_, _, _, _]) 0 rfl rfl rfl rfl rfl rfl rfl rfl ?_
  refine LJ.nil ?_
  refine CJ.seq ?_
  refine CJ.region ?_
  refine LJ.yd rfl (Yd.loadG (us := [_, _, _, _]) 0 rfl rfl rfl rfl) ?_
  refine LJ.store (v := .agg #[_, _, _, _]) (us := [_, _, _, _]) 1 rfl rfl rfl rfl rfl rfl rfl rfl ?_
  refine LJ.nil ?_
  refine CJ.ret ?_
  refine Fin.V (Res.one (ResV.cell (us := [_, _, _, _]) 1 rfl rfl rfl rfl)) ?_
  rfl
theorem TurnPane_k {A : Amb} {p : Pane} (hp : p.ok = true) : Ctr Try.prog 36 #[.agg #[vI p.W, vI p.H, .bool p.Turns, vI p.Kind]] A [] (Val (.agg #[vI (trn p).W, vI (trn p).H, .bool (trn p).Turns, vI (trn p).Kind])) := by
  refine Ctr.body (args := [_]) Try.func36 rfl Try.ntmps36 Try.results36 (by simp) ?_
  refine CJ.seq ?_
  refine CJ.region ?_
  refine LJ.boxG (vs := [_, _, _, _]) rfl rfl (fun b1 => ?_)
  refine LJ.alloc ([_, _, _, _] : List Value) rfl rfl (fun b2 => ?_)
  refine LJ.nil ?_
  refine CJ.seq ?_
  refine CJ.seq ?_
  refine CJ.region ?_
  refine LJ.yd rfl (Yd.loadG (us := [_, _, _, _]) 0 rfl rfl rfl rfl) ?_
  refine LJ.callV rfl (fun k hk dk => hp ▸ validPaneI_ok _ p) ?_
  refine LJ.yd rfl (Yd.not rfl) ?_
  refine LJ.nil ?_
  refine CJ.condF rfl ?_
  refine CJ.skip ?_
  refine CJ.seq ?_
  refine CJ.region ?_
  refine LJ.yd rfl (Yd.loadG (us := [_, _, _, _]) 0 rfl rfl rfl rfl) ?_
  refine LJ.callV rfl (fun k hk dk => swapSides_ok _ p) ?_
  refine LJ.store (v := .agg #[_, _, _, _]) (us := [_, _, _, _]) 1 rfl rfl rfl rfl rfl rfl rfl rfl ?_
  refine LJ.nil ?_
  refine CJ.ret ?_
  refine Fin.V (Res.one (ResV.cell (us := [_, _, _, _]) 1 rfl rfl rfl rfl)) ?_
  rfl
theorem roundUp_ok {A : Amb} {n d : Int} (hn : 0 ≤ n ∧ n ≤ 1000000000) (hd : 1 ≤ d ∧ d ≤ 1000000000) : Ctr Try.prog 76 #[vI n, vI d] A [] (Val (vI ((n + d - 1) / d))) := by
  refine Ctr.body (args := [_, _]) Try.func76 rfl Try.ntmps76 Try.results76 (by simp) ?_
  refine CJ.seq ?_
  refine CJ.region ?_
  refine LJ.yd rfl (Yd.asI rfl) ?_
  refine LJ.nil ?_
  refine CJ.seq ?_
  refine CJ.region ?_
  refine LJ.yd rfl (Yd.mvI rfl) ?_
  refine LJ.yd rfl (Yd.mvI rfl) ?_
  refine LJ.yd rfl (Yd.add rfl rfl (by unfold I64; omega)) ?_
  refine LJ.yd rfl (Yd.sub rfl rfl (by unfold I64; omega)) ?_
  refine LJ.yd rfl (Yd.mvI rfl) ?_
  refine LJ.yd rfl (Yd.quo rfl rfl (by omega) (by omega) (by unfold I64; omega)) ?_
  refine LJ.yd rfl (Yd.asI rfl) ?_
  refine LJ.nil ?_
  refine CJ.ret ?_
  refine Fin.V (Res.one (ResV.tmp (v := .int _ _) rfl)) ?_
  rfl
theorem ar_step {ps : List Pane} {k : Nat} {p : Pane} (h : ps[k]? = some p) : arP (ps.take (k + 1)) = arP (ps.take k) + p.W * p.H := by
  rw [takeC h, arP_append]; simp [arP]
theorem ar_b : ∀ {L : List Pane}, (∀ p ∈ L, p.ok = true) → 0 ≤ arP L ∧ arP L ≤ 40000 * L.length
  | [], _ => by simp [arP]
  | p :: r, h => by
    have h1 := ar_b (L := r) fun q hq => h q (by simp [hq])
    have h2 := Pane.ok_iff.1 (h p (by simp))
    have h3 : 0 ≤ p.W * p.H := Int.mul_nonneg (by omega) (by omega)
    have h4 : p.W * p.H ≤ 200 * 200 := Int.mul_le_mul h2.2.1 h2.2.2.2.1 (by omega) (by omega)
    simp only [arP, List.length_cons]; omega
theorem AreaBound_ok {A : Amb} {W H : Int} {v : Value} {ps : List Pane} (hl : RdL Pane.enc 4 A.h v ps) (hkw : workOk W H ps = true) : Ctr Try.prog 37 #[.agg #[vI W, vI H, v]] A [] (Val (vI ((arP ps + W * H - 1) / (W * H)))) := by
  obtain ⟨w1, w2, w3, w4, w5, w6⟩ := workOk_iff.1 hkw
  have hWH0 : 1 * 1 ≤ W * H := Int.mul_le_mul w1 w3 (by omega) (by omega)
  have hWH1 : W * H ≤ 200 * 200 := Int.mul_le_mul w2 w4 (by omega) (by omega)
  obtain ⟨la, lc, rfl, hlb, hl⟩ := hl.un
  refine Ctr.body (args := [_]) Try.func37 rfl Try.ntmps37 Try.results37 (by simp) ?_
  refine CJ.seq ?_
  refine CJ.region ?_
  refine LJ.boxG (vs := [_, _, _]) rfl rfl (fun b1 => ?_)
  refine LJ.yd rfl (Yd.asI rfl) ?_
  refine LJ.nil ?_
  refine CJ.seq ?_
  refine CJ.seq ?_
  refine CJ.region ?_
  refine LJ.yd rfl (Yd.loadG (us := [_, _, _]) 0 rfl rfl rfl rfl) ?_
  refine LJ.callV rfl (fun k hk dk => hkw ▸ validWorkI_ok hl.up) ?_
  refine LJ.yd rfl (Yd.not rfl) ?_
  refine LJ.nil ?_
  refine CJ.condF rfl ?_
  refine CJ.skip ?_
  refine CJ.seq ?_
  refine CJ.region ?_
  refine LJ.yd rfl (Yd.asI rfl) ?_
  refine LJ.nil ?_
  refine CJ.seq ?_
  refine CJ.seq ?_
  refine CJ.region ?_
  refine LJ.yd rfl (Yd.fieldAddr rfl) ?_
  refine LJ.yd rfl (Yd.loadC 0 rfl rfl rfl) ?_
  refine LJ.yd rfl (Yd.len rfl) ?_
  refine LJ.yd rfl (Yd.mvI rfl) ?_
  refine LJ.nil ?_
  refine CJ.block ?_
  refine CJ.loopK [1, 2, 10, 11] (Nat × Int) (fun ⟨k, ar⟩ => k ≤ ps.length ∧ ar = arP (ps.take k) ∧ 0 ≤ ar ∧ ar ≤ 40000 * k) (fun ⟨k, ar⟩ => [(12, vI k), (3, vI ar)]) (fun ⟨k, ar⟩ => ps.length - k) (0, 0) ?_ ⟨rfl, rfl, trivial⟩ ?_
  · exact ⟨by omega, by simp [arP], by omega, by omega⟩
  · rintro ⟨k, ar⟩ σ ⟨hk1, har, har0, har1⟩
    refine CJ.seq ?_
    refine CJ.region ?_
    refine LJ.splitD rfl (Yd.lss rfl rfl) (fun h13 => ?_) (fun h13 => ?_)
    · refine LJ.nil ?_
      refine CJ.seq ?_
      refine CJ.condT rfl ?_
      refine CJ.skip ?_
      refine CJ.seq ?_
      refine CJ.block ?_
      refine CJ.seq ?_
      refine CJ.region ?_
      refine LJ.idxA rfl hl rfl rfl (by omega) (by first | rfl | omega | (simp; done) | (simp; omega) | (simp [upN_len]; omega) | (simp [idxBy_len]; omega) | (simp [marks_len]; omega) | (simp [upN_len]; done) | (simp [idxBy_len]; done) | (simp [marks_len]; done) | (simp at *; omega)) (fun ib14 io14 ia14 ir14 => ?_)
      refine LJ.lgA (enc := Pane.enc) (fun u => [vI u.W, vI u.H, .bool u.Turns, vI u.Kind]) (fun _ => rfl) (fun _ => rfl) ir14 rfl rfl rfl (by first | rfl | omega | (simp; done) | (simp; omega) | (simp [upN_len]; omega) | (simp [idxBy_len]; omega) | (simp [marks_len]; omega) | (simp [upN_len]; done) | (simp [idxBy_len]; done) | (simp [marks_len]; done) | (simp at *; omega)) (fun u15 hu15 => ?_)
      try simp only [Int.toNat_natCast] at hu15
      have hp15 := Pane.ok_iff.1 (w6 u15 (List.mem_of_getElem? hu15))
      have ha15 : 0 ≤ u15.W * u15.H := Int.mul_nonneg (by omega) (by omega)
      have hb15 : u15.W * u15.H ≤ 200 * 200 := Int.mul_le_mul hp15.2.1 hp15.2.2.2.1 (by omega) (by omega)
      refine LJ.alloc ([_, _, _, _] : List Value) rfl rfl (fun b2 => ?_)
      refine LJ.store (v := .agg #[_, _, _, _]) (us := [_, _, _, _]) 1 rfl rfl rfl rfl rfl rfl rfl rfl ?_
      refine LJ.nil ?_
      refine CJ.region ?_
      refine LJ.yd rfl (Yd.mvI rfl) ?_
      refine LJ.yd rfl (Yd.fieldAddr rfl) ?_
      refine LJ.yd rfl (Yd.loadC 1 rfl rfl rfl) ?_
      refine LJ.yd rfl (Yd.fieldAddr rfl) ?_
      refine LJ.yd rfl (Yd.loadC 1 rfl rfl rfl) ?_
      refine LJ.yd rfl (Yd.mul rfl rfl (by unfold I64; omega)) ?_
      refine LJ.yd rfl (Yd.add rfl rfl (by unfold I64; omega)) ?_
      refine LJ.yd rfl (Yd.asI rfl) ?_
      refine LJ.nil ?_
      refine CJ.region ?_
      refine LJ.yd rfl (Yd.add rfl rfl (by unfold I64; omega)) ?_
      refine LJ.yd rfl (Yd.mvI rfl) ?_
      refine LJ.nil ?_
      refine ⟨(k + 1, _), ?_, ⟨rfl, rfl, rfl, rfl, trivial⟩, ⟨rfl, rfl, trivial⟩, Ent.pick [0] [1] rfl, ?_⟩
      · refine ⟨by omega, ?_⟩
        exact ⟨by rw [ar_step hu15, har], by omega, by omega⟩
      · first | omega | (dsimp only; omega) | (simp only []; omega)
    · refine LJ.nil ?_
      refine CJ.seq ?_
      refine CJ.condF rfl ?_
      refine CJ.exit ?_
      refine CJ.seq ?_
      refine CJ.region ?_
      refine LJ.yd rfl (Yd.mvI rfl) ?_
      refine LJ.yd rfl (Yd.fieldAddr rfl) ?_
      refine LJ.yd rfl (Yd.loadC 0 rfl rfl rfl) ?_
      refine LJ.yd rfl (Yd.fieldAddr rfl) ?_
      refine LJ.yd rfl (Yd.loadC 0 rfl rfl rfl) ?_
      refine LJ.yd rfl (Yd.mul rfl rfl (by unfold I64; omega)) ?_
      refine LJ.callV rfl (fun k hk dk => roundUp_ok (by omega) (by omega)) ?_
      refine LJ.yd rfl (Yd.asI rfl) ?_
      refine LJ.nil ?_
      refine CJ.ret ?_
      refine Fin.V (Res.one (ResV.tmp (v := .int _ _) rfl)) ?_
      rw [har, List.take_of_length_le (by omega)]
end Go.Proofs.Ytkojheinklgdeaa
