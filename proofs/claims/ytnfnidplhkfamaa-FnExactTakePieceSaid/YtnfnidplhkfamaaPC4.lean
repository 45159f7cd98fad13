/-
  Contracts: the first clear box of a size; the smallest piece for a pane.
-/
import Derived.Test.YtnfnidplhkfamaaPC3
namespace Go.Proofs.Ytnfnidplhkfamaa
open Go
set_option maxRecDepth 20000
set_option maxHeartbeats 1000000

/-- a clear box of this size -/
def fitC (fl : List Box) (W H w h : Int) : Prop := ∃ x y : Int, 0 ≤ x ∧ 0 ≤ y ∧ x + w ≤ W ∧ y + h ≤ H ∧ clr fl ⟨x, y, w, h⟩ = true
noncomputable def fcB (fl : List Box) (W H w h : Int) : Bool := @decide (fitC fl W H w h) (Classical.propDecidable _)
theorem fcB_T {fl : List Box} {W H w h : Int} (e : fitC fl W H w h) : fcB fl W H w h = true := @decide_eq_true _ (Classical.propDecidable _) e
theorem fcB_F {fl : List Box} {W H w h : Int} (e : ¬ fitC fl W H w h) : fcB fl W H w h = false := @decide_eq_false _ (Classical.propDecidable _) e
theorem fcB_iff {fl : List Box} {W H w h : Int} : fcB fl W H w h = true ↔ fitC fl W H w h := @decide_eq_true_iff _ (Classical.propDecidable _)
theorem pc_mid {p : Piece} (hp : pcOk p = true) : ∀ f ∈ p.fl, f.mid := fun f hf => bOk_mid ((pcOk_iff.1 hp).2.2.2.2 f hf).1
def BxB (b : Bool) (v : Value) (gs : List HProp) : Prop := ∃ r : Box, v = .tuple #[agB r, .bool b] ∧ gs = []
theorem firstClearS_ok {A : Amb} {l W H w h : Int} {fl : List Box} {v : Value} (hf : RdL Box.enc 4 A.h v fl) (hm : ∀ f ∈ fl, f.mid) (hW : W ≤ 1000) (hH : H ≤ 1000) (hw : 1 ≤ w ∧ w ≤ 1000) (hh : 1 ≤ h ∧ h ≤ 1000) :
    Ctr Try.prog 51 #[.agg #[vI l, vI W, vI H, v], vI w, vI h] A [] (BxB (fcB fl W H w h)) := by
  obtain ⟨fa, fc, rfl, hfb, hf⟩ := hf.un
  refine Ctr.body (args := [_, _, _]) Try.func51 rfl Try.ntmps51 Try.results51 (by simp) ?_
  refine CJ.seq ?_
  refine CJ.region ?_
  refine LJ.boxG (vs := [_, _, _, _]) rfl rfl (fun b1 => ?_)
  refine LJ.alloc ([_, _, _, _] : List Value) rfl rfl (fun b2 => ?_)
  refine LJ.yd rfl (Yd.asB rfl) ?_
  refine LJ.nil ?_
  refine CJ.seq ?_
  refine CJ.seq ?_
  refine CJ.region ?_
  refine LJ.yd rfl (Yd.asI rfl) ?_
  refine LJ.nil ?_
  refine CJ.block ?_
  refine CJ.loopK [1, 2, 3, 6] Int (fun y => 0 ≤ y ∧ y ≤ 1000 ∧ ∀ y' x' : Int, 0 ≤ y' → y' < y → 0 ≤ x' → x' + w ≤ W → clr fl ⟨x', y', w, h⟩ = false) (fun y => [(8, vI y)]) (fun y => (1001 - y).toNat) (0) ?_ ⟨rfl, trivial⟩ ?_
  · exact ⟨by omega, by omega, fun y' x' h1 h2 => by omega⟩
  · rintro y σ ⟨hy0, hy1, hyc⟩
    refine CJ.seq ?_
    refine CJ.seq ?_
    refine CJ.region ?_
    refine LJ.yd rfl (Yd.mvI rfl) ?_
    refine LJ.yd rfl (Yd.mvI rfl) ?_
    refine LJ.yd rfl (Yd.add rfl rfl (by unfold I64; omega)) ?_
    refine LJ.yd rfl (Yd.fieldAddr rfl) ?_
    refine LJ.yd rfl (Yd.loadC 0 rfl rfl rfl) ?_
    refine LJ.splitD rfl (Yd.leq rfl rfl) (fun h16 => ?_) (fun h16 => ?_)
    · refine LJ.nil ?_
      refine CJ.condT rfl ?_
      refine CJ.skip ?_
      refine CJ.seq ?_
      refine CJ.block ?_
      refine CJ.seq ?_
      refine CJ.region ?_
      refine LJ.yd rfl (Yd.asI rfl) ?_
      refine LJ.nil ?_
      refine CJ.block ?_
      refine CJ.loopK [1, 2, 3, 6, 8, 11, 12, 13, 14, 15, 16] Int (fun x => 0 ≤ x ∧ x ≤ 1000 ∧ ∀ x' : Int, 0 ≤ x' → x' < x → x' + w ≤ W → clr fl ⟨x', y, w, h⟩ = false) (fun x => [(9, vI x)]) (fun x => (1001 - x).toNat) (0) ?_ ⟨rfl, trivial⟩ ?_
      · exact ⟨by omega, by omega, fun x' h1 h2 => by omega⟩
      · rintro x σ ⟨hx0, hx1, hxc⟩
        refine CJ.seq ?_
        refine CJ.seq ?_
        refine CJ.region ?_
        refine LJ.yd rfl (Yd.mvI rfl) ?_
        refine LJ.yd rfl (Yd.mvI rfl) ?_
        refine LJ.yd rfl (Yd.add rfl rfl (by unfold I64; omega)) ?_
        refine LJ.yd rfl (Yd.fieldAddr rfl) ?_
        refine LJ.yd rfl (Yd.loadC 0 rfl rfl rfl) ?_
        refine LJ.splitD rfl (Yd.leq rfl rfl) (fun h24 => ?_) (fun h24 => ?_)
        · refine LJ.nil ?_
          refine CJ.condT rfl ?_
          refine CJ.skip ?_
          refine CJ.seq ?_
          refine CJ.block ?_
          refine CJ.seq ?_
          refine CJ.region ?_
          refine LJ.yd rfl (Yd.mvI rfl) ?_
          refine LJ.yd rfl (Yd.mvI rfl) ?_
          refine LJ.yd rfl (Yd.mvI rfl) ?_
          refine LJ.yd rfl (Yd.mvI rfl) ?_
          refine LJ.yd rfl (Yd.build (cs := [_, _, _, _]) rfl) ?_
          refine LJ.alloc ([_, _, _, _] : List Value) rfl rfl (fun b3 => ?_)
          refine LJ.store (v := .agg #[_, _, _, _]) (us := [_, _, _, _]) 2 rfl rfl rfl rfl rfl rfl rfl rfl ?_
          refine LJ.nil ?_
          refine CJ.seq ?_
          refine CJ.region ?_
          refine LJ.yd rfl (Yd.loadG (us := [_, _, _, _]) 0 rfl rfl rfl rfl) ?_
          refine LJ.yd rfl (Yd.loadG (us := [_, _, _, _]) 2 rfl rfl rfl rfl) ?_
          refine LJ.callB rfl (fun k hk dk => clearAtS_ok hf.up hm ⟨x, y, w, h⟩ (by unfold Box.mid; simp only; omega)) (fun h34 => ?_) (fun h34 => ?_)
          · refine LJ.nil ?_
            refine CJ.condT rfl ?_
            refine CJ.seq ?_
            refine CJ.region ?_
            refine LJ.yd rfl (Yd.loadG (us := [_, _, _, _]) 2 rfl rfl rfl rfl) ?_
            refine LJ.store (v := .agg #[_, _, _, _]) (us := [_, _, _, _]) 1 rfl rfl rfl rfl rfl rfl rfl rfl ?_
            refine LJ.yd rfl (Yd.asB rfl) ?_
            refine LJ.nil ?_
            refine CJ.ret ?_
            first
              | (have e : fcB fl W H w h = true := fcB_T ⟨x, y, hx0, hy0, by omega, by omega, h34⟩
                 exact Fin.R [] (Res.two (ResV.cell (us := [_, _, _, _]) 1 rfl rfl rfl rfl) (ResV.tmp (v := .bool true) rfl)) ⟨⟨_, _, _, _⟩, by rw [e] <;> rfl, rfl⟩ (Ent.pick [] [0, 1, 2] rfl))
              | (have e : fcB fl W H w h = false := fcB_F fun ⟨x', y', h1, h2, h3, h4, h5⟩ => by
                   have := hyc y' x' h2 (by omega) h1 h3
                   rw [h5] at this; cases this
                 exact Fin.R [] (Res.two (ResV.cell (us := [_, _, _, _]) 1 rfl rfl rfl rfl) (ResV.tmp (v := .bool true) rfl)) ⟨⟨_, _, _, _⟩, by rw [e] <;> rfl, rfl⟩ (Ent.pick [] [0, 1, 2] rfl))
          · refine LJ.nil ?_
            refine CJ.condF rfl ?_
            refine CJ.skip ?_
            refine CJ.region ?_
            refine LJ.yd rfl (Yd.mvI rfl) ?_
            refine LJ.yd rfl (Yd.add rfl rfl (by unfold I64; omega)) ?_
            refine LJ.yd rfl (Yd.asI rfl) ?_
            refine LJ.nil ?_
            refine ⟨_, ?_, ⟨rfl, rfl, rfl, rfl, rfl, rfl, rfl, rfl, rfl, rfl, rfl, trivial⟩, ⟨rfl, trivial⟩, Ent.pick [0, 1] [2] rfl, ?_⟩
            · refine ⟨by omega, by omega, fun x' h1 h2 h3 => ?_⟩
              by_cases e : x' = x
              · subst e; assumption
              · exact hxc x' h1 (by omega) h3
            · first | omega | (dsimp only; omega) | (simp only []; omega)
        · refine LJ.nil ?_
          refine CJ.condF rfl ?_
          refine CJ.exit ?_
          refine CJ.region ?_
          refine LJ.yd rfl (Yd.mvI rfl) ?_
          refine LJ.yd rfl (Yd.add rfl rfl (by unfold I64; omega)) ?_
          refine LJ.yd rfl (Yd.asI rfl) ?_
          refine LJ.nil ?_
          refine ⟨_, ?_, ⟨rfl, rfl, rfl, rfl, trivial⟩, ⟨rfl, trivial⟩, Ent.refl _, ?_⟩
          · refine ⟨by omega, by omega, fun y' x' h1 h2 h3 h4 => ?_⟩
            by_cases e : y' = y
            · subst e; exact hxc x' h3 (by omega) h4
            · exact hyc y' x' h1 (by omega) h3 h4
          · first | omega | (dsimp only; omega) | (simp only []; omega)
    · refine LJ.nil ?_
      refine CJ.condF rfl ?_
      refine CJ.exit ?_
      refine CJ.seq ?_
      refine CJ.region ?_
      refine LJ.yd rfl (Yd.build (cs := [_, _, _, _]) rfl) ?_
      refine LJ.store (v := .agg #[_, _, _, _]) (us := [_, _, _, _]) 1 rfl rfl rfl rfl rfl rfl rfl rfl ?_
      refine LJ.yd rfl (Yd.asB rfl) ?_
      refine LJ.nil ?_
      refine CJ.ret ?_
      first
        | (have e : fcB fl W H w h = true := fcB_T ⟨x, y, hx0, hy0, by omega, by omega, h34⟩
           exact Fin.R [] (Res.two (ResV.cell (us := [_, _, _, _]) 1 rfl rfl rfl rfl) (ResV.tmp (v := .bool false) rfl)) ⟨⟨_, _, _, _⟩, by rw [e] <;> rfl, rfl⟩ (Ent.pick [] [0, 1] rfl))
        | (have e : fcB fl W H w h = false := fcB_F fun ⟨x', y', h1, h2, h3, h4, h5⟩ => by
             have := hyc y' x' h2 (by omega) h1 h3
             rw [h5] at this; cases this
           exact Fin.R [] (Res.two (ResV.cell (us := [_, _, _, _]) 1 rfl rfl rfl rfl) (ResV.tmp (v := .bool false) rfl)) ⟨⟨_, _, _, _⟩, by rw [e] <;> rfl, rfl⟩ (Ent.pick [] [0, 1] rfl))
noncomputable def fcV (p : Piece) (w h : Int) : Bool := pcOk p && (decide (1 ≤ w) && (decide (w ≤ 200) && (decide (1 ≤ h) && (decide (h ≤ 200) && fcB p.fl p.w p.h w h))))
theorem FirstClearI_ok {A : Amb} {w h : Int} {p : Piece} {v : Value} (hf : RdL Box.enc 4 A.h v p.fl) : Ctr Try.prog 14 #[.agg #[vI p.l, vI p.w, vI p.h, v], vI w, vI h] A [] (BxB (fcV p w h)) := by
  obtain ⟨fa, fc, rfl, hfb, hf⟩ := hf.un
  refine Ctr.body (args := [_, _, _]) Try.func14 rfl Try.ntmps14 Try.results14 (by simp) ?_
  refine CJ.seq ?_
  refine CJ.region ?_
  refine LJ.boxG (vs := [_, _, _, _]) rfl rfl (fun b1 => ?_)
  refine LJ.alloc ([_, _, _, _] : List Value) rfl rfl (fun b2 => ?_)
  refine LJ.yd rfl (Yd.asB rfl) ?_
  refine LJ.nil ?_
  refine CJ.seq ?_
  refine CJ.seq ?_
  refine CJ.region ?_
  refine LJ.yd rfl (Yd.loadG (us := [_, _, _, _]) 0 rfl rfl rfl rfl) ?_
  refine LJ.callB rfl (fun k hk dk => ValidPieceI_ok hf.up) (fun h12 => ?_) (fun h12 => ?_)
  · refine LJ.yd rfl (Yd.not rfl) ?_
    refine LJ.yd rfl (Yd.mvB rfl) ?_
    refine LJ.gT rfl ?_
    refine LJ.yd rfl (Yd.mvI rfl) ?_
    refine LJ.gT rfl ?_
    refine LJ.splitD rfl (Yd.lss rfl rfl) (fun h16 => ?_) (fun h16 => ?_)
    · refine LJ.yd rfl (Yd.pickFB rfl rfl) ?_
      refine LJ.yd rfl (Yd.mvB rfl) ?_
      refine LJ.gF rfl rfl ?_
      refine LJ.gF rfl rfl ?_
      refine LJ.yd rfl (Yd.pickTB rfl rfl) ?_
      refine LJ.yd rfl (Yd.mvB rfl) ?_
      refine LJ.gF rfl rfl ?_
      refine LJ.gF rfl rfl ?_
      refine LJ.yd rfl (Yd.pickTB rfl rfl) ?_
      refine LJ.yd rfl (Yd.mvB rfl) ?_
      refine LJ.gF rfl rfl ?_
      refine LJ.gF rfl rfl ?_
      refine LJ.yd rfl (Yd.pickTB rfl rfl) ?_
      refine LJ.nil ?_
      refine CJ.condT rfl ?_
      refine CJ.seq ?_
      refine CJ.region ?_
      refine LJ.yd rfl (Yd.build (cs := [_, _, _, _]) rfl) ?_
      refine LJ.store (v := .agg #[_, _, _, _]) (us := [_, _, _, _]) 1 rfl rfl rfl rfl rfl rfl rfl rfl ?_
      refine LJ.yd rfl (Yd.asB rfl) ?_
      refine LJ.nil ?_
      refine CJ.ret ?_
      first
        | (have e : fcV p w h = false := by
             refine Bool.eq_false_iff.2 fun q => ?_
             simp only [fcV, Bool.and_eq_true, decide_eq_true_eq] at q
             first
               | omega
               | (rw [h12] at q; cases q.1; done)
               | (obtain ⟨q1, q2, q3, q4, q5, q6⟩ := q; omega)
           exact Fin.R [] (Res.two (ResV.cell (us := [_, _, _, _]) 1 rfl rfl rfl rfl) (ResV.tmp (v := .bool false) rfl)) ⟨⟨_, _, _, _⟩, by rw [e] <;> rfl, rfl⟩ (Ent.pick [] [0, 1] rfl))
        | (have e : fcV p w h = true := by
             simp only [fcV, Bool.and_eq_true, decide_eq_true_eq]
             exact ⟨h12, by omega, by omega, by omega, by omega, fcB_T ⟨x, y, hx0, hy0, by omega, by omega, by rw [h55] at hac; simpa using hac.symm⟩⟩
           exact Fin.R [] (Res.two (ResV.cell (us := [_, _, _, _]) 1 rfl rfl rfl rfl) (ResV.tmp (v := .bool false) rfl)) ⟨⟨_, _, _, _⟩, by rw [e] <;> rfl, rfl⟩ (Ent.pick [] [0, 1] rfl))
        | (have e : fcV p w h = false := by
             refine Bool.eq_false_iff.2 fun q => ?_
             simp only [fcV, Bool.and_eq_true, decide_eq_true_eq] at q
             obtain ⟨x', y', h1, h2, h3, h4, h5⟩ := fcB_iff.1 q.2.2.2.2.2
             have := hyc y' x' h2 (by omega) h1 h3
             rw [h5] at this; cases this
           exact Fin.R [] (Res.two (ResV.cell (us := [_, _, _, _]) 1 rfl rfl rfl rfl) (ResV.tmp (v := .bool false) rfl)) ⟨⟨_, _, _, _⟩, by rw [e] <;> rfl, rfl⟩ (Ent.pick [] [0, 1] rfl))
    · refine LJ.yd rfl (Yd.pickFB rfl rfl) ?_
      refine LJ.yd rfl (Yd.mvB rfl) ?_
      refine LJ.gT rfl ?_
      refine LJ.yd rfl (Yd.mvI rfl) ?_
      refine LJ.gT rfl ?_
      refine LJ.splitD rfl (Yd.gtr rfl rfl) (fun h20 => ?_) (fun h20 => ?_)
      · refine LJ.yd rfl (Yd.pickFB rfl rfl) ?_
        refine LJ.yd rfl (Yd.mvB rfl) ?_
        refine LJ.gF rfl rfl ?_
        refine LJ.gF rfl rfl ?_
        refine LJ.yd rfl (Yd.pickTB rfl rfl) ?_
        refine LJ.yd rfl (Yd.mvB rfl) ?_
        refine LJ.gF rfl rfl ?_
        refine LJ.gF rfl rfl ?_
        refine LJ.yd rfl (Yd.pickTB rfl rfl) ?_
        refine LJ.nil ?_
        refine CJ.condT rfl ?_
        refine CJ.seq ?_
        refine CJ.region ?_
        refine LJ.yd rfl (Yd.build (cs := [_, _, _, _]) rfl) ?_
        refine LJ.store (v := .agg #[_, _, _, _]) (us := [_, _, _, _]) 1 rfl rfl rfl rfl rfl rfl rfl rfl ?_
        refine LJ.yd rfl (Yd.asB rfl) ?_
        refine LJ.nil ?_
        refine CJ.ret ?_
        first
          | (have e : fcV p w h = false := by
               refine Bool.eq_false_iff.2 fun q => ?_
               simp only [fcV, Bool.and_eq_true, decide_eq_true_eq] at q
               first
                 | omega
                 | (rw [h12] at q; cases q.1; done)
                 | (obtain ⟨q1, q2, q3, q4, q5, q6⟩ := q; omega)
             exact Fin.R [] (Res.two (ResV.cell (us := [_, _, _, _]) 1 rfl rfl rfl rfl) (ResV.tmp (v := .bool false) rfl)) ⟨⟨_, _, _, _⟩, by rw [e] <;> rfl, rfl⟩ (Ent.pick [] [0, 1] rfl))
          | (have e : fcV p w h = true := by
               simp only [fcV, Bool.and_eq_true, decide_eq_true_eq]
               exact ⟨h12, by omega, by omega, by omega, by omega, fcB_T ⟨x, y, hx0, hy0, by omega, by omega, by rw [h55] at hac; simpa using hac.symm⟩⟩
             exact Fin.R [] (Res.two (ResV.cell (us := [_, _, _, _]) 1 rfl rfl rfl rfl) (ResV.tmp (v := .bool false) rfl)) ⟨⟨_, _, _, _⟩, by rw [e] <;> rfl, rfl⟩ (Ent.pick [] [0, 1] rfl))
          | (have e : fcV p w h = false := by
               refine Bool.eq_false_iff.2 fun q => ?_
               simp only [fcV, Bool.and_eq_true, decide_eq_true_eq] at q
               obtain ⟨x', y', h1, h2, h3, h4, h5⟩ := fcB_iff.1 q.2.2.2.2.2
               have := hyc y' x' h2 (by omega) h1 h3
               rw [h5] at this; cases this
             exact Fin.R [] (Res.two (ResV.cell (us := [_, _, _, _]) 1 rfl rfl rfl rfl) (ResV.tmp (v := .bool false) rfl)) ⟨⟨_, _, _, _⟩, by rw [e] <;> rfl, rfl⟩ (Ent.pick [] [0, 1] rfl))
      · refine LJ.yd rfl (Yd.pickFB rfl rfl) ?_
        refine LJ.yd rfl (Yd.mvB rfl) ?_
        refine LJ.gT rfl ?_
        refine LJ.yd rfl (Yd.mvI rfl) ?_
        refine LJ.gT rfl ?_
        refine LJ.splitD rfl (Yd.lss rfl rfl) (fun h24 => ?_) (fun h24 => ?_)
        · refine LJ.yd rfl (Yd.pickFB rfl rfl) ?_
          refine LJ.yd rfl (Yd.mvB rfl) ?_
          refine LJ.gF rfl rfl ?_
          refine LJ.gF rfl rfl ?_
          refine LJ.yd rfl (Yd.pickTB rfl rfl) ?_
          refine LJ.nil ?_
          refine CJ.condT rfl ?_
          refine CJ.seq ?_
          refine CJ.region ?_
          refine LJ.yd rfl (Yd.build (cs := [_, _, _, _]) rfl) ?_
          refine LJ.store (v := .agg #[_, _, _, _]) (us := [_, _, _, _]) 1 rfl rfl rfl rfl rfl rfl rfl rfl ?_
          refine LJ.yd rfl (Yd.asB rfl) ?_
          refine LJ.nil ?_
          refine CJ.ret ?_
          first
            | (have e : fcV p w h = false := by
                 refine Bool.eq_false_iff.2 fun q => ?_
                 simp only [fcV, Bool.and_eq_true, decide_eq_true_eq] at q
                 first
                   | omega
                   | (rw [h12] at q; cases q.1; done)
                   | (obtain ⟨q1, q2, q3, q4, q5, q6⟩ := q; omega)
               exact Fin.R [] (Res.two (ResV.cell (us := [_, _, _, _]) 1 rfl rfl rfl rfl) (ResV.tmp (v := .bool false) rfl)) ⟨⟨_, _, _, _⟩, by rw [e] <;> rfl, rfl⟩ (Ent.pick [] [0, 1] rfl))
            | (have e : fcV p w h = true := by
                 simp only [fcV, Bool.and_eq_true, decide_eq_true_eq]
                 exact ⟨h12, by omega, by omega, by omega, by omega, fcB_T ⟨x, y, hx0, hy0, by omega, by omega, by rw [h55] at hac; simpa using hac.symm⟩⟩
               exact Fin.R [] (Res.two (ResV.cell (us := [_, _, _, _]) 1 rfl rfl rfl rfl) (ResV.tmp (v := .bool false) rfl)) ⟨⟨_, _, _, _⟩, by rw [e] <;> rfl, rfl⟩ (Ent.pick [] [0, 1] rfl))
            | (have e : fcV p w h = false := by
                 refine Bool.eq_false_iff.2 fun q => ?_
                 simp only [fcV, Bool.and_eq_true, decide_eq_true_eq] at q
                 obtain ⟨x', y', h1, h2, h3, h4, h5⟩ := fcB_iff.1 q.2.2.2.2.2
                 have := hyc y' x' h2 (by omega) h1 h3
                 rw [h5] at this; cases this
               exact Fin.R [] (Res.two (ResV.cell (us := [_, _, _, _]) 1 rfl rfl rfl rfl) (ResV.tmp (v := .bool false) rfl)) ⟨⟨_, _, _, _⟩, by rw [e] <;> rfl, rfl⟩ (Ent.pick [] [0, 1] rfl))
        · refine LJ.yd rfl (Yd.pickFB rfl rfl) ?_
          refine LJ.yd rfl (Yd.mvB rfl) ?_
          refine LJ.gT rfl ?_
          refine LJ.yd rfl (Yd.mvI rfl) ?_
          refine LJ.gT rfl ?_
          refine LJ.splitD rfl (Yd.gtr rfl rfl) (fun h28 => ?_) (fun h28 => ?_)
          · refine LJ.yd rfl (Yd.pickFB rfl rfl) ?_
            refine LJ.nil ?_
            refine CJ.condT rfl ?_
            refine CJ.seq ?_
            refine CJ.region ?_
            refine LJ.yd rfl (Yd.build (cs := [_, _, _, _]) rfl) ?_
            refine LJ.store (v := .agg #[_, _, _, _]) (us := [_, _, _, _]) 1 rfl rfl rfl rfl rfl rfl rfl rfl ?_
            refine LJ.yd rfl (Yd.asB rfl) ?_
            refine LJ.nil ?_
            refine CJ.ret ?_
            first
              | (have e : fcV p w h = false := by
                   refine Bool.eq_false_iff.2 fun q => ?_
                   simp only [fcV, Bool.and_eq_true, decide_eq_true_eq] at q
                   first
                     | omega
                     | (rw [h12] at q; cases q.1; done)
                     | (obtain ⟨q1, q2, q3, q4, q5, q6⟩ := q; omega)
                 exact Fin.R [] (Res.two (ResV.cell (us := [_, _, _, _]) 1 rfl rfl rfl rfl) (ResV.tmp (v := .bool false) rfl)) ⟨⟨_, _, _, _⟩, by rw [e] <;> rfl, rfl⟩ (Ent.pick [] [0, 1] rfl))
              | (have e : fcV p w h = true := by
                   simp only [fcV, Bool.and_eq_true, decide_eq_true_eq]
                   exact ⟨h12, by omega, by omega, by omega, by omega, fcB_T ⟨x, y, hx0, hy0, by omega, by omega, by rw [h55] at hac; simpa using hac.symm⟩⟩
                 exact Fin.R [] (Res.two (ResV.cell (us := [_, _, _, _]) 1 rfl rfl rfl rfl) (ResV.tmp (v := .bool false) rfl)) ⟨⟨_, _, _, _⟩, by rw [e] <;> rfl, rfl⟩ (Ent.pick [] [0, 1] rfl))
              | (have e : fcV p w h = false := by
                   refine Bool.eq_false_iff.2 fun q => ?_
                   simp only [fcV, Bool.and_eq_true, decide_eq_true_eq] at q
                   obtain ⟨x', y', h1, h2, h3, h4, h5⟩ := fcB_iff.1 q.2.2.2.2.2
                   have := hyc y' x' h2 (by omega) h1 h3
                   rw [h5] at this; cases this
                 exact Fin.R [] (Res.two (ResV.cell (us := [_, _, _, _]) 1 rfl rfl rfl rfl) (ResV.tmp (v := .bool false) rfl)) ⟨⟨_, _, _, _⟩, by rw [e] <;> rfl, rfl⟩ (Ent.pick [] [0, 1] rfl))
          · refine LJ.yd rfl (Yd.pickFB rfl rfl) ?_
            refine LJ.nil ?_
            refine CJ.condF rfl ?_
            refine CJ.skip ?_
            refine CJ.seq ?_
            refine CJ.seq ?_
            obtain ⟨_, _, hpw, _, _⟩ := pcOk_iff.1 h12
            refine CJ.region ?_
            refine LJ.yd rfl (Yd.asI rfl) ?_
            refine LJ.nil ?_
            refine CJ.block ?_
            refine CJ.loopK [1, 2, 3, 6] Int (fun y => 0 ≤ y ∧ y ≤ 1000 ∧ ∀ y' x' : Int, 0 ≤ y' → y' < y → 0 ≤ x' → x' + w ≤ p.w → clr p.fl ⟨x', y', w, h⟩ = false) (fun y => [(8, vI y)]) (fun y => (1001 - y).toNat) (0) ?_ ⟨rfl, trivial⟩ ?_
            · exact ⟨by omega, by omega, fun y' x' h1 h2 => by omega⟩
            · rintro y σ ⟨hy0, hy1, hyc⟩
              refine CJ.seq ?_
              refine CJ.seq ?_
              refine CJ.region ?_
              refine LJ.yd rfl (Yd.mvI rfl) ?_
              refine LJ.yd rfl (Yd.mvI rfl) ?_
              refine LJ.yd rfl (Yd.add rfl rfl (by unfold I64; omega)) ?_
              refine LJ.yd rfl (Yd.fieldAddr rfl) ?_
              refine LJ.yd rfl (Yd.loadC 0 rfl rfl rfl) ?_
              refine LJ.splitD rfl (Yd.leq rfl rfl) (fun h36 => ?_) (fun h36 => ?_)
              · refine LJ.nil ?_
                refine CJ.condT rfl ?_
                refine CJ.skip ?_
                refine CJ.seq ?_
                refine CJ.block ?_
                refine CJ.seq ?_
                refine CJ.region ?_
                refine LJ.yd rfl (Yd.asI rfl) ?_
                refine LJ.nil ?_
                refine CJ.block ?_
                refine CJ.loopK [1, 2, 3, 6, 8, 31, 32, 33, 34, 35, 36] Int (fun x => 0 ≤ x ∧ x ≤ 1000 ∧ ∀ x' : Int, 0 ≤ x' → x' < x → x' + w ≤ p.w → clr p.fl ⟨x', y, w, h⟩ = false) (fun x => [(9, vI x)]) (fun x => (1001 - x).toNat) (0) ?_ ⟨rfl, trivial⟩ ?_
                · exact ⟨by omega, by omega, fun x' h1 h2 => by omega⟩
                · rintro x σ ⟨hx0, hx1, hxc⟩
                  refine CJ.seq ?_
                  refine CJ.seq ?_
                  refine CJ.region ?_
                  refine LJ.yd rfl (Yd.mvI rfl) ?_
                  refine LJ.yd rfl (Yd.mvI rfl) ?_
                  refine LJ.yd rfl (Yd.add rfl rfl (by unfold I64; omega)) ?_
                  refine LJ.yd rfl (Yd.fieldAddr rfl) ?_
                  refine LJ.yd rfl (Yd.loadC 0 rfl rfl rfl) ?_
                  refine LJ.splitD rfl (Yd.leq rfl rfl) (fun h44 => ?_) (fun h44 => ?_)
                  · refine LJ.nil ?_
                    refine CJ.condT rfl ?_
                    refine CJ.skip ?_
                    refine CJ.seq ?_
                    refine CJ.block ?_
                    refine CJ.seq ?_
                    have hbk : bOk ⟨x, y, w, h⟩ = true := bOk_iff.2 (by simp only; omega)
                    have hac := any_clr h12 hbk
                    refine CJ.region ?_
                    refine LJ.yd rfl (Yd.mvI rfl) ?_
                    refine LJ.yd rfl (Yd.mvI rfl) ?_
                    refine LJ.yd rfl (Yd.mvI rfl) ?_
                    refine LJ.yd rfl (Yd.mvI rfl) ?_
                    refine LJ.yd rfl (Yd.build (cs := [_, _, _, _]) rfl) ?_
                    refine LJ.alloc ([_, _, _, _] : List Value) rfl rfl (fun b3 => ?_)
                    refine LJ.store (v := .agg #[_, _, _, _]) (us := [_, _, _, _]) 2 rfl rfl rfl rfl rfl rfl rfl rfl ?_
                    refine LJ.nil ?_
                    refine CJ.seq ?_
                    refine CJ.region ?_
                    refine LJ.yd rfl (Yd.fieldAddr rfl) ?_
                    refine LJ.yd rfl (Yd.loadC 0 rfl rfl rfl) ?_
                    refine LJ.yd rfl (Yd.loadG (us := [_, _, _, _]) 2 rfl rfl rfl rfl) ?_
                    refine LJ.callB rfl (fun k hk dk => meetsFlaw_ok hf.up ⟨x, y, w, h⟩) (fun h55 => ?_) (fun h55 => ?_)
                    · refine LJ.yd rfl (Yd.not rfl) ?_
                      refine LJ.nil ?_
                      refine CJ.condF rfl ?_
                      refine CJ.skip ?_
                      refine CJ.region ?_
                      refine LJ.yd rfl (Yd.mvI rfl) ?_
                      refine LJ.yd rfl (Yd.add rfl rfl (by unfold I64; omega)) ?_
                      refine LJ.yd rfl (Yd.asI rfl) ?_
                      refine LJ.nil ?_
                      refine ⟨_, ?_, ⟨rfl, rfl, rfl, rfl, rfl, rfl, rfl, rfl, rfl, rfl, rfl, trivial⟩, ⟨rfl, trivial⟩, Ent.pick [0, 1] [2] rfl, ?_⟩
                      · refine ⟨by omega, by omega, fun x' h1 h2 h3 => ?_⟩
                        by_cases e : x' = x
                        · subst e; rw [h55] at hac; simpa using hac.symm
                        · exact hxc x' h1 (by omega) h3
                      · first | omega | (dsimp only; omega) | (simp only []; omega)
                    · refine LJ.yd rfl (Yd.not rfl) ?_
                      refine LJ.nil ?_
                      refine CJ.condT rfl ?_
                      refine CJ.seq ?_
                      refine CJ.region ?_
                      refine LJ.yd rfl (Yd.loadG (us := [_, _, _, _]) 2 rfl rfl rfl rfl) ?_
                      refine LJ.store (v := .agg #[_, _, _, _]) (us := [_, _, _, _]) 1 rfl rfl rfl rfl rfl rfl rfl rfl ?_
                      refine LJ.yd rfl (Yd.asB rfl) ?_
                      refine LJ.nil ?_
                      refine CJ.ret ?_
                      first
                        | (have e : fcV p w h = false := by
                             refine Bool.eq_false_iff.2 fun q => ?_
                             simp only [fcV, Bool.and_eq_true, decide_eq_true_eq] at q
                             first
                               | omega
                               | (rw [h12] at q; cases q.1; done)
                               | (obtain ⟨q1, q2, q3, q4, q5, q6⟩ := q; omega)
                           exact Fin.R [] (Res.two (ResV.cell (us := [_, _, _, _]) 1 rfl rfl rfl rfl) (ResV.tmp (v := .bool true) rfl)) ⟨⟨_, _, _, _⟩, by rw [e] <;> rfl, rfl⟩ (Ent.pick [] [0, 1, 2] rfl))
                        | (have e : fcV p w h = true := by
                             simp only [fcV, Bool.and_eq_true, decide_eq_true_eq]
                             exact ⟨h12, by omega, by omega, by omega, by omega, fcB_T ⟨x, y, hx0, hy0, by omega, by omega, by rw [h55] at hac; simpa using hac.symm⟩⟩
                           exact Fin.R [] (Res.two (ResV.cell (us := [_, _, _, _]) 1 rfl rfl rfl rfl) (ResV.tmp (v := .bool true) rfl)) ⟨⟨_, _, _, _⟩, by rw [e] <;> rfl, rfl⟩ (Ent.pick [] [0, 1, 2] rfl))
                        | (have e : fcV p w h = false := by
                             refine Bool.eq_false_iff.2 fun q => ?_
                             simp only [fcV, Bool.and_eq_true, decide_eq_true_eq] at q
                             obtain ⟨x', y', h1, h2, h3, h4, h5⟩ := fcB_iff.1 q.2.2.2.2.2
                             have := hyc y' x' h2 (by omega) h1 h3
                             rw [h5] at this; cases this
                           exact Fin.R [] (Res.two (ResV.cell (us := [_, _, _, _]) 1 rfl rfl rfl rfl) (ResV.tmp (v := .bool true) rfl)) ⟨⟨_, _, _, _⟩, by rw [e] <;> rfl, rfl⟩ (Ent.pick [] [0, 1, 2] rfl))
                  · refine LJ.nil ?_
                    refine CJ.condF rfl ?_
                    refine CJ.exit ?_
                    refine CJ.region ?_
                    refine LJ.yd rfl (Yd.mvI rfl) ?_
                    refine LJ.yd rfl (Yd.add rfl rfl (by unfold I64; omega)) ?_
                    refine LJ.yd rfl (Yd.asI rfl) ?_
                    refine LJ.nil ?_
                    refine ⟨_, ?_, ⟨rfl, rfl, rfl, rfl, trivial⟩, ⟨rfl, trivial⟩, Ent.refl _, ?_⟩
                    · refine ⟨by omega, by omega, fun y' x' h1 h2 h3 h4 => ?_⟩
                      by_cases e : y' = y
                      · subst e; exact hxc x' h3 (by omega) h4
                      · exact hyc y' x' h1 (by omega) h3 h4
                    · first | omega | (dsimp only; omega) | (simp only []; omega)
              · refine LJ.nil ?_
                refine CJ.condF rfl ?_
                refine CJ.exit ?_
                refine CJ.seq ?_
                refine CJ.region ?_
                refine LJ.yd rfl (Yd.build (cs := [_, _, _, _]) rfl) ?_
                refine LJ.store (v := .agg #[_, _, _, _]) (us := [_, _, _, _]) 1 rfl rfl rfl rfl rfl rfl rfl rfl ?_
                refine LJ.yd rfl (Yd.asB rfl) ?_
                refine LJ.nil ?_
                refine CJ.ret ?_
                first
                  | (have e : fcV p w h = false := by
                       refine Bool.eq_false_iff.2 fun q => ?_
                       simp only [fcV, Bool.and_eq_true, decide_eq_true_eq] at q
                       first
                         | omega
                         | (rw [h12] at q; cases q.1; done)
                         | (obtain ⟨q1, q2, q3, q4, q5, q6⟩ := q; omega)
                     exact Fin.R [] (Res.two (ResV.cell (us := [_, _, _, _]) 1 rfl rfl rfl rfl) (ResV.tmp (v := .bool false) rfl)) ⟨⟨_, _, _, _⟩, by rw [e] <;> rfl, rfl⟩ (Ent.pick [] [0, 1] rfl))
                  | (have e : fcV p w h = true := by
                       simp only [fcV, Bool.and_eq_true, decide_eq_true_eq]
                       exact ⟨h12, by omega, by omega, by omega, by omega, fcB_T ⟨x, y, hx0, hy0, by omega, by omega, by rw [h55] at hac; simpa using hac.symm⟩⟩
                     exact Fin.R [] (Res.two (ResV.cell (us := [_, _, _, _]) 1 rfl rfl rfl rfl) (ResV.tmp (v := .bool false) rfl)) ⟨⟨_, _, _, _⟩, by rw [e] <;> rfl, rfl⟩ (Ent.pick [] [0, 1] rfl))
                  | (have e : fcV p w h = false := by
                       refine Bool.eq_false_iff.2 fun q => ?_
                       simp only [fcV, Bool.and_eq_true, decide_eq_true_eq] at q
                       obtain ⟨x', y', h1, h2, h3, h4, h5⟩ := fcB_iff.1 q.2.2.2.2.2
                       have := hyc y' x' h2 (by omega) h1 h3
                       rw [h5] at this; cases this
                     exact Fin.R [] (Res.two (ResV.cell (us := [_, _, _, _]) 1 rfl rfl rfl rfl) (ResV.tmp (v := .bool false) rfl)) ⟨⟨_, _, _, _⟩, by rw [e] <;> rfl, rfl⟩ (Ent.pick [] [0, 1] rfl))
  · refine LJ.yd rfl (Yd.not rfl) ?_
    refine LJ.yd rfl (Yd.mvB rfl) ?_
    refine LJ.gF rfl rfl ?_
    refine LJ.gF rfl rfl ?_
    refine LJ.yd rfl (Yd.pickTB rfl rfl) ?_
    refine LJ.yd rfl (Yd.mvB rfl) ?_
    refine LJ.gF rfl rfl ?_
    refine LJ.gF rfl rfl ?_
    refine LJ.yd rfl (Yd.pickTB rfl rfl) ?_
    refine LJ.yd rfl (Yd.mvB rfl) ?_
    refine LJ.gF rfl rfl ?_
    refine LJ.gF rfl rfl ?_
    refine LJ.yd rfl (Yd.pickTB rfl rfl) ?_
    refine LJ.yd rfl (Yd.mvB rfl) ?_
    refine LJ.gF rfl rfl ?_
    refine LJ.gF rfl rfl ?_
    refine LJ.yd rfl (Yd.pickTB rfl rfl) ?_
    refine LJ.nil ?_
    refine CJ.condT rfl ?_
    refine CJ.seq ?_
    refine CJ.region ?_
    refine LJ.yd rfl (Yd.build (cs := [_, _, _, _]) rfl) ?_
    refine LJ.store (v := .agg #[_, _, _, _]) (us := [_, _, _, _]) 1 rfl rfl rfl rfl rfl rfl rfl rfl ?_
    refine LJ.yd rfl (Yd.asB rfl) ?_
    refine LJ.nil ?_
    refine CJ.ret ?_
    first
      | (have e : fcV p w h = false := by
           refine Bool.eq_false_iff.2 fun q => ?_
           simp only [fcV, Bool.and_eq_true, decide_eq_true_eq] at q
           first
             | omega
             | (rw [h12] at q; cases q.1; done)
             | (obtain ⟨q1, q2, q3, q4, q5, q6⟩ := q; omega)
         exact Fin.R [] (Res.two (ResV.cell (us := [_, _, _, _]) 1 rfl rfl rfl rfl) (ResV.tmp (v := .bool false) rfl)) ⟨⟨_, _, _, _⟩, by rw [e] <;> rfl, rfl⟩ (Ent.pick [] [0, 1] rfl))
      | (have e : fcV p w h = true := by
           simp only [fcV, Bool.and_eq_true, decide_eq_true_eq]
           exact ⟨h12, by omega, by omega, by omega, by omega, fcB_T ⟨x, y, hx0, hy0, by omega, by omega, by rw [h55] at hac; simpa using hac.symm⟩⟩
         exact Fin.R [] (Res.two (ResV.cell (us := [_, _, _, _]) 1 rfl rfl rfl rfl) (ResV.tmp (v := .bool false) rfl)) ⟨⟨_, _, _, _⟩, by rw [e] <;> rfl, rfl⟩ (Ent.pick [] [0, 1] rfl))
      | (have e : fcV p w h = false := by
           refine Bool.eq_false_iff.2 fun q => ?_
           simp only [fcV, Bool.and_eq_true, decide_eq_true_eq] at q
           obtain ⟨x', y', h1, h2, h3, h4, h5⟩ := fcB_iff.1 q.2.2.2.2.2
           have := hyc y' x' h2 (by omega) h1 h3
           rw [h5] at this; cases this
         exact Fin.R [] (Res.two (ResV.cell (us := [_, _, _, _]) 1 rfl rfl rfl rfl) (ResV.tmp (v := .bool false) rfl)) ⟨⟨_, _, _, _⟩, by rw [e] <;> rfl, rfl⟩ (Ent.pick [] [0, 1] rfl))
noncomputable def ccB (p : Piece) (q : Pane) : Bool := fcV p q.W q.H || (q.Turns && fcV p q.H q.W)
theorem cutsClear_ok {A : Amb} {p : Piece} {v : Value} (hf : RdL Box.enc 4 A.h v p.fl) (q : Pane) : Ctr Try.prog 48 #[.agg #[vI p.l, vI p.w, vI p.h, v], .agg #[vI q.W, vI q.H, .bool q.Turns, vI q.Kind]] A [] (Val (.bool (ccB p q))) := by
  refine Ctr.body (args := [_, _]) Try.func48 rfl Try.ntmps48 Try.results48 (by simp) ?_
  obtain ⟨fa, fc, rfl, hfb, hf⟩ := hf.un
  refine CJ.seq ?_
  refine CJ.region ?_
  refine LJ.boxG (vs := [_, _, _, _]) rfl rfl (fun b1 => ?_)
  refine LJ.boxG (vs := [_, _, _, _]) rfl rfl (fun b2 => ?_)
  refine LJ.yd rfl (Yd.asB rfl) ?_
  refine LJ.nil ?_
  refine CJ.seq ?_
  refine CJ.seq ?_
  refine CJ.region ?_
  refine LJ.yd rfl (Yd.loadG (us := [_, _, _, _]) 0 rfl rfl rfl rfl) ?_
  refine LJ.yd rfl (Yd.fieldAddr rfl) ?_
  refine LJ.yd rfl (Yd.loadC 1 rfl rfl rfl) ?_
  refine LJ.yd rfl (Yd.fieldAddr rfl) ?_
  refine LJ.yd rfl (Yd.loadC 1 rfl rfl rfl) ?_
  refine LJ.call0 rfl (fun k hk dk => FirstClearI_ok hf.up) ?_
  rintro _ _ ⟨r15, rfl, rfl⟩
  refine LJ.yd rfl (Yd.mvU rfl) ?_
  refine LJ.yd rfl (Yd.extract rfl rfl) ?_
  refine LJ.split rfl (Yd.extract rfl rfl) (fun h17 => ?_) (fun h17 => ?_)
  · refine LJ.alloc ([_, _, _, _] : List Value) rfl rfl (fun b3 => ?_)
    refine LJ.store (v := .agg #[_, _, _, _]) (us := [_, _, _, _]) 2 rfl rfl rfl rfl rfl rfl rfl rfl ?_
    refine LJ.yd rfl (Yd.asB rfl) ?_
    refine LJ.nil ?_
    refine CJ.seq ?_
    refine CJ.region ?_
    refine LJ.yd rfl (Yd.mvB rfl) ?_
    refine LJ.nil ?_
    refine CJ.condT rfl ?_
    refine CJ.seq ?_
    refine CJ.region ?_
    refine LJ.yd rfl (Yd.asB rfl) ?_
    refine LJ.nil ?_
    refine CJ.ret ?_
    refine Fin.V (Res.one (ResV.tmp (v := .bool true) rfl)) ?_
    refine congrArg Value.bool ?_; simp_all [ccB]
  · refine LJ.alloc ([_, _, _, _] : List Value) rfl rfl (fun b4 => ?_)
    refine LJ.store (v := .agg #[_, _, _, _]) (us := [_, _, _, _]) 2 rfl rfl rfl rfl rfl rfl rfl rfl ?_
    refine LJ.yd rfl (Yd.asB rfl) ?_
    refine LJ.nil ?_
    refine CJ.seq ?_
    refine CJ.region ?_
    refine LJ.yd rfl (Yd.mvB rfl) ?_
    refine LJ.nil ?_
    refine CJ.condF rfl ?_
    refine CJ.skip ?_
    refine CJ.seq ?_
    refine CJ.seq ?_
    refine CJ.region ?_
    refine LJ.yd rfl (Yd.fieldAddr rfl) ?_
    refine LJ.split rfl (Yd.loadC 1 rfl rfl rfl) (fun h20 => ?_) (fun h20 => ?_)
    · refine LJ.yd rfl (Yd.not rfl) ?_
      refine LJ.nil ?_
      refine CJ.condF rfl ?_
      refine CJ.skip ?_
      refine CJ.seq ?_
      refine CJ.region ?_
      refine LJ.yd rfl (Yd.loadG (us := [_, _, _, _]) 0 rfl rfl rfl rfl) ?_
      refine LJ.yd rfl (Yd.fieldAddr rfl) ?_
      refine LJ.yd rfl (Yd.loadC 1 rfl rfl rfl) ?_
      refine LJ.yd rfl (Yd.fieldAddr rfl) ?_
      refine LJ.yd rfl (Yd.loadC 1 rfl rfl rfl) ?_
      refine LJ.call0 rfl (fun k hk dk => FirstClearI_ok hf.up) ?_
      rintro _ _ ⟨r28, rfl, rfl⟩
      refine LJ.yd rfl (Yd.mvU rfl) ?_
      refine LJ.yd rfl (Yd.extract rfl rfl) ?_
      refine LJ.yd rfl (Yd.extract rfl rfl) ?_
      refine LJ.alloc ([_, _, _, _] : List Value) rfl rfl (fun b5 => ?_)
      refine LJ.store (v := .agg #[_, _, _, _]) (us := [_, _, _, _]) 3 rfl rfl rfl rfl rfl rfl rfl rfl ?_
      refine LJ.yd rfl (Yd.asB rfl) ?_
      refine LJ.nil ?_
      refine CJ.seq ?_
      refine CJ.region ?_
      refine LJ.yd rfl (Yd.mvB rfl) ?_
      refine LJ.yd rfl (Yd.asB rfl) ?_
      refine LJ.nil ?_
      refine CJ.ret ?_
      refine Fin.V (Res.one (ResV.tmp (v := .bool _) rfl)) ?_
      refine congrArg Value.bool ?_; simp_all [ccB]
    · refine LJ.yd rfl (Yd.not rfl) ?_
      refine LJ.nil ?_
      refine CJ.condT rfl ?_
      refine CJ.seq ?_
      refine CJ.region ?_
      refine LJ.yd rfl (Yd.asB rfl) ?_
      refine LJ.nil ?_
      refine CJ.ret ?_
      refine Fin.V (Res.one (ResV.tmp (v := .bool false) rfl)) ?_
      refine congrArg Value.bool ?_; simp_all [ccB]
end Go.Proofs.Ytnfnidplhkfamaa
