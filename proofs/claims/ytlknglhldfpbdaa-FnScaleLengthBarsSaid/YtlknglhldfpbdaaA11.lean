/-
  Scaled lengths: the law on scaled lengths of the bars of first fit.
-/
import Derived.Test.YtlknglhldfpbdaaA10
namespace Go.Proofs.Ytlknglhldfpbdaa
open Go
set_option maxRecDepth 20000
set_option maxHeartbeats 1000000

def scl (n bar x : Int) : Int := if x * (n + 1) % bar = 0 then n * x else x * (n + 1) / bar * bar
def Sc (n bar X s : Int) : Prop := ∃ K R, (n + 1) * X = bar * K + R ∧ 0 ≤ R ∧ 0 ≤ X ∧ s ≤ bar * K ∧ (R = 0 → s = n * X)
theorem Sc_zero (n bar : Int) : Sc n bar 0 0 := ⟨0, 0, by simp, by omega, by omega, by simp, by simp⟩
theorem Sc_step {n bar X s x : Int} (hb : 1 ≤ bar) (hx : 0 ≤ x) (h : Sc n bar X s) : Sc n bar (X + x) (s + scl n bar x) := by
  obtain ⟨K, R, h1, h2, h3, h4, h5⟩ := h
  have e := Int.mul_ediv_add_emod (x * (n + 1)) bar
  have r0 := Int.emod_nonneg (x * (n + 1)) (show bar ≠ 0 by omega)
  have a3 : x * (n + 1) = n * x + x := by rw [Int.mul_add, Int.mul_one, Int.mul_comm x n]
  unfold scl
  rw [Int.add_comm] at e
  generalize x * (n + 1) / bar = q at *
  generalize x * (n + 1) % bar = r at *
  have m1 : bar * (K + q) = bar * K + bar * q := Int.mul_add _ _ _
  have m2 : (n + 1) * (X + x) = (n + 1) * X + x * (n + 1) := by rw [Int.mul_add, Int.mul_comm (n + 1) x]
  have m3 : n * (X + x) = n * X + n * x := Int.mul_add _ _ _
  have m4 : q * bar = bar * q := Int.mul_comm _ _
  refine ⟨K + q, R + r, by omega, by omega, by omega, ?_, ?_⟩
  · split <;> omega
  · intro hz
    rw [if_pos (by omega), h5 (by omega)]; omega
theorem Sc_final {n bar X s : Int} (hb : 1 ≤ bar) (hn : 0 ≤ n) (hX : X ≤ bar) (h : Sc n bar X s) : s ≤ n * bar := by
  obtain ⟨K, R, h1, h2, h3, h4, h5⟩ := h
  rcases Int.lt_or_eq_of_le h2 with h2 | h2
  · have h6 : (n + 1) * X ≤ (n + 1) * bar := Int.mul_le_mul_of_nonneg_left hX (by omega)
    have h7 : bar * K < bar * (n + 1) := by rw [Int.mul_comm bar (n + 1)]; omega
    have h8 : K < n + 1 := Int.lt_of_mul_lt_mul_left h7 (by omega)
    have h9 : bar * K ≤ bar * n := Int.mul_le_mul_of_nonneg_left (by omega) (by omega)
    rw [Int.mul_comm n bar]; omega
  · rw [h5 h2.symm]; exact Int.mul_le_mul_of_nonneg_left hX hn
theorem scl_bound {n bar x : Int} (h0 : 1 ≤ n) (h1 : n ≤ 6) (hb : 1 ≤ bar) (hx : 0 ≤ x) (hx1 : x ≤ 200) : 0 ≤ scl n bar x ∧ scl n bar x ≤ 1400 := by
  have a1 : 0 ≤ n * x := Int.mul_nonneg (by omega) hx
  have a2 : n * x ≤ 6 * 200 := Int.mul_le_mul h1 hx1 hx (by omega)
  have e := Int.mul_ediv_add_emod (x * (n + 1)) bar
  have r0 := Int.emod_nonneg (x * (n + 1)) (show bar ≠ 0 by omega)
  have a3 : x * (n + 1) = n * x + x := by rw [Int.mul_add, Int.mul_one, Int.mul_comm x n]
  have a4 : 0 ≤ x * (n + 1) / bar := Int.ediv_nonneg (by omega) (by omega)
  have a5 : 0 ≤ bar * (x * (n + 1) / bar) := Int.mul_nonneg (by omega) a4
  unfold scl
  split
  · omega
  · rw [Int.mul_comm _ bar]; omega
theorem ScaleLength_ok {A : Amb} {n bar x : Int} (h0 : 1 ≤ n) (h1 : n ≤ 6) (hb : 1 ≤ bar) (hb1 : bar ≤ 200) (hx : 0 ≤ x) (hx1 : x ≤ bar) : Ctr Try.prog 27 #[vI n, vI bar, vI x] A [] (Val (vI (scl n bar x))) := by
  have a1 : 0 ≤ n * x := Int.mul_nonneg (by omega) hx
  have a2 : n * x ≤ 6 * 200 := Int.mul_le_mul h1 (by omega) hx (by omega)
  have a3 : x * (n + 1) = n * x + x := by rw [Int.mul_add, Int.mul_one, Int.mul_comm x n]
  have a4 : 0 ≤ x * (n + 1) / bar := Int.ediv_nonneg (by omega) (by omega)
  have e := Int.mul_ediv_add_emod (x * (n + 1)) bar
  have r0 := Int.emod_nonneg (x * (n + 1)) (show bar ≠ 0 by omega)
  have a5 : 0 ≤ x * (n + 1) / bar * bar := Int.mul_nonneg a4 (by omega)
  rw [Int.mul_comm bar] at e
  refine Ctr.body (args := [_, _, _]) Try.func27 rfl Try.ntmps27 Try.results27 (by simp) ?_
  refine CJ.seq ?_
  refine CJ.region ?_
  refine LJ.yd rfl (Yd.asI rfl) ?_
  refine LJ.nil ?_
  refine CJ.seq ?_
  refine CJ.seq ?_
  refine CJ.region ?_
  refine LJ.yd rfl (Yd.mvI rfl) ?_
  refine LJ.splitD rfl (Yd.lss rfl rfl) (fun h8 => ?_) (fun h8 => ?_)
  · exfalso; omega
  · refine LJ.yd rfl (Yd.mvB rfl) ?_
    refine LJ.gT rfl ?_
    refine LJ.yd rfl (Yd.mvI rfl) ?_
    refine LJ.gT rfl ?_
    refine LJ.splitD rfl (Yd.gtr rfl rfl) (fun h11 => ?_) (fun h11 => ?_)
    · exfalso; omega
    · refine LJ.yd rfl (Yd.pickFB rfl rfl) ?_
      refine LJ.yd rfl (Yd.mvB rfl) ?_
      refine LJ.gT rfl ?_
      refine LJ.yd rfl (Yd.mvI rfl) ?_
      refine LJ.gT rfl ?_
      refine LJ.splitD rfl (Yd.lss rfl rfl) (fun h15 => ?_) (fun h15 => ?_)
      · exfalso; omega
      · refine LJ.yd rfl (Yd.pickFB rfl rfl) ?_
        refine LJ.yd rfl (Yd.mvB rfl) ?_
        refine LJ.gT rfl ?_
        refine LJ.yd rfl (Yd.mvI rfl) ?_
        refine LJ.gT rfl ?_
        refine LJ.splitD rfl (Yd.gtr rfl rfl) (fun h19 => ?_) (fun h19 => ?_)
        · exfalso; omega
        · refine LJ.yd rfl (Yd.pickFB rfl rfl) ?_
          refine LJ.yd rfl (Yd.mvB rfl) ?_
          refine LJ.gT rfl ?_
          refine LJ.yd rfl (Yd.mvI rfl) ?_
          refine LJ.gT rfl ?_
          refine LJ.splitD rfl (Yd.lss rfl rfl) (fun h23 => ?_) (fun h23 => ?_)
          · exfalso; omega
          · refine LJ.yd rfl (Yd.pickFB rfl rfl) ?_
            refine LJ.yd rfl (Yd.mvB rfl) ?_
            refine LJ.gT rfl ?_
            refine LJ.yd rfl (Yd.mvI rfl) ?_
            refine LJ.gT rfl ?_
            refine LJ.yd rfl (Yd.mvI rfl) ?_
            refine LJ.gT rfl ?_
            refine LJ.splitD rfl (Yd.gtr rfl rfl) (fun h28 => ?_) (fun h28 => ?_)
            · exfalso; omega
            · refine LJ.yd rfl (Yd.pickFB rfl rfl) ?_
              refine LJ.nil ?_
              refine CJ.condF rfl ?_
              refine CJ.skip ?_
              refine CJ.seq ?_
              refine CJ.seq ?_
              refine CJ.region ?_
              refine LJ.yd rfl (Yd.mvI rfl) ?_
              refine LJ.yd rfl (Yd.mvI rfl) ?_
              refine LJ.yd rfl (Yd.add rfl rfl (by unfold I64; omega)) ?_
              refine LJ.yd rfl (Yd.mul rfl rfl (by unfold I64; omega)) ?_
              refine LJ.yd rfl (Yd.mvI rfl) ?_
              refine LJ.yd rfl (Yd.rem rfl rfl (by omega) (by omega)) ?_
              refine LJ.splitD rfl (Yd.eql rfl rfl) (fun h36 => ?_) (fun h36 => ?_)
              · refine LJ.nil ?_
                refine CJ.condT rfl ?_
                refine CJ.seq ?_
                refine CJ.region ?_
                refine LJ.yd rfl (Yd.mvI rfl) ?_
                refine LJ.yd rfl (Yd.mvI rfl) ?_
                refine LJ.yd rfl (Yd.mul rfl rfl (by unfold I64; omega)) ?_
                refine LJ.yd rfl (Yd.asI rfl) ?_
                refine LJ.nil ?_
                refine CJ.ret ?_
                refine Fin.V (Res.one (ResV.tmp (v := .int _ _) rfl)) ?_
                unfold scl; first | rw [if_pos h36] | rw [if_neg h36]
              · refine LJ.nil ?_
                refine CJ.condF rfl ?_
                refine CJ.skip ?_
                refine CJ.seq ?_
                refine CJ.region ?_
                refine LJ.yd rfl (Yd.mvI rfl) ?_
                refine LJ.yd rfl (Yd.mvI rfl) ?_
                refine LJ.yd rfl (Yd.add rfl rfl (by unfold I64; omega)) ?_
                refine LJ.yd rfl (Yd.mul rfl rfl (by unfold I64; omega)) ?_
                refine LJ.yd rfl (Yd.mvI rfl) ?_
                refine LJ.yd rfl (Yd.quo rfl rfl (by omega) (by omega) (by unfold I64; omega)) ?_
                refine LJ.yd rfl (Yd.mvI rfl) ?_
                refine LJ.yd rfl (Yd.mul rfl rfl (by unfold I64; omega)) ?_
                refine LJ.yd rfl (Yd.asI rfl) ?_
                refine LJ.nil ?_
                refine CJ.ret ?_
                refine Fin.V (Res.one (ResV.tmp (v := .int _ _) rfl)) ?_
                unfold scl; first | rw [if_pos h36] | rw [if_neg h36]
theorem FnScaleLengthBars_ok {A : Amb} {a : Option Addr} {n c : Nat} (hc : Code A.h a n c) : Ctr Try.prog 6 #[.slice a n c] A [] (Val (.bool true)) := by
  have hcc := hc
  obtain ⟨hcode, hn, ha, hs⟩ := hcc
  refine Ctr.body (args := [_]) Try.func6 rfl Try.ntmps6 Try.results6 (by simp) ?_
  refine CJ.seq ?_
  refine CJ.region ?_
  refine LJ.yd rfl (Yd.asB rfl) ?_
  refine LJ.nil ?_
  refine CJ.seq ?_
  refine CJ.seq ?_
  refine CJ.region ?_
  refine LJ.yd rfl (Yd.mvS rfl) ?_
  refine LJ.yd rfl (Yd.len rfl) ?_
  refine LJ.splitD rfl (Yd.gtr rfl rfl) (fun h12 => ?_) (fun h12 => ?_)
  · refine LJ.nil ?_
    refine CJ.condT rfl ?_
    refine CJ.seq ?_
    refine CJ.region ?_
    refine LJ.yd rfl (Yd.asB rfl) ?_
    refine LJ.nil ?_
    refine CJ.ret ?_
    refine Fin.V (Res.one (ResV.tmp (v := .bool true) rfl)) ?_
    rfl
  · refine LJ.nil ?_
    refine CJ.condF rfl ?_
    refine CJ.skip ?_
    refine CJ.seq ?_
    refine CJ.region ?_
    refine LJ.yd rfl (Yd.mvS rfl) ?_
    refine LJ.call0 rfl (fun k hk dk => DrawFirstFit_ok hc.up) ?_
    rintro _ _ ⟨l, bar, aa, m, cc, rfl, rfl, rfl, hl1, hb0, hb1, hl2⟩
    refine LJ.norm [_] rfl ?_
    refine LJ.yd rfl (Yd.mvU rfl) ?_
    refine LJ.yd rfl (Yd.extract rfl rfl) ?_
    refine LJ.yd rfl (Yd.extract rfl rfl) ?_
    refine LJ.yd rfl (Yd.asS rfl) ?_
    refine LJ.yd rfl (Yd.asI rfl) ?_
    refine LJ.nil ?_
    refine CJ.seq ?_
    have hRl := ffR_len (l := l) (bar := bar) (o := upN l.length)
    refine CJ.region ?_
    refine LJ.yd rfl (Yd.mvS rfl) ?_
    refine LJ.yd rfl (Yd.mvI rfl) ?_
    refine LJ.call0 rfl (fun k hk dk => FirstFitI_ok (Sts.lrm hk dk 0 (by first | rfl | omega | (simp; done) | (simp; omega) | (simp [upN_len]; omega) | (simp [idxBy_len]; omega) | (simp [marks_len]; omega) | (simp [upN_len]; done) | (simp [idxBy_len]; done) | (simp [marks_len]; done) | (simp at *; omega)) (by first | rfl | omega | (simp; done) | (simp; omega) | (simp [upN_len]; omega) | (simp [idxBy_len]; omega) | (simp [marks_len]; omega) | (simp [upN_len]; done) | (simp [idxBy_len]; done) | (simp [marks_len]; done) | (simp at *; omega)) rfl)) ?_
    rintro _ _ ⟨ra20, rc20, rfl, rfl⟩
    refine LJ.norm [_, _] rfl ?_
    refine LJ.yd rfl (Yd.asS rfl) ?_
    refine LJ.nil ?_
    refine CJ.seq ?_
    refine CJ.seq ?_
    refine CJ.region ?_
    refine LJ.yd rfl (Yd.mvS rfl) ?_
    refine LJ.yd rfl (Yd.mvS rfl) ?_
    refine LJ.yd rfl (Yd.mvI rfl) ?_
    refine LJ.call0 rfl (fun k hk dk => FirstFitS_ok (Sts.lrm hk dk 0 (by first | rfl | omega | (simp; done) | (simp; omega) | (simp [upN_len]; omega) | (simp [idxBy_len]; omega) | (simp [marks_len]; omega) | (simp [upN_len]; done) | (simp [idxBy_len]; done) | (simp [marks_len]; done) | (simp at *; omega)) (by first | rfl | omega | (simp; done) | (simp; omega) | (simp [upN_len]; omega) | (simp [idxBy_len]; omega) | (simp [marks_len]; omega) | (simp [upN_len]; done) | (simp [idxBy_len]; done) | (simp [marks_len]; done) | (simp at *; omega)) rfl)) ?_
    rintro _ _ ⟨ra24, rc24, rfl, rfl⟩
    refine LJ.norm [_, _, _] rfl ?_
    refine LJ.callV rfl (fun k hk dk => equalInts_eq (Sts.lrm hk dk 1 (by first | rfl | omega | (simp; done) | (simp; omega) | (simp [upN_len]; omega) | (simp [idxBy_len]; omega) | (simp [marks_len]; omega) | (simp [upN_len]; done) | (simp [idxBy_len]; done) | (simp [marks_len]; done) | (simp at *; omega)) (by first | rfl | omega | (simp; done) | (simp; omega) | (simp [upN_len]; omega) | (simp [idxBy_len]; omega) | (simp [marks_len]; omega) | (simp [upN_len]; done) | (simp [idxBy_len]; done) | (simp [marks_len]; done) | (simp at *; omega)) rfl) (Sts.lrm hk dk 2 (by first | rfl | omega | (simp; done) | (simp; omega) | (simp [upN_len]; omega) | (simp [idxBy_len]; omega) | (simp [marks_len]; omega) | (simp [upN_len]; done) | (simp [idxBy_len]; done) | (simp [marks_len]; done) | (simp at *; omega)) (by first | rfl | omega | (simp; done) | (simp; omega) | (simp [upN_len]; omega) | (simp [idxBy_len]; omega) | (simp [marks_len]; omega) | (simp [upN_len]; done) | (simp [idxBy_len]; done) | (simp [marks_len]; done) | (simp at *; omega)) rfl)) ?_
    refine LJ.yd rfl (Yd.not rfl) ?_
    refine LJ.yd rfl (Yd.mvB rfl) ?_
    refine LJ.gT rfl ?_
    refine LJ.yd rfl (Yd.mvS rfl) ?_
    refine LJ.gT rfl ?_
    refine LJ.yd rfl (Yd.len rfl) ?_
    refine LJ.gT rfl ?_
    refine LJ.splitD rfl (Yd.eql rfl rfl) (fun h30 => ?_) (fun h30 => ?_)
    · refine LJ.yd rfl (Yd.pickFB rfl rfl) ?_
      refine LJ.nil ?_
      refine CJ.condT rfl ?_
      refine CJ.seq ?_
      refine CJ.region ?_
      refine LJ.yd rfl (Yd.mvS rfl) ?_
      refine LJ.yd rfl (Yd.mvS rfl) ?_
      refine LJ.yd rfl (Yd.mvI rfl) ?_
      refine LJ.call0 rfl (fun k hk dk => FirstFitS_ok (Sts.lrm hk dk 0 (by first | rfl | omega | (simp; done) | (simp; omega) | (simp [upN_len]; omega) | (simp [idxBy_len]; omega) | (simp [marks_len]; omega) | (simp [upN_len]; done) | (simp [idxBy_len]; done) | (simp [marks_len]; done) | (simp at *; omega)) (by first | rfl | omega | (simp; done) | (simp; omega) | (simp [upN_len]; omega) | (simp [idxBy_len]; omega) | (simp [marks_len]; omega) | (simp [upN_len]; done) | (simp [idxBy_len]; done) | (simp [marks_len]; done) | (simp at *; omega)) rfl)) ?_
      rintro _ _ ⟨ra35, rc35, rfl, rfl⟩
      refine LJ.norm [_, _, _, _] rfl ?_
      refine LJ.callV rfl (fun k hk dk => equalInts_eq (Sts.lrm hk dk 1 (by first | rfl | omega | (simp; done) | (simp; omega) | (simp [upN_len]; omega) | (simp [idxBy_len]; omega) | (simp [marks_len]; omega) | (simp [upN_len]; done) | (simp [idxBy_len]; done) | (simp [marks_len]; done) | (simp at *; omega)) (by first | rfl | omega | (simp; done) | (simp; omega) | (simp [upN_len]; omega) | (simp [idxBy_len]; omega) | (simp [marks_len]; omega) | (simp [upN_len]; done) | (simp [idxBy_len]; done) | (simp [marks_len]; done) | (simp at *; omega)) rfl) (Sts.lrm hk dk 3 (by first | rfl | omega | (simp; done) | (simp; omega) | (simp [upN_len]; omega) | (simp [idxBy_len]; omega) | (simp [marks_len]; omega) | (simp [upN_len]; done) | (simp [idxBy_len]; done) | (simp [marks_len]; done) | (simp at *; omega)) (by first | rfl | omega | (simp; done) | (simp; omega) | (simp [upN_len]; omega) | (simp [idxBy_len]; omega) | (simp [marks_len]; omega) | (simp [upN_len]; done) | (simp [idxBy_len]; done) | (simp [marks_len]; done) | (simp at *; omega)) rfl)) ?_
      refine LJ.yd rfl (Yd.asB rfl) ?_
      refine LJ.nil ?_
      refine CJ.ret ?_
      refine Fin.V (Res.one (ResV.tmp (v := .bool true) rfl)) ?_
      rfl
    · refine LJ.yd rfl (Yd.pickFB rfl rfl) ?_
      refine LJ.nil ?_
      refine CJ.condF rfl ?_
      refine CJ.skip ?_
      refine CJ.seq ?_
      refine CJ.seq ?_
      have hbo : barsOk 20 l bar = true := by
        cases hb : barsOk 20 l bar with
        | true => rfl
        | false => exfalso; rw [hb] at h30; exact h30 rfl
      have hb2 := barsOk_iff.1 hbo
      rw [if_pos hbo] at h30
      rw [if_pos hbo]
      have hol := ffit_len l bar (upN l.length)
      have h0 : 0 < l.length := by omega
      have hm := hb2.2
      have hor := ffit_lt hm (List.Perm.refl (upN l.length))
      have hmx := ff_mx hm (List.Perm.refl (upN l.length)) h0 0 (by omega)
      have hsl := ffS_le l bar (upN l.length)
      rw [upN_len] at hsl
      refine CJ.region ?_
      refine LJ.yd rfl (Yd.asI rfl) ?_
      refine LJ.nil ?_
      refine CJ.block ?_
      refine CJ.loopK [3, 4, 5] Int (fun e => 1 ≤ e ∧ e ≤ 7) (fun e => [(6, vI e)]) (fun e => (7 - e).toNat) (1) ?_ ⟨rfl, trivial⟩ ?_
      · exact by omega
      · rintro e σ hi1
        replace hi1 : 1 ≤ e ∧ e ≤ 7 := hi1
        refine CJ.seq ?_
        refine CJ.seq ?_
        refine CJ.region ?_
        refine LJ.yd rfl (Yd.mvI rfl) ?_
        refine LJ.splitD rfl (Yd.leq rfl rfl) (fun h38 => ?_) (fun h38 => ?_)
        · refine LJ.nil ?_
          refine CJ.condT rfl ?_
          refine CJ.skip ?_
          refine CJ.seq ?_
          refine CJ.block ?_
          refine CJ.seq ?_
          refine CJ.region ?_
          refine LJ.yd rfl (Yd.asI rfl) ?_
          refine LJ.nil ?_
          refine CJ.block ?_
          refine CJ.loopK [3, 4, 5, 6, 37, 38] Int (fun b => 0 ≤ b) (fun b => [(7, vI b)]) (fun b => ((ffS l bar (upN l.length)).length - b).toNat) (0) ?_ ⟨rfl, trivial⟩ ?_
          · exact by omega
          · rintro b σ hi2
            replace hi2 : 0 ≤ b := hi2
            refine CJ.seq ?_
            refine CJ.seq ?_
            refine CJ.region ?_
            refine LJ.yd rfl (Yd.mvI rfl) ?_
            refine LJ.yd rfl (Yd.mvS rfl) ?_
            refine LJ.callV rfl (fun k hk dk => highest_v (Sts.lrm hk dk 1 (by first | rfl | omega | (simp; done) | (simp; omega) | (simp [upN_len]; omega) | (simp [idxBy_len]; omega) | (simp [marks_len]; omega) | (simp [upN_len]; done) | (simp [idxBy_len]; done) | (simp [marks_len]; done) | (simp at *; omega)) (by first | rfl | omega | (simp; done) | (simp; omega) | (simp [upN_len]; omega) | (simp [idxBy_len]; omega) | (simp [marks_len]; omega) | (simp [upN_len]; done) | (simp [idxBy_len]; done) | (simp [marks_len]; done) | (simp at *; omega)) rfl) hmx) ?_
            refine LJ.splitD rfl (Yd.leq rfl rfl) (fun h44 => ?_) (fun h44 => ?_)
            · refine LJ.nil ?_
              refine CJ.condT rfl ?_
              refine CJ.skip ?_
              refine CJ.seq ?_
              refine CJ.block ?_
              refine CJ.seq ?_
              refine CJ.region ?_
              refine LJ.yd rfl (Yd.asI rfl) ?_
              refine LJ.nil ?_
              refine CJ.seq ?_
              refine CJ.seq ?_
              refine CJ.region ?_
              refine LJ.yd rfl (Yd.asI rfl) ?_
              refine LJ.nil ?_
              refine CJ.block ?_
              refine CJ.loopK [3, 4, 5, 6, 7, 37, 38, 41, 42, 43, 44] (Nat × Int) (fun ⟨k, s⟩ => k ≤ (ffit l bar (upN l.length)).length ∧ Sc e bar (ld (ffit l bar (upN l.length)) l (upN k) b) s ∧ 0 ≤ s ∧ s ≤ 1400 * k) (fun ⟨k, s⟩ => [(9, vI k), (8, vI s)]) (fun ⟨k, s⟩ => (ffit l bar (upN l.length)).length - k) (0, 0) ?_ ⟨rfl, rfl, trivial⟩ ?_
              · exact ⟨by omega, Sc_zero _ _, by omega, by omega⟩
              · rintro ⟨k, s⟩ σ ⟨hk1, hsc, hs0, hs1⟩
                refine CJ.seq ?_
                refine CJ.seq ?_
                refine CJ.region ?_
                refine LJ.yd rfl (Yd.mvI rfl) ?_
                refine LJ.yd rfl (Yd.mvS rfl) ?_
                refine LJ.yd rfl (Yd.len rfl) ?_
                refine LJ.splitD rfl (Yd.lss rfl rfl) (fun h50 => ?_) (fun h50 => ?_)
                · refine LJ.nil ?_
                  refine CJ.condT rfl ?_
                  refine CJ.skip ?_
                  refine CJ.seq ?_
                  refine CJ.block ?_
                  refine CJ.seq ?_
                  refine CJ.region ?_
                  refine LJ.yd rfl (Yd.mvS rfl) ?_
                  refine LJ.yd rfl (Yd.mvI rfl) ?_
                  refine LJ.idxR 1 rfl rfl rfl rfl (by omega) (by first | rfl | omega | (simp; done) | (simp; omega) | (simp [upN_len]; omega) | (simp [idxBy_len]; omega) | (simp [marks_len]; omega) | (simp [upN_len]; done) | (simp [idxBy_len]; done) | (simp [marks_len]; done) | (simp at *; omega)) (by first | rfl | omega | (simp; done) | (simp; omega) | (simp [upN_len]; omega) | (simp [idxBy_len]; omega) | (simp [marks_len]; omega) | (simp [upN_len]; done) | (simp [idxBy_len]; done) | (simp [marks_len]; done) | (simp at *; omega)) (fun ib55 ia55 => ?_)
                  refine LJ.ldR 1 0 (fun u => vI u) (fun _ => rfl) rfl ia55 rfl rfl rfl (by first | rfl | omega | (simp; done) | (simp; omega) | (simp [upN_len]; omega) | (simp [idxBy_len]; omega) | (simp [marks_len]; omega) | (simp [upN_len]; done) | (simp [idxBy_len]; done) | (simp [marks_len]; done) | (simp at *; omega)) (fun u56 hu56 => ?_)
                  try simp only [Int.toNat_natCast] at hu56
                  have hf56 := hor u56 (List.mem_of_getElem? hu56)
                  refine LJ.yd rfl (Yd.mvI rfl) ?_
                  refine LJ.splitD rfl (Yd.eql rfl rfl) (fun h58 => ?_) (fun h58 => ?_)
                  · refine LJ.nil ?_
                    refine CJ.condT rfl ?_
                    refine CJ.region ?_
                    refine LJ.yd rfl (Yd.mvI rfl) ?_
                    refine LJ.yd rfl (Yd.mvI rfl) ?_
                    refine LJ.yd rfl (Yd.mvI rfl) ?_
                    refine LJ.yd rfl (Yd.mvS rfl) ?_
                    refine LJ.yd rfl (Yd.mvI rfl) ?_
                    refine LJ.idxR 0 rfl rfl rfl rfl (by omega) (by first | rfl | omega | (simp; done) | (simp; omega) | (simp [upN_len]; omega) | (simp [idxBy_len]; omega) | (simp [marks_len]; omega) | (simp [upN_len]; done) | (simp [idxBy_len]; done) | (simp [marks_len]; done) | (simp at *; omega)) (by first | rfl | omega | (simp; done) | (simp; omega) | (simp [upN_len]; omega) | (simp [idxBy_len]; omega) | (simp [marks_len]; omega) | (simp [upN_len]; done) | (simp [idxBy_len]; done) | (simp [marks_len]; done) | (simp at *; omega)) (fun ib64 ia64 => ?_)
                    refine LJ.ldR 0 0 (fun u => vI u) (fun _ => rfl) rfl ia64 rfl rfl rfl (by first | rfl | omega | (simp; done) | (simp; omega) | (simp [upN_len]; omega) | (simp [idxBy_len]; omega) | (simp [marks_len]; omega) | (simp [upN_len]; done) | (simp [idxBy_len]; done) | (simp [marks_len]; done) | (simp at *; omega)) (fun u65 hu65 => ?_)
                    try simp only [Int.toNat_natCast] at hu65
                    have hf65 := hm u65 (List.mem_of_getElem? hu65)
                    have hsb := scl_bound (n := e) (bar := bar) (x := u65) (by omega) (by omega) (by omega) (by omega) (by omega)
                    refine LJ.callV rfl (fun k hk dk => ScaleLength_ok (by omega) (by omega) (by omega) (by omega) (by omega) (by omega)) ?_
                    refine LJ.yd rfl (Yd.add rfl rfl (by unfold I64; omega)) ?_
                    refine LJ.yd rfl (Yd.asI rfl) ?_
                    refine LJ.nil ?_
                    refine CJ.region ?_
                    refine LJ.yd rfl (Yd.mvI rfl) ?_
                    refine LJ.yd rfl (Yd.add rfl rfl (by unfold I64; omega)) ?_
                    refine LJ.yd rfl (Yd.asI rfl) ?_
                    refine LJ.nil ?_
                    refine ⟨(k + 1, _), ?_, ⟨rfl, rfl, rfl, rfl, rfl, rfl, rfl, rfl, rfl, rfl, rfl, trivial⟩, ⟨rfl, rfl, trivial⟩, Ent.refl _, ?_⟩
                    · refine ⟨by omega, ?_⟩
                      rw [ld_succ, gtC' hu56]
                      first
                        | (rw [if_pos h58, gtC' hu65]; exact ⟨Sc_step (by omega) (by omega) hsc, by omega, by omega⟩)
                        | (rw [if_neg h58, Int.add_zero]; exact ⟨hsc, by omega, by omega⟩)
                    · first | omega | (dsimp only; omega) | (simp only []; omega)
                  · refine LJ.nil ?_
                    refine CJ.condF rfl ?_
                    refine CJ.skip ?_
                    refine CJ.region ?_
                    refine LJ.yd rfl (Yd.mvI rfl) ?_
                    refine LJ.yd rfl (Yd.add rfl rfl (by unfold I64; omega)) ?_
                    refine LJ.yd rfl (Yd.asI rfl) ?_
                    refine LJ.nil ?_
                    refine ⟨(k + 1, _), ?_, ⟨rfl, rfl, rfl, rfl, rfl, rfl, rfl, rfl, rfl, rfl, rfl, trivial⟩, ⟨rfl, rfl, trivial⟩, Ent.refl _, ?_⟩
                    · refine ⟨by omega, ?_⟩
                      rw [ld_succ, gtC' hu56]
                      first
                        | (rw [if_pos h58, gtC' hu65]; exact ⟨Sc_step (by omega) (by omega) hsc, by omega, by omega⟩)
                        | (rw [if_neg h58, Int.add_zero]; exact ⟨hsc, by omega, by omega⟩)
                    · first | omega | (dsimp only; omega) | (simp only []; omega)
                · refine LJ.nil ?_
                  refine CJ.condF rfl ?_
                  refine CJ.exit ?_
                  refine CJ.seq ?_
                  have hbl := (ff_ld hm (List.Perm.refl (upN l.length)) (b := b) (by omega) (by omega)).2
                  have hkk : k = l.length := by omega
                  subst hkk
                  have hfin := Sc_final (by omega) (by omega) hbl hsc
                  have h1 : 0 ≤ e * bar := Int.mul_nonneg (by omega) (by omega)
                  have h2 : e * bar ≤ 6 * 20 := Int.mul_le_mul (by omega) hb1 (by omega) (by omega)
                  have he71 : I64 (e * bar) := by unfold I64; omega
                  refine CJ.region ?_
                  refine LJ.yd rfl (Yd.mvI rfl) ?_
                  refine LJ.yd rfl (Yd.mvI rfl) ?_
                  refine LJ.yd rfl (Yd.mvI rfl) ?_
                  refine LJ.yd rfl (Yd.mul rfl rfl he71) ?_
                  refine LJ.splitD rfl (Yd.gtr rfl rfl) (fun h72 => ?_) (fun h72 => ?_)
                  · exfalso; omega
                  · refine LJ.nil ?_
                    refine CJ.condF rfl ?_
                    refine CJ.skip ?_
                    refine CJ.region ?_
                    refine LJ.yd rfl (Yd.mvI rfl) ?_
                    refine LJ.yd rfl (Yd.add rfl rfl (by unfold I64; omega)) ?_
                    refine LJ.yd rfl (Yd.asI rfl) ?_
                    refine LJ.nil ?_
                    refine ⟨_, ?_, ⟨rfl, rfl, rfl, rfl, rfl, rfl, trivial⟩, ⟨rfl, trivial⟩, Ent.refl _, ?_⟩
                    · omega
                    · first | omega | (dsimp only; omega) | (simp only []; omega)
            · refine LJ.nil ?_
              refine CJ.condF rfl ?_
              refine CJ.exit ?_
              refine CJ.region ?_
              refine LJ.yd rfl (Yd.mvI rfl) ?_
              refine LJ.yd rfl (Yd.add rfl rfl (by unfold I64; omega)) ?_
              refine LJ.yd rfl (Yd.asI rfl) ?_
              refine LJ.nil ?_
              refine ⟨_, ?_, ⟨rfl, rfl, rfl, trivial⟩, ⟨rfl, trivial⟩, Ent.refl _, ?_⟩
              · omega
              · first | omega | (dsimp only; omega) | (simp only []; omega)
        · refine LJ.nil ?_
          refine CJ.condF rfl ?_
          refine CJ.exit ?_
          refine CJ.seq ?_
          refine CJ.region ?_
          refine LJ.yd rfl (Yd.asB rfl) ?_
          refine LJ.nil ?_
          refine CJ.ret ?_
          refine Fin.V (Res.one (ResV.tmp (v := .bool true) rfl)) ?_
          rfl
end Go.Proofs.Ytlknglhldfpbdaa
