/-
  Contracts: times, groups, the groups of a furnace.
-/
import Derived.Test.YtbgalcjkmgdaiaaA4
namespace Go.Proofs.Ytbgalcjkmgdaiaa
open Go
set_option maxRecDepth 20000
set_option maxHeartbeats 1000000

def timesOk (l : List Int) : Bool := decide (l.length ≤ 16) && l.all fun u => decide (0 ≤ u ∧ u ≤ 500)
theorem timesOk_iff {l : List Int} : timesOk l = true ↔ l.length ≤ 16 ∧ ∀ u ∈ l, 0 ≤ u ∧ u ≤ 500 := by
  simp only [timesOk, Bool.and_eq_true, decide_eq_true_eq, List.all_eq_true]
theorem validTimes_ok {A : Amb} {v : Value} {l : List Int} (hl : RdL encI 1 A.h v l) : Ctr Try.prog 61 #[v] A [] (Val (.bool (timesOk l))) := by
  obtain ⟨la, lc, rfl, hlb, hl⟩ := hl.un
  refine Ctr.body (args := [_]) Try.func61 rfl Try.ntmps61 Try.results61 (by simp) ?_
  refine CJ.seq ?_
  refine CJ.region ?_
  refine LJ.yd rfl (Yd.asB rfl) ?_
  refine LJ.nil ?_
  refine CJ.seq ?_
  refine CJ.seq ?_
  refine CJ.region ?_
  refine LJ.yd rfl (Yd.mvS rfl) ?_
  refine LJ.yd rfl (Yd.len rfl) ?_
  refine LJ.splitD rfl (Yd.gtr rfl rfl) (fun h7 => ?_) (fun h7 => ?_)
  · refine LJ.nil ?_
    refine CJ.condT rfl ?_
    refine CJ.seq ?_
    refine CJ.region ?_
    refine LJ.yd rfl (Yd.asB rfl) ?_
    refine LJ.nil ?_
    refine CJ.ret ?_
    refine Fin.V (Res.one (ResV.tmp (v := .bool false) rfl)) ?_
    refine congrArg Value.bool (Eq.symm ?_)
    first
      | (refine Bool.eq_false_iff.2 fun h => ?_; have := (timesOk_iff.1 h).2 u13 (List.mem_of_getElem? hu13); omega)
      | (refine Bool.eq_false_iff.2 fun h => ?_; have := (timesOk_iff.1 h).1; omega)
      | (rw [List.take_of_length_le (by omega)] at hi1; exact timesOk_iff.2 ⟨by omega, hi1⟩)
  · refine LJ.nil ?_
    refine CJ.condF rfl ?_
    refine CJ.skip ?_
    refine CJ.seq ?_
    refine CJ.seq ?_
    refine CJ.region ?_
    refine LJ.yd rfl (Yd.mvS rfl) ?_
    refine LJ.yd rfl (Yd.len rfl) ?_
    refine LJ.yd rfl (Yd.mvI rfl) ?_
    refine LJ.nil ?_
    refine CJ.block ?_
    refine CJ.loopK [8, 9] Nat (fun k => k ≤ l.length ∧ ∀ z ∈ l.take k, 0 ≤ z ∧ z ≤ 500) (fun k => [(10, vI k)]) (fun k => l.length - k) (0) ?_ ⟨rfl, trivial⟩ ?_
    · exact ⟨by omega, by simp⟩
    · rintro k σ ⟨hk1, hi1⟩
      refine CJ.seq ?_
      refine CJ.region ?_
      refine LJ.splitD rfl (Yd.lss rfl rfl) (fun h11 => ?_) (fun h11 => ?_)
      · refine LJ.nil ?_
        refine CJ.seq ?_
        refine CJ.condT rfl ?_
        refine CJ.skip ?_
        refine CJ.seq ?_
        refine CJ.block ?_
        refine CJ.seq ?_
        refine CJ.region ?_
        refine LJ.idxA rfl hl rfl rfl (by omega) (by first | rfl | omega | (simp; done) | (simp; omega) | (simp [upN_len]; omega) | (simp [idxBy_len]; omega) | (simp [marks_len]; omega) | (simp [upN_len]; done) | (simp [idxBy_len]; done) | (simp [marks_len]; done) | (simp at *; omega)) (fun ib12 io12 ia12 ir12 => ?_)
        refine LJ.ldA 0 (fun u => vI u) (fun _ => rfl) ir12 rfl rfl rfl (by first | rfl | omega | (simp; done) | (simp; omega) | (simp [upN_len]; omega) | (simp [idxBy_len]; omega) | (simp [marks_len]; omega) | (simp [upN_len]; done) | (simp [idxBy_len]; done) | (simp [marks_len]; done) | (simp at *; omega)) (fun u13 hu13 => ?_)
        try simp only [Int.toNat_natCast] at hu13
        refine LJ.yd rfl (Yd.asI rfl) ?_
        refine LJ.nil ?_
        refine CJ.seq ?_
        refine CJ.region ?_
        refine LJ.yd rfl (Yd.mvI rfl) ?_
        refine LJ.splitD rfl (Yd.lss rfl rfl) (fun h15 => ?_) (fun h15 => ?_)
        · refine LJ.yd rfl (Yd.mvB rfl) ?_
          refine LJ.gF rfl rfl ?_
          refine LJ.gF rfl rfl ?_
          refine LJ.yd rfl (Yd.pickTB rfl rfl) ?_
          refine LJ.nil ?_
          refine CJ.condT rfl ?_
          refine CJ.seq ?_
          refine CJ.region ?_
          refine LJ.yd rfl (Yd.asB rfl) ?_
          refine LJ.nil ?_
          refine CJ.ret ?_
          refine Fin.V (Res.one (ResV.tmp (v := .bool false) rfl)) ?_
          refine congrArg Value.bool (Eq.symm ?_)
          first
            | (refine Bool.eq_false_iff.2 fun h => ?_; have := (timesOk_iff.1 h).2 u13 (List.mem_of_getElem? hu13); omega)
            | (refine Bool.eq_false_iff.2 fun h => ?_; have := (timesOk_iff.1 h).1; omega)
            | (rw [List.take_of_length_le (by omega)] at hi1; exact timesOk_iff.2 ⟨by omega, hi1⟩)
        · refine LJ.yd rfl (Yd.mvB rfl) ?_
          refine LJ.gT rfl ?_
          refine LJ.yd rfl (Yd.mvI rfl) ?_
          refine LJ.gT rfl ?_
          refine LJ.splitD rfl (Yd.gtr rfl rfl) (fun h18 => ?_) (fun h18 => ?_)
          · refine LJ.yd rfl (Yd.pickFB rfl rfl) ?_
            refine LJ.nil ?_
            refine CJ.condT rfl ?_
            refine CJ.seq ?_
            refine CJ.region ?_
            refine LJ.yd rfl (Yd.asB rfl) ?_
            refine LJ.nil ?_
            refine CJ.ret ?_
            refine Fin.V (Res.one (ResV.tmp (v := .bool false) rfl)) ?_
            refine congrArg Value.bool (Eq.symm ?_)
            first
              | (refine Bool.eq_false_iff.2 fun h => ?_; have := (timesOk_iff.1 h).2 u13 (List.mem_of_getElem? hu13); omega)
              | (refine Bool.eq_false_iff.2 fun h => ?_; have := (timesOk_iff.1 h).1; omega)
              | (rw [List.take_of_length_le (by omega)] at hi1; exact timesOk_iff.2 ⟨by omega, hi1⟩)
          · refine LJ.yd rfl (Yd.pickFB rfl rfl) ?_
            refine LJ.nil ?_
            refine CJ.condF rfl ?_
            refine CJ.skip ?_
            refine CJ.region ?_
            refine LJ.yd rfl (Yd.add rfl rfl (by unfold I64; omega)) ?_
            refine LJ.yd rfl (Yd.mvI rfl) ?_
            refine LJ.nil ?_
            refine ⟨(k + 1), ?_, ⟨rfl, rfl, trivial⟩, ⟨rfl, trivial⟩, Ent.refl _, ?_⟩
            · refine ⟨by omega, ?_⟩
              intro z hz
              rw [takeC hu13, List.mem_append, List.mem_singleton] at hz
              rcases hz with hz | rfl
              · exact hi1 z hz
              · omega
            · first | omega | (dsimp only; omega) | (simp only []; omega)
      · refine LJ.nil ?_
        refine CJ.seq ?_
        refine CJ.condF rfl ?_
        refine CJ.exit ?_
        refine CJ.seq ?_
        refine CJ.region ?_
        refine LJ.yd rfl (Yd.asB rfl) ?_
        refine LJ.nil ?_
        refine CJ.ret ?_
        refine Fin.V (Res.one (ResV.tmp (v := .bool true) rfl)) ?_
        refine congrArg Value.bool (Eq.symm ?_)
        first
          | (refine Bool.eq_false_iff.2 fun h => ?_; have := (timesOk_iff.1 h).2 u13 (List.mem_of_getElem? hu13); omega)
          | (refine Bool.eq_false_iff.2 fun h => ?_; have := (timesOk_iff.1 h).1; omega)
          | (rw [List.take_of_length_le (by omega)] at hi1; exact timesOk_iff.2 ⟨by omega, hi1⟩)
end Go.Proofs.Ytbgalcjkmgdaiaa
