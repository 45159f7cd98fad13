/-
  Contracts: partners.
-/
import Derived.Test.YtbgalcjkmgdaiaaM5
import Derived.Test.YtbgalcjkmgdaiaaA1
namespace Go.Proofs.Ytbgalcjkmgdaiaa
open Go
set_option maxRecDepth 20000
set_option maxHeartbeats 1000000

def szOk (l : List Int) : Bool := decide (l.length ≤ 24) && l.all fun u => decide (1 ≤ u ∧ u ≤ 200)
theorem szOk_iff {l : List Int} : szOk l = true ↔ l.length ≤ 24 ∧ ∀ u ∈ l, 1 ≤ u ∧ u ≤ 200 := by
  simp only [szOk, Bool.and_eq_true, decide_eq_true_eq, List.all_eq_true]
theorem validSizesS_ok {A : Amb} {v : Value} {l : List Int} (hl : RdL encI 1 A.h v l) : Ctr Try.prog 42 #[v] A [] (Val (.bool (szOk l))) := by
  obtain ⟨la, lc, rfl, hlb, hl⟩ := hl.un
  refine Ctr.body (args := [_]) Try.func42 rfl Try.ntmps42 Try.results42 (by simp) ?_
  refine CJ.seq ?_
  refine CJ.region ?_
  refine LJ.yd rfl (Yd.asB rfl) ?_
  refine LJ.nil ?_
  refine CJ.seq ?_
  refine CJ.seq ?_
  refine CJ.region ?_
  refine LJ.yd rfl (Yd.asI rfl) ?_
  refine LJ.nil ?_
  refine CJ.block ?_
  refine CJ.loopK [0] Nat (fun k => k ≤ l.length ∧ ∀ z ∈ l.take k, 1 ≤ z ∧ z ≤ 200) (fun k => [(3, vI k)]) (fun k => l.length - k) (0) ?_ ⟨rfl, trivial⟩ ?_
  · exact ⟨by omega, by simp⟩
  · rintro k σ ⟨hk1, hi1⟩
    refine CJ.seq ?_
    refine CJ.seq ?_
    refine CJ.region ?_
    refine LJ.yd rfl (Yd.mvI rfl) ?_
    refine LJ.yd rfl (Yd.mvS rfl) ?_
    refine LJ.yd rfl (Yd.len rfl) ?_
    refine LJ.splitD rfl (Yd.lss rfl rfl) (fun h7 => ?_) (fun h7 => ?_)
    · refine LJ.nil ?_
      refine CJ.condT rfl ?_
      refine CJ.skip ?_
      refine CJ.seq ?_
      refine CJ.block ?_
      refine CJ.seq ?_
      refine CJ.region ?_
      refine LJ.yd rfl (Yd.mvS rfl) ?_
      refine LJ.yd rfl (Yd.mvI rfl) ?_
      refine LJ.idxA rfl hl rfl rfl (by omega) (by first | rfl | omega | (simp; done) | (simp; omega) | (simp [upN_len]; omega) | (simp [idxBy_len]; omega) | (simp [marks_len]; omega) | (simp [upN_len]; done) | (simp [idxBy_len]; done) | (simp [marks_len]; done) | (simp at *; omega)) (fun ib12 io12 ia12 ir12 => ?_)
      refine LJ.ldA 0 (fun u => vI u) (fun _ => rfl) ir12 rfl rfl rfl (by first | rfl | omega | (simp; done) | (simp; omega) | (simp [upN_len]; omega) | (simp [idxBy_len]; omega) | (simp [marks_len]; omega) | (simp [upN_len]; done) | (simp [idxBy_len]; done) | (simp [marks_len]; done) | (simp at *; omega)) (fun u13 hu13 => ?_)
      try simp only [Int.toNat_natCast] at hu13
      refine LJ.callB rfl (fun k hk dk => inRange_ok _ _ _ _) (fun h14 => ?_) (fun h14 => ?_)
      · refine LJ.yd rfl (Yd.not rfl) ?_
        refine LJ.nil ?_
        refine CJ.condF rfl ?_
        refine CJ.skip ?_
        refine CJ.region ?_
        refine LJ.yd rfl (Yd.mvI rfl) ?_
        refine LJ.yd rfl (Yd.add rfl rfl (by unfold I64; omega)) ?_
        refine LJ.yd rfl (Yd.asI rfl) ?_
        refine LJ.nil ?_
        refine ⟨(k + 1), ?_, ⟨rfl, trivial⟩, ⟨rfl, trivial⟩, Ent.refl _, ?_⟩
        · refine ⟨by omega, ?_⟩
          intro z hz
          rw [takeC hu13, List.mem_append, List.mem_singleton] at hz
          simp only [Bool.and_eq_true, decide_eq_true_eq] at h14
          rcases hz with hz | rfl
          · exact hi1 z hz
          · exact h14
        · first | omega | (dsimp only; omega) | (simp only []; omega)
      · refine LJ.yd rfl (Yd.not rfl) ?_
        refine LJ.nil ?_
        refine CJ.condT rfl ?_
        refine CJ.seq ?_
        refine CJ.region ?_
        refine LJ.yd rfl (Yd.asB rfl) ?_
        refine LJ.nil ?_
        refine CJ.ret ?_
        refine Fin.V (Res.one (ResV.tmp (v := .bool false) rfl)) ?_
        refine congrArg Value.bool (Eq.symm ?_)
        first
          | (simp only [Bool.and_eq_false_iff, decide_eq_false_iff_not] at h14; refine Bool.eq_false_iff.2 fun h => ?_; have := (szOk_iff.1 h).2 u13 (List.mem_of_getElem? hu13); omega)
          | (rw [List.take_of_length_le (by omega)] at hi1; rw [Bool.eq_iff_iff, szOk_iff, decide_eq_true_eq]; exact ⟨fun h => by omega, fun h => ⟨by omega, hi1⟩⟩)
    · refine LJ.nil ?_
      refine CJ.condF rfl ?_
      refine CJ.exit ?_
      refine CJ.seq ?_
      refine CJ.region ?_
      refine LJ.yd rfl (Yd.mvS rfl) ?_
      refine LJ.yd rfl (Yd.len rfl) ?_
      refine LJ.yd rfl (Yd.leq rfl rfl) ?_
      refine LJ.yd rfl (Yd.asB rfl) ?_
      refine LJ.nil ?_
      refine CJ.ret ?_
      refine Fin.V (Res.one (ResV.tmp (v := .bool _) rfl)) ?_
      refine congrArg Value.bool (Eq.symm ?_)
      first
        | (simp only [Bool.and_eq_false_iff, decide_eq_false_iff_not] at h14; refine Bool.eq_false_iff.2 fun h => ?_; have := (szOk_iff.1 h).2 u13 (List.mem_of_getElem? hu13); omega)
        | (rw [List.take_of_length_le (by omega)] at hi1; rw [Bool.eq_iff_iff, szOk_iff, decide_eq_true_eq]; exact ⟨fun h => by omega, fun h => ⟨by omega, hi1⟩⟩)
theorem barLengths200_ok {A : Amb} {v : Value} {l : List Int} (hl : RdL encI 1 A.h v l) : Ctr Try.prog 74 #[v, vI 200, vI 24] A [] (Val (.bool (szOk l))) := by
  obtain ⟨la, lc, rfl, hlb, hl⟩ := hl.un
  refine Ctr.body (args := [_, _, _]) Try.func74 rfl Try.ntmps74 Try.results74 (by simp) ?_
  refine CJ.seq ?_
  refine CJ.region ?_
  refine LJ.yd rfl (Yd.asB rfl) ?_
  refine LJ.nil ?_
  refine CJ.seq ?_
  refine CJ.seq ?_
  refine CJ.region ?_
  refine LJ.yd rfl (Yd.mvI rfl) ?_
  refine LJ.splitD rfl (Yd.lss rfl rfl) (fun h10 => ?_) (fun h10 => ?_)
  · refine LJ.yd rfl (Yd.mvB rfl) ?_
    refine LJ.gF rfl rfl ?_
    refine LJ.gF rfl rfl ?_
    refine LJ.yd rfl (Yd.pickTB rfl rfl) ?_
    refine LJ.yd rfl (Yd.mvB rfl) ?_
    refine LJ.gF rfl rfl ?_
    refine LJ.gF rfl rfl ?_
    refine LJ.gF rfl rfl ?_
    refine LJ.gF rfl rfl ?_
    refine LJ.yd rfl (Yd.pickTB rfl rfl) ?_
    refine LJ.nil ?_
    refine CJ.condT rfl ?_
    refine CJ.seq ?_
    refine CJ.region ?_
    refine LJ.yd rfl (Yd.asB rfl) ?_
    refine LJ.nil ?_
    refine CJ.ret ?_
    refine Fin.V (Res.one (ResV.tmp (v := .bool false) rfl)) ?_
    refine congrArg Value.bool (Eq.symm ?_)
    first
      | (refine Bool.eq_false_iff.2 fun h => ?_; have := (szOk_iff.1 h).2 u26 (List.mem_of_getElem? hu26); omega)
      | (refine Bool.eq_false_iff.2 fun h => ?_; have := (szOk_iff.1 h).1; omega)
      | (rw [List.take_of_length_le (by omega)] at hi1; exact szOk_iff.2 ⟨by omega, hi1⟩)
  · refine LJ.yd rfl (Yd.mvB rfl) ?_
    refine LJ.gT rfl ?_
    refine LJ.yd rfl (Yd.mvI rfl) ?_
    refine LJ.gT rfl ?_
    refine LJ.splitD rfl (Yd.gtr rfl rfl) (fun h13 => ?_) (fun h13 => ?_)
    · refine LJ.yd rfl (Yd.pickFB rfl rfl) ?_
      refine LJ.yd rfl (Yd.mvB rfl) ?_
      refine LJ.gF rfl rfl ?_
      refine LJ.gF rfl rfl ?_
      refine LJ.gF rfl rfl ?_
      refine LJ.gF rfl rfl ?_
      refine LJ.yd rfl (Yd.pickTB rfl rfl) ?_
      refine LJ.nil ?_
      refine CJ.condT rfl ?_
      refine CJ.seq ?_
      refine CJ.region ?_
      refine LJ.yd rfl (Yd.asB rfl) ?_
      refine LJ.nil ?_
      refine CJ.ret ?_
      refine Fin.V (Res.one (ResV.tmp (v := .bool false) rfl)) ?_
      refine congrArg Value.bool (Eq.symm ?_)
      first
        | (refine Bool.eq_false_iff.2 fun h => ?_; have := (szOk_iff.1 h).2 u26 (List.mem_of_getElem? hu26); omega)
        | (refine Bool.eq_false_iff.2 fun h => ?_; have := (szOk_iff.1 h).1; omega)
        | (rw [List.take_of_length_le (by omega)] at hi1; exact szOk_iff.2 ⟨by omega, hi1⟩)
    · refine LJ.yd rfl (Yd.pickFB rfl rfl) ?_
      refine LJ.yd rfl (Yd.mvB rfl) ?_
      refine LJ.gT rfl ?_
      refine LJ.yd rfl (Yd.mvS rfl) ?_
      refine LJ.gT rfl ?_
      refine LJ.yd rfl (Yd.len rfl) ?_
      refine LJ.gT rfl ?_
      refine LJ.yd rfl (Yd.mvI rfl) ?_
      refine LJ.gT rfl ?_
      refine LJ.splitD rfl (Yd.gtr rfl rfl) (fun h19 => ?_) (fun h19 => ?_)
      · refine LJ.yd rfl (Yd.pickFB rfl rfl) ?_
        refine LJ.nil ?_
        refine CJ.condT rfl ?_
        refine CJ.seq ?_
        refine CJ.region ?_
        refine LJ.yd rfl (Yd.asB rfl) ?_
        refine LJ.nil ?_
        refine CJ.ret ?_
        refine Fin.V (Res.one (ResV.tmp (v := .bool false) rfl)) ?_
        refine congrArg Value.bool (Eq.symm ?_)
        first
          | (refine Bool.eq_false_iff.2 fun h => ?_; have := (szOk_iff.1 h).2 u26 (List.mem_of_getElem? hu26); omega)
          | (refine Bool.eq_false_iff.2 fun h => ?_; have := (szOk_iff.1 h).1; omega)
          | (rw [List.take_of_length_le (by omega)] at hi1; exact szOk_iff.2 ⟨by omega, hi1⟩)
      · refine LJ.yd rfl (Yd.pickFB rfl rfl) ?_
        refine LJ.nil ?_
        refine CJ.condF rfl ?_
        refine CJ.skip ?_
        refine CJ.seq ?_
        refine CJ.seq ?_
        refine CJ.region ?_
        refine LJ.yd rfl (Yd.mvS rfl) ?_
        refine LJ.yd rfl (Yd.len rfl) ?_
        refine LJ.yd rfl (Yd.mvI rfl) ?_
        refine LJ.nil ?_
        refine CJ.block ?_
        refine CJ.loopK [1, 21, 22] Nat (fun k => k ≤ l.length ∧ ∀ z ∈ l.take k, 1 ≤ z ∧ z ≤ 200) (fun k => [(23, vI k)]) (fun k => l.length - k) (0) ?_ ⟨rfl, trivial⟩ ?_
        · exact ⟨by omega, by simp⟩
        · rintro k σ ⟨hk1, hi1⟩
          refine CJ.seq ?_
          refine CJ.region ?_
          refine LJ.splitD rfl (Yd.lss rfl rfl) (fun h24 => ?_) (fun h24 => ?_)
          · refine LJ.nil ?_
            refine CJ.seq ?_
            refine CJ.condT rfl ?_
            refine CJ.skip ?_
            refine CJ.seq ?_
            refine CJ.block ?_
            refine CJ.seq ?_
            refine CJ.region ?_
            refine LJ.idxA rfl hl rfl rfl (by omega) (by first | rfl | omega | (simp; done) | (simp; omega) | (simp [upN_len]; omega) | (simp [idxBy_len]; omega) | (simp [marks_len]; omega) | (simp [upN_len]; done) | (simp [idxBy_len]; done) | (simp [marks_len]; done) | (simp at *; omega)) (fun ib25 io25 ia25 ir25 => ?_)
            refine LJ.ldA 0 (fun u => vI u) (fun _ => rfl) ir25 rfl rfl rfl (by first | rfl | omega | (simp; done) | (simp; omega) | (simp [upN_len]; omega) | (simp [idxBy_len]; omega) | (simp [marks_len]; omega) | (simp [upN_len]; done) | (simp [idxBy_len]; done) | (simp [marks_len]; done) | (simp at *; omega)) (fun u26 hu26 => ?_)
            try simp only [Int.toNat_natCast] at hu26
            refine LJ.yd rfl (Yd.asI rfl) ?_
            refine LJ.nil ?_
            refine CJ.seq ?_
            refine CJ.region ?_
            refine LJ.yd rfl (Yd.mvI rfl) ?_
            refine LJ.splitD rfl (Yd.lss rfl rfl) (fun h28 => ?_) (fun h28 => ?_)
            · refine LJ.yd rfl (Yd.mvB rfl) ?_
              refine LJ.gF rfl rfl ?_
              refine LJ.gF rfl rfl ?_
              refine LJ.gF rfl rfl ?_
              refine LJ.yd rfl (Yd.pickTB rfl rfl) ?_
              refine LJ.nil ?_
              refine CJ.condT rfl ?_
              refine CJ.seq ?_
              refine CJ.region ?_
              refine LJ.yd rfl (Yd.asB rfl) ?_
              refine LJ.nil ?_
              refine CJ.ret ?_
              refine Fin.V (Res.one (ResV.tmp (v := .bool false) rfl)) ?_
              refine congrArg Value.bool (Eq.symm ?_)
              first
                | (refine Bool.eq_false_iff.2 fun h => ?_; have := (szOk_iff.1 h).2 u26 (List.mem_of_getElem? hu26); omega)
                | (refine Bool.eq_false_iff.2 fun h => ?_; have := (szOk_iff.1 h).1; omega)
                | (rw [List.take_of_length_le (by omega)] at hi1; exact szOk_iff.2 ⟨by omega, hi1⟩)
            · refine LJ.yd rfl (Yd.mvB rfl) ?_
              refine LJ.gT rfl ?_
              refine LJ.yd rfl (Yd.mvI rfl) ?_
              refine LJ.gT rfl ?_
              refine LJ.yd rfl (Yd.mvI rfl) ?_
              refine LJ.gT rfl ?_
              refine LJ.splitD rfl (Yd.gtr rfl rfl) (fun h32 => ?_) (fun h32 => ?_)
              · refine LJ.yd rfl (Yd.pickFB rfl rfl) ?_
                refine LJ.nil ?_
                refine CJ.condT rfl ?_
                refine CJ.seq ?_
                refine CJ.region ?_
                refine LJ.yd rfl (Yd.asB rfl) ?_
                refine LJ.nil ?_
                refine CJ.ret ?_
                refine Fin.V (Res.one (ResV.tmp (v := .bool false) rfl)) ?_
                refine congrArg Value.bool (Eq.symm ?_)
                first
                  | (refine Bool.eq_false_iff.2 fun h => ?_; have := (szOk_iff.1 h).2 u26 (List.mem_of_getElem? hu26); omega)
                  | (refine Bool.eq_false_iff.2 fun h => ?_; have := (szOk_iff.1 h).1; omega)
                  | (rw [List.take_of_length_le (by omega)] at hi1; exact szOk_iff.2 ⟨by omega, hi1⟩)
              · refine LJ.yd rfl (Yd.pickFB rfl rfl) ?_
                refine LJ.nil ?_
                refine CJ.condF rfl ?_
                refine CJ.skip ?_
                refine CJ.region ?_
                refine LJ.yd rfl (Yd.add rfl rfl (by unfold I64; omega)) ?_
                refine LJ.yd rfl (Yd.mvI rfl) ?_
                refine LJ.nil ?_
                refine ⟨(k + 1), ?_, ⟨rfl, rfl, rfl, trivial⟩, ⟨rfl, trivial⟩, Ent.refl _, ?_⟩
                · refine ⟨by omega, ?_⟩
                  intro z hz
                  rw [takeC hu26, List.mem_append, List.mem_singleton] at hz
                  rcases hz with hz | rfl
                  · exact hi1 z hz
                  · omega
                · first | omega | (dsimp only; omega) | (simp only []; omega)
          · refine LJ.nil ?_
            refine CJ.seq ?_
            refine CJ.condF rfl ?_
            refine CJ.exit ?_
            refine CJ.seq ?_
            refine CJ.region ?_
            refine LJ.yd rfl (Yd.asB rfl) ?_
            refine LJ.nil ?_
            refine CJ.ret ?_
            refine Fin.V (Res.one (ResV.tmp (v := .bool true) rfl)) ?_
            refine congrArg Value.bool (Eq.symm ?_)
            first
              | (refine Bool.eq_false_iff.2 fun h => ?_; have := (szOk_iff.1 h).2 u26 (List.mem_of_getElem? hu26); omega)
              | (refine Bool.eq_false_iff.2 fun h => ?_; have := (szOk_iff.1 h).1; omega)
              | (rw [List.take_of_length_le (by omega)] at hi1; exact szOk_iff.2 ⟨by omega, hi1⟩)
theorem validSizesI_ok {A : Amb} {v : Value} {l : List Int} (hl : RdL encI 1 A.h v l) : Ctr Try.prog 66 #[v] A [] (Val (.bool (szOk l))) := by
  obtain ⟨la, lc, rfl, hlb, hl⟩ := hl.un
  refine Ctr.body (args := [_]) Try.func66 rfl Try.ntmps66 Try.results66 (by simp) ?_
  refine CJ.seq ?_
  refine CJ.region ?_
  refine LJ.yd rfl (Yd.asB rfl) ?_
  refine LJ.nil ?_
  refine CJ.seq ?_
  refine CJ.region ?_
  refine LJ.yd rfl (Yd.mvS rfl) ?_
  refine LJ.callB rfl (fun k hk dk => barLengths200_ok (RdRow.up hl)) (fun h4 => ?_) (fun h4 => ?_)
  · refine LJ.yd rfl (Yd.asB rfl) ?_
    refine LJ.nil ?_
    refine CJ.ret ?_
    refine Fin.V (Res.one (ResV.tmp (v := .bool true) rfl)) ?_
    rw [h4]
  · refine LJ.yd rfl (Yd.asB rfl) ?_
    refine LJ.nil ?_
    refine CJ.ret ?_
    refine Fin.V (Res.one (ResV.tmp (v := .bool false) rfl)) ?_
    rw [h4]
def PairOk (a b : List Int) (s : Int) : Prop := szOk a = true ∧ szOk b = true ∧ 0 ≤ s ∧ s ≤ 200
instance (a b : List Int) (s : Int) : Decidable (PairOk a b s) := by unfold PairOk; infer_instance
theorem validPairs_ok {A : Amb} {v w : Value} {a b : List Int} {s : Int} (hl : RdL encI 1 A.h v a) (hl2 : RdL encI 1 A.h w b) : Ctr Try.prog 45 #[v, w, vI s] A [] (Val (.bool (decide (PairOk a b s)))) := by
  obtain ⟨la, lc, rfl, hlb, hl⟩ := hl.un
  obtain ⟨la2, lc2, rfl, hlb2, hl2⟩ := hl2.un
  refine Ctr.body (args := [_, _, _]) Try.func45 rfl Try.ntmps45 Try.results45 (by simp) ?_
  refine CJ.seq ?_
  refine CJ.region ?_
  refine LJ.yd rfl (Yd.asB rfl) ?_
  refine LJ.nil ?_
  refine CJ.seq ?_
  refine CJ.region ?_
  refine LJ.yd rfl (Yd.mvS rfl) ?_
  refine LJ.callB rfl (fun k hk dk => validSizesI_ok (RdRow.up hl)) (fun h8 => ?_) (fun h8 => ?_)
  · refine LJ.yd rfl (Yd.mvB rfl) ?_
    refine LJ.gT rfl ?_
    refine LJ.yd rfl (Yd.mvS rfl) ?_
    refine LJ.gT rfl ?_
    refine LJ.callB rfl (fun k hk dk => validSizesI_ok (RdRow.up hl2)) (fun h11 => ?_) (fun h11 => ?_)
    · refine LJ.yd rfl (Yd.pickTB rfl rfl) ?_
      refine LJ.yd rfl (Yd.mvB rfl) ?_
      refine LJ.gT rfl ?_
      refine LJ.yd rfl (Yd.mvI rfl) ?_
      refine LJ.gT rfl ?_
      refine LJ.splitD rfl (Yd.geq rfl rfl) (fun h15 => ?_) (fun h15 => ?_)
      · refine LJ.yd rfl (Yd.pickTB rfl rfl) ?_
        refine LJ.yd rfl (Yd.mvB rfl) ?_
        refine LJ.gT rfl ?_
        refine LJ.yd rfl (Yd.mvI rfl) ?_
        refine LJ.gT rfl ?_
        refine LJ.yd rfl (Yd.leq rfl rfl) ?_
        refine LJ.yd rfl (Yd.pickTB rfl rfl) ?_
        refine LJ.yd rfl (Yd.asB rfl) ?_
        refine LJ.nil ?_
        refine CJ.ret ?_
        refine Fin.V (Res.one (ResV.tmp (v := .bool _) rfl)) ?_
        simp [PairOk, *]
      · refine LJ.yd rfl (Yd.pickTB rfl rfl) ?_
        refine LJ.yd rfl (Yd.mvB rfl) ?_
        refine LJ.gF rfl rfl ?_
        refine LJ.gF rfl rfl ?_
        refine LJ.yd rfl (Yd.pickFB rfl rfl) ?_
        refine LJ.yd rfl (Yd.asB rfl) ?_
        refine LJ.nil ?_
        refine CJ.ret ?_
        refine Fin.V (Res.one (ResV.tmp (v := .bool false) rfl)) ?_
        simp [PairOk, *]
    · refine LJ.yd rfl (Yd.pickTB rfl rfl) ?_
      refine LJ.yd rfl (Yd.mvB rfl) ?_
      refine LJ.gF rfl rfl ?_
      refine LJ.gF rfl rfl ?_
      refine LJ.yd rfl (Yd.pickFB rfl rfl) ?_
      refine LJ.yd rfl (Yd.mvB rfl) ?_
      refine LJ.gF rfl rfl ?_
      refine LJ.gF rfl rfl ?_
      refine LJ.yd rfl (Yd.pickFB rfl rfl) ?_
      refine LJ.yd rfl (Yd.asB rfl) ?_
      refine LJ.nil ?_
      refine CJ.ret ?_
      refine Fin.V (Res.one (ResV.tmp (v := .bool false) rfl)) ?_
      simp [PairOk, *]
  · refine LJ.yd rfl (Yd.mvB rfl) ?_
    refine LJ.gF rfl rfl ?_
    refine LJ.gF rfl rfl ?_
    refine LJ.yd rfl (Yd.pickFB rfl rfl) ?_
    refine LJ.yd rfl (Yd.mvB rfl) ?_
    refine LJ.gF rfl rfl ?_
    refine LJ.gF rfl rfl ?_
    refine LJ.yd rfl (Yd.pickFB rfl rfl) ?_
    refine LJ.yd rfl (Yd.mvB rfl) ?_
    refine LJ.gF rfl rfl ?_
    refine LJ.gF rfl rfl ?_
    refine LJ.yd rfl (Yd.pickFB rfl rfl) ?_
    refine LJ.yd rfl (Yd.asB rfl) ?_
    refine LJ.nil ?_
    refine CJ.ret ?_
    refine Fin.V (Res.one (ResV.tmp (v := .bool false) rfl)) ?_
    simp [PairOk, *]
theorem risingS_ok {A : Amb} {v : Value} {l : List Int} (hl : RdL encI 1 A.h v l) (h1 : l.length ≤ 1000) : Ctr Try.prog 65 #[v] A [] (RLP encI 3 1 (idxBy (ltR l) l.length)) := by
  obtain ⟨la, lc, rfl, hlb, hl⟩ := hl.un
  refine Ctr.body (args := [_]) Try.func65 rfl Try.ntmps65 Try.results65 (by simp) ?_
  refine CJ.seq ?_
  refine CJ.region ?_
  refine LJ.yd rfl (Yd.asS rfl) ?_
  refine LJ.nil ?_
  refine CJ.seq ?_
  refine CJ.region ?_
  refine LJ.op rfl (OpR.buildSlice (cs := []) rfl rfl) ?_
  rintro _ _ ⟨b1, rfl, rfl⟩
  refine LJ.yd rfl (Yd.asS rfl) ?_
  refine LJ.nil ?_
  refine CJ.seq ?_
  refine CJ.seq ?_
  refine CJ.region ?_
  refine LJ.yd rfl (Yd.asI rfl) ?_
  refine LJ.nil ?_
  refine CJ.block ?_
  refine CJ.imp1 0 rfl (fun _ h => Cel.lr (enc := encI) (k := 1) (m := 0) [] rfl rfl rfl rfl h) ?_
  refine CJ.norm [_] rfl ?_
  refine CJ.loopF [0, 2] (Nat × List Int × Option Addr × Nat × Nat) (fun ⟨k, p, pA, pN, pC⟩ => (pN = p.length) ∧ k ≤ l.length ∧ p = idxBy (ltR l) k) (fun ⟨k, p, pA, pN, pC⟩ => [(4, vI k), (3, .slice pA pN pC)]) (fun ⟨k, p, pA, pN, pC⟩ => [LR encI 3 1 pA pC p]) (fun ⟨k, p, pA, pN, pC⟩ => l.length - k) (0, [], _, _, _) [] [] [0] rfl rfl rfl ?_ ⟨rfl, rfl, trivial⟩ ?_
  · exact ⟨(by first | rfl | omega | (simp; done) | (simp; omega) | (simp [upN_len]; omega) | (simp [idxBy_len]; omega) | (simp [marks_len]; omega) | (simp [upN_len]; done) | (simp [idxBy_len]; done) | (simp [marks_len]; done) | (simp at *; omega)), ⟨by omega, by rfl⟩⟩
  · rintro ⟨k, p, pA, pN, pC⟩ σ ⟨hlNp, ⟨hk1, hp⟩⟩
    subst hlNp
    refine CJ.norm [_] rfl ?_
    have hpl : p.length = k := by rw [hp, idxBy_len]
    have hpm : ∀ z ∈ p, 0 ≤ z ∧ z < k := fun z hz => by rw [hp] at hz; exact idxBy_mem.1 hz
    refine CJ.seq ?_
    refine CJ.seq ?_
    refine CJ.region ?_
    refine LJ.yd rfl (Yd.mvI rfl) ?_
    refine LJ.yd rfl (Yd.mvS rfl) ?_
    refine LJ.yd rfl (Yd.len rfl) ?_
    refine LJ.splitD rfl (Yd.lss rfl rfl) (fun h11 => ?_) (fun h11 => ?_)
    · refine LJ.nil ?_
      refine CJ.condT rfl ?_
      refine CJ.skip ?_
      refine CJ.seq ?_
      refine CJ.block ?_
      refine CJ.seq ?_
      refine CJ.region ?_
      refine LJ.yd rfl (Yd.mvS rfl) ?_
      refine LJ.yd rfl (Yd.len rfl) ?_
      refine LJ.yd rfl (Yd.asI rfl) ?_
      refine LJ.nil ?_
      refine CJ.seq ?_
      refine CJ.block ?_
      refine CJ.loopK [0, 2, 3, 4, 8, 9, 10, 11, 14, 15] Int (fun j => 0 ≤ j ∧ j ≤ k ∧ (ins (ltR l) k (p.take j.toNat).reverse).reverse ++ p.drop j.toNat = (ins (ltR l) k p.reverse).reverse) (fun j => [(5, vI j)]) (fun j => j.toNat) (_) ?_ ⟨rfl, trivial⟩ ?_
      · exact ⟨by omega, by omega, by rw [Int.toNat_natCast, ← hpl]; exact ins_full⟩
      · rintro j σ ⟨hj0, hj1, hj2⟩
        refine CJ.seq ?_
        refine CJ.seq ?_
        refine CJ.regionD [0] [] (by kernel_rfl) rfl ?_
        refine DJ.norm [_] [] rfl rfl ?_
        refine DJ.yd 0 rfl (by kernel_rfl) (by kernel_rfl) (by kernel_rfl) rfl rfl (Yd.mvI rfl) ?_
        refine DJ.splitD 1 rfl (by kernel_rfl) (by kernel_rfl) (by kernel_rfl) rfl rfl (Yd.gtr rfl rfl) (fun h17 => ?_) (fun h17 => ?_)
        · refine DJ.yd 2 rfl (by kernel_rfl) (by kernel_rfl) (by kernel_rfl) rfl rfl (Yd.mvB rfl) ?_
          refine DJ.yd 3 rfl (by kernel_rfl) (by kernel_rfl) (by kernel_rfl) rfl rfl (Yd.mvS rfl) ?_
          refine DJ.yd 4 rfl (by kernel_rfl) (by kernel_rfl) (by kernel_rfl) rfl rfl (Yd.mvS rfl) ?_
          refine DJ.yd 5 rfl (by kernel_rfl) (by kernel_rfl) (by kernel_rfl) rfl rfl (Yd.mvI rfl) ?_
          refine DJ.yd 6 rfl (by kernel_rfl) (by kernel_rfl) (by kernel_rfl) rfl rfl (Yd.sub rfl rfl (by unfold I64; omega)) ?_
          refine DJ.idxF 0 rfl 7 rfl (by kernel_rfl) (by kernel_rfl) (by kernel_rfl) rfl rfl rfl rfl (by omega) (by first | rfl | omega | (simp; done) | (simp; omega) | (simp [upN_len]; omega) | (simp [idxBy_len]; omega) | (simp [marks_len]; omega) | (simp [upN_len]; done) | (simp [idxBy_len]; done) | (simp [marks_len]; done) | (simp at *; omega)) (by first | rfl | omega | (simp; done) | (simp; omega) | (simp [upN_len]; omega) | (simp [idxBy_len]; omega) | (simp [marks_len]; omega) | (simp [upN_len]; done) | (simp [idxBy_len]; done) | (simp [marks_len]; done) | (simp at *; omega)) (fun ib23 ia23 => ?_)
          refine DJ.ldF 8 rfl (by kernel_rfl) (by kernel_rfl) (by kernel_rfl) rfl rfl 0 0 (fun u => vI u) (fun _ => rfl) rfl ia23 rfl rfl (by first | rfl | omega | (simp; done) | (simp; omega) | (simp [upN_len]; omega) | (simp [idxBy_len]; omega) | (simp [marks_len]; omega) | (simp [upN_len]; done) | (simp [idxBy_len]; done) | (simp [marks_len]; done) | (simp at *; omega)) (fun u24 hu24 => ?_)
          try simp only [Int.toNat_natCast] at hu24
          have hf24 := hpm u24 (List.mem_of_getElem? hu24)
          refine DJ.idxA 9 rfl (by kernel_rfl) (by kernel_rfl) (by kernel_rfl) rfl rfl hl rfl rfl (by omega) (by first | rfl | omega | (simp; done) | (simp; omega) | (simp [upN_len]; omega) | (simp [idxBy_len]; omega) | (simp [marks_len]; omega) | (simp [upN_len]; done) | (simp [idxBy_len]; done) | (simp [marks_len]; done) | (simp at *; omega)) (fun ib25 io25 ia25 ir25 => ?_)
          refine DJ.ldA 10 rfl (by kernel_rfl) (by kernel_rfl) (by kernel_rfl) rfl rfl 0 (fun u => vI u) (fun _ => rfl) ir25 rfl rfl (by first | rfl | omega | (simp; done) | (simp; omega) | (simp [upN_len]; omega) | (simp [idxBy_len]; omega) | (simp [marks_len]; omega) | (simp [upN_len]; done) | (simp [idxBy_len]; done) | (simp [marks_len]; done) | (simp at *; omega)) (fun u26 hu26 => ?_)
          try simp only [Int.toNat_natCast] at hu26
          refine DJ.yd 11 rfl (by kernel_rfl) (by kernel_rfl) (by kernel_rfl) rfl rfl (Yd.mvS rfl) ?_
          refine DJ.yd 12 rfl (by kernel_rfl) (by kernel_rfl) (by kernel_rfl) rfl rfl (Yd.mvI rfl) ?_
          refine DJ.idxA 13 rfl (by kernel_rfl) (by kernel_rfl) (by kernel_rfl) rfl rfl hl rfl rfl (by omega) (by first | rfl | omega | (simp; done) | (simp; omega) | (simp [upN_len]; omega) | (simp [idxBy_len]; omega) | (simp [marks_len]; omega) | (simp [upN_len]; done) | (simp [idxBy_len]; done) | (simp [marks_len]; done) | (simp at *; omega)) (fun ib29 io29 ia29 ir29 => ?_)
          refine DJ.ldA 14 rfl (by kernel_rfl) (by kernel_rfl) (by kernel_rfl) rfl rfl 0 (fun u => vI u) (fun _ => rfl) ir29 rfl rfl (by first | rfl | omega | (simp; done) | (simp; omega) | (simp [upN_len]; omega) | (simp [idxBy_len]; omega) | (simp [marks_len]; omega) | (simp [upN_len]; done) | (simp [idxBy_len]; done) | (simp [marks_len]; done) | (simp at *; omega)) (fun u30 hu30 => ?_)
          try simp only [Int.toNat_natCast] at hu30
          refine DJ.splitD 15 rfl (by kernel_rfl) (by kernel_rfl) (by kernel_rfl) rfl rfl (Yd.gtr rfl rfl) (fun h31 => ?_) (fun h31 => ?_)
          · refine DJ.yd 16 rfl (by kernel_rfl) (by kernel_rfl) (by kernel_rfl) rfl rfl (Yd.pickTB rfl rfl) ?_
            refine DJ.done (by kernel_rfl) ?_
            refine CJ.condT rfl ?_
            refine CJ.skip ?_
            refine CJ.block ?_
            refine CJ.region ?_
            refine LJ.yd rfl (Yd.mvI rfl) ?_
            refine LJ.yd rfl (Yd.sub rfl rfl (by unfold I64; omega)) ?_
            refine LJ.yd rfl (Yd.asI rfl) ?_
            refine LJ.nil ?_
            refine ⟨_, ?_, ⟨rfl, rfl, rfl, rfl, rfl, rfl, rfl, rfl, rfl, rfl, trivial⟩, ⟨rfl, trivial⟩, Ent.refl _, ?_⟩
            · have e31 : (j - 1).toNat = j.toNat - 1 := by omega
              rw [e31] at hu24 ⊢
              have hlt : ltR l k u24 = true := by rw [ltR, gtC hu26, gtC' hu30]; simpa using h31
              exact ⟨by omega, by omega, (by rw [← hj2]; exact (ins_step (by omega) hu24 hlt).symm)⟩
            · first | omega | (dsimp only; omega) | (simp only []; omega)
          · refine DJ.yd 16 rfl (by kernel_rfl) (by kernel_rfl) (by kernel_rfl) rfl rfl (Yd.pickTB rfl rfl) ?_
            refine DJ.done (by kernel_rfl) ?_
            refine CJ.condF rfl ?_
            refine CJ.exit ?_
            refine CJ.seq ?_
            have e2 : p.take j.toNat ++ (k : Int) :: p.drop j.toNat = idxBy (ltR l) (k + 1) := by
              rw [idxBy_succ, ← hp, ← hj2]
              first
                | (have e3 : j.toNat = 0 := by omega
                   rw [e3]; exact ins_zero.symm)
                | (have hlt : ¬ ltR l k u24 = true := by rw [ltR, gtC hu26, gtC' hu30]; simpa using h31
                   have e31 : (j - 1).toNat = j.toNat - 1 := by omega
                   rw [e31] at hu24
                   exact (ins_stop (by omega) hu24 hlt).symm)
            refine CJ.region ?_
            refine LJ.yd rfl (Yd.mvS rfl) ?_
            refine LJ.yd rfl (Yd.mvI rfl) ?_
            refine LJ.slLR 0 rfl rfl rfl rfl (by omega) (by first | rfl | omega | (simp; done) | (simp; omega) | (simp [upN_len]; omega) | (simp [idxBy_len]; omega) | (simp [marks_len]; omega) | (simp [upN_len]; done) | (simp [idxBy_len]; done) | (simp [marks_len]; done) | (simp at *; omega)) (by first | rfl | omega | (simp; done) | (simp; omega) | (simp [upN_len]; omega) | (simp [idxBy_len]; omega) | (simp [marks_len]; omega) | (simp [upN_len]; done) | (simp [idxBy_len]; done) | (simp [marks_len]; done) | (simp at *; omega)) (fun sa37 sm37 sc37 hsm37 hs37 => ?_)
            refine LJ.call0 rfl (fun k hk dk => copyInts_ok (hs37 _ (Sts.lr hk dk 0 (by first | rfl | omega | (simp; done) | (simp; omega) | (simp [upN_len]; omega) | (simp [idxBy_len]; omega) | (simp [marks_len]; omega) | (simp [upN_len]; done) | (simp [idxBy_len]; done) | (simp [marks_len]; done) | (simp at *; omega)) rfl)) (by simp; omega)) ?_
            rintro _ _ ⟨ra38, rc38, rfl, rfl⟩
            refine LJ.norm [_, _] rfl ?_
            refine LJ.yd rfl (Yd.asS rfl) ?_
            refine LJ.nil ?_
            refine CJ.region ?_
            refine LJ.yd rfl (Yd.mvS rfl) ?_
            refine LJ.yd rfl (Yd.mvI rfl) ?_
            refine LJ.slHR 0 rfl rfl rfl rfl (by omega) (by first | rfl | omega | (simp; done) | (simp; omega) | (simp [upN_len]; omega) | (simp [idxBy_len]; omega) | (simp [marks_len]; omega) | (simp [upN_len]; done) | (simp [idxBy_len]; done) | (simp [marks_len]; done) | (simp at *; omega)) (fun sm41 hsm41 hs41 => ?_)
            refine LJ.yd rfl (Yd.mvI rfl) ?_
            refine LJ.op rfl (OpR.buildSlice (cs := [_]) rfl rfl) ?_
            rintro _ _ ⟨b3, rfl, rfl⟩
            refine LJ.imp1 0 rfl (fun _ r => Row.shorten sm41 (by first | rfl | omega | (simp; done) | (simp; omega) | (simp [upN_len]; omega) | (simp [idxBy_len]; omega) | (simp [marks_len]; omega) | (simp [upN_len]; done) | (simp [idxBy_len]; done) | (simp [marks_len]; done) | (simp at *; omega)) r) ?_
            refine LJ.norm [_, _, _] rfl ?_
            refine LJ.op rfl (OpR.apT (enc := encI) [_] 0 2 rfl rfl rfl (by first | rfl | omega | (simp; done) | (simp; omega) | (simp [upN_len]; omega) | (simp [idxBy_len]; omega) | (simp [marks_len]; omega) | (simp [upN_len]; done) | (simp [idxBy_len]; done) | (simp [marks_len]; done) | (simp at *; omega)) rfl rfl rfl rfl rfl (by first | rfl | omega | (simp; done) | (simp; omega) | (simp [upN_len]; omega) | (simp [idxBy_len]; omega) | (simp [marks_len]; omega) | (simp [upN_len]; done) | (simp [idxBy_len]; done) | (simp [marks_len]; done) | (simp at *; omega))) ?_
            rintro _ _ ⟨ra44, rc44, rfl, rfl⟩
            refine LJ.norm [_, _, _] rfl ?_
            refine LJ.yd rfl (Yd.mvS rfl) ?_
            refine LJ.op rfl (OpR.apR (enc := encI) 0 1 rfl rfl rfl (by first | rfl | omega | (simp; done) | (simp; omega) | (simp [upN_len]; omega) | (simp [idxBy_len]; omega) | (simp [marks_len]; omega) | (simp [upN_len]; done) | (simp [idxBy_len]; done) | (simp [marks_len]; done) | (simp at *; omega)) rfl (by first | rfl | omega | (simp; done) | (simp; omega) | (simp [upN_len]; omega) | (simp [idxBy_len]; omega) | (simp [marks_len]; omega) | (simp [upN_len]; done) | (simp [idxBy_len]; done) | (simp [marks_len]; done) | (simp at *; omega)) (fun _ => rfl) (by first | rfl | omega | (simp; done) | (simp; omega) | (simp [upN_len]; omega) | (simp [idxBy_len]; omega) | (simp [marks_len]; omega) | (simp [upN_len]; done) | (simp [idxBy_len]; done) | (simp [marks_len]; done) | (simp at *; omega))) ?_
            rintro _ _ ⟨ra46, rc46, rfl, rfl⟩
            refine LJ.norm [_, _, _] rfl ?_
            refine LJ.yd rfl (Yd.asS rfl) ?_
            refine LJ.nil ?_
            refine CJ.region ?_
            refine LJ.yd rfl (Yd.mvI rfl) ?_
            refine LJ.yd rfl (Yd.add rfl rfl (by unfold I64; omega)) ?_
            refine LJ.yd rfl (Yd.asI rfl) ?_
            refine LJ.nil ?_
            refine ⟨(k + 1, _, _, _, _), ?_, ⟨rfl, rfl, trivial⟩, ⟨rfl, rfl, trivial⟩, Ent.pick [0] [1, 2] rfl, ?_⟩
            · refine ⟨(by first | rfl | omega | (simp; done) | (simp; omega) | (simp [upN_len]; omega) | (simp [idxBy_len]; omega) | (simp [marks_len]; omega) | (simp [upN_len]; done) | (simp [idxBy_len]; done) | (simp [marks_len]; done) | (simp at *; omega)), ?_⟩
              refine ⟨by omega, ?_⟩
              rw [hsm41, ← e2]; simp
            · first | omega | (dsimp only; omega) | (simp only []; omega)
        · refine DJ.yd 2 rfl (by kernel_rfl) (by kernel_rfl) (by kernel_rfl) rfl rfl (Yd.mvB rfl) ?_
          refine DJ.skip 3 rfl (by kernel_rfl) (by kernel_rfl) (by kernel_rfl) rfl rfl ?_
          refine DJ.skip 4 rfl (by kernel_rfl) (by kernel_rfl) (by kernel_rfl) rfl rfl ?_
          refine DJ.skip 5 rfl (by kernel_rfl) (by kernel_rfl) (by kernel_rfl) rfl rfl ?_
          refine DJ.skip 6 rfl (by kernel_rfl) (by kernel_rfl) (by kernel_rfl) rfl rfl ?_
          refine DJ.skip 7 rfl (by kernel_rfl) (by kernel_rfl) (by kernel_rfl) rfl rfl ?_
          refine DJ.skip 8 rfl (by kernel_rfl) (by kernel_rfl) (by kernel_rfl) rfl rfl ?_
          refine DJ.skip 9 rfl (by kernel_rfl) (by kernel_rfl) (by kernel_rfl) rfl rfl ?_
          refine DJ.skip 10 rfl (by kernel_rfl) (by kernel_rfl) (by kernel_rfl) rfl rfl ?_
          refine DJ.skip 11 rfl (by kernel_rfl) (by kernel_rfl) (by kernel_rfl) rfl rfl ?_
          refine DJ.skip 12 rfl (by kernel_rfl) (by kernel_rfl) (by kernel_rfl) rfl rfl ?_
          refine DJ.skip 13 rfl (by kernel_rfl) (by kernel_rfl) (by kernel_rfl) rfl rfl ?_
          refine DJ.skip 14 rfl (by kernel_rfl) (by kernel_rfl) (by kernel_rfl) rfl rfl ?_
          refine DJ.skip 15 rfl (by kernel_rfl) (by kernel_rfl) (by kernel_rfl) rfl rfl ?_
          refine DJ.yd 16 rfl (by kernel_rfl) (by kernel_rfl) (by kernel_rfl) rfl rfl (Yd.pickFB rfl rfl) ?_
          refine DJ.done (by kernel_rfl) ?_
          refine CJ.condF rfl ?_
          refine CJ.exit ?_
          refine CJ.seq ?_
          have e2 : p.take j.toNat ++ (k : Int) :: p.drop j.toNat = idxBy (ltR l) (k + 1) := by
            rw [idxBy_succ, ← hp, ← hj2]
            first
              | (have e3 : j.toNat = 0 := by omega
                 rw [e3]; exact ins_zero.symm)
              | (have hlt : ¬ ltR l k u24 = true := by rw [ltR, gtC hu26, gtC' hu30]; simpa using h31
                 have e31 : (j - 1).toNat = j.toNat - 1 := by omega
                 rw [e31] at hu24
                 exact (ins_stop (by omega) hu24 hlt).symm)
          refine CJ.region ?_
          refine LJ.yd rfl (Yd.mvS rfl) ?_
          refine LJ.yd rfl (Yd.mvI rfl) ?_
          refine LJ.slLR 0 rfl rfl rfl rfl (by omega) (by first | rfl | omega | (simp; done) | (simp; omega) | (simp [upN_len]; omega) | (simp [idxBy_len]; omega) | (simp [marks_len]; omega) | (simp [upN_len]; done) | (simp [idxBy_len]; done) | (simp [marks_len]; done) | (simp at *; omega)) (by first | rfl | omega | (simp; done) | (simp; omega) | (simp [upN_len]; omega) | (simp [idxBy_len]; omega) | (simp [marks_len]; omega) | (simp [upN_len]; done) | (simp [idxBy_len]; done) | (simp [marks_len]; done) | (simp at *; omega)) (fun sa37 sm37 sc37 hsm37 hs37 => ?_)
          refine LJ.call0 rfl (fun k hk dk => copyInts_ok (hs37 _ (Sts.lr hk dk 0 (by first | rfl | omega | (simp; done) | (simp; omega) | (simp [upN_len]; omega) | (simp [idxBy_len]; omega) | (simp [marks_len]; omega) | (simp [upN_len]; done) | (simp [idxBy_len]; done) | (simp [marks_len]; done) | (simp at *; omega)) rfl)) (by simp; omega)) ?_
          rintro _ _ ⟨ra38, rc38, rfl, rfl⟩
          refine LJ.norm [_, _] rfl ?_
          refine LJ.yd rfl (Yd.asS rfl) ?_
          refine LJ.nil ?_
          refine CJ.region ?_
          refine LJ.yd rfl (Yd.mvS rfl) ?_
          refine LJ.yd rfl (Yd.mvI rfl) ?_
          refine LJ.slHR 0 rfl rfl rfl rfl (by omega) (by first | rfl | omega | (simp; done) | (simp; omega) | (simp [upN_len]; omega) | (simp [idxBy_len]; omega) | (simp [marks_len]; omega) | (simp [upN_len]; done) | (simp [idxBy_len]; done) | (simp [marks_len]; done) | (simp at *; omega)) (fun sm41 hsm41 hs41 => ?_)
          refine LJ.yd rfl (Yd.mvI rfl) ?_
          refine LJ.op rfl (OpR.buildSlice (cs := [_]) rfl rfl) ?_
          rintro _ _ ⟨b5, rfl, rfl⟩
          refine LJ.imp1 0 rfl (fun _ r => Row.shorten sm41 (by first | rfl | omega | (simp; done) | (simp; omega) | (simp [upN_len]; omega) | (simp [idxBy_len]; omega) | (simp [marks_len]; omega) | (simp [upN_len]; done) | (simp [idxBy_len]; done) | (simp [marks_len]; done) | (simp at *; omega)) r) ?_
          refine LJ.norm [_, _, _] rfl ?_
          refine LJ.op rfl (OpR.apT (enc := encI) [_] 0 2 rfl rfl rfl (by first | rfl | omega | (simp; done) | (simp; omega) | (simp [upN_len]; omega) | (simp [idxBy_len]; omega) | (simp [marks_len]; omega) | (simp [upN_len]; done) | (simp [idxBy_len]; done) | (simp [marks_len]; done) | (simp at *; omega)) rfl rfl rfl rfl rfl (by first | rfl | omega | (simp; done) | (simp; omega) | (simp [upN_len]; omega) | (simp [idxBy_len]; omega) | (simp [marks_len]; omega) | (simp [upN_len]; done) | (simp [idxBy_len]; done) | (simp [marks_len]; done) | (simp at *; omega))) ?_
          rintro _ _ ⟨ra44, rc44, rfl, rfl⟩
          refine LJ.norm [_, _, _] rfl ?_
          refine LJ.yd rfl (Yd.mvS rfl) ?_
          refine LJ.op rfl (OpR.apR (enc := encI) 0 1 rfl rfl rfl (by first | rfl | omega | (simp; done) | (simp; omega) | (simp [upN_len]; omega) | (simp [idxBy_len]; omega) | (simp [marks_len]; omega) | (simp [upN_len]; done) | (simp [idxBy_len]; done) | (simp [marks_len]; done) | (simp at *; omega)) rfl (by first | rfl | omega | (simp; done) | (simp; omega) | (simp [upN_len]; omega) | (simp [idxBy_len]; omega) | (simp [marks_len]; omega) | (simp [upN_len]; done) | (simp [idxBy_len]; done) | (simp [marks_len]; done) | (simp at *; omega)) (fun _ => rfl) (by first | rfl | omega | (simp; done) | (simp; omega) | (simp [upN_len]; omega) | (simp [idxBy_len]; omega) | (simp [marks_len]; omega) | (simp [upN_len]; done) | (simp [idxBy_len]; done) | (simp [marks_len]; done) | (simp at *; omega))) ?_
          rintro _ _ ⟨ra46, rc46, rfl, rfl⟩
          refine LJ.norm [_, _, _] rfl ?_
          refine LJ.yd rfl (Yd.asS rfl) ?_
          refine LJ.nil ?_
          refine CJ.region ?_
          refine LJ.yd rfl (Yd.mvI rfl) ?_
          refine LJ.yd rfl (Yd.add rfl rfl (by unfold I64; omega)) ?_
          refine LJ.yd rfl (Yd.asI rfl) ?_
          refine LJ.nil ?_
          refine ⟨(k + 1, _, _, _, _), ?_, ⟨rfl, rfl, trivial⟩, ⟨rfl, rfl, trivial⟩, Ent.pick [0] [1, 2] rfl, ?_⟩
          · refine ⟨(by first | rfl | omega | (simp; done) | (simp; omega) | (simp [upN_len]; omega) | (simp [idxBy_len]; omega) | (simp [marks_len]; omega) | (simp [upN_len]; done) | (simp [idxBy_len]; done) | (simp [marks_len]; done) | (simp at *; omega)), ?_⟩
            refine ⟨by omega, ?_⟩
            rw [hsm41, ← e2]; simp
          · first | omega | (dsimp only; omega) | (simp only []; omega)
    · refine LJ.nil ?_
      refine CJ.condF rfl ?_
      refine CJ.exit ?_
      refine CJ.seq ?_
      refine CJ.region ?_
      refine LJ.yd rfl (Yd.mvS rfl) ?_
      refine LJ.yd rfl (Yd.asS rfl) ?_
      refine LJ.nil ?_
      refine CJ.ret ?_
      refine Fin.RL 0 (Res.one (ResV.tmp (v := .slice _ _ _) rfl)) rfl (by first | rfl | omega | (simp; done) | (simp; omega) | (simp [upN_len]; omega) | (simp [idxBy_len]; omega) | (simp [marks_len]; omega) | (simp [upN_len]; done) | (simp [idxBy_len]; done) | (simp [marks_len]; done) | (simp at *; omega)) ?_
      rw [hp]; congr 1; omega
theorem pairCmp {A : Amb} {b lc : Nat} {la : Option Addr} {l : List Int} (hcell : A.h.cell ⟨b, 0, none⟩ = some (.slice la l.length lc)) (hl : RdL encI 1 A.h (.slice la l.length lc) l) (hb : ∀ u ∈ l, 1 ≤ u ∧ u ≤ 200) :
    Cmp A 47 [.pointer (some ⟨b, 0, none⟩)] (fun x => 0 ≤ x ∧ x < l.length) (ltR l) := by
  intro B hB x y hx hy
  replace hl : RdL encI 1 B.h (.slice la l.length lc) l := hl.up
  replace hcell := Hp.cell_le hB.le hcell
  refine Ctr.body (args := [_, _, _]) Try.func47 rfl Try.ntmps47 Try.results47 (by simp) ?_
  refine CJ.seq ?_
  refine CJ.region ?_
  refine LJ.yd rfl (Yd.asI rfl) ?_
  refine LJ.nil ?_
  refine CJ.seq ?_
  refine CJ.regionD [] [] (by kernel_rfl) rfl ?_
  refine DJ.norm [] [] rfl rfl ?_
  refine DJ.yd 0 rfl (by kernel_rfl) (by kernel_rfl) (by kernel_rfl) rfl rfl (Yd.load rfl (Rdc.amb hcell)) ?_
  refine DJ.yd 1 rfl (by kernel_rfl) (by kernel_rfl) (by kernel_rfl) rfl rfl (Yd.mvI rfl) ?_
  refine DJ.idxA 2 rfl (by kernel_rfl) (by kernel_rfl) (by kernel_rfl) rfl rfl hl rfl rfl (by omega) (by first | rfl | omega | (simp; done) | (simp; omega) | (simp [upN_len]; omega) | (simp [idxBy_len]; omega) | (simp [marks_len]; omega) | (simp [upN_len]; done) | (simp [idxBy_len]; done) | (simp [marks_len]; done) | (simp at *; omega)) (fun ib8 io8 ia8 ir8 => ?_)
  refine DJ.ldA 3 rfl (by kernel_rfl) (by kernel_rfl) (by kernel_rfl) rfl rfl 0 (fun u => vI u) (fun _ => rfl) ir8 rfl rfl (by first | rfl | omega | (simp; done) | (simp; omega) | (simp [upN_len]; omega) | (simp [idxBy_len]; omega) | (simp [marks_len]; omega) | (simp [upN_len]; done) | (simp [idxBy_len]; done) | (simp [marks_len]; done) | (simp at *; omega)) (fun u9 hu9 => ?_)
  try simp only [Int.toNat_natCast] at hu9
  have hf9 := hb u9 (List.mem_of_getElem? hu9)
  refine DJ.yd 4 rfl (by kernel_rfl) (by kernel_rfl) (by kernel_rfl) rfl rfl (Yd.load rfl (Rdc.amb hcell)) ?_
  refine DJ.yd 5 rfl (by kernel_rfl) (by kernel_rfl) (by kernel_rfl) rfl rfl (Yd.mvI rfl) ?_
  refine DJ.idxA 6 rfl (by kernel_rfl) (by kernel_rfl) (by kernel_rfl) rfl rfl hl rfl rfl (by omega) (by first | rfl | omega | (simp; done) | (simp; omega) | (simp [upN_len]; omega) | (simp [idxBy_len]; omega) | (simp [marks_len]; omega) | (simp [upN_len]; done) | (simp [idxBy_len]; done) | (simp [marks_len]; done) | (simp at *; omega)) (fun ib12 io12 ia12 ir12 => ?_)
  refine DJ.ldA 7 rfl (by kernel_rfl) (by kernel_rfl) (by kernel_rfl) rfl rfl 0 (fun u => vI u) (fun _ => rfl) ir12 rfl rfl (by first | rfl | omega | (simp; done) | (simp; omega) | (simp [upN_len]; omega) | (simp [idxBy_len]; omega) | (simp [marks_len]; omega) | (simp [upN_len]; done) | (simp [idxBy_len]; done) | (simp [marks_len]; done) | (simp at *; omega)) (fun u13 hu13 => ?_)
  try simp only [Int.toNat_natCast] at hu13
  have hf13 := hb u13 (List.mem_of_getElem? hu13)
  refine DJ.yd 8 rfl (by kernel_rfl) (by kernel_rfl) (by kernel_rfl) rfl rfl (Yd.sub rfl rfl (by unfold I64; omega)) ?_
  refine DJ.yd 9 rfl (by kernel_rfl) (by kernel_rfl) (by kernel_rfl) rfl rfl (Yd.asI rfl) ?_
  refine DJ.done (by kernel_rfl) ?_
  refine CJ.ret ?_
  exact Fin.R [] (Res.one (ResV.tmp (v := .int _ _) rfl)) ⟨_, rfl, rfl, by rw [ltR, gtC hu9, gtC hu13, decide_eq_true_iff]; omega⟩ (Ent.refl _)
def puR (a b : List Int) (s : Int) : List Int := if PairOk a b s then pairR a b s else []
theorem PairUpI_ok {A : Amb} {v w : Value} {a b : List Int} {s : Int} (hl : RdL encI 1 A.h v a) (hl2 : RdL encI 1 A.h w b) (h1 : a.length ≤ 20) : Ctr Try.prog 15 #[v, w, vI s] A [] (RLP encI 3 1 (puR a b s)) := by
  obtain ⟨la, lc, rfl, hlb, hl⟩ := hl.un
  obtain ⟨la2, lc2, rfl, hlb2, hl2⟩ := hl2.un
  refine Ctr.body (args := [_, _, _]) Try.func15 rfl Try.ntmps15 Try.results15 (by simp) ?_
  refine CJ.seq ?_
  refine CJ.region ?_
  refine LJ.box1 (v := .slice _ _ _) rfl rfl rfl (fun b1 => ?_)
  refine LJ.yd rfl (Yd.asS rfl) ?_
  refine LJ.nil ?_
  refine CJ.seq ?_
  refine CJ.seq ?_
  refine CJ.region ?_
  refine LJ.yd rfl (Yd.loadC 0 rfl rfl rfl) ?_
  refine LJ.yd rfl (Yd.mvS rfl) ?_
  refine LJ.yd rfl (Yd.mvI rfl) ?_
  refine LJ.callB rfl (fun k hk dk => validPairs_ok (RdRow.up hl) (RdRow.up hl2)) (fun h17 => ?_) (fun h17 => ?_)
  · refine LJ.yd rfl (Yd.not rfl) ?_
    refine LJ.nil ?_
    refine CJ.condF rfl ?_
    refine CJ.skip ?_
    refine CJ.seq ?_
    have hxl := idxBy_len (ltR a) a.length
    have hpo : PairOk a b s := of_decide_eq_true h17
    have ha := (szOk_iff.1 hpo.1).2
    have hb := (szOk_iff.1 hpo.2.1).2
    have hbn := (szOk_iff.1 hpo.2.1).1
    have hs0 := hpo.2.2.1
    have hs1 := hpo.2.2.2
    refine CJ.region ?_
    refine LJ.yd rfl (Yd.loadC 0 rfl rfl rfl) ?_
    refine LJ.yd rfl (Yd.len rfl) ?_
    refine LJ.op rfl (OpR.mk (enc := encI) (0 : Int) (m := a.length) rfl rfl rfl (by first | rfl | omega | (simp; done) | (simp; omega) | (simp [upN_len]; omega) | (simp [idxBy_len]; omega) | (simp [marks_len]; omega) | (simp [upN_len]; done) | (simp [idxBy_len]; done) | (simp [marks_len]; done) | (simp at *; omega))) ?_
    rintro _ _ ⟨g21, rfl, rfl⟩
    refine LJ.norm [_, _] rfl ?_
    refine LJ.yd rfl (Yd.asS rfl) ?_
    refine LJ.nil ?_
    refine CJ.seq ?_
    refine CJ.region ?_
    refine LJ.yd rfl (Yd.mvS rfl) ?_
    refine LJ.yd rfl (Yd.len rfl) ?_
    refine LJ.op rfl (OpR.mk (enc := encB) false (m := b.length) rfl rfl rfl (by first | rfl | omega | (simp; done) | (simp; omega) | (simp [upN_len]; omega) | (simp [idxBy_len]; omega) | (simp [marks_len]; omega) | (simp [upN_len]; done) | (simp [idxBy_len]; done) | (simp [marks_len]; done) | (simp at *; omega))) ?_
    rintro _ _ ⟨g24, rfl, rfl⟩
    refine LJ.norm [_, _, _] rfl ?_
    refine LJ.yd rfl (Yd.asS rfl) ?_
    refine LJ.nil ?_
    refine CJ.seq ?_
    refine CJ.seq ?_
    refine CJ.region ?_
    refine LJ.yd rfl (Yd.loadC 0 rfl rfl rfl) ?_
    refine LJ.yd rfl (Yd.len rfl) ?_
    refine LJ.yd rfl (Yd.makeFunc rfl) ?_
    refine LJ.call0 rfl (fun k hk dk => indicesBy_ok (pairCmp (Sts.cel hk dk 0 rfl rfl) hl.up ha) h1) ?_
    rintro _ _ ⟨ra28, rc28, rfl, rfl⟩
    refine LJ.norm [_, _, _, _] rfl ?_
    refine LJ.yd rfl (Yd.len rfl) ?_
    refine LJ.yd rfl (Yd.mvI rfl) ?_
    refine LJ.nil ?_
    refine CJ.block ?_
    refine CJ.loopF [1, 2, 3, 6, 7, 8, 28, 29] (Nat × List Bool) (fun ⟨k, L⟩ => k ≤ a.length ∧ L.length = b.length ∧ ∀ (j : Nat) (t : Bool), L[j]? = some t → t = tkn (grP a b s ((idxBy (ltR a) a.length).take k)) j) (fun ⟨k, L⟩ => [(30, vI k)]) (fun ⟨k, L⟩ => [LR encI 3 1 (some ⟨g21, 0, none⟩) a.length (outP a.length 0 (grP a b s ((idxBy (ltR a) a.length).take k))), LR encB 4 1 (some ⟨g24, 0, none⟩) b.length L]) (fun ⟨k, L⟩ => a.length - k) (0, List.replicate b.length false) [_, _] [0, 3] [1, 2] rfl rfl rfl ?_ ⟨rfl, trivial⟩ ?_
    · exact ⟨by omega, by simp, fun j t h => by rw [List.getElem?_replicate] at h; split at h; cases h; rfl; cases h⟩
    · rintro ⟨k, L⟩ σ ⟨hk1, hL, hLt⟩
      refine CJ.norm [_, _, _, _] rfl ?_
      refine CJ.seq ?_
      refine CJ.region ?_
      refine LJ.splitD rfl (Yd.lss rfl rfl) (fun h31 => ?_) (fun h31 => ?_)
      · refine LJ.nil ?_
        refine CJ.seq ?_
        refine CJ.condT rfl ?_
        refine CJ.skip ?_
        refine CJ.seq ?_
        refine CJ.block ?_
        refine CJ.seq ?_
        refine CJ.region ?_
        refine LJ.idxR 1 rfl rfl rfl rfl (by omega) (by first | rfl | omega | (simp; done) | (simp; omega) | (simp [upN_len]; omega) | (simp [idxBy_len]; omega) | (simp [marks_len]; omega) | (simp [upN_len]; done) | (simp [idxBy_len]; done) | (simp [marks_len]; done) | (simp at *; omega)) (by first | rfl | omega | (simp; done) | (simp; omega) | (simp [upN_len]; omega) | (simp [idxBy_len]; omega) | (simp [marks_len]; omega) | (simp [upN_len]; done) | (simp [idxBy_len]; done) | (simp [marks_len]; done) | (simp at *; omega)) (fun ib32 ia32 => ?_)
        refine LJ.ldR 1 0 (fun u => vI u) (fun _ => rfl) rfl ia32 rfl rfl rfl (by first | rfl | omega | (simp; done) | (simp; omega) | (simp [upN_len]; omega) | (simp [idxBy_len]; omega) | (simp [marks_len]; omega) | (simp [upN_len]; done) | (simp [idxBy_len]; done) | (simp [marks_len]; done) | (simp at *; omega)) (fun u33 hu33 => ?_)
        try simp only [Int.toNat_natCast] at hu33
        have hf33 := idxBy_mem.1 (List.mem_of_getElem? hu33)
        refine LJ.yd rfl (Yd.asI rfl) ?_
        refine LJ.nil ?_
        refine CJ.seq ?_
        refine CJ.region ?_
        refine LJ.yd rfl (Yd.asI rfl) ?_
        refine LJ.nil ?_
        refine CJ.seq ?_
        refine CJ.seq ?_
        refine CJ.region ?_
        refine LJ.yd rfl (Yd.mvS rfl) ?_
        refine LJ.yd rfl (Yd.len rfl) ?_
        refine LJ.yd rfl (Yd.mvI rfl) ?_
        refine LJ.nil ?_
        refine CJ.block ?_
        refine CJ.loopK [1, 2, 3, 6, 7, 8, 10, 28, 29, 30, 31, 32, 33, 34, 35] (Nat × Int) (fun ⟨j, p⟩ => j ≤ b.length ∧ p = scanF b (tkn (grP a b s ((idxBy (ltR a) a.length).take k))) (gt a u33 - s) j) (fun ⟨j, p⟩ => [(36, vI j), (11, vI p)]) (fun ⟨j, p⟩ => b.length - j) (0, -1) ?_ ⟨rfl, rfl, trivial⟩ ?_
        · exact ⟨by omega, by rfl⟩
        · rintro ⟨j, p⟩ σ ⟨hj1, hp⟩
          have hpb := scan_lt b (tkn (grP a b s ((idxBy (ltR a) a.length).take k))) (gt a u33 - s) j
          rw [← hp] at hpb
          refine CJ.seq ?_
          refine CJ.region ?_
          refine LJ.splitD rfl (Yd.lss rfl rfl) (fun h37 => ?_) (fun h37 => ?_)
          · refine LJ.nil ?_
            refine CJ.seq ?_
            refine CJ.condT rfl ?_
            refine CJ.skip ?_
            refine CJ.seq ?_
            refine CJ.block ?_
            refine CJ.seq ?_
            refine CJ.region ?_
            refine LJ.yd rfl (Yd.mvI rfl) ?_
            refine LJ.idxA rfl hl2 rfl rfl (by omega) (by first | rfl | omega | (simp; done) | (simp; omega) | (simp [upN_len]; omega) | (simp [idxBy_len]; omega) | (simp [marks_len]; omega) | (simp [upN_len]; done) | (simp [idxBy_len]; done) | (simp [marks_len]; done) | (simp at *; omega)) (fun ib39 io39 ia39 ir39 => ?_)
            refine LJ.ldA 0 (fun u => vI u) (fun _ => rfl) ir39 rfl rfl rfl (by first | rfl | omega | (simp; done) | (simp; omega) | (simp [upN_len]; omega) | (simp [idxBy_len]; omega) | (simp [marks_len]; omega) | (simp [upN_len]; done) | (simp [idxBy_len]; done) | (simp [marks_len]; done) | (simp at *; omega)) (fun u40 hu40 => ?_)
            try simp only [Int.toNat_natCast] at hu40
            have hf40 := hb u40 (List.mem_of_getElem? hu40)
            refine LJ.yd rfl (Yd.asI rfl) ?_
            refine LJ.yd rfl (Yd.asI rfl) ?_
            refine LJ.nil ?_
            refine CJ.seq ?_
            refine CJ.seq ?_
            refine CJ.region ?_
            refine LJ.yd rfl (Yd.mvS rfl) ?_
            refine LJ.yd rfl (Yd.mvI rfl) ?_
            refine LJ.idxR 3 rfl rfl rfl rfl (by omega) (by first | rfl | omega | (simp; done) | (simp; omega) | (simp [upN_len]; omega) | (simp [idxBy_len]; omega) | (simp [marks_len]; omega) | (simp [upN_len]; done) | (simp [idxBy_len]; done) | (simp [marks_len]; done) | (simp at *; omega)) (by first | rfl | omega | (simp; done) | (simp; omega) | (simp [upN_len]; omega) | (simp [idxBy_len]; omega) | (simp [marks_len]; omega) | (simp [upN_len]; done) | (simp [idxBy_len]; done) | (simp [marks_len]; done) | (simp at *; omega)) (fun ib43 ia43 => ?_)
            refine LJ.ldRB 3 0 (fun u => u) (fun _ => rfl) rfl ia43 rfl rfl rfl (by first | rfl | omega | (simp; done) | (simp; omega) | (simp [upN_len]; omega) | (simp [idxBy_len]; omega) | (simp [marks_len]; omega) | (simp [upN_len]; done) | (simp [idxBy_len]; done) | (simp [marks_len]; done) | (simp at *; omega)) (fun u44 hu44 h44 => ?_) (fun u44 hu44 h44 => ?_)
            · try simp only [Int.toNat_natCast] at hu44
              refine LJ.yd rfl (Yd.mvB rfl) ?_
              refine LJ.gF rfl rfl ?_
              refine LJ.gF rfl rfl ?_
              refine LJ.gF rfl rfl ?_
              refine LJ.gF rfl rfl ?_
              refine LJ.gF rfl rfl ?_
              refine LJ.gF rfl rfl ?_
              refine LJ.gF rfl rfl ?_
              refine LJ.gF rfl rfl ?_
              refine LJ.yd rfl (Yd.pickTB rfl rfl) ?_
              refine LJ.nil ?_
              refine CJ.condT rfl ?_
              refine CJ.exit ?_
              refine CJ.region ?_
              refine LJ.yd rfl (Yd.add rfl rfl (by unfold I64; omega)) ?_
              refine LJ.yd rfl (Yd.mvI rfl) ?_
              refine LJ.nil ?_
              refine ⟨(j + 1, _), ?_, ⟨rfl, rfl, rfl, rfl, rfl, rfl, rfl, rfl, rfl, rfl, rfl, rfl, rfl, rfl, rfl, trivial⟩, ⟨rfl, rfl, trivial⟩, Ent.refl _, ?_⟩
              · refine ⟨by omega, ?_⟩
                have e44 := hLt j _ hu44
                first
                  | (rw [scan_skip (.inl (e44.symm.trans h44))]; exact hp)
                  | (rw [scan_skip (.inr (by rw [gtC' hu40, gtC hu50]; exact h53))]; exact hp)
                  | (rw [scan_take (h44.symm.trans e44) (by rw [gtC' hu40, gtC hu50]; omega) (.inl (by rw [← hp]; exact h56))]; done)
                  | (rw [scan_take (h44.symm.trans e44) (by rw [gtC' hu40, gtC hu50]; omega) (.inr (by rw [← hp, gtC' hu40, gtC hu62]; exact h63))]; done)
                  | (rw [scan_keep (h44.symm.trans e44) (by rw [gtC' hu40, gtC hu50]; omega) (by rw [← hp]; omega) (by rw [← hp, gtC' hu40, gtC hu62]; omega)]; exact hp)
              · first | omega | (dsimp only; omega) | (simp only []; omega)
            · try simp only [Int.toNat_natCast] at hu44
              refine LJ.yd rfl (Yd.mvB rfl) ?_
              refine LJ.gT rfl ?_
              refine LJ.yd rfl (Yd.mvI rfl) ?_
              refine LJ.gT rfl ?_
              refine LJ.yd rfl (Yd.loadC 0 rfl rfl rfl) ?_
              refine LJ.gT rfl ?_
              refine LJ.yd rfl (Yd.mvI rfl) ?_
              refine LJ.gT rfl ?_
              refine LJ.idxA rfl hl rfl rfl (by omega) (by first | rfl | omega | (simp; done) | (simp; omega) | (simp [upN_len]; omega) | (simp [idxBy_len]; omega) | (simp [marks_len]; omega) | (simp [upN_len]; done) | (simp [idxBy_len]; done) | (simp [marks_len]; done) | (simp at *; omega)) (fun ib49 io49 ia49 ir49 => ?_)
              refine LJ.gT rfl ?_
              refine LJ.ldA 0 (fun u => vI u) (fun _ => rfl) ir49 rfl rfl rfl (by first | rfl | omega | (simp; done) | (simp; omega) | (simp [upN_len]; omega) | (simp [idxBy_len]; omega) | (simp [marks_len]; omega) | (simp [upN_len]; done) | (simp [idxBy_len]; done) | (simp [marks_len]; done) | (simp at *; omega)) (fun u50 hu50 => ?_)
              try simp only [Int.toNat_natCast] at hu50
              have hf50 := ha u50 (List.mem_of_getElem? hu50)
              refine LJ.gT rfl ?_
              refine LJ.yd rfl (Yd.mvI rfl) ?_
              refine LJ.gT rfl ?_
              refine LJ.yd rfl (Yd.sub rfl rfl (by unfold I64; omega)) ?_
              refine LJ.gT rfl ?_
              refine LJ.splitD rfl (Yd.lss rfl rfl) (fun h53 => ?_) (fun h53 => ?_)
              · refine LJ.yd rfl (Yd.pickFB rfl rfl) ?_
                refine LJ.nil ?_
                refine CJ.condT rfl ?_
                refine CJ.exit ?_
                refine CJ.region ?_
                refine LJ.yd rfl (Yd.add rfl rfl (by unfold I64; omega)) ?_
                refine LJ.yd rfl (Yd.mvI rfl) ?_
                refine LJ.nil ?_
                refine ⟨(j + 1, _), ?_, ⟨rfl, rfl, rfl, rfl, rfl, rfl, rfl, rfl, rfl, rfl, rfl, rfl, rfl, rfl, rfl, trivial⟩, ⟨rfl, rfl, trivial⟩, Ent.refl _, ?_⟩
                · refine ⟨by omega, ?_⟩
                  have e44 := hLt j _ hu44
                  first
                    | (rw [scan_skip (.inl (e44.symm.trans h44))]; exact hp)
                    | (rw [scan_skip (.inr (by rw [gtC' hu40, gtC hu50]; exact h53))]; exact hp)
                    | (rw [scan_take (h44.symm.trans e44) (by rw [gtC' hu40, gtC hu50]; omega) (.inl (by rw [← hp]; exact h56))]; done)
                    | (rw [scan_take (h44.symm.trans e44) (by rw [gtC' hu40, gtC hu50]; omega) (.inr (by rw [← hp, gtC' hu40, gtC hu62]; exact h63))]; done)
                    | (rw [scan_keep (h44.symm.trans e44) (by rw [gtC' hu40, gtC hu50]; omega) (by rw [← hp]; omega) (by rw [← hp, gtC' hu40, gtC hu62]; omega)]; exact hp)
                · first | omega | (dsimp only; omega) | (simp only []; omega)
              · refine LJ.yd rfl (Yd.pickFB rfl rfl) ?_
                refine LJ.nil ?_
                refine CJ.condF rfl ?_
                refine CJ.skip ?_
                refine CJ.seq ?_
                refine CJ.region ?_
                refine LJ.yd rfl (Yd.mvI rfl) ?_
                refine LJ.splitD rfl (Yd.lss rfl rfl) (fun h56 => ?_) (fun h56 => ?_)
                · refine LJ.yd rfl (Yd.mvB rfl) ?_
                  refine LJ.gF rfl rfl ?_
                  refine LJ.gF rfl rfl ?_
                  refine LJ.gF rfl rfl ?_
                  refine LJ.gF rfl rfl ?_
                  refine LJ.gF rfl rfl ?_
                  refine LJ.gF rfl rfl ?_
                  refine LJ.yd rfl (Yd.pickTB rfl rfl) ?_
                  refine LJ.nil ?_
                  refine CJ.condT rfl ?_
                  refine CJ.region ?_
                  refine LJ.yd rfl (Yd.mvI rfl) ?_
                  refine LJ.yd rfl (Yd.asI rfl) ?_
                  refine LJ.nil ?_
                  refine CJ.region ?_
                  refine LJ.yd rfl (Yd.add rfl rfl (by unfold I64; omega)) ?_
                  refine LJ.yd rfl (Yd.mvI rfl) ?_
                  refine LJ.nil ?_
                  refine ⟨(j + 1, _), ?_, ⟨rfl, rfl, rfl, rfl, rfl, rfl, rfl, rfl, rfl, rfl, rfl, rfl, rfl, rfl, rfl, trivial⟩, ⟨rfl, rfl, trivial⟩, Ent.refl _, ?_⟩
                  · refine ⟨by omega, ?_⟩
                    have e44 := hLt j _ hu44
                    first
                      | (rw [scan_skip (.inl (e44.symm.trans h44))]; exact hp)
                      | (rw [scan_skip (.inr (by rw [gtC' hu40, gtC hu50]; exact h53))]; exact hp)
                      | (rw [scan_take (h44.symm.trans e44) (by rw [gtC' hu40, gtC hu50]; omega) (.inl (by rw [← hp]; exact h56))]; done)
                      | (rw [scan_take (h44.symm.trans e44) (by rw [gtC' hu40, gtC hu50]; omega) (.inr (by rw [← hp, gtC' hu40, gtC hu62]; exact h63))]; done)
                      | (rw [scan_keep (h44.symm.trans e44) (by rw [gtC' hu40, gtC hu50]; omega) (by rw [← hp]; omega) (by rw [← hp, gtC' hu40, gtC hu62]; omega)]; exact hp)
                  · first | omega | (dsimp only; omega) | (simp only []; omega)
                · refine LJ.yd rfl (Yd.mvB rfl) ?_
                  refine LJ.gT rfl ?_
                  refine LJ.yd rfl (Yd.mvI rfl) ?_
                  refine LJ.gT rfl ?_
                  refine LJ.yd rfl (Yd.mvS rfl) ?_
                  refine LJ.gT rfl ?_
                  refine LJ.yd rfl (Yd.mvI rfl) ?_
                  refine LJ.gT rfl ?_
                  refine LJ.idxA rfl hl2 rfl rfl (by omega) (by first | rfl | omega | (simp; done) | (simp; omega) | (simp [upN_len]; omega) | (simp [idxBy_len]; omega) | (simp [marks_len]; omega) | (simp [upN_len]; done) | (simp [idxBy_len]; done) | (simp [marks_len]; done) | (simp at *; omega)) (fun ib61 io61 ia61 ir61 => ?_)
                  refine LJ.gT rfl ?_
                  refine LJ.ldA 0 (fun u => vI u) (fun _ => rfl) ir61 rfl rfl rfl (by first | rfl | omega | (simp; done) | (simp; omega) | (simp [upN_len]; omega) | (simp [idxBy_len]; omega) | (simp [marks_len]; omega) | (simp [upN_len]; done) | (simp [idxBy_len]; done) | (simp [marks_len]; done) | (simp at *; omega)) (fun u62 hu62 => ?_)
                  try simp only [Int.toNat_natCast] at hu62
                  have hf62 := hb u62 (List.mem_of_getElem? hu62)
                  refine LJ.gT rfl ?_
                  refine LJ.splitD rfl (Yd.lss rfl rfl) (fun h63 => ?_) (fun h63 => ?_)
                  · refine LJ.yd rfl (Yd.pickFB rfl rfl) ?_
                    refine LJ.nil ?_
                    refine CJ.condT rfl ?_
                    refine CJ.region ?_
                    refine LJ.yd rfl (Yd.mvI rfl) ?_
                    refine LJ.yd rfl (Yd.asI rfl) ?_
                    refine LJ.nil ?_
                    refine CJ.region ?_
                    refine LJ.yd rfl (Yd.add rfl rfl (by unfold I64; omega)) ?_
                    refine LJ.yd rfl (Yd.mvI rfl) ?_
                    refine LJ.nil ?_
                    refine ⟨(j + 1, _), ?_, ⟨rfl, rfl, rfl, rfl, rfl, rfl, rfl, rfl, rfl, rfl, rfl, rfl, rfl, rfl, rfl, trivial⟩, ⟨rfl, rfl, trivial⟩, Ent.refl _, ?_⟩
                    · refine ⟨by omega, ?_⟩
                      have e44 := hLt j _ hu44
                      first
                        | (rw [scan_skip (.inl (e44.symm.trans h44))]; exact hp)
                        | (rw [scan_skip (.inr (by rw [gtC' hu40, gtC hu50]; exact h53))]; exact hp)
                        | (rw [scan_take (h44.symm.trans e44) (by rw [gtC' hu40, gtC hu50]; omega) (.inl (by rw [← hp]; exact h56))]; done)
                        | (rw [scan_take (h44.symm.trans e44) (by rw [gtC' hu40, gtC hu50]; omega) (.inr (by rw [← hp, gtC' hu40, gtC hu62]; exact h63))]; done)
                        | (rw [scan_keep (h44.symm.trans e44) (by rw [gtC' hu40, gtC hu50]; omega) (by rw [← hp]; omega) (by rw [← hp, gtC' hu40, gtC hu62]; omega)]; exact hp)
                    · first | omega | (dsimp only; omega) | (simp only []; omega)
                  · refine LJ.yd rfl (Yd.pickFB rfl rfl) ?_
                    refine LJ.nil ?_
                    refine CJ.condF rfl ?_
                    refine CJ.skip ?_
                    refine CJ.region ?_
                    refine LJ.yd rfl (Yd.add rfl rfl (by unfold I64; omega)) ?_
                    refine LJ.yd rfl (Yd.mvI rfl) ?_
                    refine LJ.nil ?_
                    refine ⟨(j + 1, _), ?_, ⟨rfl, rfl, rfl, rfl, rfl, rfl, rfl, rfl, rfl, rfl, rfl, rfl, rfl, rfl, rfl, trivial⟩, ⟨rfl, rfl, trivial⟩, Ent.refl _, ?_⟩
                    · refine ⟨by omega, ?_⟩
                      have e44 := hLt j _ hu44
                      first
                        | (rw [scan_skip (.inl (e44.symm.trans h44))]; exact hp)
                        | (rw [scan_skip (.inr (by rw [gtC' hu40, gtC hu50]; exact h53))]; exact hp)
                        | (rw [scan_take (h44.symm.trans e44) (by rw [gtC' hu40, gtC hu50]; omega) (.inl (by rw [← hp]; exact h56))]; done)
                        | (rw [scan_take (h44.symm.trans e44) (by rw [gtC' hu40, gtC hu50]; omega) (.inr (by rw [← hp, gtC' hu40, gtC hu62]; exact h63))]; done)
                        | (rw [scan_keep (h44.symm.trans e44) (by rw [gtC' hu40, gtC hu50]; omega) (by rw [← hp]; omega) (by rw [← hp, gtC' hu40, gtC hu62]; omega)]; exact hp)
                    · first | omega | (dsimp only; omega) | (simp only []; omega)
          · refine LJ.nil ?_
            refine CJ.seq ?_
            refine CJ.condF rfl ?_
            refine CJ.exit ?_
            refine CJ.seq ?_
            refine CJ.seq ?_
            have hjl : j = b.length := by omega
            have hol := outP_len a.length 0 (grP a b s ((idxBy (ltR a) a.length).take k))
            rw [hjl] at hp
            have hpb := scan_lt b (tkn (grP a b s ((idxBy (ltR a) a.length).take k))) (gt a u33 - s) b.length
            rw [← hp] at hpb
            refine CJ.regionD [0, 1, 2, 3] [] (by kernel_rfl) rfl ?_
            refine DJ.norm [_, _, _, _] [] rfl rfl ?_
            refine DJ.yd 0 rfl (by kernel_rfl) (by kernel_rfl) (by kernel_rfl) rfl rfl (Yd.mvI rfl) ?_
            refine DJ.splitD 1 rfl (by kernel_rfl) (by kernel_rfl) (by kernel_rfl) rfl rfl (Yd.geq rfl rfl) (fun h68 => ?_) (fun h68 => ?_)
            · refine DJ.yd 2 rfl (by kernel_rfl) (by kernel_rfl) (by kernel_rfl) rfl rfl (Yd.mvB rfl) ?_
              refine DJ.yd 3 rfl (by kernel_rfl) (by kernel_rfl) (by kernel_rfl) rfl rfl (Yd.mvS rfl) ?_
              refine DJ.yd 4 rfl (by kernel_rfl) (by kernel_rfl) (by kernel_rfl) rfl rfl (Yd.mvI rfl) ?_
              refine DJ.idxA 5 rfl (by kernel_rfl) (by kernel_rfl) (by kernel_rfl) rfl rfl hl2 rfl rfl (by omega) (by first | rfl | omega | (simp; done) | (simp; omega) | (simp [upN_len]; omega) | (simp [idxBy_len]; omega) | (simp [marks_len]; omega) | (simp [upN_len]; done) | (simp [idxBy_len]; done) | (simp [marks_len]; done) | (simp at *; omega)) (fun ib72 io72 ia72 ir72 => ?_)
              refine DJ.ldA 6 rfl (by kernel_rfl) (by kernel_rfl) (by kernel_rfl) rfl rfl 0 (fun u => vI u) (fun _ => rfl) ir72 rfl rfl (by first | rfl | omega | (simp; done) | (simp; omega) | (simp [upN_len]; omega) | (simp [idxBy_len]; omega) | (simp [marks_len]; omega) | (simp [upN_len]; done) | (simp [idxBy_len]; done) | (simp [marks_len]; done) | (simp at *; omega)) (fun u73 hu73 => ?_)
              try simp only [Int.toNat_natCast] at hu73
              have hf73 := hb u73 (List.mem_of_getElem? hu73)
              refine DJ.yd 7 rfl (by kernel_rfl) (by kernel_rfl) (by kernel_rfl) rfl rfl (Yd.loadC 0 rfl rfl rfl) ?_
              refine DJ.yd 8 rfl (by kernel_rfl) (by kernel_rfl) (by kernel_rfl) rfl rfl (Yd.mvI rfl) ?_
              refine DJ.idxA 9 rfl (by kernel_rfl) (by kernel_rfl) (by kernel_rfl) rfl rfl hl rfl rfl (by omega) (by first | rfl | omega | (simp; done) | (simp; omega) | (simp [upN_len]; omega) | (simp [idxBy_len]; omega) | (simp [marks_len]; omega) | (simp [upN_len]; done) | (simp [idxBy_len]; done) | (simp [marks_len]; done) | (simp at *; omega)) (fun ib76 io76 ia76 ir76 => ?_)
              refine DJ.ldA 10 rfl (by kernel_rfl) (by kernel_rfl) (by kernel_rfl) rfl rfl 0 (fun u => vI u) (fun _ => rfl) ir76 rfl rfl (by first | rfl | omega | (simp; done) | (simp; omega) | (simp [upN_len]; omega) | (simp [idxBy_len]; omega) | (simp [marks_len]; omega) | (simp [upN_len]; done) | (simp [idxBy_len]; done) | (simp [marks_len]; done) | (simp at *; omega)) (fun u77 hu77 => ?_)
              try simp only [Int.toNat_natCast] at hu77
              have hf77 := ha u77 (List.mem_of_getElem? hu77)
              refine DJ.yd 11 rfl (by kernel_rfl) (by kernel_rfl) (by kernel_rfl) rfl rfl (Yd.mvI rfl) ?_
              refine DJ.yd 12 rfl (by kernel_rfl) (by kernel_rfl) (by kernel_rfl) rfl rfl (Yd.add rfl rfl (by unfold I64; omega)) ?_
              refine DJ.splitD 13 rfl (by kernel_rfl) (by kernel_rfl) (by kernel_rfl) rfl rfl (Yd.gtr rfl rfl) (fun h80 => ?_) (fun h80 => ?_)
              · refine DJ.yd 14 rfl (by kernel_rfl) (by kernel_rfl) (by kernel_rfl) rfl rfl (Yd.pickTB rfl rfl) ?_
                refine DJ.done (by kernel_rfl) ?_
                refine CJ.condT rfl ?_
                refine CJ.region ?_
                refine LJ.yd rfl (Yd.asI rfl) ?_
                refine LJ.nil ?_
                refine CJ.seq ?_
                refine CJ.seq ?_
                refine CJ.region ?_
                refine LJ.yd rfl (Yd.mvI rfl) ?_
                refine LJ.yd rfl (Yd.cmpF (Yd.geq rfl rfl) (by decide)) ?_
                refine LJ.nil ?_
                refine CJ.condF rfl ?_
                refine CJ.skip ?_
                refine CJ.region ?_
                refine LJ.yd rfl (Yd.mvS rfl) ?_
                refine LJ.yd rfl (Yd.mvI rfl) ?_
                refine LJ.yd rfl (Yd.mvI rfl) ?_
                refine LJ.idxR 2 rfl rfl rfl rfl (by omega) (by first | rfl | omega | (simp; done) | (simp; omega) | (simp [upN_len]; omega) | (simp [idxBy_len]; omega) | (simp [marks_len]; omega) | (simp [upN_len]; done) | (simp [idxBy_len]; done) | (simp [marks_len]; done) | (simp at *; omega)) (by first | rfl | omega | (simp; done) | (simp; omega) | (simp [upN_len]; omega) | (simp [idxBy_len]; omega) | (simp [marks_len]; omega) | (simp [upN_len]; done) | (simp [idxBy_len]; done) | (simp [marks_len]; done) | (simp at *; omega)) (fun ib90 ia90 => ?_)
                refine LJ.op rfl (OpR.st1 (enc := encI) (e1 := fun u => vI u) 2 (fun _ => rfl) (fun _ => rfl) (fun _ => rfl) rfl ia90 rfl rfl rfl (by first | rfl | omega | (simp; done) | (simp; omega) | (simp [upN_len]; omega) | (simp [idxBy_len]; omega) | (simp [marks_len]; omega) | (simp [upN_len]; done) | (simp [idxBy_len]; done) | (simp [marks_len]; done) | (simp at *; omega))) ?_
                rintro _ _ ⟨rfl, rfl⟩
                refine LJ.norm [_, _, _, _] rfl ?_
                refine LJ.nil ?_
                first
                  | (have hn : nextF b (grP a b s ((idxBy (ltR a) a.length).take k)) (gt a u33 - s) (gt a u33 + s) = p := by
                       unfold nextF; rw [← hp]
                       refine if_neg fun h => ?_
                       have h2 := h.2
                       first | omega | (rw [gtC hu73, gtC hu77] at h2; omega)
                     rw [show (outP a.length 0 (grP a b s ((idxBy (ltR a) a.length).take k))).set u33.toNat p = outP a.length 0 (grP a b s ((idxBy (ltR a) a.length).take (k + 1))) by rw [takeC hu33, grP_snoc, outP_cons, hn]])
                  | (have hn : nextF b (grP a b s ((idxBy (ltR a) a.length).take k)) (gt a u33 - s) (gt a u33 + s) = -1 := by
                       unfold nextF; rw [← hp]
                       refine if_pos ⟨?_, ?_⟩
                       · omega
                       · rw [gtC hu73, gtC hu77]; omega
                     rw [show (outP a.length 0 (grP a b s ((idxBy (ltR a) a.length).take k))).set u33.toNat (-1) = outP a.length 0 (grP a b s ((idxBy (ltR a) a.length).take (k + 1))) by rw [takeC hu33, grP_snoc, outP_cons, hn]])
                refine CJ.region ?_
                refine LJ.yd rfl (Yd.add rfl rfl (by unfold I64; omega)) ?_
                refine LJ.yd rfl (Yd.mvI rfl) ?_
                refine LJ.nil ?_
                refine ⟨(k + 1, _), ?_, ⟨rfl, rfl, rfl, rfl, rfl, rfl, rfl, rfl, trivial⟩, ⟨rfl, trivial⟩, Ent.refl _, ?_⟩
                · refine ⟨by omega, ?_⟩
                  rw [takeC hu33, grP_snoc, hn]
                  first
                    | (refine ⟨hL, tk_none hLt ?_⟩; omega)
                    | (refine ⟨?_, tk_some hLt ?_⟩ <;> first | omega | (simp [hL]; done))
                · first | omega | (dsimp only; omega) | (simp only []; omega)
              · refine DJ.yd 14 rfl (by kernel_rfl) (by kernel_rfl) (by kernel_rfl) rfl rfl (Yd.pickTB rfl rfl) ?_
                refine DJ.done (by kernel_rfl) ?_
                refine CJ.condF rfl ?_
                refine CJ.skip ?_
                refine CJ.seq ?_
                refine CJ.seq ?_
                refine CJ.region ?_
                refine LJ.yd rfl (Yd.mvI rfl) ?_
                refine LJ.splitD rfl (Yd.geq rfl rfl) (fun h83 => ?_) (fun h83 => ?_)
                · refine LJ.nil ?_
                  refine CJ.condT rfl ?_
                  refine CJ.region ?_
                  refine LJ.yd rfl (Yd.mvS rfl) ?_
                  refine LJ.yd rfl (Yd.mvI rfl) ?_
                  refine LJ.idxR 3 rfl rfl rfl rfl (by omega) (by first | rfl | omega | (simp; done) | (simp; omega) | (simp [upN_len]; omega) | (simp [idxBy_len]; omega) | (simp [marks_len]; omega) | (simp [upN_len]; done) | (simp [idxBy_len]; done) | (simp [marks_len]; done) | (simp at *; omega)) (by first | rfl | omega | (simp; done) | (simp; omega) | (simp [upN_len]; omega) | (simp [idxBy_len]; omega) | (simp [marks_len]; omega) | (simp [upN_len]; done) | (simp [idxBy_len]; done) | (simp [marks_len]; done) | (simp at *; omega)) (fun ib86 ia86 => ?_)
                  refine LJ.op rfl (OpR.st1 (enc := encB) (e1 := fun u => .bool u) 3 (fun _ => rfl) (fun _ => rfl) (fun _ => rfl) rfl ia86 rfl rfl rfl (by first | rfl | omega | (simp; done) | (simp; omega) | (simp [upN_len]; omega) | (simp [idxBy_len]; omega) | (simp [marks_len]; omega) | (simp [upN_len]; done) | (simp [idxBy_len]; done) | (simp [marks_len]; done) | (simp at *; omega))) ?_
                  rintro _ _ ⟨rfl, rfl⟩
                  refine LJ.norm [_, _, _, _] rfl ?_
                  refine LJ.nil ?_
                  refine CJ.region ?_
                  refine LJ.yd rfl (Yd.mvS rfl) ?_
                  refine LJ.yd rfl (Yd.mvI rfl) ?_
                  refine LJ.yd rfl (Yd.mvI rfl) ?_
                  refine LJ.idxR 2 rfl rfl rfl rfl (by omega) (by first | rfl | omega | (simp; done) | (simp; omega) | (simp [upN_len]; omega) | (simp [idxBy_len]; omega) | (simp [marks_len]; omega) | (simp [upN_len]; done) | (simp [idxBy_len]; done) | (simp [marks_len]; done) | (simp at *; omega)) (by first | rfl | omega | (simp; done) | (simp; omega) | (simp [upN_len]; omega) | (simp [idxBy_len]; omega) | (simp [marks_len]; omega) | (simp [upN_len]; done) | (simp [idxBy_len]; done) | (simp [marks_len]; done) | (simp at *; omega)) (fun ib90 ia90 => ?_)
                  refine LJ.op rfl (OpR.st1 (enc := encI) (e1 := fun u => vI u) 2 (fun _ => rfl) (fun _ => rfl) (fun _ => rfl) rfl ia90 rfl rfl rfl (by first | rfl | omega | (simp; done) | (simp; omega) | (simp [upN_len]; omega) | (simp [idxBy_len]; omega) | (simp [marks_len]; omega) | (simp [upN_len]; done) | (simp [idxBy_len]; done) | (simp [marks_len]; done) | (simp at *; omega))) ?_
                  rintro _ _ ⟨rfl, rfl⟩
                  refine LJ.norm [_, _, _, _] rfl ?_
                  refine LJ.nil ?_
                  first
                    | (have hn : nextF b (grP a b s ((idxBy (ltR a) a.length).take k)) (gt a u33 - s) (gt a u33 + s) = p := by
                         unfold nextF; rw [← hp]
                         refine if_neg fun h => ?_
                         have h2 := h.2
                         first | omega | (rw [gtC hu73, gtC hu77] at h2; omega)
                       rw [show (outP a.length 0 (grP a b s ((idxBy (ltR a) a.length).take k))).set u33.toNat p = outP a.length 0 (grP a b s ((idxBy (ltR a) a.length).take (k + 1))) by rw [takeC hu33, grP_snoc, outP_cons, hn]])
                    | (have hn : nextF b (grP a b s ((idxBy (ltR a) a.length).take k)) (gt a u33 - s) (gt a u33 + s) = -1 := by
                         unfold nextF; rw [← hp]
                         refine if_pos ⟨?_, ?_⟩
                         · omega
                         · rw [gtC hu73, gtC hu77]; omega
                       rw [show (outP a.length 0 (grP a b s ((idxBy (ltR a) a.length).take k))).set u33.toNat (-1) = outP a.length 0 (grP a b s ((idxBy (ltR a) a.length).take (k + 1))) by rw [takeC hu33, grP_snoc, outP_cons, hn]])
                  refine CJ.region ?_
                  refine LJ.yd rfl (Yd.add rfl rfl (by unfold I64; omega)) ?_
                  refine LJ.yd rfl (Yd.mvI rfl) ?_
                  refine LJ.nil ?_
                  refine ⟨(k + 1, _), ?_, ⟨rfl, rfl, rfl, rfl, rfl, rfl, rfl, rfl, trivial⟩, ⟨rfl, trivial⟩, Ent.refl _, ?_⟩
                  · refine ⟨by omega, ?_⟩
                    rw [takeC hu33, grP_snoc, hn]
                    first
                      | (refine ⟨hL, tk_none hLt ?_⟩; omega)
                      | (refine ⟨?_, tk_some hLt ?_⟩ <;> first | omega | (simp [hL]; done))
                  · first | omega | (dsimp only; omega) | (simp only []; omega)
                · refine LJ.nil ?_
                  refine CJ.condF rfl ?_
                  refine CJ.skip ?_
                  refine CJ.region ?_
                  refine LJ.yd rfl (Yd.mvS rfl) ?_
                  refine LJ.yd rfl (Yd.mvI rfl) ?_
                  refine LJ.yd rfl (Yd.mvI rfl) ?_
                  refine LJ.idxR 2 rfl rfl rfl rfl (by omega) (by first | rfl | omega | (simp; done) | (simp; omega) | (simp [upN_len]; omega) | (simp [idxBy_len]; omega) | (simp [marks_len]; omega) | (simp [upN_len]; done) | (simp [idxBy_len]; done) | (simp [marks_len]; done) | (simp at *; omega)) (by first | rfl | omega | (simp; done) | (simp; omega) | (simp [upN_len]; omega) | (simp [idxBy_len]; omega) | (simp [marks_len]; omega) | (simp [upN_len]; done) | (simp [idxBy_len]; done) | (simp [marks_len]; done) | (simp at *; omega)) (fun ib90 ia90 => ?_)
                  refine LJ.op rfl (OpR.st1 (enc := encI) (e1 := fun u => vI u) 2 (fun _ => rfl) (fun _ => rfl) (fun _ => rfl) rfl ia90 rfl rfl rfl (by first | rfl | omega | (simp; done) | (simp; omega) | (simp [upN_len]; omega) | (simp [idxBy_len]; omega) | (simp [marks_len]; omega) | (simp [upN_len]; done) | (simp [idxBy_len]; done) | (simp [marks_len]; done) | (simp at *; omega))) ?_
                  rintro _ _ ⟨rfl, rfl⟩
                  refine LJ.norm [_, _, _, _] rfl ?_
                  refine LJ.nil ?_
                  first
                    | (have hn : nextF b (grP a b s ((idxBy (ltR a) a.length).take k)) (gt a u33 - s) (gt a u33 + s) = p := by
                         unfold nextF; rw [← hp]
                         refine if_neg fun h => ?_
                         have h2 := h.2
                         first | omega | (rw [gtC hu73, gtC hu77] at h2; omega)
                       rw [show (outP a.length 0 (grP a b s ((idxBy (ltR a) a.length).take k))).set u33.toNat p = outP a.length 0 (grP a b s ((idxBy (ltR a) a.length).take (k + 1))) by rw [takeC hu33, grP_snoc, outP_cons, hn]])
                    | (have hn : nextF b (grP a b s ((idxBy (ltR a) a.length).take k)) (gt a u33 - s) (gt a u33 + s) = -1 := by
                         unfold nextF; rw [← hp]
                         refine if_pos ⟨?_, ?_⟩
                         · omega
                         · rw [gtC hu73, gtC hu77]; omega
                       rw [show (outP a.length 0 (grP a b s ((idxBy (ltR a) a.length).take k))).set u33.toNat (-1) = outP a.length 0 (grP a b s ((idxBy (ltR a) a.length).take (k + 1))) by rw [takeC hu33, grP_snoc, outP_cons, hn]])
                  refine CJ.region ?_
                  refine LJ.yd rfl (Yd.add rfl rfl (by unfold I64; omega)) ?_
                  refine LJ.yd rfl (Yd.mvI rfl) ?_
                  refine LJ.nil ?_
                  refine ⟨(k + 1, _), ?_, ⟨rfl, rfl, rfl, rfl, rfl, rfl, rfl, rfl, trivial⟩, ⟨rfl, trivial⟩, Ent.refl _, ?_⟩
                  · refine ⟨by omega, ?_⟩
                    rw [takeC hu33, grP_snoc, hn]
                    first
                      | (refine ⟨hL, tk_none hLt ?_⟩; omega)
                      | (refine ⟨?_, tk_some hLt ?_⟩ <;> first | omega | (simp [hL]; done))
                  · first | omega | (dsimp only; omega) | (simp only []; omega)
            · refine DJ.yd 2 rfl (by kernel_rfl) (by kernel_rfl) (by kernel_rfl) rfl rfl (Yd.mvB rfl) ?_
              refine DJ.skip 3 rfl (by kernel_rfl) (by kernel_rfl) (by kernel_rfl) rfl rfl ?_
              refine DJ.skip 4 rfl (by kernel_rfl) (by kernel_rfl) (by kernel_rfl) rfl rfl ?_
              refine DJ.skip 5 rfl (by kernel_rfl) (by kernel_rfl) (by kernel_rfl) rfl rfl ?_
              refine DJ.skip 6 rfl (by kernel_rfl) (by kernel_rfl) (by kernel_rfl) rfl rfl ?_
              refine DJ.skip 7 rfl (by kernel_rfl) (by kernel_rfl) (by kernel_rfl) rfl rfl ?_
              refine DJ.skip 8 rfl (by kernel_rfl) (by kernel_rfl) (by kernel_rfl) rfl rfl ?_
              refine DJ.skip 9 rfl (by kernel_rfl) (by kernel_rfl) (by kernel_rfl) rfl rfl ?_
              refine DJ.skip 10 rfl (by kernel_rfl) (by kernel_rfl) (by kernel_rfl) rfl rfl ?_
              refine DJ.skip 11 rfl (by kernel_rfl) (by kernel_rfl) (by kernel_rfl) rfl rfl ?_
              refine DJ.skip 12 rfl (by kernel_rfl) (by kernel_rfl) (by kernel_rfl) rfl rfl ?_
              refine DJ.skip 13 rfl (by kernel_rfl) (by kernel_rfl) (by kernel_rfl) rfl rfl ?_
              refine DJ.yd 14 rfl (by kernel_rfl) (by kernel_rfl) (by kernel_rfl) rfl rfl (Yd.pickFB rfl rfl) ?_
              refine DJ.done (by kernel_rfl) ?_
              refine CJ.condF rfl ?_
              refine CJ.skip ?_
              refine CJ.seq ?_
              refine CJ.seq ?_
              refine CJ.region ?_
              refine LJ.yd rfl (Yd.mvI rfl) ?_
              refine LJ.splitD rfl (Yd.geq rfl rfl) (fun h83 => ?_) (fun h83 => ?_)
              · refine LJ.nil ?_
                refine CJ.condT rfl ?_
                refine CJ.region ?_
                refine LJ.yd rfl (Yd.mvS rfl) ?_
                refine LJ.yd rfl (Yd.mvI rfl) ?_
                refine LJ.idxR 3 rfl rfl rfl rfl (by omega) (by first | rfl | omega | (simp; done) | (simp; omega) | (simp [upN_len]; omega) | (simp [idxBy_len]; omega) | (simp [marks_len]; omega) | (simp [upN_len]; done) | (simp [idxBy_len]; done) | (simp [marks_len]; done) | (simp at *; omega)) (by first | rfl | omega | (simp; done) | (simp; omega) | (simp [upN_len]; omega) | (simp [idxBy_len]; omega) | (simp [marks_len]; omega) | (simp [upN_len]; done) | (simp [idxBy_len]; done) | (simp [marks_len]; done) | (simp at *; omega)) (fun ib86 ia86 => ?_)
                refine LJ.op rfl (OpR.st1 (enc := encB) (e1 := fun u => .bool u) 3 (fun _ => rfl) (fun _ => rfl) (fun _ => rfl) rfl ia86 rfl rfl rfl (by first | rfl | omega | (simp; done) | (simp; omega) | (simp [upN_len]; omega) | (simp [idxBy_len]; omega) | (simp [marks_len]; omega) | (simp [upN_len]; done) | (simp [idxBy_len]; done) | (simp [marks_len]; done) | (simp at *; omega))) ?_
                rintro _ _ ⟨rfl, rfl⟩
                refine LJ.norm [_, _, _, _] rfl ?_
                refine LJ.nil ?_
                refine CJ.region ?_
                refine LJ.yd rfl (Yd.mvS rfl) ?_
                refine LJ.yd rfl (Yd.mvI rfl) ?_
                refine LJ.yd rfl (Yd.mvI rfl) ?_
                refine LJ.idxR 2 rfl rfl rfl rfl (by omega) (by first | rfl | omega | (simp; done) | (simp; omega) | (simp [upN_len]; omega) | (simp [idxBy_len]; omega) | (simp [marks_len]; omega) | (simp [upN_len]; done) | (simp [idxBy_len]; done) | (simp [marks_len]; done) | (simp at *; omega)) (by first | rfl | omega | (simp; done) | (simp; omega) | (simp [upN_len]; omega) | (simp [idxBy_len]; omega) | (simp [marks_len]; omega) | (simp [upN_len]; done) | (simp [idxBy_len]; done) | (simp [marks_len]; done) | (simp at *; omega)) (fun ib90 ia90 => ?_)
                refine LJ.op rfl (OpR.st1 (enc := encI) (e1 := fun u => vI u) 2 (fun _ => rfl) (fun _ => rfl) (fun _ => rfl) rfl ia90 rfl rfl rfl (by first | rfl | omega | (simp; done) | (simp; omega) | (simp [upN_len]; omega) | (simp [idxBy_len]; omega) | (simp [marks_len]; omega) | (simp [upN_len]; done) | (simp [idxBy_len]; done) | (simp [marks_len]; done) | (simp at *; omega))) ?_
                rintro _ _ ⟨rfl, rfl⟩
                refine LJ.norm [_, _, _, _] rfl ?_
                refine LJ.nil ?_
                first
                  | (have hn : nextF b (grP a b s ((idxBy (ltR a) a.length).take k)) (gt a u33 - s) (gt a u33 + s) = p := by
                       unfold nextF; rw [← hp]
                       refine if_neg fun h => ?_
                       have h2 := h.2
                       first | omega | (rw [gtC hu73, gtC hu77] at h2; omega)
                     rw [show (outP a.length 0 (grP a b s ((idxBy (ltR a) a.length).take k))).set u33.toNat p = outP a.length 0 (grP a b s ((idxBy (ltR a) a.length).take (k + 1))) by rw [takeC hu33, grP_snoc, outP_cons, hn]])
                  | (have hn : nextF b (grP a b s ((idxBy (ltR a) a.length).take k)) (gt a u33 - s) (gt a u33 + s) = -1 := by
                       unfold nextF; rw [← hp]
                       refine if_pos ⟨?_, ?_⟩
                       · omega
                       · rw [gtC hu73, gtC hu77]; omega
                     rw [show (outP a.length 0 (grP a b s ((idxBy (ltR a) a.length).take k))).set u33.toNat (-1) = outP a.length 0 (grP a b s ((idxBy (ltR a) a.length).take (k + 1))) by rw [takeC hu33, grP_snoc, outP_cons, hn]])
                refine CJ.region ?_
                refine LJ.yd rfl (Yd.add rfl rfl (by unfold I64; omega)) ?_
                refine LJ.yd rfl (Yd.mvI rfl) ?_
                refine LJ.nil ?_
                refine ⟨(k + 1, _), ?_, ⟨rfl, rfl, rfl, rfl, rfl, rfl, rfl, rfl, trivial⟩, ⟨rfl, trivial⟩, Ent.refl _, ?_⟩
                · refine ⟨by omega, ?_⟩
                  rw [takeC hu33, grP_snoc, hn]
                  first
                    | (refine ⟨hL, tk_none hLt ?_⟩; omega)
                    | (refine ⟨?_, tk_some hLt ?_⟩ <;> first | omega | (simp [hL]; done))
                · first | omega | (dsimp only; omega) | (simp only []; omega)
              · refine LJ.nil ?_
                refine CJ.condF rfl ?_
                refine CJ.skip ?_
                refine CJ.region ?_
                refine LJ.yd rfl (Yd.mvS rfl) ?_
                refine LJ.yd rfl (Yd.mvI rfl) ?_
                refine LJ.yd rfl (Yd.mvI rfl) ?_
                refine LJ.idxR 2 rfl rfl rfl rfl (by omega) (by first | rfl | omega | (simp; done) | (simp; omega) | (simp [upN_len]; omega) | (simp [idxBy_len]; omega) | (simp [marks_len]; omega) | (simp [upN_len]; done) | (simp [idxBy_len]; done) | (simp [marks_len]; done) | (simp at *; omega)) (by first | rfl | omega | (simp; done) | (simp; omega) | (simp [upN_len]; omega) | (simp [idxBy_len]; omega) | (simp [marks_len]; omega) | (simp [upN_len]; done) | (simp [idxBy_len]; done) | (simp [marks_len]; done) | (simp at *; omega)) (fun ib90 ia90 => ?_)
                refine LJ.op rfl (OpR.st1 (enc := encI) (e1 := fun u => vI u) 2 (fun _ => rfl) (fun _ => rfl) (fun _ => rfl) rfl ia90 rfl rfl rfl (by first | rfl | omega | (simp; done) | (simp; omega) | (simp [upN_len]; omega) | (simp [idxBy_len]; omega) | (simp [marks_len]; omega) | (simp [upN_len]; done) | (simp [idxBy_len]; done) | (simp [marks_len]; done) | (simp at *; omega))) ?_
                rintro _ _ ⟨rfl, rfl⟩
                refine LJ.norm [_, _, _, _] rfl ?_
                refine LJ.nil ?_
                first
                  | (have hn : nextF b (grP a b s ((idxBy (ltR a) a.length).take k)) (gt a u33 - s) (gt a u33 + s) = p := by
                       unfold nextF; rw [← hp]
                       refine if_neg fun h => ?_
                       have h2 := h.2
                       first | omega | (rw [gtC hu73, gtC hu77] at h2; omega)
                     rw [show (outP a.length 0 (grP a b s ((idxBy (ltR a) a.length).take k))).set u33.toNat p = outP a.length 0 (grP a b s ((idxBy (ltR a) a.length).take (k + 1))) by rw [takeC hu33, grP_snoc, outP_cons, hn]])
                  | (have hn : nextF b (grP a b s ((idxBy (ltR a) a.length).take k)) (gt a u33 - s) (gt a u33 + s) = -1 := by
                       unfold nextF; rw [← hp]
                       refine if_pos ⟨?_, ?_⟩
                       · omega
                       · rw [gtC hu73, gtC hu77]; omega
                     rw [show (outP a.length 0 (grP a b s ((idxBy (ltR a) a.length).take k))).set u33.toNat (-1) = outP a.length 0 (grP a b s ((idxBy (ltR a) a.length).take (k + 1))) by rw [takeC hu33, grP_snoc, outP_cons, hn]])
                refine CJ.region ?_
                refine LJ.yd rfl (Yd.add rfl rfl (by unfold I64; omega)) ?_
                refine LJ.yd rfl (Yd.mvI rfl) ?_
                refine LJ.nil ?_
                refine ⟨(k + 1, _), ?_, ⟨rfl, rfl, rfl, rfl, rfl, rfl, rfl, rfl, trivial⟩, ⟨rfl, trivial⟩, Ent.refl _, ?_⟩
                · refine ⟨by omega, ?_⟩
                  rw [takeC hu33, grP_snoc, hn]
                  first
                    | (refine ⟨hL, tk_none hLt ?_⟩; omega)
                    | (refine ⟨?_, tk_some hLt ?_⟩ <;> first | omega | (simp [hL]; done))
                · first | omega | (dsimp only; omega) | (simp only []; omega)
      · refine LJ.nil ?_
        refine CJ.seq ?_
        refine CJ.condF rfl ?_
        refine CJ.exit ?_
        refine CJ.seq ?_
        refine CJ.region ?_
        refine LJ.yd rfl (Yd.mvS rfl) ?_
        refine LJ.yd rfl (Yd.asS rfl) ?_
        refine LJ.nil ?_
        refine CJ.ret ?_
        refine Fin.RL 2 (Res.one (ResV.tmp (v := .slice _ _ _) rfl)) rfl (outP_len _ _ _).symm ?_
        first | (rw [puR, if_pos hpo, pairR, List.take_of_length_le (by rw [idxBy_len]; omega)]; done) | (rw [puR, if_neg (of_decide_eq_false h17)]; done)
  · refine LJ.yd rfl (Yd.not rfl) ?_
    refine LJ.nil ?_
    refine CJ.condT rfl ?_
    refine CJ.seq ?_
    refine CJ.region ?_
    refine LJ.yd rfl (Yd.asS rfl) ?_
    refine LJ.nil ?_
    refine CJ.ret ?_
    refine Fin.RN (Res.one (ResV.tmp (v := .slice _ _ _) rfl)) ?_
    first | (rw [puR, if_pos hpo, pairR, List.take_of_length_le (by rw [idxBy_len]; omega)]; done) | (rw [puR, if_neg (of_decide_eq_false h17)]; done)
end Go.Proofs.Ytbgalcjkmgdaiaa
