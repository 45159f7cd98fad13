/-
  The law on time turned round.
-/
import Derived.Test.YtbgalcjkmgdaiaaJ6
namespace Go.Proofs.Ytbgalcjkmgdaiaa
open Go
set_option maxRecDepth 20000
set_option maxHeartbeats 1000000

theorem placeIn_ok {A : Amb} {v : Value} {l : List Int} {x : Int} (hl : RdL encI 1 A.h v l) : Ctr Try.prog 76 #[v, vI x] A [] (fun v gs => ∃ i, v = vI i ∧ gs = [] ∧ (0 ≤ i ↔ x ∈ l)) := by
  obtain ⟨la, lc, rfl, hlb, hl⟩ := hl.un
  refine Ctr.body (args := [_, _]) Try.func76 rfl Try.ntmps76 Try.results76 (by simp) ?_
  refine CJ.seq ?_
  refine CJ.region ?_
  refine LJ.yd rfl (Yd.asI rfl) ?_
  refine LJ.nil ?_
  refine CJ.seq ?_
  refine CJ.seq ?_
  refine CJ.region ?_
  refine LJ.yd rfl (Yd.asI rfl) ?_
  refine LJ.nil ?_
  refine CJ.block ?_
  refine CJ.loopK [0, 1] Nat (fun k => k ≤ l.length ∧ x ∉ l.take k) (fun k => [(5, vI k)]) (fun k => l.length - k) (0) ?_ ⟨rfl, trivial⟩ ?_
  · exact ⟨by omega, by simp⟩
  · rintro k σ ⟨hk1, hi1⟩
    refine CJ.seq ?_
    refine CJ.seq ?_
    refine CJ.region ?_
    refine LJ.yd rfl (Yd.mvI rfl) ?_
    refine LJ.yd rfl (Yd.mvS rfl) ?_
    refine LJ.yd rfl (Yd.len rfl) ?_
    refine LJ.splitD rfl (Yd.lss rfl rfl) (fun h9 => ?_) (fun h9 => ?_)
    · refine LJ.nil ?_
      refine CJ.condT rfl ?_
      refine CJ.skip ?_
      refine CJ.seq ?_
      refine CJ.block ?_
      refine CJ.seq ?_
      refine CJ.region ?_
      refine LJ.yd rfl (Yd.mvS rfl) ?_
      refine LJ.yd rfl (Yd.mvI rfl) ?_
      refine LJ.idxA rfl hl rfl rfl (by omega) (by first | rfl | omega | (simp; done) | (simp; omega) | (simp [upN_len]; omega) | (simp [idxBy_len]; omega) | (simp [marks_len]; omega) | (simp [upN_len]; done) | (simp [idxBy_len]; done) | (simp [marks_len]; done) | (simp at *; omega)) (fun ib14 io14 ia14 ir14 => ?_)
      refine LJ.ldA 0 (fun u => vI u) (fun _ => rfl) ir14 rfl rfl rfl (by first | rfl | omega | (simp; done) | (simp; omega) | (simp [upN_len]; omega) | (simp [idxBy_len]; omega) | (simp [marks_len]; omega) | (simp [upN_len]; done) | (simp [idxBy_len]; done) | (simp [marks_len]; done) | (simp at *; omega)) (fun u15 hu15 => ?_)
      try simp only [Int.toNat_natCast] at hu15
      refine LJ.yd rfl (Yd.mvI rfl) ?_
      refine LJ.splitD rfl (Yd.eql rfl rfl) (fun h17 => ?_) (fun h17 => ?_)
      · refine LJ.nil ?_
        refine CJ.condT rfl ?_
        refine CJ.seq ?_
        refine CJ.region ?_
        refine LJ.yd rfl (Yd.mvI rfl) ?_
        refine LJ.yd rfl (Yd.asI rfl) ?_
        refine LJ.nil ?_
        refine CJ.ret ?_
        first
          | exact Fin.R [] (Res.one (ResV.tmp (v := .int _ _) rfl)) ⟨_, rfl, rfl, fun _ => h17 ▸ List.mem_of_getElem? hu15, fun _ => by omega⟩ (Ent.refl _)
          | exact Fin.R [] (Res.one (ResV.tmp (v := .int _ _) rfl)) ⟨_, rfl, rfl, fun h => absurd h (by decide), fun h => absurd h (by rw [List.take_of_length_le (by omega)] at hi1; exact hi1)⟩ (Ent.refl _)
      · refine LJ.nil ?_
        refine CJ.condF rfl ?_
        refine CJ.skip ?_
        refine CJ.region ?_
        refine LJ.yd rfl (Yd.mvI rfl) ?_
        refine LJ.yd rfl (Yd.add rfl rfl (by unfold I64; omega)) ?_
        refine LJ.yd rfl (Yd.asI rfl) ?_
        refine LJ.nil ?_
        refine ⟨(k + 1), ?_, ⟨rfl, rfl, trivial⟩, ⟨rfl, trivial⟩, Ent.refl _, ?_⟩
        · refine ⟨by omega, ?_⟩
          rw [takeC hu15, List.mem_append, List.mem_singleton]; rintro (h | h); exact hi1 h; exact h17 h.symm
        · first | omega | (dsimp only; omega) | (simp only []; omega)
    · refine LJ.nil ?_
      refine CJ.condF rfl ?_
      refine CJ.exit ?_
      refine CJ.seq ?_
      refine CJ.region ?_
      refine LJ.yd rfl (Yd.asI rfl) ?_
      refine LJ.nil ?_
      refine CJ.ret ?_
      first
        | exact Fin.R [] (Res.one (ResV.tmp (v := .int _ _) rfl)) ⟨_, rfl, rfl, fun _ => h17 ▸ List.mem_of_getElem? hu15, fun _ => by omega⟩ (Ent.refl _)
        | exact Fin.R [] (Res.one (ResV.tmp (v := .int _ _) rfl)) ⟨_, rfl, rfl, fun h => absurd h (by decide), fun h => absurd h (by rw [List.take_of_length_le (by omega)] at hi1; exact hi1)⟩ (Ent.refl _)
theorem validTurn_ok {A : Amb} {v : Value} {l : List Int} (hl : RdL encI 1 A.h v l) : Ctr Try.prog 72 #[v] A [] (Val (.bool (decide (l.length ≤ 24 ∧ OrdP l l.length)))) := by
  obtain ⟨la, lc, rfl, hlb, hl⟩ := hl.un
  refine Ctr.body (args := [_]) Try.func72 rfl Try.ntmps72 Try.results72 (by simp) ?_
  refine CJ.seq ?_
  refine CJ.region ?_
  refine LJ.yd rfl (Yd.asB rfl) ?_
  refine LJ.nil ?_
  refine CJ.seq ?_
  refine CJ.seq ?_
  refine CJ.region ?_
  refine LJ.yd rfl (Yd.asI rfl) ?_
  refine LJ.nil ?_
  refine CJ.block ?_
  refine CJ.loopK [0] Nat (fun k => k ≤ l.length ∧ (l.take k).Nodup ∧ ∀ x ∈ l.take k, 0 ≤ x ∧ x ≤ (l.length : Int) - 1) (fun k => [(3, vI k)]) (fun k => l.length - k) (0) ?_ ⟨rfl, trivial⟩ ?_
  · exact ⟨by omega, by simp⟩
  · rintro k σ ⟨hk1, hnd, hrg⟩
    refine CJ.seq ?_
    refine CJ.seq ?_
    refine CJ.region ?_
    refine LJ.yd rfl (Yd.mvI rfl) ?_
    refine LJ.yd rfl (Yd.mvS rfl) ?_
    refine LJ.yd rfl (Yd.len rfl) ?_
    refine LJ.splitD rfl (Yd.lss rfl rfl) (fun h7 => ?_) (fun h7 => ?_)
    · refine LJ.nil ?_
      refine CJ.condT rfl ?_
      refine CJ.skip ?_
      refine CJ.seq ?_
      refine CJ.block ?_
      refine CJ.seq ?_
      refine CJ.regionD [] [] (by kernel_rfl) rfl ?_
      refine DJ.norm [] [] rfl rfl ?_
      refine DJ.yd 0 rfl (by kernel_rfl) (by kernel_rfl) (by kernel_rfl) rfl rfl (Yd.mvS rfl) ?_
      refine DJ.yd 1 rfl (by kernel_rfl) (by kernel_rfl) (by kernel_rfl) rfl rfl (Yd.mvI rfl) ?_
      refine DJ.idxA 2 rfl (by kernel_rfl) (by kernel_rfl) (by kernel_rfl) rfl rfl hl rfl rfl (by omega) (by first | rfl | omega | (simp; done) | (simp; omega) | (simp [upN_len]; omega) | (simp [idxBy_len]; omega) | (simp [marks_len]; omega) | (simp [upN_len]; done) | (simp [idxBy_len]; done) | (simp [marks_len]; done) | (simp at *; omega)) (fun ib12 io12 ia12 ir12 => ?_)
      refine DJ.ldA 3 rfl (by kernel_rfl) (by kernel_rfl) (by kernel_rfl) rfl rfl 0 (fun u => vI u) (fun _ => rfl) ir12 rfl rfl (by first | rfl | omega | (simp; done) | (simp; omega) | (simp [upN_len]; omega) | (simp [idxBy_len]; omega) | (simp [marks_len]; omega) | (simp [upN_len]; done) | (simp [idxBy_len]; done) | (simp [marks_len]; done) | (simp at *; omega)) (fun u13 hu13 => ?_)
      try simp only [Int.toNat_natCast] at hu13
      refine DJ.yd 4 rfl (by kernel_rfl) (by kernel_rfl) (by kernel_rfl) rfl rfl (Yd.mvS rfl) ?_
      refine DJ.yd 5 rfl (by kernel_rfl) (by kernel_rfl) (by kernel_rfl) rfl rfl (Yd.len rfl) ?_
      refine DJ.yd 6 rfl (by kernel_rfl) (by kernel_rfl) (by kernel_rfl) rfl rfl (Yd.sub rfl rfl (by unfold I64; omega)) ?_
      refine DJ.one (i := 7) (by kernel_rfl) ?_
      refine DO.callB rfl rfl rfl (fun k0 hk0 dk0 k hk dk => inRange_ok _ _ _ _) (fun h17 => ?_) (fun h17 => ?_)
      · refine DJ.yd 8 rfl (by kernel_rfl) (by kernel_rfl) (by kernel_rfl) rfl rfl (Yd.not rfl) ?_
        refine DJ.yd 9 rfl (by kernel_rfl) (by kernel_rfl) (by kernel_rfl) rfl rfl (Yd.mvB rfl) ?_
        refine DJ.yd 10 rfl (by kernel_rfl) (by kernel_rfl) (by kernel_rfl) rfl rfl (Yd.mvS rfl) ?_
        refine DJ.yd 11 rfl (by kernel_rfl) (by kernel_rfl) (by kernel_rfl) rfl rfl (Yd.mvI rfl) ?_
        refine DJ.slHA 12 rfl (by kernel_rfl) (by kernel_rfl) (by kernel_rfl) rfl rfl hl rfl rfl (by omega) (by first | rfl | omega | (simp; done) | (simp; omega) | (simp [upN_len]; omega) | (simp [idxBy_len]; omega) | (simp [marks_len]; omega) | (simp [upN_len]; done) | (simp [idxBy_len]; done) | (simp [marks_len]; done) | (simp at *; omega)) (fun e => by rw [ia12] at e; cases e) (fun q e => by rw [ia12] at e; cases e; rfl) (fun sm22 hsm22 hs22 => ?_)
        refine DJ.yd 13 rfl (by kernel_rfl) (by kernel_rfl) (by kernel_rfl) rfl rfl (Yd.mvS rfl) ?_
        refine DJ.yd 14 rfl (by kernel_rfl) (by kernel_rfl) (by kernel_rfl) rfl rfl (Yd.mvI rfl) ?_
        refine DJ.idxA 15 rfl (by kernel_rfl) (by kernel_rfl) (by kernel_rfl) rfl rfl hl rfl rfl (by omega) (by first | rfl | omega | (simp; done) | (simp; omega) | (simp [upN_len]; omega) | (simp [idxBy_len]; omega) | (simp [marks_len]; omega) | (simp [upN_len]; done) | (simp [idxBy_len]; done) | (simp [marks_len]; done) | (simp at *; omega)) (fun ib25 io25 ia25 ir25 => ?_)
        refine DJ.ldA 16 rfl (by kernel_rfl) (by kernel_rfl) (by kernel_rfl) rfl rfl 0 (fun u => vI u) (fun _ => rfl) ir25 rfl rfl (by first | rfl | omega | (simp; done) | (simp; omega) | (simp [upN_len]; omega) | (simp [idxBy_len]; omega) | (simp [marks_len]; omega) | (simp [upN_len]; done) | (simp [idxBy_len]; done) | (simp [marks_len]; done) | (simp at *; omega)) (fun u26 hu26 => ?_)
        try simp only [Int.toNat_natCast] at hu26
        refine DJ.one (i := 17) (by kernel_rfl) ?_
        refine DO.call0 rfl rfl rfl (fun k0 hk0 dk0 k hk dk => placeIn_ok (RdRow.up hs22)) ?_
        rintro _ _ ⟨c27, rfl, rfl, hc27⟩
        refine DJ.norm [] [] rfl rfl ?_
        refine DJ.splitD 18 rfl (by kernel_rfl) (by kernel_rfl) (by kernel_rfl) rfl rfl (Yd.geq rfl rfl) (fun h28 => ?_) (fun h28 => ?_)
        · refine DJ.yd 19 rfl (by kernel_rfl) (by kernel_rfl) (by kernel_rfl) rfl rfl (Yd.pickFB rfl rfl) ?_
          refine DJ.done (by kernel_rfl) ?_
          refine CJ.condT rfl ?_
          refine CJ.seq ?_
          refine CJ.region ?_
          refine LJ.yd rfl (Yd.asB rfl) ?_
          refine LJ.nil ?_
          refine CJ.ret ?_
          refine Fin.V (Res.one (ResV.tmp (v := .bool false) rfl)) ?_
          refine congrArg Value.bool (Eq.symm ?_)
          first
            | (simp only [Bool.and_eq_false_iff, decide_eq_false_iff_not] at h17
               refine decide_eq_false fun h => ?_; have := h.2.2.2 u13 (List.mem_of_getElem? hu13); omega)
            | (have e26 : u26 = u13 := by rw [hu13] at hu26; exact (Option.some.inj hu26).symm
               rw [hsm22, Int.toNat_natCast, e26] at hc27
               exact decide_eq_false fun h => nodup_not h.2.2.1 hu13 (hc27.1 h28))
            | (refine decide_eq_false fun h => ?_; have := h.1; omega)
            | (rw [List.take_of_length_le (by omega)] at hnd hrg; exact decide_eq_true ⟨by omega, rfl, hnd, fun x hx => by have := hrg x hx; omega⟩)
        · refine DJ.yd 19 rfl (by kernel_rfl) (by kernel_rfl) (by kernel_rfl) rfl rfl (Yd.pickFB rfl rfl) ?_
          refine DJ.done (by kernel_rfl) ?_
          refine CJ.condF rfl ?_
          refine CJ.skip ?_
          refine CJ.region ?_
          refine LJ.yd rfl (Yd.mvI rfl) ?_
          refine LJ.yd rfl (Yd.add rfl rfl (by unfold I64; omega)) ?_
          refine LJ.yd rfl (Yd.asI rfl) ?_
          refine LJ.nil ?_
          refine ⟨(k + 1), ?_, ⟨rfl, trivial⟩, ⟨rfl, trivial⟩, Ent.refl _, ?_⟩
          · refine ⟨by omega, ?_⟩
            have e26 : u26 = u13 := by rw [hu13] at hu26; exact (Option.some.inj hu26).symm
            simp only [Bool.and_eq_true, decide_eq_true_eq] at h17
            rw [hsm22, Int.toNat_natCast, e26] at hc27
            refine ⟨nodup_snoc hnd hu13 (fun h => h28 (hc27.2 h)), fun x hx => ?_⟩
            rw [takeC hu13, List.mem_append, List.mem_singleton] at hx
            rcases hx with hx | rfl
            · exact hrg x hx
            · exact h17
          · first | omega | (dsimp only; omega) | (simp only []; omega)
      · refine DJ.yd 8 rfl (by kernel_rfl) (by kernel_rfl) (by kernel_rfl) rfl rfl (Yd.not rfl) ?_
        refine DJ.yd 9 rfl (by kernel_rfl) (by kernel_rfl) (by kernel_rfl) rfl rfl (Yd.mvB rfl) ?_
        refine DJ.skip 10 rfl (by kernel_rfl) (by kernel_rfl) (by kernel_rfl) rfl rfl ?_
        refine DJ.skip 11 rfl (by kernel_rfl) (by kernel_rfl) (by kernel_rfl) rfl rfl ?_
        refine DJ.skip 12 rfl (by kernel_rfl) (by kernel_rfl) (by kernel_rfl) rfl rfl ?_
        refine DJ.skip 13 rfl (by kernel_rfl) (by kernel_rfl) (by kernel_rfl) rfl rfl ?_
        refine DJ.skip 14 rfl (by kernel_rfl) (by kernel_rfl) (by kernel_rfl) rfl rfl ?_
        refine DJ.skip 15 rfl (by kernel_rfl) (by kernel_rfl) (by kernel_rfl) rfl rfl ?_
        refine DJ.skip 16 rfl (by kernel_rfl) (by kernel_rfl) (by kernel_rfl) rfl rfl ?_
        refine DJ.skip 17 rfl (by kernel_rfl) (by kernel_rfl) (by kernel_rfl) rfl rfl ?_
        refine DJ.skip 18 rfl (by kernel_rfl) (by kernel_rfl) (by kernel_rfl) rfl rfl ?_
        refine DJ.yd 19 rfl (by kernel_rfl) (by kernel_rfl) (by kernel_rfl) rfl rfl (Yd.pickTB rfl rfl) ?_
        refine DJ.done (by kernel_rfl) ?_
        refine CJ.condT rfl ?_
        refine CJ.seq ?_
        refine CJ.region ?_
        refine LJ.yd rfl (Yd.asB rfl) ?_
        refine LJ.nil ?_
        refine CJ.ret ?_
        refine Fin.V (Res.one (ResV.tmp (v := .bool false) rfl)) ?_
        refine congrArg Value.bool (Eq.symm ?_)
        first
          | (simp only [Bool.and_eq_false_iff, decide_eq_false_iff_not] at h17
             refine decide_eq_false fun h => ?_; have := h.2.2.2 u13 (List.mem_of_getElem? hu13); omega)
          | (have e26 : u26 = u13 := by rw [hu13] at hu26; exact (Option.some.inj hu26).symm
             rw [hsm22, Int.toNat_natCast, e26] at hc27
             exact decide_eq_false fun h => nodup_not h.2.2.1 hu13 (hc27.1 h28))
          | (refine decide_eq_false fun h => ?_; have := h.1; omega)
          | (rw [List.take_of_length_le (by omega)] at hnd hrg; exact decide_eq_true ⟨by omega, rfl, hnd, fun x hx => by have := hrg x hx; omega⟩)
    · refine LJ.nil ?_
      refine CJ.condF rfl ?_
      refine CJ.exit ?_
      refine CJ.seq ?_
      refine CJ.region ?_
      refine LJ.yd rfl (Yd.mvS rfl) ?_
      refine LJ.yd rfl (Yd.len rfl) ?_
      refine LJ.splitD rfl (Yd.leq rfl rfl) (fun h32 => ?_) (fun h32 => ?_)
      · refine LJ.yd rfl (Yd.asB rfl) ?_
        refine LJ.nil ?_
        refine CJ.ret ?_
        refine Fin.V (Res.one (ResV.tmp (v := .bool true) rfl)) ?_
        refine congrArg Value.bool (Eq.symm ?_)
        first
          | (simp only [Bool.and_eq_false_iff, decide_eq_false_iff_not] at h17
             refine decide_eq_false fun h => ?_; have := h.2.2.2 u13 (List.mem_of_getElem? hu13); omega)
          | (have e26 : u26 = u13 := by rw [hu13] at hu26; exact (Option.some.inj hu26).symm
             rw [hsm22, Int.toNat_natCast, e26] at hc27
             exact decide_eq_false fun h => nodup_not h.2.2.1 hu13 (hc27.1 h28))
          | (refine decide_eq_false fun h => ?_; have := h.1; omega)
          | (rw [List.take_of_length_le (by omega)] at hnd hrg; exact decide_eq_true ⟨by omega, rfl, hnd, fun x hx => by have := hrg x hx; omega⟩)
      · refine LJ.yd rfl (Yd.asB rfl) ?_
        refine LJ.nil ?_
        refine CJ.ret ?_
        refine Fin.V (Res.one (ResV.tmp (v := .bool false) rfl)) ?_
        refine congrArg Value.bool (Eq.symm ?_)
        first
          | (simp only [Bool.and_eq_false_iff, decide_eq_false_iff_not] at h17
             refine decide_eq_false fun h => ?_; have := h.2.2.2 u13 (List.mem_of_getElem? hu13); omega)
          | (have e26 : u26 = u13 := by rw [hu13] at hu26; exact (Option.some.inj hu26).symm
             rw [hsm22, Int.toNat_natCast, e26] at hc27
             exact decide_eq_false fun h => nodup_not h.2.2.1 hu13 (hc27.1 h28))
          | (refine decide_eq_false fun h => ?_; have := h.1; omega)
          | (rw [List.take_of_length_le (by omega)] at hnd hrg; exact decide_eq_true ⟨by omega, rfl, hnd, fun x hx => by have := hrg x hx; omega⟩)
theorem validRow_ok {A : Amb} {v w : Value} {l : List Job} {o : List Int} (hl : RdL Job.enc 2 A.h v l) (ho : RdL encI 1 A.h w o) : Ctr Try.prog 63 #[v, w] A [] (Val (.bool (decide (jobsOk l = true ∧ OrdP o l.length)))) := by
  obtain ⟨la, lc, rfl, hlb, hl⟩ := hl.un
  obtain ⟨oa, oc, rfl, hob, ho⟩ := ho.un
  refine Ctr.body (args := [_, _]) Try.func63 rfl Try.ntmps63 Try.results63 (by simp) ?_
  refine CJ.seq ?_
  refine CJ.region ?_
  refine LJ.yd rfl (Yd.asB rfl) ?_
  refine LJ.nil ?_
  refine CJ.seq ?_
  refine CJ.region ?_
  refine LJ.yd rfl (Yd.mvS rfl) ?_
  refine LJ.callB rfl (fun k hk dk => validJobs_ok (RdRow.up hl)) (fun h6 => ?_) (fun h6 => ?_)
  · refine LJ.yd rfl (Yd.mvB rfl) ?_
    refine LJ.gT rfl ?_
    refine LJ.yd rfl (Yd.mvS rfl) ?_
    refine LJ.gT rfl ?_
    refine LJ.yd rfl (Yd.len rfl) ?_
    refine LJ.gT rfl ?_
    refine LJ.yd rfl (Yd.mvS rfl) ?_
    refine LJ.gT rfl ?_
    refine LJ.yd rfl (Yd.len rfl) ?_
    refine LJ.gT rfl ?_
    refine LJ.splitD rfl (Yd.eql rfl rfl) (fun h12 => ?_) (fun h12 => ?_)
    · refine LJ.yd rfl (Yd.pickTB rfl rfl) ?_
      refine LJ.yd rfl (Yd.mvB rfl) ?_
      refine LJ.gT rfl ?_
      refine LJ.yd rfl (Yd.mvS rfl) ?_
      refine LJ.gT rfl ?_
      refine LJ.callB rfl (fun k hk dk => validTurn_ok (RdRow.up ho)) (fun h16 => ?_) (fun h16 => ?_)
      · refine LJ.yd rfl (Yd.pickTB rfl rfl) ?_
        refine LJ.yd rfl (Yd.asB rfl) ?_
        refine LJ.nil ?_
        refine CJ.ret ?_
        refine Fin.V (Res.one (ResV.tmp (v := .bool true) rfl)) ?_
        refine congrArg Value.bool (Eq.symm ?_)
        first
          | exact decide_eq_false (fun h => nomatch (show true = false from h.1.symm.trans h6))
          | exact decide_eq_false (fun h => h12 (by rw [h.2.1]))
          | (refine decide_eq_false fun h => of_decide_eq_false h16 ?_
             have h1 := (jobsOk_iff.1 h.1).1
             have h2 := h.2.1
             exact ⟨by omega, rfl, h.2.2.1, fun x hx => by have := h.2.2.2 x hx; omega⟩)
          | (have h1 := of_decide_eq_true h16
             exact decide_eq_true ⟨h6, by omega, h1.2.2.1, fun x hx => by have := h1.2.2.2 x hx; omega⟩)
      · refine LJ.yd rfl (Yd.pickTB rfl rfl) ?_
        refine LJ.yd rfl (Yd.asB rfl) ?_
        refine LJ.nil ?_
        refine CJ.ret ?_
        refine Fin.V (Res.one (ResV.tmp (v := .bool false) rfl)) ?_
        refine congrArg Value.bool (Eq.symm ?_)
        first
          | exact decide_eq_false (fun h => nomatch (show true = false from h.1.symm.trans h6))
          | exact decide_eq_false (fun h => h12 (by rw [h.2.1]))
          | (refine decide_eq_false fun h => of_decide_eq_false h16 ?_
             have h1 := (jobsOk_iff.1 h.1).1
             have h2 := h.2.1
             exact ⟨by omega, rfl, h.2.2.1, fun x hx => by have := h.2.2.2 x hx; omega⟩)
          | (have h1 := of_decide_eq_true h16
             exact decide_eq_true ⟨h6, by omega, h1.2.2.1, fun x hx => by have := h1.2.2.2 x hx; omega⟩)
    · refine LJ.yd rfl (Yd.pickTB rfl rfl) ?_
      refine LJ.yd rfl (Yd.mvB rfl) ?_
      refine LJ.gF rfl rfl ?_
      refine LJ.gF rfl rfl ?_
      refine LJ.yd rfl (Yd.pickFB rfl rfl) ?_
      refine LJ.yd rfl (Yd.asB rfl) ?_
      refine LJ.nil ?_
      refine CJ.ret ?_
      refine Fin.V (Res.one (ResV.tmp (v := .bool false) rfl)) ?_
      refine congrArg Value.bool (Eq.symm ?_)
      first
        | exact decide_eq_false (fun h => nomatch (show true = false from h.1.symm.trans h6))
        | exact decide_eq_false (fun h => h12 (by rw [h.2.1]))
        | (refine decide_eq_false fun h => of_decide_eq_false h16 ?_
           have h1 := (jobsOk_iff.1 h.1).1
           have h2 := h.2.1
           exact ⟨by omega, rfl, h.2.2.1, fun x hx => by have := h.2.2.2 x hx; omega⟩)
        | (have h1 := of_decide_eq_true h16
           exact decide_eq_true ⟨h6, by omega, h1.2.2.1, fun x hx => by have := h1.2.2.2 x hx; omega⟩)
  · refine LJ.yd rfl (Yd.mvB rfl) ?_
    refine LJ.gF rfl rfl ?_
    refine LJ.gF rfl rfl ?_
    refine LJ.gF rfl rfl ?_
    refine LJ.gF rfl rfl ?_
    refine LJ.gF rfl rfl ?_
    refine LJ.yd rfl (Yd.pickFB rfl rfl) ?_
    refine LJ.yd rfl (Yd.mvB rfl) ?_
    refine LJ.gF rfl rfl ?_
    refine LJ.gF rfl rfl ?_
    refine LJ.yd rfl (Yd.pickFB rfl rfl) ?_
    refine LJ.yd rfl (Yd.asB rfl) ?_
    refine LJ.nil ?_
    refine CJ.ret ?_
    refine Fin.V (Res.one (ResV.tmp (v := .bool false) rfl)) ?_
    refine congrArg Value.bool (Eq.symm ?_)
    first
      | exact decide_eq_false (fun h => nomatch (show true = false from h.1.symm.trans h6))
      | exact decide_eq_false (fun h => h12 (by rw [h.2.1]))
      | (refine decide_eq_false fun h => of_decide_eq_false h16 ?_
         have h1 := (jobsOk_iff.1 h.1).1
         have h2 := h.2.1
         exact ⟨by omega, rfl, h.2.2.1, fun x hx => by have := h.2.2.2 x hx; omega⟩)
      | (have h1 := of_decide_eq_true h16
         exact decide_eq_true ⟨h6, by omega, h1.2.2.1, fun x hx => by have := h1.2.2.2 x hx; omega⟩)
theorem endsS_ok {A : Amb} {v w : Value} {l : List Job} {o : List Int} (hl : RdL Job.enc 2 A.h v l) (ho : RdL encI 1 A.h w o) (hj : jobsOk l = true) (hp : OrdP o l.length) : Ctr Try.prog 73 #[v, w] A [] (RLP encI 3 1 (ends 0 0 (o.map (gj l)))) := by
  obtain ⟨la, lc, rfl, hlb, hl⟩ := hl.un
  obtain ⟨oa, oc, rfl, hob, ho⟩ := ho.un
  have hj2 := jobsOk_iff.1 hj
  have hp2 := hp
  unfold OrdP at hp2
  refine Ctr.body (args := [_, _]) Try.func73 rfl Try.ntmps73 Try.results73 (by simp) ?_
  refine CJ.seq ?_
  refine CJ.region ?_
  refine LJ.yd rfl (Yd.asS rfl) ?_
  refine LJ.nil ?_
  refine CJ.seq ?_
  refine CJ.region ?_
  refine LJ.op rfl (OpR.buildSlice (cs := []) rfl rfl) ?_
  rintro _ _ ⟨b1, rfl, rfl⟩
  refine LJ.yd rfl (Yd.asS rfl) ?_
  refine LJ.nil ?_
  refine CJ.seq ?_
  refine CJ.region ?_
  refine LJ.yd rfl (Yd.asI rfl) ?_
  refine LJ.nil ?_
  refine CJ.seq ?_
  refine CJ.region ?_
  refine LJ.yd rfl (Yd.asI rfl) ?_
  refine LJ.nil ?_
  refine CJ.seq ?_
  refine CJ.seq ?_
  refine CJ.region ?_
  refine LJ.yd rfl (Yd.asI rfl) ?_
  refine LJ.nil ?_
  refine CJ.block ?_
  refine CJ.imp1 0 rfl (fun _ h => Cel.lr (enc := encI) (k := 1) (m := 0) [] rfl rfl rfl rfl h) ?_
  refine CJ.norm [_] rfl ?_
  refine CJ.loopF [0, 1, 4] (Nat × Int × Int × List Int × Option Addr × Nat × Nat) (fun ⟨k, x, y, e, eA, eN, eC⟩ => (eN = e.length) ∧ k ≤ o.length ∧ e ++ ends x y ((o.drop k).map (gj l)) = ends 0 0 (o.map (gj l)) ∧ 0 ≤ x ∧ x ≤ 500 * k ∧ 0 ≤ y ∧ y ≤ 1000 * k ∧ e.length = k) (fun ⟨k, x, y, e, eA, eN, eC⟩ => [(8, vI k), (6, vI x), (7, vI y), (5, .slice eA eN eC)]) (fun ⟨k, x, y, e, eA, eN, eC⟩ => [LR encI 3 1 eA eC e]) (fun ⟨k, x, y, e, eA, eN, eC⟩ => o.length - k) (0, 0, 0, [], _, _, _) [] [] [0] rfl rfl rfl ?_ ⟨rfl, rfl, rfl, rfl, trivial⟩ ?_
  · exact ⟨(by first | rfl | omega | (simp; done) | (simp; omega) | (simp [upN_len]; omega) | (simp [idxBy_len]; omega) | (simp [marks_len]; omega) | (simp [upN_len]; done) | (simp [idxBy_len]; done) | (simp [marks_len]; done) | (simp at *; omega)), ⟨by omega, rfl, by omega, by omega, by omega, by omega, rfl⟩⟩
  · rintro ⟨k, x, y, e, eA, eN, eC⟩ σ ⟨hlNe, ⟨hk1, he, hx0, hx1, hy0, hy1, hel⟩⟩
    subst hlNe
    refine CJ.norm [_] rfl ?_
    refine CJ.seq ?_
    refine CJ.seq ?_
    refine CJ.region ?_
    refine LJ.yd rfl (Yd.mvI rfl) ?_
    refine LJ.yd rfl (Yd.mvS rfl) ?_
    refine LJ.yd rfl (Yd.len rfl) ?_
    refine LJ.splitD rfl (Yd.lss rfl rfl) (fun h14 => ?_) (fun h14 => ?_)
    · refine LJ.nil ?_
      refine CJ.condT rfl ?_
      refine CJ.skip ?_
      refine CJ.seq ?_
      refine CJ.block ?_
      refine CJ.seq ?_
      refine CJ.region ?_
      refine LJ.yd rfl (Yd.mvS rfl) ?_
      refine LJ.yd rfl (Yd.mvS rfl) ?_
      refine LJ.yd rfl (Yd.mvI rfl) ?_
      refine LJ.idxA rfl ho rfl rfl (by omega) (by first | rfl | omega | (simp; done) | (simp; omega) | (simp [upN_len]; omega) | (simp [idxBy_len]; omega) | (simp [marks_len]; omega) | (simp [upN_len]; done) | (simp [idxBy_len]; done) | (simp [marks_len]; done) | (simp at *; omega)) (fun ib20 io20 ia20 ir20 => ?_)
      refine LJ.ldA 0 (fun u => vI u) (fun _ => rfl) ir20 rfl rfl rfl (by first | rfl | omega | (simp; done) | (simp; omega) | (simp [upN_len]; omega) | (simp [idxBy_len]; omega) | (simp [marks_len]; omega) | (simp [upN_len]; done) | (simp [idxBy_len]; done) | (simp [marks_len]; done) | (simp at *; omega)) (fun u21 hu21 => ?_)
      try simp only [Int.toNat_natCast] at hu21
      have hf21 := hp2.2.2 u21 (List.mem_of_getElem? hu21)
      refine LJ.idxA rfl hl rfl rfl (by omega) (by first | rfl | omega | (simp; done) | (simp; omega) | (simp [upN_len]; omega) | (simp [idxBy_len]; omega) | (simp [marks_len]; omega) | (simp [upN_len]; done) | (simp [idxBy_len]; done) | (simp [marks_len]; done) | (simp at *; omega)) (fun ib22 io22 ia22 ir22 => ?_)
      refine LJ.lgA (enc := Job.enc) (fun u => [vI u.Cut, vI u.Heat]) (fun _ => rfl) (fun _ => rfl) ir22 rfl rfl rfl (by first | rfl | omega | (simp; done) | (simp; omega) | (simp [upN_len]; omega) | (simp [idxBy_len]; omega) | (simp [marks_len]; omega) | (simp [upN_len]; done) | (simp [idxBy_len]; done) | (simp [marks_len]; done) | (simp at *; omega)) (fun u23 hu23 => ?_)
      try simp only [Int.toNat_natCast] at hu23
      have hf23 := hj2.2 u23 (List.mem_of_getElem? hu23)
      refine LJ.alloc ([_, _] : List Value) rfl rfl (fun b2 => ?_)
      refine LJ.store (v := .agg #[_, _]) (us := [_, _]) 1 rfl rfl rfl rfl rfl rfl rfl rfl ?_
      refine LJ.nil ?_
      refine CJ.seq ?_
      refine CJ.region ?_
      refine LJ.yd rfl (Yd.mvI rfl) ?_
      refine LJ.yd rfl (Yd.fieldAddr rfl) ?_
      refine LJ.yd rfl (Yd.loadC 1 rfl rfl rfl) ?_
      refine LJ.yd rfl (Yd.add rfl rfl (by unfold I64; omega)) ?_
      refine LJ.yd rfl (Yd.asI rfl) ?_
      refine LJ.nil ?_
      refine CJ.seq ?_
      refine CJ.region ?_
      refine LJ.yd rfl (Yd.mvI rfl) ?_
      refine LJ.yd rfl (Yd.mvI rfl) ?_
      refine LJ.yd rfl (Yd.max' rfl rfl) ?_
      refine LJ.yd rfl (Yd.fieldAddr rfl) ?_
      refine LJ.yd rfl (Yd.loadC 1 rfl rfl rfl) ?_
      refine LJ.yd rfl (Yd.add rfl rfl (by unfold I64; omega)) ?_
      refine LJ.yd rfl (Yd.asI rfl) ?_
      refine LJ.nil ?_
      refine CJ.region ?_
      refine LJ.yd rfl (Yd.mvS rfl) ?_
      refine LJ.yd rfl (Yd.mvI rfl) ?_
      refine LJ.op rfl (OpR.buildSlice (cs := [_]) rfl rfl) ?_
      rintro _ _ ⟨b3, rfl, rfl⟩
      refine LJ.op rfl (OpR.apT (enc := encI) [_] 0 2 rfl rfl rfl (by first | rfl | omega | (simp; done) | (simp; omega) | (simp [upN_len]; omega) | (simp [idxBy_len]; omega) | (simp [marks_len]; omega) | (simp [upN_len]; done) | (simp [idxBy_len]; done) | (simp [marks_len]; done) | (simp at *; omega)) rfl rfl rfl rfl rfl (by first | rfl | omega | (simp; done) | (simp; omega) | (simp [upN_len]; omega) | (simp [idxBy_len]; omega) | (simp [marks_len]; omega) | (simp [upN_len]; done) | (simp [idxBy_len]; done) | (simp [marks_len]; done) | (simp at *; omega))) ?_
      rintro _ _ ⟨ra37, rc37, rfl, rfl⟩
      refine LJ.norm [_, _, _] rfl ?_
      refine LJ.yd rfl (Yd.asS rfl) ?_
      refine LJ.nil ?_
      refine CJ.region ?_
      refine LJ.yd rfl (Yd.mvI rfl) ?_
      refine LJ.yd rfl (Yd.add rfl rfl (by unfold I64; omega)) ?_
      refine LJ.yd rfl (Yd.asI rfl) ?_
      refine LJ.nil ?_
      refine ⟨(k + 1, _, _, _, _, _, _), ?_, ⟨rfl, rfl, rfl, trivial⟩, ⟨rfl, rfl, rfl, rfl, trivial⟩, Ent.pick [0] [1, 2] rfl, ?_⟩
      · refine ⟨(by first | rfl | omega | (simp; done) | (simp; omega) | (simp [upN_len]; omega) | (simp [idxBy_len]; omega) | (simp [marks_len]; omega) | (simp [upN_len]; done) | (simp [idxBy_len]; done) | (simp [marks_len]; done) | (simp at *; omega)), ?_⟩
        refine ⟨by omega, ?_⟩
        rw [dropC hu21, List.map_cons, ends, gjC hu23] at he
        rw [show max y (x + u23.Cut) = max (x + u23.Cut) y by omega]
        exact ⟨by simpa using he, by omega, by omega, by omega, by omega, by simp [hel]⟩
      · first | omega | (dsimp only; omega) | (simp only []; omega)
    · refine LJ.nil ?_
      refine CJ.condF rfl ?_
      refine CJ.exit ?_
      refine CJ.seq ?_
      refine CJ.region ?_
      refine LJ.yd rfl (Yd.mvS rfl) ?_
      refine LJ.yd rfl (Yd.asS rfl) ?_
      refine LJ.nil ?_
      refine CJ.ret ?_
      refine Fin.RL 0 (Res.one (ResV.tmp (v := .slice _ _ _) rfl)) rfl (by first | rfl | omega | (simp; done) | (simp; omega) | (simp [upN_len]; omega) | (simp [idxBy_len]; omega) | (simp [marks_len]; omega) | (simp [upN_len]; done) | (simp [idxBy_len]; done) | (simp [marks_len]; done) | (simp at *; omega)) ?_
      rw [← he, List.drop_of_length_le (by omega)]; simp [ends]
theorem spanOfS_ok {A : Amb} {v w : Value} {l : List Job} {o : List Int} (hl : RdL Job.enc 2 A.h v l) (ho : RdL encI 1 A.h w o) (hj : jobsOk l = true) (hp : OrdP o l.length) : Ctr Try.prog 64 #[v, w] A [] (Val (vI (spn 0 0 (o.map (gj l))))) := by
  obtain ⟨la, lc, rfl, hlb, hl⟩ := hl.un
  obtain ⟨oa, oc, rfl, hob, ho⟩ := ho.un
  have hel := ends_len (o.map (gj l)) 0 0
  have hlast := ends_last (o.map (gj l)) 0 0
  rw [List.length_map] at hel hlast
  have hon : o.length ≤ 1000 := by have := hp.1; have := (jobsOk_iff.1 hj).1; omega
  refine Ctr.body (args := [_, _]) Try.func64 rfl Try.ntmps64 Try.results64 (by simp) ?_
  refine CJ.seq ?_
  refine CJ.region ?_
  refine LJ.yd rfl (Yd.asI rfl) ?_
  refine LJ.nil ?_
  refine CJ.seq ?_
  refine CJ.seq ?_
  refine CJ.region ?_
  refine LJ.yd rfl (Yd.mvS rfl) ?_
  refine LJ.yd rfl (Yd.len rfl) ?_
  refine LJ.splitD rfl (Yd.eql rfl rfl) (fun h7 => ?_) (fun h7 => ?_)
  · refine LJ.nil ?_
    refine CJ.condT rfl ?_
    refine CJ.seq ?_
    refine CJ.region ?_
    refine LJ.yd rfl (Yd.asI rfl) ?_
    refine LJ.nil ?_
    refine CJ.ret ?_
    refine Fin.V (Res.one (ResV.tmp (v := .int _ _) rfl)) ?_
    first
      | (rw [List.eq_nil_of_length_eq_zero (l := o) (by omega)]; rfl)
      | (have := hlast (by omega)
         rw [show ((o.length : Int) - 1).toNat = o.length - 1 by omega, this] at hu15
         rw [Option.some.inj hu15])
  · refine LJ.nil ?_
    refine CJ.condF rfl ?_
    refine CJ.skip ?_
    refine CJ.seq ?_
    refine CJ.region ?_
    refine LJ.yd rfl (Yd.mvS rfl) ?_
    refine LJ.yd rfl (Yd.mvS rfl) ?_
    refine LJ.call0 rfl (fun k hk dk => endsS_ok (RdRow.up hl) (RdRow.up ho) hj hp) ?_
    rintro _ _ ⟨ra10, rc10, rfl, rfl⟩
    refine LJ.norm [_] rfl ?_
    refine LJ.yd rfl (Yd.mvS rfl) ?_
    refine LJ.yd rfl (Yd.len rfl) ?_
    refine LJ.yd rfl (Yd.sub rfl rfl (by unfold I64; omega)) ?_
    refine LJ.idxR 0 rfl rfl rfl rfl (by omega) (by first | rfl | omega | (simp; done) | (simp; omega) | (simp [upN_len]; omega) | (simp [idxBy_len]; omega) | (simp [marks_len]; omega) | (simp [upN_len]; done) | (simp [idxBy_len]; done) | (simp [marks_len]; done) | (simp at *; omega)) (by first | rfl | omega | (simp; done) | (simp; omega) | (simp [upN_len]; omega) | (simp [idxBy_len]; omega) | (simp [marks_len]; omega) | (simp [upN_len]; done) | (simp [idxBy_len]; done) | (simp [marks_len]; done) | (simp at *; omega)) (fun ib14 ia14 => ?_)
    refine LJ.ldR 0 0 (fun u => vI u) (fun _ => rfl) rfl ia14 rfl rfl rfl (by first | rfl | omega | (simp; done) | (simp; omega) | (simp [upN_len]; omega) | (simp [idxBy_len]; omega) | (simp [marks_len]; omega) | (simp [upN_len]; done) | (simp [idxBy_len]; done) | (simp [marks_len]; done) | (simp at *; omega)) (fun u15 hu15 => ?_)
    try simp only [Int.toNat_natCast] at hu15
    refine LJ.yd rfl (Yd.asI rfl) ?_
    refine LJ.nil ?_
    refine CJ.ret ?_
    refine Fin.V (Res.one (ResV.tmp (v := .int _ _) rfl)) ?_
    first
      | (rw [List.eq_nil_of_length_eq_zero (l := o) (by omega)]; rfl)
      | (have := hlast (by omega)
         rw [show ((o.length : Int) - 1).toNat = o.length - 1 by omega, this] at hu15
         rw [Option.some.inj hu15])
theorem SpanOfS_ok {A : Amb} {v w : Value} {l : List Job} {o : List Int} (hl : RdL Job.enc 2 A.h v l) (ho : RdL encI 1 A.h w o) : Ctr Try.prog 40 #[v, w] A [] (Val (vI (spR l o))) := by
  obtain ⟨la, lc, rfl, hlb, hl⟩ := hl.un
  obtain ⟨oa, oc, rfl, hob, ho⟩ := ho.un
  refine Ctr.body (args := [_, _]) Try.func40 rfl Try.ntmps40 Try.results40 (by simp) ?_
  refine CJ.seq ?_
  refine CJ.region ?_
  refine LJ.yd rfl (Yd.asI rfl) ?_
  refine LJ.nil ?_
  refine CJ.seq ?_
  refine CJ.seq ?_
  refine CJ.region ?_
  refine LJ.yd rfl (Yd.mvS rfl) ?_
  refine LJ.yd rfl (Yd.mvS rfl) ?_
  refine LJ.callB rfl (fun k hk dk => validRow_ok (RdRow.up hl) (RdRow.up ho)) (fun h7 => ?_) (fun h7 => ?_)
  · refine LJ.yd rfl (Yd.not rfl) ?_
    refine LJ.nil ?_
    refine CJ.condF rfl ?_
    refine CJ.skip ?_
    refine CJ.seq ?_
    refine CJ.region ?_
    refine LJ.yd rfl (Yd.mvS rfl) ?_
    refine LJ.yd rfl (Yd.mvS rfl) ?_
    refine LJ.callV rfl (fun k hk dk => spanOfS_ok (RdRow.up hl) (RdRow.up ho) (of_decide_eq_true h7).1 (of_decide_eq_true h7).2) ?_
    refine LJ.yd rfl (Yd.asI rfl) ?_
    refine LJ.nil ?_
    refine CJ.ret ?_
    refine Fin.V (Res.one (ResV.tmp (v := .int _ _) rfl)) ?_
    unfold spR
    first
      | rw [if_pos (of_decide_eq_true h7)]
      | rw [if_neg (of_decide_eq_false h7)]
  · refine LJ.yd rfl (Yd.not rfl) ?_
    refine LJ.nil ?_
    refine CJ.condT rfl ?_
    refine CJ.seq ?_
    refine CJ.region ?_
    refine LJ.yd rfl (Yd.asI rfl) ?_
    refine LJ.nil ?_
    refine CJ.ret ?_
    refine Fin.V (Res.one (ResV.tmp (v := .int _ _) rfl)) ?_
    unfold spR
    first
      | rw [if_pos (of_decide_eq_true h7)]
      | rw [if_neg (of_decide_eq_false h7)]
theorem backwards_ok {A : Amb} {v : Value} {l : List Int} (hl : RdL encI 1 A.h v l) (hn : l.length ≤ 1000) : Ctr Try.prog 41 #[v] A [] (RLP encI 3 1 l.reverse) := by
  obtain ⟨la, lc, rfl, hlb, hl⟩ := hl.un
  refine Ctr.body (args := [_]) Try.func41 rfl Try.ntmps41 Try.results41 (by simp) ?_
  refine CJ.seq ?_
  refine CJ.region ?_
  refine LJ.yd rfl (Yd.asS rfl) ?_
  refine LJ.nil ?_
  refine CJ.seq ?_
  refine CJ.region ?_
  refine LJ.op rfl (OpR.buildSlice (cs := []) rfl rfl) ?_
  rintro _ _ ⟨b1, rfl, rfl⟩
  refine LJ.yd rfl (Yd.asS rfl) ?_
  refine LJ.nil ?_
  refine CJ.seq ?_
  refine CJ.seq ?_
  refine CJ.region ?_
  refine LJ.yd rfl (Yd.mvS rfl) ?_
  refine LJ.yd rfl (Yd.len rfl) ?_
  refine LJ.yd rfl (Yd.sub rfl rfl (by unfold I64; omega)) ?_
  refine LJ.yd rfl (Yd.asI rfl) ?_
  refine LJ.nil ?_
  refine CJ.block ?_
  refine CJ.imp1 0 rfl (fun _ h => Cel.lr (enc := encI) (k := 1) (m := 0) [] rfl rfl rfl rfl h) ?_
  refine CJ.norm [_] rfl ?_
  refine CJ.loopF [0, 2] (Int × List Int × Option Addr × Nat × Nat) (fun ⟨j, d, dA, dN, dC⟩ => (dN = d.length) ∧ -1 ≤ j ∧ j < l.length ∧ d = (l.drop (j + 1).toNat).reverse) (fun ⟨j, d, dA, dN, dC⟩ => [(4, vI j), (3, .slice dA dN dC)]) (fun ⟨j, d, dA, dN, dC⟩ => [LR encI 3 1 dA dC d]) (fun ⟨j, d, dA, dN, dC⟩ => (j + 1).toNat) ((l.length : Int) - 1, [], _, _, _) [] [] [0] rfl rfl rfl ?_ ⟨rfl, rfl, trivial⟩ ?_
  · exact ⟨(by first | rfl | omega | (simp; done) | (simp; omega) | (simp [upN_len]; omega) | (simp [idxBy_len]; omega) | (simp [marks_len]; omega) | (simp [upN_len]; done) | (simp [idxBy_len]; done) | (simp [marks_len]; done) | (simp at *; omega)), ⟨by omega, by omega, by rw [List.drop_of_length_le (by omega)]; rfl⟩⟩
  · rintro ⟨j, d, dA, dN, dC⟩ σ ⟨hlNd, ⟨hj0, hj1, hd⟩⟩
    subst hlNd
    refine CJ.norm [_] rfl ?_
    have hdl : d.length ≤ l.length := by rw [hd]; simp
    refine CJ.seq ?_
    refine CJ.seq ?_
    refine CJ.region ?_
    refine LJ.yd rfl (Yd.mvI rfl) ?_
    refine LJ.splitD rfl (Yd.geq rfl rfl) (fun h10 => ?_) (fun h10 => ?_)
    · refine LJ.nil ?_
      refine CJ.condT rfl ?_
      refine CJ.skip ?_
      refine CJ.seq ?_
      refine CJ.block ?_
      refine CJ.region ?_
      refine LJ.yd rfl (Yd.mvS rfl) ?_
      refine LJ.yd rfl (Yd.mvS rfl) ?_
      refine LJ.yd rfl (Yd.mvI rfl) ?_
      refine LJ.idxA rfl hl rfl rfl (by omega) (by first | rfl | omega | (simp; done) | (simp; omega) | (simp [upN_len]; omega) | (simp [idxBy_len]; omega) | (simp [marks_len]; omega) | (simp [upN_len]; done) | (simp [idxBy_len]; done) | (simp [marks_len]; done) | (simp at *; omega)) (fun ib16 io16 ia16 ir16 => ?_)
      refine LJ.ldA 0 (fun u => vI u) (fun _ => rfl) ir16 rfl rfl rfl (by first | rfl | omega | (simp; done) | (simp; omega) | (simp [upN_len]; omega) | (simp [idxBy_len]; omega) | (simp [marks_len]; omega) | (simp [upN_len]; done) | (simp [idxBy_len]; done) | (simp [marks_len]; done) | (simp at *; omega)) (fun u17 hu17 => ?_)
      try simp only [Int.toNat_natCast] at hu17
      refine LJ.op rfl (OpR.buildSlice (cs := [_]) rfl rfl) ?_
      rintro _ _ ⟨b2, rfl, rfl⟩
      refine LJ.op rfl (OpR.apT (enc := encI) [_] 0 1 rfl rfl rfl (by first | rfl | omega | (simp; done) | (simp; omega) | (simp [upN_len]; omega) | (simp [idxBy_len]; omega) | (simp [marks_len]; omega) | (simp [upN_len]; done) | (simp [idxBy_len]; done) | (simp [marks_len]; done) | (simp at *; omega)) rfl rfl rfl rfl rfl (by first | rfl | omega | (simp; done) | (simp; omega) | (simp [upN_len]; omega) | (simp [idxBy_len]; omega) | (simp [marks_len]; omega) | (simp [upN_len]; done) | (simp [idxBy_len]; done) | (simp [marks_len]; done) | (simp at *; omega))) ?_
      rintro _ _ ⟨ra19, rc19, rfl, rfl⟩
      refine LJ.norm [_, _] rfl ?_
      refine LJ.yd rfl (Yd.asS rfl) ?_
      refine LJ.nil ?_
      refine CJ.region ?_
      refine LJ.yd rfl (Yd.mvI rfl) ?_
      refine LJ.yd rfl (Yd.sub rfl rfl (by unfold I64; omega)) ?_
      refine LJ.yd rfl (Yd.asI rfl) ?_
      refine LJ.nil ?_
      refine ⟨(_, _, _, _, _), ?_, ⟨rfl, rfl, trivial⟩, ⟨rfl, rfl, trivial⟩, Ent.pick [0] [1] rfl, ?_⟩
      · refine ⟨(by first | rfl | omega | (simp; done) | (simp; omega) | (simp [upN_len]; omega) | (simp [idxBy_len]; omega) | (simp [marks_len]; omega) | (simp [upN_len]; done) | (simp [idxBy_len]; done) | (simp [marks_len]; done) | (simp at *; omega)), ?_⟩
        exact ⟨by omega, by omega, by rw [show (j - 1 + 1).toNat = j.toNat by omega, dropC hu17, List.reverse_cons, hd, show (j + 1).toNat = j.toNat + 1 by omega]⟩
      · first | omega | (dsimp only; omega) | (simp only []; omega)
    · refine LJ.nil ?_
      refine CJ.condF rfl ?_
      refine CJ.exit ?_
      refine CJ.seq ?_
      refine CJ.region ?_
      refine LJ.yd rfl (Yd.mvS rfl) ?_
      refine LJ.yd rfl (Yd.asS rfl) ?_
      refine LJ.nil ?_
      refine CJ.ret ?_
      refine Fin.RL 0 (Res.one (ResV.tmp (v := .slice _ _ _) rfl)) rfl (by first | rfl | omega | (simp; done) | (simp; omega) | (simp [upN_len]; omega) | (simp [idxBy_len]; omega) | (simp [marks_len]; omega) | (simp [upN_len]; done) | (simp [idxBy_len]; done) | (simp [marks_len]; done) | (simp at *; omega)) ?_
      rw [hd, show (j + 1).toNat = 0 by omega]; rfl
def TurnD (rb : Nat) (a : Option Addr) (n c : Nat) (p : Int) (k : Nat) (v : Value) (gs : List HProp) : Prop :=
  ∃ (l : List Int) (aa : Option Addr) (m cc : Nat) (q : Int), v = .slice aa m cc ∧ gs = [Rd rb a n c q, LR encI 3 1 aa cc l] ∧ m = l.length ∧ p ≤ q ∧ q ≤ p + k ∧ l.length = k
theorem turnOf_ok {A : Amb} {rb n c : Nat} {a : Option Addr} {p : Int} {k : Nat} (hcode : RdCode A.h a n) (hp0 : 0 ≤ p) (hp1 : p ≤ 10000) (hk : k ≤ 1000) :
    Ctr Try.prog 71 #[.pointer (some ⟨rb, 0, none⟩), vI k] A [Rd rb a n c p] (TurnD rb a n c p k) := by
  refine Ctr.body (args := [_, _]) Try.func71 rfl Try.ntmps71 Try.results71 (by simp) ?_
  refine CJ.seq ?_
  refine CJ.region ?_
  refine LJ.yd rfl (Yd.asS rfl) ?_
  refine LJ.nil ?_
  refine CJ.seq ?_
  refine CJ.region ?_
  refine LJ.op rfl (OpR.buildSlice (cs := []) rfl rfl) ?_
  rintro _ _ ⟨b1, rfl, rfl⟩
  refine LJ.yd rfl (Yd.asS rfl) ?_
  refine LJ.nil ?_
  refine CJ.seq ?_
  refine CJ.seq ?_
  refine CJ.region ?_
  refine LJ.yd rfl (Yd.asI rfl) ?_
  refine LJ.nil ?_
  refine CJ.block ?_
  refine CJ.imp1 1 rfl (fun _ h => Cel.lr (enc := encI) (k := 1) (m := 0) [] rfl rfl rfl rfl h) ?_
  refine CJ.norm [_, _] rfl ?_
  refine CJ.loopF [0, 1, 4] (Nat × Int × List Int × Option Addr × Nat × Nat) (fun ⟨i, q, l, lA, lN, lC⟩ => (lN = l.length) ∧ i ≤ k ∧ p ≤ q ∧ q ≤ p + i ∧ l.length = i) (fun ⟨i, q, l, lA, lN, lC⟩ => [(6, vI i), (5, .slice lA lN lC)]) (fun ⟨i, q, l, lA, lN, lC⟩ => [LR encI 3 1 lA lC l, Rd rb a n c q]) (fun ⟨i, q, l, lA, lN, lC⟩ => k - i) (0, p, [], _, _, _) [] [] [1, 0] rfl rfl rfl ?_ ⟨rfl, rfl, trivial⟩ ?_
  · exact ⟨(by first | rfl | omega | (simp; done) | (simp; omega) | (simp [upN_len]; omega) | (simp [idxBy_len]; omega) | (simp [marks_len]; omega) | (simp [upN_len]; done) | (simp [idxBy_len]; done) | (simp [marks_len]; done) | (simp at *; omega)), ⟨by omega, by omega, by omega, rfl⟩⟩
  · rintro ⟨i, q, l, lA, lN, lC⟩ σ ⟨hlNl, ⟨hi, hq0, hq1, hll⟩⟩
    subst hlNl
    refine CJ.norm [_, _] rfl ?_
    refine CJ.seq ?_
    refine CJ.seq ?_
    refine CJ.region ?_
    refine LJ.yd rfl (Yd.mvI rfl) ?_
    refine LJ.yd rfl (Yd.mvI rfl) ?_
    refine LJ.splitD rfl (Yd.lss rfl rfl) (fun h12 => ?_) (fun h12 => ?_)
    · refine LJ.nil ?_
      refine CJ.condT rfl ?_
      refine CJ.skip ?_
      refine CJ.seq ?_
      refine CJ.block ?_
      refine CJ.seq ?_
      refine CJ.region ?_
      refine LJ.yd rfl (Yd.mvP rfl) ?_
      refine LJ.yd rfl (Yd.mvS rfl) ?_
      refine LJ.yd rfl (Yd.len rfl) ?_
      refine LJ.yd rfl (Yd.add rfl rfl (by unfold I64; omega)) ?_
      refine LJ.call (pickF _ [0]) (pickF _ [1]) rfl (perm_pickF _ [0] [1] rfl) (fun k hk dk => pick_ok (hcode.up) (by omega) (by omega)) ?_
      rintro _ _ ⟨x19, rfl, hx19, hy19, rfl⟩
      refine LJ.norm [_, _] rfl ?_
      refine LJ.yd rfl (Yd.asI rfl) ?_
      refine LJ.nil ?_
      refine CJ.seq ?_
      refine CJ.region ?_
      refine LJ.yd rfl (Yd.mvS rfl) ?_
      refine LJ.yd rfl (Yd.mvI rfl) ?_
      refine LJ.slLR 0 rfl rfl rfl rfl (by omega) (by first | rfl | omega | (simp; done) | (simp; omega) | (simp [upN_len]; omega) | (simp [idxBy_len]; omega) | (simp [marks_len]; omega) | (simp [upN_len]; done) | (simp [idxBy_len]; done) | (simp [marks_len]; done) | (simp at *; omega)) (by first | rfl | omega | (simp; done) | (simp; omega) | (simp [upN_len]; omega) | (simp [idxBy_len]; omega) | (simp [marks_len]; omega) | (simp [upN_len]; done) | (simp [idxBy_len]; done) | (simp [marks_len]; done) | (simp at *; omega)) (fun sa22 sm22 sc22 hsm22 hs22 => ?_)
      refine LJ.call0 rfl (fun k hk dk => copyInts_ok (hs22 _ (Sts.lr hk dk 0 (by first | rfl | omega | (simp; done) | (simp; omega) | (simp [upN_len]; omega) | (simp [idxBy_len]; omega) | (simp [marks_len]; omega) | (simp [upN_len]; done) | (simp [idxBy_len]; done) | (simp [marks_len]; done) | (simp at *; omega)) rfl)) (by simp; omega)) ?_
      rintro _ _ ⟨ra23, rc23, rfl, rfl⟩
      refine LJ.norm [_, _, _] rfl ?_
      refine LJ.yd rfl (Yd.asS rfl) ?_
      refine LJ.nil ?_
      refine CJ.region ?_
      refine LJ.yd rfl (Yd.mvS rfl) ?_
      refine LJ.yd rfl (Yd.mvI rfl) ?_
      refine LJ.slHR 0 rfl rfl rfl rfl (by omega) (by first | rfl | omega | (simp; done) | (simp; omega) | (simp [upN_len]; omega) | (simp [idxBy_len]; omega) | (simp [marks_len]; omega) | (simp [upN_len]; done) | (simp [idxBy_len]; done) | (simp [marks_len]; done) | (simp at *; omega)) (fun sm26 hsm26 hs26 => ?_)
      refine LJ.yd rfl (Yd.mvI rfl) ?_
      refine LJ.op rfl (OpR.buildSlice (cs := [_]) rfl rfl) ?_
      rintro _ _ ⟨b3, rfl, rfl⟩
      refine LJ.imp1 0 rfl (fun _ r => Row.shorten sm26 (by first | rfl | omega | (simp; done) | (simp; omega) | (simp [upN_len]; omega) | (simp [idxBy_len]; omega) | (simp [marks_len]; omega) | (simp [upN_len]; done) | (simp [idxBy_len]; done) | (simp [marks_len]; done) | (simp at *; omega)) r) ?_
      refine LJ.norm [_, _, _, _] rfl ?_
      refine LJ.op rfl (OpR.apT (enc := encI) [_] 0 3 rfl rfl rfl (by first | rfl | omega | (simp; done) | (simp; omega) | (simp [upN_len]; omega) | (simp [idxBy_len]; omega) | (simp [marks_len]; omega) | (simp [upN_len]; done) | (simp [idxBy_len]; done) | (simp [marks_len]; done) | (simp at *; omega)) rfl rfl rfl rfl rfl (by first | rfl | omega | (simp; done) | (simp; omega) | (simp [upN_len]; omega) | (simp [idxBy_len]; omega) | (simp [marks_len]; omega) | (simp [upN_len]; done) | (simp [idxBy_len]; done) | (simp [marks_len]; done) | (simp at *; omega))) ?_
      rintro _ _ ⟨ra29, rc29, rfl, rfl⟩
      refine LJ.norm [_, _, _, _] rfl ?_
      refine LJ.yd rfl (Yd.mvS rfl) ?_
      refine LJ.op rfl (OpR.apR (enc := encI) 0 2 rfl rfl rfl (by first | rfl | omega | (simp; done) | (simp; omega) | (simp [upN_len]; omega) | (simp [idxBy_len]; omega) | (simp [marks_len]; omega) | (simp [upN_len]; done) | (simp [idxBy_len]; done) | (simp [marks_len]; done) | (simp at *; omega)) rfl (by first | rfl | omega | (simp; done) | (simp; omega) | (simp [upN_len]; omega) | (simp [idxBy_len]; omega) | (simp [marks_len]; omega) | (simp [upN_len]; done) | (simp [idxBy_len]; done) | (simp [marks_len]; done) | (simp at *; omega)) (fun _ => rfl) (by first | rfl | omega | (simp; done) | (simp; omega) | (simp [upN_len]; omega) | (simp [idxBy_len]; omega) | (simp [marks_len]; omega) | (simp [upN_len]; done) | (simp [idxBy_len]; done) | (simp [marks_len]; done) | (simp at *; omega))) ?_
      rintro _ _ ⟨ra31, rc31, rfl, rfl⟩
      refine LJ.norm [_, _, _, _] rfl ?_
      refine LJ.yd rfl (Yd.asS rfl) ?_
      refine LJ.nil ?_
      refine CJ.region ?_
      refine LJ.yd rfl (Yd.mvI rfl) ?_
      refine LJ.yd rfl (Yd.add rfl rfl (by unfold I64; omega)) ?_
      refine LJ.yd rfl (Yd.asI rfl) ?_
      refine LJ.nil ?_
      refine ⟨(i + 1, _, _, _, _, _), ?_, ⟨rfl, rfl, rfl, trivial⟩, ⟨rfl, rfl, trivial⟩, Ent.pick [0, 1] [2, 3] rfl, ?_⟩
      · refine ⟨(by first | rfl | omega | (simp; done) | (simp; omega) | (simp [upN_len]; omega) | (simp [idxBy_len]; omega) | (simp [marks_len]; omega) | (simp [upN_len]; done) | (simp [idxBy_len]; done) | (simp [marks_len]; done) | (simp at *; omega)), ?_⟩
        refine ⟨by omega, ?_⟩
        exact ⟨by omega, by omega, by simp; omega⟩
      · first | omega | (dsimp only; omega) | (simp only []; omega)
    · refine LJ.nil ?_
      refine CJ.condF rfl ?_
      refine CJ.exit ?_
      refine CJ.seq ?_
      refine CJ.region ?_
      refine LJ.yd rfl (Yd.mvS rfl) ?_
      refine LJ.yd rfl (Yd.asS rfl) ?_
      refine LJ.nil ?_
      refine CJ.ret ?_
      exact Fin.R [_, _] (Res.one (ResV.tmp (v := .slice _ _ _) rfl)) ⟨_, _, _, _, _, rfl, rfl, rfl, by omega, by omega, by omega⟩ (Ent.pick [1, 0] [] rfl)
def EndsL (v : Value) (gs : List HProp) : Prop :=
  ∃ (l : List Job) (o : List Int) (aa : Option Addr) (m cc : Nat) (ba : Option Addr) (k bc : Nat), v = .tuple #[.slice aa m cc, .slice ba k bc] ∧ gs = [LR Job.enc 41 2 aa cc l, LR encI 3 1 ba bc o] ∧ m = l.length ∧ k = o.length ∧ l.length ≤ 7 ∧ o.length ≤ 7
theorem DrawEndsOf_ok {A : Amb} {a : Option Addr} {n c : Nat} (h : Code A.h a n c) : Ctr Try.prog 62 #[.slice a n c] A [] EndsL := by
  obtain ⟨hcode, hn, ha, hs⟩ := h
  refine Ctr.body (args := [_]) Try.func62 rfl Try.ntmps62 Try.results62 (by simp) ?_
  refine CJ.seq ?_
  refine CJ.region ?_
  refine LJ.yd rfl (Yd.asS rfl) ?_
  refine LJ.yd rfl (Yd.asS rfl) ?_
  refine LJ.nil ?_
  refine CJ.seq ?_
  refine CJ.region ?_
  refine LJ.yd rfl (Yd.mvS rfl) ?_
  refine LJ.call0 rfl (fun k hk dk => newReader_ok hn hcode.up ha hs) ?_
  rintro _ _ ⟨rb, n2, rfl, hn1, hn2, rfl⟩
  have hcode2 := hcode.le hn2
  refine LJ.yd rfl (Yd.asP rfl) ?_
  refine LJ.nil ?_
  refine CJ.seq ?_
  refine CJ.region ?_
  refine LJ.yd rfl (Yd.mvP rfl) ?_
  refine LJ.call (pickF _ []) (pickF _ [0]) rfl (perm_pickF _ [] [0] rfl) (fun k hk dk => someJobs_ok hcode2.up (by omega) (by omega)) ?_
  rintro _ _ ⟨l, aa, m, cc, q, rfl, rfl, rfl, hq0, hq1, hl1, hl2⟩
  refine LJ.norm [_, _] rfl ?_
  refine LJ.yd rfl (Yd.asS rfl) ?_
  refine LJ.nil ?_
  refine CJ.seq ?_
  refine CJ.region ?_
  refine LJ.yd rfl (Yd.mvP rfl) ?_
  refine LJ.yd rfl (Yd.mvS rfl) ?_
  refine LJ.yd rfl (Yd.len rfl) ?_
  refine LJ.call (pickF _ [1]) (pickF _ [0]) rfl (perm_pickF _ [1] [0] rfl) (fun k hk dk => turnOf_ok hcode2.up (by omega) (by omega) (by omega)) ?_
  rintro _ _ ⟨o, ba, k, bc, q2, rfl, rfl, rfl, hp0, hp1, ho1⟩
  refine LJ.norm [_, _, _] rfl ?_
  refine LJ.yd rfl (Yd.asS rfl) ?_
  refine LJ.nil ?_
  refine CJ.seq ?_
  refine CJ.seq ?_
  refine CJ.region ?_
  refine LJ.yd rfl (Yd.mvS rfl) ?_
  refine LJ.yd rfl (Yd.len rfl) ?_
  refine LJ.splitD rfl (Yd.gtr rfl rfl) (fun h17 => ?_) (fun h17 => ?_)
  · refine LJ.yd rfl (Yd.mvB rfl) ?_
    refine LJ.gT rfl ?_
    refine LJ.yd rfl (Yd.mvP rfl) ?_
    refine LJ.gT rfl ?_
    refine LJ.call (pickF _ [0, 2]) (pickF _ [1]) rfl (perm_pickF _ [0, 2] [1] rfl) (fun k hk dk => pick_ok (hcode2.up) (by omega) (by omega)) ?_
    rintro _ _ ⟨x20, rfl, hx20, hy20, rfl⟩
    refine LJ.norm [_, _, _] rfl ?_
    refine LJ.gT rfl ?_
    refine LJ.splitD rfl (Yd.eql rfl rfl) (fun h21 => ?_) (fun h21 => ?_)
    · refine LJ.yd rfl (Yd.pickTB rfl rfl) ?_
      refine LJ.nil ?_
      refine CJ.condT rfl ?_
      refine CJ.region ?_
      refine LJ.yd rfl (Yd.mvS rfl) ?_
      refine LJ.yd rfl (Yd.mvP rfl) ?_
      refine LJ.yd rfl (Yd.mvS rfl) ?_
      refine LJ.yd rfl (Yd.mvS rfl) ?_
      refine LJ.yd rfl (Yd.len rfl) ?_
      refine LJ.yd rfl (Yd.sub rfl rfl (by unfold I64; omega)) ?_
      refine LJ.idxR 1 rfl rfl rfl rfl (by omega) (by first | rfl | omega | (simp; done) | (simp; omega) | (simp [upN_len]; omega) | (simp [idxBy_len]; omega) | (simp [marks_len]; omega) | (simp [upN_len]; done) | (simp [idxBy_len]; done) | (simp [marks_len]; done) | (simp at *; omega)) (by first | rfl | omega | (simp; done) | (simp; omega) | (simp [upN_len]; omega) | (simp [idxBy_len]; omega) | (simp [marks_len]; omega) | (simp [upN_len]; done) | (simp [idxBy_len]; done) | (simp [marks_len]; done) | (simp at *; omega)) (fun ib29 ia29 => ?_)
      refine LJ.ldR 1 0 (fun u => vI u) (fun _ => rfl) rfl ia29 rfl rfl rfl (by first | rfl | omega | (simp; done) | (simp; omega) | (simp [upN_len]; omega) | (simp [idxBy_len]; omega) | (simp [marks_len]; omega) | (simp [upN_len]; done) | (simp [idxBy_len]; done) | (simp [marks_len]; done) | (simp at *; omega)) (fun u30 hu30 => ?_)
      try simp only [Int.toNat_natCast] at hu30
      refine LJ.op rfl (OpR.buildSlice (cs := [_, _, _]) rfl rfl) ?_
      rintro _ _ ⟨b1, rfl, rfl⟩
      refine LJ.call (pickF _ [0, 1, 3]) (pickF _ [2]) rfl (perm_pickF _ [0, 1, 3] [2] rfl) (fun k hk dk => one_ok (l := [-1, 16, u30]) (hcode2.up) (LitAt.of (l := [-1, 16, u30]) hk dk 2 rfl) (by simp) (by omega) (by omega)) ?_
      rintro _ _ ⟨x32, rfl, hx32, rfl⟩
      simp only [List.mem_cons, List.not_mem_nil, or_false] at hx32
      refine LJ.norm [_, _, _, _] rfl ?_
      refine LJ.idxR 1 rfl rfl rfl rfl (by omega) (by first | rfl | omega | (simp; done) | (simp; omega) | (simp [upN_len]; omega) | (simp [idxBy_len]; omega) | (simp [marks_len]; omega) | (simp [upN_len]; done) | (simp [idxBy_len]; done) | (simp [marks_len]; done) | (simp at *; omega)) (by first | rfl | omega | (simp; done) | (simp; omega) | (simp [upN_len]; omega) | (simp [idxBy_len]; omega) | (simp [marks_len]; omega) | (simp [upN_len]; done) | (simp [idxBy_len]; done) | (simp [marks_len]; done) | (simp at *; omega)) (fun ib33 ia33 => ?_)
      refine LJ.op rfl (OpR.st1 (enc := encI) (e1 := fun u => vI u) 1 (fun _ => rfl) (fun _ => rfl) (fun _ => rfl) rfl ia33 rfl rfl rfl (by first | rfl | omega | (simp; done) | (simp; omega) | (simp [upN_len]; omega) | (simp [idxBy_len]; omega) | (simp [marks_len]; omega) | (simp [upN_len]; done) | (simp [idxBy_len]; done) | (simp [marks_len]; done) | (simp at *; omega))) ?_
      rintro _ _ ⟨rfl, rfl⟩
      refine LJ.norm [_, _, _, _] rfl ?_
      refine LJ.nil ?_
      refine CJ.seq ?_
      refine CJ.region ?_
      refine LJ.yd rfl (Yd.mvS rfl) ?_
      refine LJ.yd rfl (Yd.mvS rfl) ?_
      refine LJ.yd rfl (Yd.asS rfl) ?_
      refine LJ.yd rfl (Yd.asS rfl) ?_
      refine LJ.nil ?_
      refine CJ.ret ?_
      exact Fin.R [_, _] (Res.two (ResV.tmp (v := .slice _ _ _) rfl) (ResV.tmp (v := .slice _ _ _) rfl)) ⟨_, _, _, _, _, _, _, _, rfl, rfl, rfl, by first | rfl | simp, hl1, by first | omega | (simp; omega)⟩ (Ent.pick [0, 1] [2, 3] rfl)
    · refine LJ.yd rfl (Yd.pickTB rfl rfl) ?_
      refine LJ.nil ?_
      refine CJ.condF rfl ?_
      refine CJ.skip ?_
      refine CJ.seq ?_
      refine CJ.region ?_
      refine LJ.yd rfl (Yd.mvS rfl) ?_
      refine LJ.yd rfl (Yd.mvS rfl) ?_
      refine LJ.yd rfl (Yd.asS rfl) ?_
      refine LJ.yd rfl (Yd.asS rfl) ?_
      refine LJ.nil ?_
      refine CJ.ret ?_
      exact Fin.R [_, _] (Res.two (ResV.tmp (v := .slice _ _ _) rfl) (ResV.tmp (v := .slice _ _ _) rfl)) ⟨_, _, _, _, _, _, _, _, rfl, rfl, rfl, by first | rfl | simp, hl1, by first | omega | (simp; omega)⟩ (Ent.pick [0, 1] [2] rfl)
  · refine LJ.yd rfl (Yd.mvB rfl) ?_
    refine LJ.gF rfl rfl ?_
    refine LJ.gF rfl rfl ?_
    refine LJ.gF rfl rfl ?_
    refine LJ.yd rfl (Yd.pickFB rfl rfl) ?_
    refine LJ.nil ?_
    refine CJ.condF rfl ?_
    refine CJ.skip ?_
    refine CJ.seq ?_
    refine CJ.region ?_
    refine LJ.yd rfl (Yd.mvS rfl) ?_
    refine LJ.yd rfl (Yd.mvS rfl) ?_
    refine LJ.yd rfl (Yd.asS rfl) ?_
    refine LJ.yd rfl (Yd.asS rfl) ?_
    refine LJ.nil ?_
    refine CJ.ret ?_
    exact Fin.R [_, _] (Res.two (ResV.tmp (v := .slice _ _ _) rfl) (ResV.tmp (v := .slice _ _ _) rfl)) ⟨_, _, _, _, _, _, _, _, rfl, rfl, rfl, by first | rfl | simp, hl1, by first | omega | (simp; omega)⟩ (Ent.pick [0, 2] [1] rfl)
theorem DrawSpanOf_ok {A : Amb} {a : Option Addr} {n c : Nat} (h : Code A.h a n c) : Ctr Try.prog 39 #[.slice a n c] A [] EndsL := by
  refine Ctr.body (args := [_]) Try.func39 rfl Try.ntmps39 Try.results39 (by simp) ?_
  refine CJ.seq ?_
  refine CJ.region ?_
  refine LJ.yd rfl (Yd.asS rfl) ?_
  refine LJ.yd rfl (Yd.asS rfl) ?_
  refine LJ.nil ?_
  refine CJ.seq ?_
  refine CJ.region ?_
  refine LJ.yd rfl (Yd.mvS rfl) ?_
  refine LJ.call0 rfl (fun k hk dk => DrawEndsOf_ok h.up) ?_
  rintro _ _ ⟨l, o, aa, m, cc, ba, k, bc, rfl, rfl, rfl, rfl, hl1, ho1⟩
  refine LJ.norm [_, _] rfl ?_
  refine LJ.yd rfl (Yd.extract rfl rfl) ?_
  refine LJ.yd rfl (Yd.extract rfl rfl) ?_
  refine LJ.yd rfl (Yd.asS rfl) ?_
  refine LJ.yd rfl (Yd.asS rfl) ?_
  refine LJ.nil ?_
  refine CJ.ret ?_
  exact Fin.R [_, _] (Res.two (ResV.tmp (v := .slice _ _ _) rfl) (ResV.tmp (v := .slice _ _ _) rfl)) ⟨_, _, _, _, _, _, _, _, rfl, rfl, rfl, rfl, hl1, ho1⟩ (Ent.pick [0, 1] [] rfl)
theorem gj_flip {l : List Job} {x : Int} (h : x.toNat < l.length) : gj (l.map flip) x = flip (gj l x) := by
  obtain ⟨u, hu⟩ := someC h
  rw [gjC hu, gjC (u := flip u) (by rw [List.getElem?_map, hu]; rfl)]
theorem jobsOk_flip {l : List Job} (h : jobsOk l = true) : jobsOk (l.map flip) = true := by
  have h1 := jobsOk_iff.1 h
  refine jobsOk_iff.2 ⟨by rw [List.length_map]; exact h1.1, fun y hy => ?_⟩
  obtain ⟨z, hz, rfl⟩ := List.mem_map.1 hy
  have := h1.2 z hz
  simp only [flip]; omega
theorem spR_back {l : List Job} {o : List Int} (h : jobsOk l = true) (ho : OrdP o l.length) : spR (l.map flip) o.reverse = spR l o := by
  have ho2 : OrdP o.reverse (l.map flip).length := by rw [List.length_map]; exact ordP_perm ho (List.reverse_perm o)
  have e : o.reverse.map (gj (l.map flip)) = ((o.map (gj l)).map flip).reverse := by
    rw [List.map_reverse, List.map_map]
    congr 1
    exact List.map_congr_left fun x hx => gj_flip (by have := ho.2.2 x hx; omega)
  rw [spR, if_pos ⟨jobsOk_flip h, ho2⟩, spR, if_pos ⟨h, ho⟩, e]
  refine spn_rev fun y hy => ?_
  obtain ⟨x, hx, rfl⟩ := List.mem_map.1 hy
  have := ho.2.2 x hx
  obtain ⟨u, hu⟩ := someC (l := l) (j := x.toNat) (by omega)
  rw [gjC hu]; exact jn_of h u (List.mem_of_getElem? hu)
theorem FnSpanOfBack_ok {A : Amb} {a : Option Addr} {n c : Nat} (hc : Code A.h a n c) : Ctr Try.prog 12 #[.slice a n c] A [] (Val (.bool true)) := by
  refine Ctr.body (args := [_]) Try.func12 rfl Try.ntmps12 Try.results12 (by simp) ?_
  refine CJ.seq ?_
  refine CJ.region ?_
  refine LJ.yd rfl (Yd.asB rfl) ?_
  refine LJ.nil ?_
  refine CJ.seq ?_
  refine CJ.seq ?_
  refine CJ.region ?_
  refine LJ.yd rfl (Yd.mvS rfl) ?_
  refine LJ.yd rfl (Yd.len rfl) ?_
  refine LJ.splitD rfl (Yd.gtr rfl rfl) (fun h10 => ?_) (fun h10 => ?_)
  · refine LJ.nil ?_
    refine CJ.condT rfl ?_
    refine CJ.seq ?_
    refine CJ.region ?_
    refine LJ.yd rfl (Yd.asB rfl) ?_
    refine LJ.nil ?_
    refine CJ.ret ?_
    refine Fin.V (Res.one (ResV.tmp (v := .bool true) rfl)) ?_
    rfl
  · refine LJ.nil ?_
    refine CJ.condF rfl ?_
    refine CJ.skip ?_
    refine CJ.seq ?_
    refine CJ.region ?_
    refine LJ.yd rfl (Yd.mvS rfl) ?_
    refine LJ.call0 rfl (fun k hk dk => DrawSpanOf_ok hc.up) ?_
    rintro _ _ ⟨l, o, aa, m, cc, ba, k0, bc, rfl, rfl, rfl, rfl, hl1, ho1⟩
    refine LJ.norm [_, _] rfl ?_
    refine LJ.yd rfl (Yd.mvU rfl) ?_
    refine LJ.yd rfl (Yd.extract rfl rfl) ?_
    refine LJ.yd rfl (Yd.extract rfl rfl) ?_
    refine LJ.yd rfl (Yd.asS rfl) ?_
    refine LJ.yd rfl (Yd.asS rfl) ?_
    refine LJ.nil ?_
    refine CJ.seq ?_
    refine CJ.region ?_
    refine LJ.yd rfl (Yd.mvS rfl) ?_
    refine LJ.yd rfl (Yd.mvS rfl) ?_
    refine LJ.callV rfl (fun k hk dk => SpanOfI_ok (Sts.lrm hk dk 0 (by first | omega | (simp; omega) | (have := hbf; simp at *; omega)) (by first | rfl | omega | (simp; done) | (simp; omega) | (simp [upN_len]; omega) | (simp [idxBy_len]; omega) | (simp [marks_len]; omega) | (simp [upN_len]; done) | (simp [idxBy_len]; done) | (simp [marks_len]; done) | (simp at *; omega)) rfl) (Sts.lrm hk dk 1 (by first | omega | (simp; omega) | (have := hbf; simp at *; omega)) (by first | rfl | omega | (simp; done) | (simp; omega) | (simp [upN_len]; omega) | (simp [idxBy_len]; omega) | (simp [marks_len]; omega) | (simp [upN_len]; done) | (simp [idxBy_len]; done) | (simp [marks_len]; done) | (simp at *; omega)) rfl) (by omega)) ?_
    refine LJ.yd rfl (Yd.asI rfl) ?_
    refine LJ.nil ?_
    refine CJ.seq ?_
    refine CJ.seq ?_
    refine CJ.region ?_
    refine LJ.yd rfl (Yd.mvI rfl) ?_
    refine LJ.yd rfl (Yd.mvS rfl) ?_
    refine LJ.yd rfl (Yd.mvS rfl) ?_
    refine LJ.callV rfl (fun k hk dk => SpanOfS_ok (Sts.lrm hk dk 0 (by first | omega | (simp; omega) | (have := hbf; simp at *; omega)) (by first | rfl | omega | (simp; done) | (simp; omega) | (simp [upN_len]; omega) | (simp [idxBy_len]; omega) | (simp [marks_len]; omega) | (simp [upN_len]; done) | (simp [idxBy_len]; done) | (simp [marks_len]; done) | (simp at *; omega)) rfl) (Sts.lrm hk dk 1 (by first | omega | (simp; omega) | (have := hbf; simp at *; omega)) (by first | rfl | omega | (simp; done) | (simp; omega) | (simp [upN_len]; omega) | (simp [idxBy_len]; omega) | (simp [marks_len]; omega) | (simp [upN_len]; done) | (simp [idxBy_len]; done) | (simp [marks_len]; done) | (simp at *; omega)) rfl)) ?_
    refine LJ.splitN rfl (Yd.neq rfl rfl) (fun h23 => ?_) (fun h23 => ?_)
    · exfalso; omega
    · refine LJ.yd rfl (Yd.mvB rfl) ?_
      refine LJ.gT rfl ?_
      refine LJ.yd rfl (Yd.mvI rfl) ?_
      refine LJ.gT rfl ?_
      refine LJ.splitD rfl (Yd.lss rfl rfl) (fun h26 => ?_) (fun h26 => ?_)
      · refine LJ.yd rfl (Yd.pickFB rfl rfl) ?_
        refine LJ.nil ?_
        refine CJ.condT rfl ?_
        refine CJ.seq ?_
        refine CJ.region ?_
        refine LJ.yd rfl (Yd.mvI rfl) ?_
        refine LJ.yd rfl (Yd.mvS rfl) ?_
        refine LJ.yd rfl (Yd.mvS rfl) ?_
        refine LJ.callV rfl (fun k hk dk => SpanOfS_ok (Sts.lrm hk dk 0 (by first | omega | (simp; omega) | (have := hbf; simp at *; omega)) (by first | rfl | omega | (simp; done) | (simp; omega) | (simp [upN_len]; omega) | (simp [idxBy_len]; omega) | (simp [marks_len]; omega) | (simp [upN_len]; done) | (simp [idxBy_len]; done) | (simp [marks_len]; done) | (simp at *; omega)) rfl) (Sts.lrm hk dk 1 (by first | omega | (simp; omega) | (have := hbf; simp at *; omega)) (by first | rfl | omega | (simp; done) | (simp; omega) | (simp [upN_len]; omega) | (simp [idxBy_len]; omega) | (simp [marks_len]; omega) | (simp [upN_len]; done) | (simp [idxBy_len]; done) | (simp [marks_len]; done) | (simp at *; omega)) rfl)) ?_
        refine LJ.splitD rfl (Yd.eql rfl rfl) (fun h32 => ?_) (fun h32 => ?_)
        · refine LJ.yd rfl (Yd.asB rfl) ?_
          refine LJ.nil ?_
          refine CJ.ret ?_
          refine Fin.V (Res.one (ResV.tmp (v := .bool true) rfl)) ?_
          rfl
        · exfalso; omega
      · refine LJ.yd rfl (Yd.pickFB rfl rfl) ?_
        refine LJ.nil ?_
        refine CJ.condF rfl ?_
        refine CJ.skip ?_
        refine CJ.seq ?_
        have hop : jobsOk l = true ∧ OrdP o l.length := Decidable.byContradiction fun hn => h26 (by rw [spR, if_neg hn]; decide)
        have hbl := boR_len l
        have hbf := boR_len (l.map flip)
        rw [List.length_map] at hbf
        refine CJ.region ?_
        refine LJ.op rfl (OpR.buildSlice (cs := []) rfl rfl) ?_
        rintro _ _ ⟨b1, rfl, rfl⟩
        refine LJ.yd rfl (Yd.asS rfl) ?_
        refine LJ.nil ?_
        refine CJ.seq ?_
        refine CJ.seq ?_
        refine CJ.region ?_
        refine LJ.yd rfl (Yd.asI rfl) ?_
        refine LJ.nil ?_
        refine CJ.block ?_
        refine CJ.imp1 2 rfl (fun _ h => Cel.lr (enc := Job.enc) (k := 2) (m := 0) [] rfl rfl rfl rfl h) ?_
        refine CJ.norm [_, _, _] rfl ?_
        refine CJ.loopF [2, 3, 4, 5] (Nat × List (Job) × Option Addr × Nat × Nat) (fun ⟨k, q, qA, qN, qC⟩ => (qN = q.length) ∧ k ≤ l.length ∧ q = (l.take k).map flip) (fun ⟨k, q, qA, qN, qC⟩ => [(7, vI k), (6, .slice qA qN qC)]) (fun ⟨k, q, qA, qN, qC⟩ => [LR Job.enc 41 2 qA qC q]) (fun ⟨k, q, qA, qN, qC⟩ => l.length - k) (0, [], _, _, _) [_, _] [0, 1] [2] rfl rfl rfl ?_ ⟨rfl, rfl, trivial⟩ ?_
        · exact ⟨(by first | rfl | omega | (simp; done) | (simp; omega) | (simp [upN_len]; omega) | (simp [idxBy_len]; omega) | (simp [marks_len]; omega) | (simp [upN_len]; done) | (simp [idxBy_len]; done) | (simp [marks_len]; done) | (simp at *; omega)), ⟨by omega, by simp⟩⟩
        · rintro ⟨k, q, qA, qN, qC⟩ σ ⟨hlNq, ⟨hk1, hq⟩⟩
          subst hlNq
          refine CJ.norm [_, _, _] rfl ?_
          have hql : q.length = k := by rw [hq]; simp; omega
          refine CJ.seq ?_
          refine CJ.seq ?_
          refine CJ.region ?_
          refine LJ.yd rfl (Yd.mvI rfl) ?_
          refine LJ.yd rfl (Yd.mvS rfl) ?_
          refine LJ.yd rfl (Yd.len rfl) ?_
          refine LJ.splitD rfl (Yd.lss rfl rfl) (fun h37 => ?_) (fun h37 => ?_)
          · refine LJ.nil ?_
            refine CJ.condT rfl ?_
            refine CJ.skip ?_
            refine CJ.seq ?_
            refine CJ.block ?_
            refine CJ.regionD [0, 1] [2] (by kernel_rfl) rfl ?_
            refine DJ.norm [_, _] [_] rfl rfl ?_
            refine DJ.yd 0 rfl (by kernel_rfl) (by kernel_rfl) (by kernel_rfl) rfl rfl (Yd.mvS rfl) ?_
            refine DJ.yd 1 rfl (by kernel_rfl) (by kernel_rfl) (by kernel_rfl) rfl rfl (Yd.mvS rfl) ?_
            refine DJ.yd 2 rfl (by kernel_rfl) (by kernel_rfl) (by kernel_rfl) rfl rfl (Yd.mvI rfl) ?_
            refine DJ.idxF 0 rfl 3 rfl (by kernel_rfl) (by kernel_rfl) (by kernel_rfl) rfl rfl rfl rfl (by omega) (by first | rfl | omega | (simp; done) | (simp; omega) | (simp [upN_len]; omega) | (simp [idxBy_len]; omega) | (simp [marks_len]; omega) | (simp [upN_len]; done) | (simp [idxBy_len]; done) | (simp [marks_len]; done) | (simp at *; omega)) (by first | rfl | omega | (simp; done) | (simp; omega) | (simp [upN_len]; omega) | (simp [idxBy_len]; omega) | (simp [marks_len]; omega) | (simp [upN_len]; done) | (simp [idxBy_len]; done) | (simp [marks_len]; done) | (simp at *; omega)) (fun ib43 ia43 => ?_)
            refine DJ.yd 4 rfl (by kernel_rfl) (by kernel_rfl) (by kernel_rfl) rfl rfl (Yd.fieldAddr rfl) ?_
            refine DJ.ldF 5 rfl (by kernel_rfl) (by kernel_rfl) (by kernel_rfl) rfl rfl 0 1 (fun u => vI u.Heat) (fun _ => rfl) rfl ia43 rfl rfl (by first | rfl | omega | (simp; done) | (simp; omega) | (simp [upN_len]; omega) | (simp [idxBy_len]; omega) | (simp [marks_len]; omega) | (simp [upN_len]; done) | (simp [idxBy_len]; done) | (simp [marks_len]; done) | (simp at *; omega)) (fun u45 hu45 => ?_)
            try simp only [Int.toNat_natCast] at hu45
            refine DJ.yd 6 rfl (by kernel_rfl) (by kernel_rfl) (by kernel_rfl) rfl rfl (Yd.mvS rfl) ?_
            refine DJ.yd 7 rfl (by kernel_rfl) (by kernel_rfl) (by kernel_rfl) rfl rfl (Yd.mvI rfl) ?_
            refine DJ.idxF 0 rfl 8 rfl (by kernel_rfl) (by kernel_rfl) (by kernel_rfl) rfl rfl rfl rfl (by omega) (by first | rfl | omega | (simp; done) | (simp; omega) | (simp [upN_len]; omega) | (simp [idxBy_len]; omega) | (simp [marks_len]; omega) | (simp [upN_len]; done) | (simp [idxBy_len]; done) | (simp [marks_len]; done) | (simp at *; omega)) (by first | rfl | omega | (simp; done) | (simp; omega) | (simp [upN_len]; omega) | (simp [idxBy_len]; omega) | (simp [marks_len]; omega) | (simp [upN_len]; done) | (simp [idxBy_len]; done) | (simp [marks_len]; done) | (simp at *; omega)) (fun ib48 ia48 => ?_)
            refine DJ.yd 9 rfl (by kernel_rfl) (by kernel_rfl) (by kernel_rfl) rfl rfl (Yd.fieldAddr rfl) ?_
            refine DJ.ldF 10 rfl (by kernel_rfl) (by kernel_rfl) (by kernel_rfl) rfl rfl 0 0 (fun u => vI u.Cut) (fun _ => rfl) rfl ia48 rfl rfl (by first | rfl | omega | (simp; done) | (simp; omega) | (simp [upN_len]; omega) | (simp [idxBy_len]; omega) | (simp [marks_len]; omega) | (simp [upN_len]; done) | (simp [idxBy_len]; done) | (simp [marks_len]; done) | (simp at *; omega)) (fun u50 hu50 => ?_)
            try simp only [Int.toNat_natCast] at hu50
            refine DJ.yd 11 rfl (by kernel_rfl) (by kernel_rfl) (by kernel_rfl) rfl rfl (Yd.build (cs := [_, _]) rfl) ?_
            refine DJ.one (i := 12) (by kernel_rfl) ?_
            refine DO.op rfl rfl rfl (fun k0 hk0 dk0 => OpR.buildSlice (cs := [_, _]) rfl rfl) ?_
            rintro _ _ ⟨b2, rfl, rfl⟩
            refine DJ.one (i := 13) (by kernel_rfl) ?_
            refine DO.op rfl rfl rfl (fun k0 hk0 dk0 => OpR.apT (enc := Job.enc) [⟨_, _⟩] 0 1 rfl rfl rfl (by first | rfl | omega | (simp; done) | (simp; omega) | (simp [upN_len]; omega) | (simp [idxBy_len]; omega) | (simp [marks_len]; omega) | (simp [upN_len]; done) | (simp [idxBy_len]; done) | (simp [marks_len]; done) | (simp at *; omega)) rfl rfl rfl rfl rfl (by first | rfl | omega | (simp; done) | (simp; omega) | (simp [upN_len]; omega) | (simp [idxBy_len]; omega) | (simp [marks_len]; omega) | (simp [upN_len]; done) | (simp [idxBy_len]; done) | (simp [marks_len]; done) | (simp at *; omega))) ?_
            rintro _ _ ⟨ra53, rc53, rfl, rfl⟩
            refine DJ.norm [_, _] [_, _] rfl rfl ?_
            refine DJ.yd 14 rfl (by kernel_rfl) (by kernel_rfl) (by kernel_rfl) rfl rfl (Yd.asS rfl) ?_
            refine DJ.done (by kernel_rfl) ?_
            refine CJ.region ?_
            refine LJ.yd rfl (Yd.mvI rfl) ?_
            refine LJ.yd rfl (Yd.add rfl rfl (by unfold I64; omega)) ?_
            refine LJ.yd rfl (Yd.asI rfl) ?_
            refine LJ.nil ?_
            refine ⟨(k + 1, _, _, _, _), ?_, ⟨rfl, rfl, rfl, rfl, trivial⟩, ⟨rfl, rfl, trivial⟩, Ent.pick [0, 1, 2] [3] rfl, ?_⟩
            · refine ⟨(by first | rfl | omega | (simp; done) | (simp; omega) | (simp [upN_len]; omega) | (simp [idxBy_len]; omega) | (simp [marks_len]; omega) | (simp [upN_len]; done) | (simp [idxBy_len]; done) | (simp [marks_len]; done) | (simp at *; omega)), ?_⟩
              refine ⟨by omega, ?_⟩
              have e50 : u50 = u45 := by rw [hu45] at hu50; exact (Option.some.inj hu50).symm
              rw [takeC hu45, List.map_append, ← hq, e50]; rfl
            · first | omega | (dsimp only; omega) | (simp only []; omega)
          · refine LJ.nil ?_
            refine CJ.condF rfl ?_
            refine CJ.exit ?_
            refine CJ.seq ?_
            have hqf : q = l.map flip := by rw [hq, List.take_of_length_le (by omega)]
            subst hqf
            refine CJ.region ?_
            refine LJ.yd rfl (Yd.mvS rfl) ?_
            refine LJ.yd rfl (Yd.mvS rfl) ?_
            refine LJ.call0 rfl (fun k hk dk => backwards_ok (Sts.lrm hk dk 1 (by first | omega | (simp; omega) | (have := hbf; simp at *; omega)) (by first | rfl | omega | (simp; done) | (simp; omega) | (simp [upN_len]; omega) | (simp [idxBy_len]; omega) | (simp [marks_len]; omega) | (simp [upN_len]; done) | (simp [idxBy_len]; done) | (simp [marks_len]; done) | (simp at *; omega)) rfl) (by omega)) ?_
            rintro _ _ ⟨ra56, rc56, rfl, rfl⟩
            refine LJ.norm [_, _, _, _] rfl ?_
            refine LJ.callV rfl (fun k hk dk => SpanOf_v (Sts.lrm hk dk 2 (by first | omega | (simp; omega) | (have := hbf; simp at *; omega)) (by first | rfl | omega | (simp; done) | (simp; omega) | (simp [upN_len]; omega) | (simp [idxBy_len]; omega) | (simp [marks_len]; omega) | (simp [upN_len]; done) | (simp [idxBy_len]; done) | (simp [marks_len]; done) | (simp at *; omega)) rfl) (Sts.lrm hk dk 3 (by first | omega | (simp; omega) | (have := hbf; simp at *; omega)) (by first | rfl | omega | (simp; done) | (simp; omega) | (simp [upN_len]; omega) | (simp [idxBy_len]; omega) | (simp [marks_len]; omega) | (simp [upN_len]; done) | (simp [idxBy_len]; done) | (simp [marks_len]; done) | (simp at *; omega)) rfl) (by simp; omega) (spR_back hop.1 hop.2)) ?_
            refine LJ.yd rfl (Yd.mvI rfl) ?_
            refine LJ.splitD rfl (Yd.eql rfl rfl) (fun h59 => ?_) (fun h59 => ?_)
            · refine LJ.yd rfl (Yd.mvB rfl) ?_
              refine LJ.gT rfl ?_
              refine LJ.yd rfl (Yd.mvS rfl) ?_
              refine LJ.gT rfl ?_
              refine LJ.yd rfl (Yd.mvS rfl) ?_
              refine LJ.gT rfl ?_
              refine LJ.call0 rfl (fun k hk dk => BestOrderI_ok (Sts.lrm hk dk 2 (by first | omega | (simp; omega) | (have := hbf; simp at *; omega)) (by first | rfl | omega | (simp; done) | (simp; omega) | (simp [upN_len]; omega) | (simp [idxBy_len]; omega) | (simp [marks_len]; omega) | (simp [upN_len]; done) | (simp [idxBy_len]; done) | (simp [marks_len]; done) | (simp at *; omega)) rfl)) ?_
              rintro _ _ ⟨ra63, rc63, rfl, rfl⟩
              refine LJ.norm [_, _, _, _, _] rfl ?_
              refine LJ.gT rfl ?_
              refine LJ.callV rfl (fun k hk dk => SpanOf_v (Sts.lrm hk dk 2 (by first | omega | (simp; omega) | (have := hbf; simp at *; omega)) (by first | rfl | omega | (simp; done) | (simp; omega) | (simp [upN_len]; omega) | (simp [idxBy_len]; omega) | (simp [marks_len]; omega) | (simp [upN_len]; done) | (simp [idxBy_len]; done) | (simp [marks_len]; done) | (simp at *; omega)) rfl) (Sts.lrm hk dk 4 (by first | omega | (simp; omega) | (have := hbf; simp at *; omega)) (by first | rfl | omega | (simp; done) | (simp; omega) | (simp [upN_len]; omega) | (simp [idxBy_len]; omega) | (simp [marks_len]; omega) | (simp [upN_len]; done) | (simp [idxBy_len]; done) | (simp [marks_len]; done) | (simp at *; omega)) rfl) (by simp; omega) ((spR_bo (jobsOk_flip hop.1)).trans (bj_flip (jn_of hop.1)))) ?_
              refine LJ.gT rfl ?_
              refine LJ.yd rfl (Yd.mvS rfl) ?_
              refine LJ.gT rfl ?_
              refine LJ.yd rfl (Yd.mvS rfl) ?_
              refine LJ.gT rfl ?_
              refine LJ.call0 rfl (fun k hk dk => BestOrderI_ok (Sts.lrm hk dk 0 (by first | omega | (simp; omega) | (have := hbf; simp at *; omega)) (by first | rfl | omega | (simp; done) | (simp; omega) | (simp [upN_len]; omega) | (simp [idxBy_len]; omega) | (simp [marks_len]; omega) | (simp [upN_len]; done) | (simp [idxBy_len]; done) | (simp [marks_len]; done) | (simp at *; omega)) rfl)) ?_
              rintro _ _ ⟨ra67, rc67, rfl, rfl⟩
              refine LJ.norm [_, _, _, _, _, _] rfl ?_
              refine LJ.gT rfl ?_
              refine LJ.callV rfl (fun k hk dk => SpanOf_v (Sts.lrm hk dk 0 (by first | omega | (simp; omega) | (have := hbf; simp at *; omega)) (by first | rfl | omega | (simp; done) | (simp; omega) | (simp [upN_len]; omega) | (simp [idxBy_len]; omega) | (simp [marks_len]; omega) | (simp [upN_len]; done) | (simp [idxBy_len]; done) | (simp [marks_len]; done) | (simp at *; omega)) rfl) (Sts.lrm hk dk 5 (by first | omega | (simp; omega) | (have := hbf; simp at *; omega)) (by first | rfl | omega | (simp; done) | (simp; omega) | (simp [upN_len]; omega) | (simp [idxBy_len]; omega) | (simp [marks_len]; omega) | (simp [upN_len]; done) | (simp [idxBy_len]; done) | (simp [marks_len]; done) | (simp at *; omega)) rfl) (by omega) (spR_bo hop.1)) ?_
              refine LJ.gT rfl ?_
              refine LJ.splitD rfl (Yd.eql rfl rfl) (fun h69 => ?_) (fun h69 => ?_)
              · refine LJ.yd rfl (Yd.pickTB rfl rfl) ?_
                refine LJ.yd rfl (Yd.asB rfl) ?_
                refine LJ.nil ?_
                refine CJ.ret ?_
                refine Fin.V (Res.one (ResV.tmp (v := .bool true) rfl)) ?_
                rfl
              · exfalso; omega
            · exfalso; omega
end Go.Proofs.Ytbgalcjkmgdaiaa
