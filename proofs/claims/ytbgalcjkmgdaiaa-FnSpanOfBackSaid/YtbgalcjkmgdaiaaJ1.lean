/-
  Jobs: valid jobs, their comparison, best orders.
-/
import Derived.Test.YtbgalcjkmgdaiaaA8
import Derived.Test.YtbgalcjkmgdaiaaLK
namespace Go.Proofs.Ytbgalcjkmgdaiaa
open Go
set_option maxRecDepth 20000
set_option maxHeartbeats 1000000

structure Job where
  Cut : Int
  Heat : Int
  deriving DecidableEq
def Job.enc (j : Job) : List Value := [vI j.Cut, vI j.Heat]
theorem inRange_ok' : True := trivial
def Job.ok (j : Job) : Bool := decide (0 ≤ j.Cut ∧ j.Cut ≤ 500 ∧ 0 ≤ j.Heat ∧ j.Heat ≤ 500)
theorem Job.ok_iff {j : Job} : j.ok = true ↔ 0 ≤ j.Cut ∧ j.Cut ≤ 500 ∧ 0 ≤ j.Heat ∧ j.Heat ≤ 500 := by simp [Job.ok]
def jobsOk (l : List Job) : Bool := decide (l.length ≤ 16) && l.all Job.ok
theorem jobsOk_iff {l : List Job} : jobsOk l = true ↔ l.length ≤ 16 ∧ ∀ u ∈ l, 0 ≤ u.Cut ∧ u.Cut ≤ 500 ∧ 0 ≤ u.Heat ∧ u.Heat ≤ 500 := by
  simp only [jobsOk, Bool.and_eq_true, decide_eq_true_eq, List.all_eq_true, Job.ok_iff]
theorem ValidJobs_ok {A : Amb} {v : Value} {l : List Job} (hl : RdL Job.enc 2 A.h v l) : Ctr Try.prog 37 #[v] A [] (Val (.bool (jobsOk l))) := by
  obtain ⟨la, lc, rfl, hlb, hl⟩ := hl.un
  refine Ctr.body (args := [_]) Try.func37 rfl Try.ntmps37 Try.results37 (by simp) ?_
  refine CJ.seq ?_
  refine CJ.region ?_
  refine LJ.yd rfl (Yd.asB rfl) ?_
  refine LJ.nil ?_
  refine CJ.seq ?_
  refine CJ.seq ?_
  refine CJ.region ?_
  refine LJ.yd rfl (Yd.mvS rfl) ?_
  refine LJ.yd rfl (Yd.len rfl) ?_
  refine LJ.splitD rfl (Yd.gtr rfl rfl) (fun h7 => ?_) (fun h7 => ?_)
  · refine LJ.nil ?_
    refine CJ.condT rfl ?_
    refine CJ.seq ?_
    refine CJ.region ?_
    refine LJ.yd rfl (Yd.asB rfl) ?_
    refine LJ.nil ?_
    refine CJ.ret ?_
    refine Fin.V (Res.one (ResV.tmp (v := .bool false) rfl)) ?_
    refine congrArg Value.bool (Eq.symm ?_)
    first
      | (refine Bool.eq_false_iff.2 fun h => ?_
         have h1 := (jobsOk_iff.1 h).2 u13 (List.mem_of_getElem? hu13)
         rw [timesOk_iff.2 ⟨by simp, fun z hz => by simp at hz; rcases hz with rfl | rfl <;> omega⟩] at h19; cases h19)
      | (refine Bool.eq_false_iff.2 fun h => ?_; have := (jobsOk_iff.1 h).1; omega)
      | (rw [List.take_of_length_le (by omega)] at hi1; exact jobsOk_iff.2 ⟨by omega, fun u hu => Job.ok_iff.1 (hi1 u hu)⟩)
  · refine LJ.nil ?_
    refine CJ.condF rfl ?_
    refine CJ.skip ?_
    refine CJ.seq ?_
    refine CJ.seq ?_
    refine CJ.region ?_
    refine LJ.yd rfl (Yd.mvS rfl) ?_
    refine LJ.yd rfl (Yd.len rfl) ?_
    refine LJ.yd rfl (Yd.mvI rfl) ?_
    refine LJ.nil ?_
    refine CJ.block ?_
    refine CJ.loopK [8, 9] Nat (fun k => k ≤ l.length ∧ ∀ z ∈ l.take k, z.ok = true) (fun k => [(10, vI k)]) (fun k => l.length - k) (0) ?_ ⟨rfl, trivial⟩ ?_
    · exact ⟨by omega, by simp⟩
    · rintro k σ ⟨hk1, hi1⟩
      refine CJ.seq ?_
      refine CJ.region ?_
      refine LJ.splitD rfl (Yd.lss rfl rfl) (fun h11 => ?_) (fun h11 => ?_)
      · refine LJ.nil ?_
        refine CJ.seq ?_
        refine CJ.condT rfl ?_
        refine CJ.skip ?_
        refine CJ.seq ?_
        refine CJ.block ?_
        refine CJ.seq ?_
        refine CJ.region ?_
        refine LJ.idxA rfl hl rfl rfl (by omega) (by first | rfl | omega | (simp; done) | (simp; omega) | (simp [upN_len]; omega) | (simp [idxBy_len]; omega) | (simp [marks_len]; omega) | (simp [upN_len]; done) | (simp [idxBy_len]; done) | (simp [marks_len]; done) | (simp at *; omega)) (fun ib12 io12 ia12 ir12 => ?_)
        refine LJ.lgA (enc := Job.enc) (fun u => [vI u.Cut, vI u.Heat]) (fun _ => rfl) (fun _ => rfl) ir12 rfl rfl rfl (by first | rfl | omega | (simp; done) | (simp; omega) | (simp [upN_len]; omega) | (simp [idxBy_len]; omega) | (simp [marks_len]; omega) | (simp [upN_len]; done) | (simp [idxBy_len]; done) | (simp [marks_len]; done) | (simp at *; omega)) (fun u13 hu13 => ?_)
        try simp only [Int.toNat_natCast] at hu13
        refine LJ.alloc ([_, _] : List Value) rfl rfl (fun b1 => ?_)
        refine LJ.store (v := .agg #[_, _]) (us := [_, _]) 0 rfl rfl rfl rfl rfl rfl rfl rfl ?_
        refine LJ.nil ?_
        refine CJ.seq ?_
        refine CJ.region ?_
        refine LJ.yd rfl (Yd.fieldAddr rfl) ?_
        refine LJ.yd rfl (Yd.loadC 0 rfl rfl rfl) ?_
        refine LJ.yd rfl (Yd.fieldAddr rfl) ?_
        refine LJ.yd rfl (Yd.loadC 0 rfl rfl rfl) ?_
        refine LJ.op rfl (OpR.buildSlice (cs := [_, _]) rfl rfl) ?_
        rintro _ _ ⟨b2, rfl, rfl⟩
        refine LJ.imp1 1 rfl (fun _ h => Cel.lr (enc := encI) (k := 1) (m := 2) [_, _] rfl rfl rfl rfl h) ?_
        refine LJ.norm [_, _] rfl ?_
        refine LJ.callB rfl (fun k hk dk => validTimes_ok (Sts.lrm hk dk 1 (by first | rfl | omega | (simp; done) | (simp; omega) | (simp [upN_len]; omega) | (simp [idxBy_len]; omega) | (simp [marks_len]; omega) | (simp [upN_len]; done) | (simp [idxBy_len]; done) | (simp [marks_len]; done) | (simp at *; omega)) (by first | rfl | omega | (simp; done) | (simp; omega) | (simp [upN_len]; omega) | (simp [idxBy_len]; omega) | (simp [marks_len]; omega) | (simp [upN_len]; done) | (simp [idxBy_len]; done) | (simp [marks_len]; done) | (simp at *; omega)) rfl)) (fun h19 => ?_) (fun h19 => ?_)
        · refine LJ.yd rfl (Yd.not rfl) ?_
          refine LJ.nil ?_
          refine CJ.condF rfl ?_
          refine CJ.skip ?_
          refine CJ.region ?_
          refine LJ.yd rfl (Yd.add rfl rfl (by unfold I64; omega)) ?_
          refine LJ.yd rfl (Yd.mvI rfl) ?_
          refine LJ.nil ?_
          refine ⟨(k + 1), ?_, ⟨rfl, rfl, trivial⟩, ⟨rfl, trivial⟩, Ent.pick [] [0, 1] rfl, ?_⟩
          · refine ⟨by omega, ?_⟩
            intro z hz
            rw [takeC hu13, List.mem_append, List.mem_singleton] at hz
            rcases hz with hz | rfl
            · exact hi1 z hz
            · have := (timesOk_iff.1 h19).2; exact Job.ok_iff.2 (by have h1 := this z.Cut (by simp); have h2 := this z.Heat (by simp); omega)
          · first | omega | (dsimp only; omega) | (simp only []; omega)
        · refine LJ.yd rfl (Yd.not rfl) ?_
          refine LJ.nil ?_
          refine CJ.condT rfl ?_
          refine CJ.seq ?_
          refine CJ.region ?_
          refine LJ.yd rfl (Yd.asB rfl) ?_
          refine LJ.nil ?_
          refine CJ.ret ?_
          refine Fin.V (Res.one (ResV.tmp (v := .bool false) rfl)) ?_
          refine congrArg Value.bool (Eq.symm ?_)
          first
            | (refine Bool.eq_false_iff.2 fun h => ?_
               have h1 := (jobsOk_iff.1 h).2 u13 (List.mem_of_getElem? hu13)
               rw [timesOk_iff.2 ⟨by simp, fun z hz => by simp at hz; rcases hz with rfl | rfl <;> omega⟩] at h19; cases h19)
            | (refine Bool.eq_false_iff.2 fun h => ?_; have := (jobsOk_iff.1 h).1; omega)
            | (rw [List.take_of_length_le (by omega)] at hi1; exact jobsOk_iff.2 ⟨by omega, fun u hu => Job.ok_iff.1 (hi1 u hu)⟩)
      · refine LJ.nil ?_
        refine CJ.seq ?_
        refine CJ.condF rfl ?_
        refine CJ.exit ?_
        refine CJ.seq ?_
        refine CJ.region ?_
        refine LJ.yd rfl (Yd.asB rfl) ?_
        refine LJ.nil ?_
        refine CJ.ret ?_
        refine Fin.V (Res.one (ResV.tmp (v := .bool true) rfl)) ?_
        refine congrArg Value.bool (Eq.symm ?_)
        first
          | (refine Bool.eq_false_iff.2 fun h => ?_
             have h1 := (jobsOk_iff.1 h).2 u13 (List.mem_of_getElem? hu13)
             rw [timesOk_iff.2 ⟨by simp, fun z hz => by simp at hz; rcases hz with rfl | rfl <;> omega⟩] at h19; cases h19)
          | (refine Bool.eq_false_iff.2 fun h => ?_; have := (jobsOk_iff.1 h).1; omega)
          | (rw [List.take_of_length_le (by omega)] at hi1; exact jobsOk_iff.2 ⟨by omega, fun u hu => Job.ok_iff.1 (hi1 u hu)⟩)
theorem validJobs_ok {A : Amb} {v : Value} {l : List Job} (hl : RdL Job.enc 2 A.h v l) : Ctr Try.prog 53 #[v] A [] (Val (.bool (jobsOk l))) := by
  obtain ⟨la, lc, rfl, hlb, hl⟩ := hl.un
  refine Ctr.body (args := [_]) Try.func53 rfl Try.ntmps53 Try.results53 (by simp) ?_
  refine CJ.seq ?_
  refine CJ.region ?_
  refine LJ.yd rfl (Yd.asB rfl) ?_
  refine LJ.nil ?_
  refine CJ.seq ?_
  refine CJ.seq ?_
  refine CJ.region ?_
  refine LJ.yd rfl (Yd.asI rfl) ?_
  refine LJ.nil ?_
  refine CJ.block ?_
  refine CJ.loopK [0] Nat (fun k => k ≤ l.length ∧ ∀ z ∈ l.take k, z.ok = true) (fun k => [(3, vI k)]) (fun k => l.length - k) (0) ?_ ⟨rfl, trivial⟩ ?_
  · exact ⟨by omega, by simp⟩
  · rintro k σ ⟨hk1, hi1⟩
    refine CJ.seq ?_
    refine CJ.seq ?_
    refine CJ.region ?_
    refine LJ.yd rfl (Yd.mvI rfl) ?_
    refine LJ.yd rfl (Yd.mvS rfl) ?_
    refine LJ.yd rfl (Yd.len rfl) ?_
    refine LJ.splitD rfl (Yd.lss rfl rfl) (fun h7 => ?_) (fun h7 => ?_)
    · refine LJ.nil ?_
      refine CJ.condT rfl ?_
      refine CJ.skip ?_
      refine CJ.seq ?_
      refine CJ.block ?_
      refine CJ.seq ?_
      refine CJ.region ?_
      refine LJ.yd rfl (Yd.mvS rfl) ?_
      refine LJ.yd rfl (Yd.mvI rfl) ?_
      refine LJ.idxA rfl hl rfl rfl (by omega) (by first | rfl | omega | (simp; done) | (simp; omega) | (simp [upN_len]; omega) | (simp [idxBy_len]; omega) | (simp [marks_len]; omega) | (simp [upN_len]; done) | (simp [idxBy_len]; done) | (simp [marks_len]; done) | (simp at *; omega)) (fun ib12 io12 ia12 ir12 => ?_)
      refine LJ.yd rfl (Yd.fieldAddr rfl) ?_
      refine LJ.ldA 0 (fun u => vI u.Cut) (fun _ => rfl) ir12 rfl rfl rfl (by first | rfl | omega | (simp; done) | (simp; omega) | (simp [upN_len]; omega) | (simp [idxBy_len]; omega) | (simp [marks_len]; omega) | (simp [upN_len]; done) | (simp [idxBy_len]; done) | (simp [marks_len]; done) | (simp at *; omega)) (fun u14 hu14 => ?_)
      try simp only [Int.toNat_natCast] at hu14
      refine LJ.callB rfl (fun k hk dk => inRange_ok _ _ _ _) (fun h15 => ?_) (fun h15 => ?_)
      · refine LJ.yd rfl (Yd.not rfl) ?_
        refine LJ.yd rfl (Yd.mvB rfl) ?_
        refine LJ.gT rfl ?_
        refine LJ.yd rfl (Yd.mvS rfl) ?_
        refine LJ.gT rfl ?_
        refine LJ.yd rfl (Yd.mvI rfl) ?_
        refine LJ.gT rfl ?_
        refine LJ.idxA rfl hl rfl rfl (by omega) (by first | rfl | omega | (simp; done) | (simp; omega) | (simp [upN_len]; omega) | (simp [idxBy_len]; omega) | (simp [marks_len]; omega) | (simp [upN_len]; done) | (simp [idxBy_len]; done) | (simp [marks_len]; done) | (simp at *; omega)) (fun ib20 io20 ia20 ir20 => ?_)
        refine LJ.gT rfl ?_
        refine LJ.yd rfl (Yd.fieldAddr rfl) ?_
        refine LJ.gT rfl ?_
        refine LJ.ldA 1 (fun u => vI u.Heat) (fun _ => rfl) ir20 rfl rfl rfl (by first | rfl | omega | (simp; done) | (simp; omega) | (simp [upN_len]; omega) | (simp [idxBy_len]; omega) | (simp [marks_len]; omega) | (simp [upN_len]; done) | (simp [idxBy_len]; done) | (simp [marks_len]; done) | (simp at *; omega)) (fun u22 hu22 => ?_)
        try simp only [Int.toNat_natCast] at hu22
        refine LJ.gT rfl ?_
        refine LJ.callB rfl (fun k hk dk => inRange_ok _ _ _ _) (fun h23 => ?_) (fun h23 => ?_)
        · refine LJ.gT rfl ?_
          refine LJ.yd rfl (Yd.not rfl) ?_
          refine LJ.yd rfl (Yd.pickFB rfl rfl) ?_
          refine LJ.nil ?_
          refine CJ.condF rfl ?_
          refine CJ.skip ?_
          refine CJ.region ?_
          refine LJ.yd rfl (Yd.mvI rfl) ?_
          refine LJ.yd rfl (Yd.add rfl rfl (by unfold I64; omega)) ?_
          refine LJ.yd rfl (Yd.asI rfl) ?_
          refine LJ.nil ?_
          refine ⟨(k + 1), ?_, ⟨rfl, trivial⟩, ⟨rfl, trivial⟩, Ent.refl _, ?_⟩
          · refine ⟨by omega, ?_⟩
            intro z hz
            rw [takeC hu14, List.mem_append, List.mem_singleton] at hz
            have e : u22 = u14 := by rw [hu14] at hu22; exact (Option.some.inj hu22).symm
            rw [e] at h23
            simp only [Bool.and_eq_true, decide_eq_true_eq] at h15 h23
            rcases hz with hz | rfl
            · exact hi1 z hz
            · exact Job.ok_iff.2 (by omega)
          · first | omega | (dsimp only; omega) | (simp only []; omega)
        · refine LJ.gT rfl ?_
          refine LJ.yd rfl (Yd.not rfl) ?_
          refine LJ.yd rfl (Yd.pickFB rfl rfl) ?_
          refine LJ.nil ?_
          refine CJ.condT rfl ?_
          refine CJ.seq ?_
          refine CJ.region ?_
          refine LJ.yd rfl (Yd.asB rfl) ?_
          refine LJ.nil ?_
          refine CJ.ret ?_
          refine Fin.V (Res.one (ResV.tmp (v := .bool false) rfl)) ?_
          refine congrArg Value.bool (Eq.symm ?_)
          try simp only [Bool.and_eq_true, Bool.and_eq_false_iff, decide_eq_true_eq, decide_eq_false_iff_not] at *
          first
            | (refine Bool.eq_false_iff.2 fun h => ?_; have := (jobsOk_iff.1 h).2 u22 (List.mem_of_getElem? hu22); omega)
            | (refine Bool.eq_false_iff.2 fun h => ?_; have := (jobsOk_iff.1 h).2 u14 (List.mem_of_getElem? hu14); omega)
            | (refine Bool.eq_false_iff.2 fun h => ?_; have := (jobsOk_iff.1 h).1; omega)
            | (rw [List.take_of_length_le (by omega)] at hi1; exact jobsOk_iff.2 ⟨by omega, fun u hu => Job.ok_iff.1 (hi1 u hu)⟩)
      · refine LJ.yd rfl (Yd.not rfl) ?_
        refine LJ.yd rfl (Yd.mvB rfl) ?_
        refine LJ.gF rfl rfl ?_
        refine LJ.gF rfl rfl ?_
        refine LJ.gF rfl rfl ?_
        refine LJ.gF rfl rfl ?_
        refine LJ.gF rfl rfl ?_
        refine LJ.gF rfl rfl ?_
        refine LJ.gF rfl rfl ?_
        refine LJ.yd rfl (Yd.pickTB rfl rfl) ?_
        refine LJ.nil ?_
        refine CJ.condT rfl ?_
        refine CJ.seq ?_
        refine CJ.region ?_
        refine LJ.yd rfl (Yd.asB rfl) ?_
        refine LJ.nil ?_
        refine CJ.ret ?_
        refine Fin.V (Res.one (ResV.tmp (v := .bool false) rfl)) ?_
        refine congrArg Value.bool (Eq.symm ?_)
        try simp only [Bool.and_eq_true, Bool.and_eq_false_iff, decide_eq_true_eq, decide_eq_false_iff_not] at *
        first
          | (refine Bool.eq_false_iff.2 fun h => ?_; have := (jobsOk_iff.1 h).2 u22 (List.mem_of_getElem? hu22); omega)
          | (refine Bool.eq_false_iff.2 fun h => ?_; have := (jobsOk_iff.1 h).2 u14 (List.mem_of_getElem? hu14); omega)
          | (refine Bool.eq_false_iff.2 fun h => ?_; have := (jobsOk_iff.1 h).1; omega)
          | (rw [List.take_of_length_le (by omega)] at hi1; exact jobsOk_iff.2 ⟨by omega, fun u hu => Job.ok_iff.1 (hi1 u hu)⟩)
    · refine LJ.nil ?_
      refine CJ.condF rfl ?_
      refine CJ.exit ?_
      refine CJ.seq ?_
      refine CJ.region ?_
      refine LJ.yd rfl (Yd.mvS rfl) ?_
      refine LJ.yd rfl (Yd.len rfl) ?_
      refine LJ.splitD rfl (Yd.leq rfl rfl) (fun h28 => ?_) (fun h28 => ?_)
      · refine LJ.yd rfl (Yd.asB rfl) ?_
        refine LJ.nil ?_
        refine CJ.ret ?_
        refine Fin.V (Res.one (ResV.tmp (v := .bool true) rfl)) ?_
        refine congrArg Value.bool (Eq.symm ?_)
        try simp only [Bool.and_eq_true, Bool.and_eq_false_iff, decide_eq_true_eq, decide_eq_false_iff_not] at *
        first
          | (refine Bool.eq_false_iff.2 fun h => ?_; have := (jobsOk_iff.1 h).2 u22 (List.mem_of_getElem? hu22); omega)
          | (refine Bool.eq_false_iff.2 fun h => ?_; have := (jobsOk_iff.1 h).2 u14 (List.mem_of_getElem? hu14); omega)
          | (refine Bool.eq_false_iff.2 fun h => ?_; have := (jobsOk_iff.1 h).1; omega)
          | (rw [List.take_of_length_le (by omega)] at hi1; exact jobsOk_iff.2 ⟨by omega, fun u hu => Job.ok_iff.1 (hi1 u hu)⟩)
      · refine LJ.yd rfl (Yd.asB rfl) ?_
        refine LJ.nil ?_
        refine CJ.ret ?_
        refine Fin.V (Res.one (ResV.tmp (v := .bool false) rfl)) ?_
        refine congrArg Value.bool (Eq.symm ?_)
        try simp only [Bool.and_eq_true, Bool.and_eq_false_iff, decide_eq_true_eq, decide_eq_false_iff_not] at *
        first
          | (refine Bool.eq_false_iff.2 fun h => ?_; have := (jobsOk_iff.1 h).2 u22 (List.mem_of_getElem? hu22); omega)
          | (refine Bool.eq_false_iff.2 fun h => ?_; have := (jobsOk_iff.1 h).2 u14 (List.mem_of_getElem? hu14); omega)
          | (refine Bool.eq_false_iff.2 fun h => ?_; have := (jobsOk_iff.1 h).1; omega)
          | (rw [List.take_of_length_le (by omega)] at hi1; exact jobsOk_iff.2 ⟨by omega, fun u hu => Job.ok_iff.1 (hi1 u hu)⟩)
/-- the comparison of jobs -/
def cmpJ (a b : Job) : Int := if a.Cut < a.Heat ∧ b.Cut < b.Heat then a.Cut - b.Cut else if a.Cut < a.Heat then -1 else if b.Cut < b.Heat then 1 else b.Heat - a.Heat
theorem compareJobs_ok {A : Amb} {a b : Job} (ha : a.ok = true) (hb : b.ok = true) : Ctr Try.prog 57 #[.agg #[vI a.Cut, vI a.Heat], .agg #[vI b.Cut, vI b.Heat]] A [] (Val (vI (cmpJ a b))) := by
  have ha := Job.ok_iff.1 ha
  have hb := Job.ok_iff.1 hb
  refine Ctr.body (args := [_, _]) Try.func57 rfl Try.ntmps57 Try.results57 (by simp) ?_
  refine CJ.seq ?_
  refine CJ.region ?_
  refine LJ.boxG (vs := [_, _]) rfl rfl (fun b1 => ?_)
  refine LJ.boxG (vs := [_, _]) rfl rfl (fun b2 => ?_)
  refine LJ.yd rfl (Yd.asI rfl) ?_
  refine LJ.nil ?_
  refine CJ.seq ?_
  refine CJ.regionD [0, 1] [] (by kernel_rfl) rfl ?_
  refine DJ.norm [_, _] [] rfl rfl ?_
  refine DJ.yd 0 rfl (by kernel_rfl) (by kernel_rfl) (by kernel_rfl) rfl rfl (Yd.fieldAddr rfl) ?_
  refine DJ.yd 1 rfl (by kernel_rfl) (by kernel_rfl) (by kernel_rfl) rfl rfl (Yd.loadC 0 rfl rfl rfl) ?_
  refine DJ.yd 2 rfl (by kernel_rfl) (by kernel_rfl) (by kernel_rfl) rfl rfl (Yd.fieldAddr rfl) ?_
  refine DJ.yd 3 rfl (by kernel_rfl) (by kernel_rfl) (by kernel_rfl) rfl rfl (Yd.loadC 0 rfl rfl rfl) ?_
  refine DJ.splitD 4 rfl (by kernel_rfl) (by kernel_rfl) (by kernel_rfl) rfl rfl (Yd.lss rfl rfl) (fun h11 => ?_) (fun h11 => ?_)
  · refine DJ.yd 5 rfl (by kernel_rfl) (by kernel_rfl) (by kernel_rfl) rfl rfl (Yd.fieldAddr rfl) ?_
    refine DJ.yd 6 rfl (by kernel_rfl) (by kernel_rfl) (by kernel_rfl) rfl rfl (Yd.loadC 1 rfl rfl rfl) ?_
    refine DJ.yd 7 rfl (by kernel_rfl) (by kernel_rfl) (by kernel_rfl) rfl rfl (Yd.fieldAddr rfl) ?_
    refine DJ.yd 8 rfl (by kernel_rfl) (by kernel_rfl) (by kernel_rfl) rfl rfl (Yd.loadC 1 rfl rfl rfl) ?_
    refine DJ.splitD 9 rfl (by kernel_rfl) (by kernel_rfl) (by kernel_rfl) rfl rfl (Yd.lss rfl rfl) (fun h16 => ?_) (fun h16 => ?_)
    · refine DJ.yd 10 rfl (by kernel_rfl) (by kernel_rfl) (by kernel_rfl) rfl rfl (Yd.asB rfl) ?_
      refine DJ.yd 11 rfl (by kernel_rfl) (by kernel_rfl) (by kernel_rfl) rfl rfl (Yd.asB rfl) ?_
      refine DJ.done (by kernel_rfl) ?_
      refine CJ.seq ?_
      refine CJ.block ?_
      refine CJ.seq ?_
      refine CJ.region ?_
      refine LJ.yd rfl (Yd.mvB rfl) ?_
      refine LJ.yd rfl (Yd.mvB rfl) ?_
      refine LJ.gT rfl ?_
      refine LJ.yd rfl (Yd.mvB rfl) ?_
      refine LJ.yd rfl (Yd.pickTB rfl rfl) ?_
      refine LJ.yd rfl (Yd.asB rfl) ?_
      refine LJ.nil ?_
      refine CJ.condT rfl ?_
      refine CJ.seq ?_
      refine CJ.region ?_
      refine LJ.yd rfl (Yd.fieldAddr rfl) ?_
      refine LJ.yd rfl (Yd.loadC 0 rfl rfl rfl) ?_
      refine LJ.yd rfl (Yd.fieldAddr rfl) ?_
      refine LJ.yd rfl (Yd.loadC 1 rfl rfl rfl) ?_
      refine LJ.yd rfl (Yd.sub rfl rfl (by unfold I64; omega)) ?_
      refine LJ.yd rfl (Yd.asI rfl) ?_
      refine LJ.nil ?_
      refine CJ.ret ?_
      refine Fin.V (Res.one (ResV.tmp (v := .int _ _) rfl)) ?_
      refine congrArg vI (Eq.symm ?_); unfold cmpJ; simp [*]
    · refine DJ.yd 10 rfl (by kernel_rfl) (by kernel_rfl) (by kernel_rfl) rfl rfl (Yd.asB rfl) ?_
      refine DJ.yd 11 rfl (by kernel_rfl) (by kernel_rfl) (by kernel_rfl) rfl rfl (Yd.asB rfl) ?_
      refine DJ.done (by kernel_rfl) ?_
      refine CJ.seq ?_
      refine CJ.block ?_
      refine CJ.seq ?_
      refine CJ.region ?_
      refine LJ.yd rfl (Yd.mvB rfl) ?_
      refine LJ.yd rfl (Yd.mvB rfl) ?_
      refine LJ.gT rfl ?_
      refine LJ.yd rfl (Yd.mvB rfl) ?_
      refine LJ.yd rfl (Yd.pickTB rfl rfl) ?_
      refine LJ.yd rfl (Yd.asB rfl) ?_
      refine LJ.nil ?_
      refine CJ.condF rfl ?_
      refine CJ.seq ?_
      refine CJ.region ?_
      refine LJ.yd rfl (Yd.mvB rfl) ?_
      refine LJ.yd rfl (Yd.asB rfl) ?_
      refine LJ.nil ?_
      refine CJ.condT rfl ?_
      refine CJ.seq ?_
      refine CJ.region ?_
      refine LJ.yd rfl (Yd.asI rfl) ?_
      refine LJ.nil ?_
      refine CJ.ret ?_
      refine Fin.V (Res.one (ResV.tmp (v := .int _ _) rfl)) ?_
      refine congrArg vI (Eq.symm ?_); unfold cmpJ; simp [*]
  · refine DJ.yd 5 rfl (by kernel_rfl) (by kernel_rfl) (by kernel_rfl) rfl rfl (Yd.fieldAddr rfl) ?_
    refine DJ.yd 6 rfl (by kernel_rfl) (by kernel_rfl) (by kernel_rfl) rfl rfl (Yd.loadC 1 rfl rfl rfl) ?_
    refine DJ.yd 7 rfl (by kernel_rfl) (by kernel_rfl) (by kernel_rfl) rfl rfl (Yd.fieldAddr rfl) ?_
    refine DJ.yd 8 rfl (by kernel_rfl) (by kernel_rfl) (by kernel_rfl) rfl rfl (Yd.loadC 1 rfl rfl rfl) ?_
    refine DJ.splitD 9 rfl (by kernel_rfl) (by kernel_rfl) (by kernel_rfl) rfl rfl (Yd.lss rfl rfl) (fun h16 => ?_) (fun h16 => ?_)
    · refine DJ.yd 10 rfl (by kernel_rfl) (by kernel_rfl) (by kernel_rfl) rfl rfl (Yd.asB rfl) ?_
      refine DJ.yd 11 rfl (by kernel_rfl) (by kernel_rfl) (by kernel_rfl) rfl rfl (Yd.asB rfl) ?_
      refine DJ.done (by kernel_rfl) ?_
      refine CJ.seq ?_
      refine CJ.block ?_
      refine CJ.seq ?_
      refine CJ.region ?_
      refine LJ.yd rfl (Yd.mvB rfl) ?_
      refine LJ.yd rfl (Yd.mvB rfl) ?_
      refine LJ.gF rfl rfl ?_
      refine LJ.yd rfl (Yd.pickFB rfl rfl) ?_
      refine LJ.yd rfl (Yd.asB rfl) ?_
      refine LJ.nil ?_
      refine CJ.condF rfl ?_
      refine CJ.seq ?_
      refine CJ.region ?_
      refine LJ.yd rfl (Yd.mvB rfl) ?_
      refine LJ.yd rfl (Yd.asB rfl) ?_
      refine LJ.nil ?_
      refine CJ.condF rfl ?_
      refine CJ.seq ?_
      refine CJ.region ?_
      refine LJ.yd rfl (Yd.mvB rfl) ?_
      refine LJ.yd rfl (Yd.asB rfl) ?_
      refine LJ.nil ?_
      refine CJ.condT rfl ?_
      refine CJ.seq ?_
      refine CJ.region ?_
      refine LJ.yd rfl (Yd.asI rfl) ?_
      refine LJ.nil ?_
      refine CJ.ret ?_
      refine Fin.V (Res.one (ResV.tmp (v := .int _ _) rfl)) ?_
      refine congrArg vI (Eq.symm ?_); unfold cmpJ; simp [*]
    · refine DJ.yd 10 rfl (by kernel_rfl) (by kernel_rfl) (by kernel_rfl) rfl rfl (Yd.asB rfl) ?_
      refine DJ.yd 11 rfl (by kernel_rfl) (by kernel_rfl) (by kernel_rfl) rfl rfl (Yd.asB rfl) ?_
      refine DJ.done (by kernel_rfl) ?_
      refine CJ.seq ?_
      refine CJ.block ?_
      refine CJ.seq ?_
      refine CJ.region ?_
      refine LJ.yd rfl (Yd.mvB rfl) ?_
      refine LJ.yd rfl (Yd.mvB rfl) ?_
      refine LJ.gF rfl rfl ?_
      refine LJ.yd rfl (Yd.pickFB rfl rfl) ?_
      refine LJ.yd rfl (Yd.asB rfl) ?_
      refine LJ.nil ?_
      refine CJ.condF rfl ?_
      refine CJ.seq ?_
      refine CJ.region ?_
      refine LJ.yd rfl (Yd.mvB rfl) ?_
      refine LJ.yd rfl (Yd.asB rfl) ?_
      refine LJ.nil ?_
      refine CJ.condF rfl ?_
      refine CJ.seq ?_
      refine CJ.region ?_
      refine LJ.yd rfl (Yd.mvB rfl) ?_
      refine LJ.yd rfl (Yd.asB rfl) ?_
      refine LJ.nil ?_
      refine CJ.condF rfl ?_
      refine CJ.skip ?_
      refine CJ.seq ?_
      refine CJ.region ?_
      refine LJ.yd rfl (Yd.fieldAddr rfl) ?_
      refine LJ.yd rfl (Yd.loadC 1 rfl rfl rfl) ?_
      refine LJ.yd rfl (Yd.fieldAddr rfl) ?_
      refine LJ.yd rfl (Yd.loadC 0 rfl rfl rfl) ?_
      refine LJ.yd rfl (Yd.sub rfl rfl (by unfold I64; omega)) ?_
      refine LJ.yd rfl (Yd.asI rfl) ?_
      refine LJ.nil ?_
      refine CJ.ret ?_
      refine Fin.V (Res.one (ResV.tmp (v := .int _ _) rfl)) ?_
      refine congrArg vI (Eq.symm ?_); unfold cmpJ; simp [*]
abbrev gj (l : List Job) (x : Int) : Job := l.getD x.toNat ⟨0, 0⟩
theorem gjC {l : List Job} {x : Int} {u : Job} (h : l[x.toNat]? = some u) : gj l x = u := by simp [gj, List.getD_eq_getElem?_getD, h]
theorem gjC' {l : List Job} {k : Nat} {u : Job} (h : l[k]? = some u) : gj l k = u := by simp [gj, List.getD_eq_getElem?_getD, h]
def ltJ (l : List Job) (x y : Int) : Bool := decide (cmpJ (gj l x) (gj l y) < 0)
theorem jobCmp {A : Amb} {b lc : Nat} {la : Option Addr} {l : List Job} (hcell : A.h.cell ⟨b, 0, none⟩ = some (.slice la l.length lc)) (hl : RdL Job.enc 2 A.h (.slice la l.length lc) l) (hb : ∀ u ∈ l, u.ok = true) :
    Cmp A 56 [.pointer (some ⟨b, 0, none⟩)] (fun x => 0 ≤ x ∧ x < l.length) (ltJ l) := by
  intro B hB x y hx hy
  replace hl : RdL Job.enc 2 B.h (.slice la l.length lc) l := hl.up
  replace hcell := Hp.cell_le hB.le hcell
  refine Ctr.body (args := [_, _, _]) Try.func56 rfl Try.ntmps56 Try.results56 (by simp) ?_
  refine CJ.seq ?_
  refine CJ.region ?_
  refine LJ.yd rfl (Yd.asI rfl) ?_
  refine LJ.nil ?_
  refine CJ.seq ?_
  refine CJ.regionD [] [] (by kernel_rfl) rfl ?_
  refine DJ.norm [] [] rfl rfl ?_
  refine DJ.yd 0 rfl (by kernel_rfl) (by kernel_rfl) (by kernel_rfl) rfl rfl (Yd.load rfl (Rdc.amb hcell)) ?_
  refine DJ.yd 1 rfl (by kernel_rfl) (by kernel_rfl) (by kernel_rfl) rfl rfl (Yd.mvI rfl) ?_
  refine DJ.idxA 2 rfl (by kernel_rfl) (by kernel_rfl) (by kernel_rfl) rfl rfl hl rfl rfl (by omega) (by first | rfl | omega | (simp; done) | (simp; omega) | (simp [upN_len]; omega) | (simp [idxBy_len]; omega) | (simp [marks_len]; omega) | (simp [upN_len]; done) | (simp [idxBy_len]; done) | (simp [marks_len]; done) | (simp at *; omega)) (fun ib8 io8 ia8 ir8 => ?_)
  refine DJ.lgA 3 rfl (by kernel_rfl) (by kernel_rfl) (by kernel_rfl) rfl rfl (enc := Job.enc) (fun u => [vI u.Cut, vI u.Heat]) (fun _ => rfl) (fun _ => rfl) ir8 rfl rfl (by first | rfl | omega | (simp; done) | (simp; omega) | (simp [upN_len]; omega) | (simp [idxBy_len]; omega) | (simp [marks_len]; omega) | (simp [upN_len]; done) | (simp [idxBy_len]; done) | (simp [marks_len]; done) | (simp at *; omega)) (fun u9 hu9 => ?_)
  try simp only [Int.toNat_natCast] at hu9
  have hf9 := hb u9 (List.mem_of_getElem? hu9)
  refine DJ.yd 4 rfl (by kernel_rfl) (by kernel_rfl) (by kernel_rfl) rfl rfl (Yd.load rfl (Rdc.amb hcell)) ?_
  refine DJ.yd 5 rfl (by kernel_rfl) (by kernel_rfl) (by kernel_rfl) rfl rfl (Yd.mvI rfl) ?_
  refine DJ.idxA 6 rfl (by kernel_rfl) (by kernel_rfl) (by kernel_rfl) rfl rfl hl rfl rfl (by omega) (by first | rfl | omega | (simp; done) | (simp; omega) | (simp [upN_len]; omega) | (simp [idxBy_len]; omega) | (simp [marks_len]; omega) | (simp [upN_len]; done) | (simp [idxBy_len]; done) | (simp [marks_len]; done) | (simp at *; omega)) (fun ib12 io12 ia12 ir12 => ?_)
  refine DJ.lgA 7 rfl (by kernel_rfl) (by kernel_rfl) (by kernel_rfl) rfl rfl (enc := Job.enc) (fun u => [vI u.Cut, vI u.Heat]) (fun _ => rfl) (fun _ => rfl) ir12 rfl rfl (by first | rfl | omega | (simp; done) | (simp; omega) | (simp [upN_len]; omega) | (simp [idxBy_len]; omega) | (simp [marks_len]; omega) | (simp [upN_len]; done) | (simp [idxBy_len]; done) | (simp [marks_len]; done) | (simp at *; omega)) (fun u13 hu13 => ?_)
  try simp only [Int.toNat_natCast] at hu13
  have hf13 := hb u13 (List.mem_of_getElem? hu13)
  refine DJ.one (i := 8) (by kernel_rfl) ?_
  refine DO.callV rfl rfl rfl (fun k0 hk0 dk0 k hk dk => compareJobs_ok hf9 hf13) ?_
  refine DJ.yd 9 rfl (by kernel_rfl) (by kernel_rfl) (by kernel_rfl) rfl rfl (Yd.asI rfl) ?_
  refine DJ.done (by kernel_rfl) ?_
  refine CJ.ret ?_
  exact Fin.R [] (Res.one (ResV.tmp (v := .int _ _) rfl)) ⟨_, rfl, rfl, by rw [ltJ, gjC hu9, gjC hu13, decide_eq_true_iff]⟩ (Ent.refl _)
def boR (l : List Job) : List Int := if jobsOk l = true then idxBy (ltJ l) l.length else []
theorem BestOrderI_ok {A : Amb} {v : Value} {l : List Job} (hl : RdL Job.enc 2 A.h v l) : Ctr Try.prog 30 #[v] A [] (RLP encI 3 1 (boR l)) := by
  obtain ⟨la, lc, rfl, hlb, hl⟩ := hl.un
  refine Ctr.body (args := [_]) Try.func30 rfl Try.ntmps30 Try.results30 (by simp) ?_
  refine CJ.seq ?_
  refine CJ.region ?_
  refine LJ.box1 (v := .slice _ _ _) rfl rfl rfl (fun b1 => ?_)
  refine LJ.yd rfl (Yd.asS rfl) ?_
  refine LJ.nil ?_
  refine CJ.seq ?_
  refine CJ.seq ?_
  refine CJ.region ?_
  refine LJ.yd rfl (Yd.loadC 0 rfl rfl rfl) ?_
  refine LJ.callB rfl (fun k hk dk => ValidJobs_ok hl.up) (fun h4 => ?_) (fun h4 => ?_)
  · refine LJ.yd rfl (Yd.not rfl) ?_
    refine LJ.nil ?_
    refine CJ.condF rfl ?_
    refine CJ.skip ?_
    refine CJ.seq ?_
    refine CJ.region ?_
    refine LJ.yd rfl (Yd.loadC 0 rfl rfl rfl) ?_
    refine LJ.yd rfl (Yd.len rfl) ?_
    refine LJ.yd rfl (Yd.makeFunc rfl) ?_
    refine LJ.call0 rfl (fun k hk dk => indicesBy_ok (jobCmp (Sts.cel hk dk 0 rfl rfl) hl.up (fun u hu => Job.ok_iff.2 ((jobsOk_iff.1 h4).2 u hu))) (by have := (jobsOk_iff.1 h4).1; omega)) ?_
    rintro _ _ ⟨ra9, rc9, rfl, rfl⟩
    refine LJ.norm [_, _] rfl ?_
    refine LJ.yd rfl (Yd.asS rfl) ?_
    refine LJ.nil ?_
    refine CJ.ret ?_
    refine Fin.RL 1 (Res.one (ResV.tmp (v := .slice _ _ _) rfl)) rfl (by first | rfl | omega | (simp; done) | (simp; omega) | (simp [upN_len]; omega) | (simp [idxBy_len]; omega) | (simp [marks_len]; omega) | (simp [upN_len]; done) | (simp [idxBy_len]; done) | (simp [marks_len]; done) | (simp at *; omega)) ?_
    first
      | (unfold boR; rw [if_pos h4]; done)
      | (unfold boR; rw [if_neg (by rw [h4]; simp)]; done)
  · refine LJ.yd rfl (Yd.not rfl) ?_
    refine LJ.nil ?_
    refine CJ.condT rfl ?_
    refine CJ.seq ?_
    refine CJ.region ?_
    refine LJ.yd rfl (Yd.asS rfl) ?_
    refine LJ.nil ?_
    refine CJ.ret ?_
    refine Fin.RN (Res.one (ResV.tmp (v := .slice _ _ _) rfl)) ?_
    first
      | (unfold boR; rw [if_pos h4]; done)
      | (unfold boR; rw [if_neg (by rw [h4]; simp)]; done)
end Go.Proofs.Ytbgalcjkmgdaiaa
