/-
  Contracts: times, groups, the groups of a furnace.
-/
import Derived.Test.YtlknglhldfpbdaaA4
namespace Go.Proofs.Ytlknglhldfpbdaa
open Go
set_option maxRecDepth 20000
set_option maxHeartbeats 1000000

def timesOk (l : List Int) : Bool := decide (l.length ≤ 16) && l.all fun u => decide (0 ≤ u ∧ u ≤ 500)
theorem timesOk_iff {l : List Int} : timesOk l = true ↔ l.length ≤ 16 ∧ ∀ u ∈ l, 0 ≤ u ∧ u ≤ 500 := by
  simp only [timesOk, Bool.and_eq_true, decide_eq_true_eq, List.all_eq_true]
theorem validTimes_ok {A : Amb} {v : Value} {l : List Int} (hl : RdL encI 1 A.h v l) : Ctr Try.prog 54 #[v] A [] (Val (.bool (timesOk l))) := by
  obtain ⟨la, lc, rfl, hlb, hl⟩ := hl.un
  refine Ctr.body (args := [_]) Try.func54 rfl Try.ntmps54 Try.results54 (by simp) ?_
  refine CJ.seq ?_
  refine CJ.region ?_
  refine LJ.yd rfl (Yd.asB rfl) ?_
  refine LJ.nil ?_
  refine CJ.seq ?_
  refine CJ.seq ?_
  refine CJ.region ?_
  refine LJ.yd rfl (Yd.mvS rfl) ?_
  refine LJ.yd rfl (Yd.len rfl) ?_
  refine LJ.splitD rfl (Yd.gtr rfl rfl) (fun h7 => ?_) (fun h7 => ?_)
  · refine LJ.nil ?_
    refine CJ.condT rfl ?_
    refine CJ.seq ?_
    refine CJ.region ?_
    refine LJ.yd rfl (Yd.asB rfl) ?_
    refine LJ.nil ?_
    refine CJ.ret ?_
    refine Fin.V (Res.one (ResV.tmp (v := .bool false) rfl)) ?_
    refine congrArg Value.bool (Eq.symm ?_)
    first
      | (refine Bool.eq_false_iff.2 fun h => ?_; have := (timesOk_iff.1 h).2 u13 (List.mem_of_getElem? hu13); omega)
      | (refine Bool.eq_false_iff.2 fun h => ?_; have := (timesOk_iff.1 h).1; omega)
      | (rw [List.take_of_length_le (by omega)] at hi1; exact timesOk_iff.2 ⟨by omega, hi1⟩)
  · refine LJ.nil ?_
    refine CJ.condF rfl ?_
    refine CJ.skip ?_
    refine CJ.seq ?_
    refine CJ.seq ?_
    refine CJ.region ?_
    refine LJ.yd rfl (Yd.mvS rfl) ?_
    refine LJ.yd rfl (Yd.len rfl) ?_
    refine LJ.yd rfl (Yd.mvI rfl) ?_
    refine LJ.nil ?_
    refine CJ.block ?_
    refine CJ.loopK [8, 9] Nat (fun k => k ≤ l.length ∧ ∀ z ∈ l.take k, 0 ≤ z ∧ z ≤ 500) (fun k => [(10, vI k)]) (fun k => l.length - k) (0) ?_ ⟨rfl, trivial⟩ ?_
    · exact ⟨by omega, by simp⟩
    · rintro k σ ⟨hk1, hi1⟩
      refine CJ.seq ?_
      refine CJ.region ?_
      refine LJ.splitD rfl (Yd.lss rfl rfl) (fun h11 => ?_) (fun h11 => ?_)
      · refine LJ.nil ?_
        refine CJ.seq ?_
        refine CJ.condT rfl ?_
        refine CJ.skip ?_
        refine CJ.seq ?_
        refine CJ.block ?_
        refine CJ.seq ?_
        refine CJ.region ?_
        refine LJ.idxA rfl hl rfl rfl (by omega) (by first | rfl | omega | (simp; done) | (simp; omega) | (simp [upN_len, idxBy_len, marks_len]; done) | (simp [upN_len, idxBy_len, marks_len]; omega) | (simp at *; omega)) (fun ib12 io12 ia12 ir12 => ?_)
        refine LJ.ldA 0 (fun u => vI u) (fun _ => rfl) ir12 rfl rfl rfl (by first | rfl | omega | (simp; done) | (simp; omega) | (simp [upN_len, idxBy_len, marks_len]; done) | (simp [upN_len, idxBy_len, marks_len]; omega) | (simp at *; omega)) (fun u13 hu13 => ?_)
        try simp only [Int.toNat_natCast] at hu13
        refine LJ.yd rfl (Yd.asI rfl) ?_
        refine LJ.nil ?_
        refine CJ.seq ?_
        refine CJ.region ?_
        refine LJ.yd rfl (Yd.mvI rfl) ?_
        refine LJ.splitD rfl (Yd.lss rfl rfl) (fun h15 => ?_) (fun h15 => ?_)
        · refine LJ.yd rfl (Yd.mvB rfl) ?_
          refine LJ.gF rfl rfl ?_
          refine LJ.gF rfl rfl ?_
          refine LJ.yd rfl (Yd.pickTB rfl rfl) ?_
          refine LJ.nil ?_
          refine CJ.condT rfl ?_
          refine CJ.seq ?_
          refine CJ.region ?_
          refine LJ.yd rfl (Yd.asB rfl) ?_
          refine LJ.nil ?_
          refine CJ.ret ?_
          refine Fin.V (Res.one (ResV.tmp (v := .bool false) rfl)) ?_
          refine congrArg Value.bool (Eq.symm ?_)
          first
            | (refine Bool.eq_false_iff.2 fun h => ?_; have := (timesOk_iff.1 h).2 u13 (List.mem_of_getElem? hu13); omega)
            | (refine Bool.eq_false_iff.2 fun h => ?_; have := (timesOk_iff.1 h).1; omega)
            | (rw [List.take_of_length_le (by omega)] at hi1; exact timesOk_iff.2 ⟨by omega, hi1⟩)
        · refine LJ.yd rfl (Yd.mvB rfl) ?_
          refine LJ.gT rfl ?_
          refine LJ.yd rfl (Yd.mvI rfl) ?_
          refine LJ.gT rfl ?_
          refine LJ.splitD rfl (Yd.gtr rfl rfl) (fun h18 => ?_) (fun h18 => ?_)
          · refine LJ.yd rfl (Yd.pickFB rfl rfl) ?_
            refine LJ.nil ?_
            refine CJ.condT rfl ?_
            refine CJ.seq ?_
            refine CJ.region ?_
            refine LJ.yd rfl (Yd.asB rfl) ?_
            refine LJ.nil ?_
            refine CJ.ret ?_
            refine Fin.V (Res.one (ResV.tmp (v := .bool false) rfl)) ?_
            refine congrArg Value.bool (Eq.symm ?_)
            first
              | (refine Bool.eq_false_iff.2 fun h => ?_; have := (timesOk_iff.1 h).2 u13 (List.mem_of_getElem? hu13); omega)
              | (refine Bool.eq_false_iff.2 fun h => ?_; have := (timesOk_iff.1 h).1; omega)
              | (rw [List.take_of_length_le (by omega)] at hi1; exact timesOk_iff.2 ⟨by omega, hi1⟩)
          · refine LJ.yd rfl (Yd.pickFB rfl rfl) ?_
            refine LJ.nil ?_
            refine CJ.condF rfl ?_
            refine CJ.skip ?_
            refine CJ.region ?_
            refine LJ.yd rfl (Yd.add rfl rfl (by unfold I64; omega)) ?_
            refine LJ.yd rfl (Yd.mvI rfl) ?_
            refine LJ.nil ?_
            refine ⟨(k + 1), ?_, ⟨rfl, rfl, trivial⟩, ⟨rfl, trivial⟩, Ent.refl _, ?_⟩
            · refine ⟨by omega, ?_⟩
              intro z hz
              rw [takeC hu13, List.mem_append, List.mem_singleton] at hz
              rcases hz with hz | rfl
              · exact hi1 z hz
              · omega
            · first | omega | (dsimp only; omega) | (simp only []; omega)
      · refine LJ.nil ?_
        refine CJ.seq ?_
        refine CJ.condF rfl ?_
        refine CJ.exit ?_
        refine CJ.seq ?_
        refine CJ.region ?_
        refine LJ.yd rfl (Yd.asB rfl) ?_
        refine LJ.nil ?_
        refine CJ.ret ?_
        refine Fin.V (Res.one (ResV.tmp (v := .bool true) rfl)) ?_
        refine congrArg Value.bool (Eq.symm ?_)
        first
          | (refine Bool.eq_false_iff.2 fun h => ?_; have := (timesOk_iff.1 h).2 u13 (List.mem_of_getElem? hu13); omega)
          | (refine Bool.eq_false_iff.2 fun h => ?_; have := (timesOk_iff.1 h).1; omega)
          | (rw [List.take_of_length_le (by omega)] at hi1; exact timesOk_iff.2 ⟨by omega, hi1⟩)
/-- how often a number is in a list -/
def cntI (x : Int) : List Int → Int
  | [] => 0
  | u :: r => (if u = x then 1 else 0) + cntI x r
theorem cntI_le (x : Int) : ∀ l : List Int, 0 ≤ cntI x l ∧ cntI x l ≤ l.length
  | [] => by simp [cntI]
  | u :: r => by have := cntI_le x r; simp only [cntI, List.length_cons]; split <;> omega
theorem cntI_append (x : Int) : ∀ a b : List Int, cntI x (a ++ b) = cntI x a + cntI x b
  | [], b => by simp [cntI]
  | u :: r, b => by simp only [List.cons_append, cntI, cntI_append x r b]; omega
def grpOk (times groups : List Int) (room : Int) : Bool := timesOk times && (decide (groups.length = times.length ∧ 1 ≤ room ∧ room ≤ 16) && groups.all fun g => decide (0 ≤ g ∧ g ≤ 15 ∧ cntI g groups ≤ room))
theorem grpOk_iff {times groups : List Int} {room : Int} : grpOk times groups room = true ↔ (times.length ≤ 16 ∧ ∀ u ∈ times, 0 ≤ u ∧ u ≤ 500) ∧ (groups.length = times.length ∧ 1 ≤ room ∧ room ≤ 16) ∧ ∀ g ∈ groups, 0 ≤ g ∧ g ≤ 15 ∧ cntI g groups ≤ room := by
  simp only [grpOk, Bool.and_eq_true, decide_eq_true_eq, List.all_eq_true, timesOk_iff]
theorem validGroups_ok {A : Amb} {v w : Value} {times groups : List Int} {room : Int} (hl : RdL encI 1 A.h v times) (hg : RdL encI 1 A.h w groups) : Ctr Try.prog 51 #[v, w, vI room] A [] (Val (.bool (grpOk times groups room))) := by
  obtain ⟨la, lc, rfl, hlb, hl⟩ := hl.un
  obtain ⟨ga, gc, rfl, hgb, hg⟩ := hg.un
  refine Ctr.body (args := [_, _, _]) Try.func51 rfl Try.ntmps51 Try.results51 (by simp) ?_
  refine CJ.seq ?_
  refine CJ.region ?_
  refine LJ.yd rfl (Yd.asB rfl) ?_
  refine LJ.nil ?_
  refine CJ.seq ?_
  refine CJ.seq ?_
  refine CJ.region ?_
  refine LJ.yd rfl (Yd.asI rfl) ?_
  refine LJ.nil ?_
  refine CJ.block ?_
  refine CJ.loopK [0, 1, 2] Nat (fun k => k ≤ times.length ∧ ∀ z ∈ times.take k, 0 ≤ z ∧ z ≤ 500) (fun k => [(7, vI k)]) (fun k => times.length - k) (0) ?_ ⟨rfl, trivial⟩ ?_
  · exact ⟨by omega, by simp⟩
  · rintro k σ ⟨hk1, hi1⟩
    refine CJ.seq ?_
    refine CJ.seq ?_
    refine CJ.region ?_
    refine LJ.yd rfl (Yd.mvI rfl) ?_
    refine LJ.yd rfl (Yd.mvS rfl) ?_
    refine LJ.yd rfl (Yd.len rfl) ?_
    refine LJ.splitD rfl (Yd.lss rfl rfl) (fun h14 => ?_) (fun h14 => ?_)
    · refine LJ.nil ?_
      refine CJ.condT rfl ?_
      refine CJ.skip ?_
      refine CJ.seq ?_
      refine CJ.block ?_
      refine CJ.seq ?_
      refine CJ.region ?_
      refine LJ.yd rfl (Yd.mvS rfl) ?_
      refine LJ.yd rfl (Yd.mvI rfl) ?_
      refine LJ.idxA rfl hl rfl rfl (by omega) (by first | rfl | omega | (simp; done) | (simp; omega) | (simp [upN_len, idxBy_len, marks_len]; done) | (simp [upN_len, idxBy_len, marks_len]; omega) | (simp at *; omega)) (fun ib19 io19 ia19 ir19 => ?_)
      refine LJ.ldA 0 (fun u => vI u) (fun _ => rfl) ir19 rfl rfl rfl (by first | rfl | omega | (simp; done) | (simp; omega) | (simp [upN_len, idxBy_len, marks_len]; done) | (simp [upN_len, idxBy_len, marks_len]; omega) | (simp at *; omega)) (fun u20 hu20 => ?_)
      try simp only [Int.toNat_natCast] at hu20
      refine LJ.callB rfl (fun k hk dk => inRange_ok _ _ _ _) (fun h21 => ?_) (fun h21 => ?_)
      · refine LJ.yd rfl (Yd.not rfl) ?_
        refine LJ.nil ?_
        refine CJ.condF rfl ?_
        refine CJ.skip ?_
        refine CJ.region ?_
        refine LJ.yd rfl (Yd.mvI rfl) ?_
        refine LJ.yd rfl (Yd.add rfl rfl (by unfold I64; omega)) ?_
        refine LJ.yd rfl (Yd.asI rfl) ?_
        refine LJ.nil ?_
        refine ⟨(k + 1), ?_, ⟨rfl, rfl, rfl, trivial⟩, ⟨rfl, trivial⟩, Ent.refl _, ?_⟩
        · refine ⟨by omega, ?_⟩
          intro z hz
          rw [takeC hu20, List.mem_append, List.mem_singleton] at hz
          simp only [Bool.and_eq_true, decide_eq_true_eq] at h21
          rcases hz with hz | rfl
          · exact hi1 z hz
          · exact h21
        · first | omega | (dsimp only; omega) | (simp only []; omega)
      · refine LJ.yd rfl (Yd.not rfl) ?_
        refine LJ.nil ?_
        refine CJ.condT rfl ?_
        refine CJ.seq ?_
        refine CJ.region ?_
        refine LJ.yd rfl (Yd.asB rfl) ?_
        refine LJ.nil ?_
        refine CJ.ret ?_
        refine Fin.V (Res.one (ResV.tmp (v := .bool false) rfl)) ?_
        refine congrArg Value.bool (Eq.symm ?_)
        try simp only [Bool.and_eq_true, Bool.and_eq_false_iff, decide_eq_true_eq, decide_eq_false_iff_not] at *
        first
          | (refine Bool.eq_false_iff.2 fun h => ?_; have := (grpOk_iff.1 h).1.2 u20 (List.mem_of_getElem? hu20); omega)
          | (refine Bool.eq_false_iff.2 fun h => ?_; have := (grpOk_iff.1 h).2.2 u64 (List.mem_of_getElem? hu64); omega)
          | (refine Bool.eq_false_iff.2 fun h => ?_; have h1 := (grpOk_iff.1 h).1.1; have h2 := (grpOk_iff.1 h).2.1; omega)
          | (rw [List.take_of_length_le (by omega)] at hi1 hi2; exact grpOk_iff.2 ⟨⟨by omega, hi1⟩, by omega, hi2⟩)
    · refine LJ.nil ?_
      refine CJ.condF rfl ?_
      refine CJ.exit ?_
      refine CJ.seq ?_
      refine CJ.seq ?_
      refine CJ.region ?_
      refine LJ.yd rfl (Yd.mvS rfl) ?_
      refine LJ.yd rfl (Yd.len rfl) ?_
      refine LJ.splitD rfl (Yd.gtr rfl rfl) (fun h25 => ?_) (fun h25 => ?_)
      · refine LJ.yd rfl (Yd.mvB rfl) ?_
        refine LJ.gF rfl rfl ?_
        refine LJ.gF rfl rfl ?_
        refine LJ.gF rfl rfl ?_
        refine LJ.gF rfl rfl ?_
        refine LJ.gF rfl rfl ?_
        refine LJ.yd rfl (Yd.pickTB rfl rfl) ?_
        refine LJ.yd rfl (Yd.mvB rfl) ?_
        refine LJ.gF rfl rfl ?_
        refine LJ.gF rfl rfl ?_
        refine LJ.gF rfl rfl ?_
        refine LJ.yd rfl (Yd.pickTB rfl rfl) ?_
        refine LJ.nil ?_
        refine CJ.condT rfl ?_
        refine CJ.seq ?_
        refine CJ.region ?_
        refine LJ.yd rfl (Yd.asB rfl) ?_
        refine LJ.nil ?_
        refine CJ.ret ?_
        refine Fin.V (Res.one (ResV.tmp (v := .bool false) rfl)) ?_
        refine congrArg Value.bool (Eq.symm ?_)
        try simp only [Bool.and_eq_true, Bool.and_eq_false_iff, decide_eq_true_eq, decide_eq_false_iff_not] at *
        first
          | (refine Bool.eq_false_iff.2 fun h => ?_; have := (grpOk_iff.1 h).1.2 u20 (List.mem_of_getElem? hu20); omega)
          | (refine Bool.eq_false_iff.2 fun h => ?_; have := (grpOk_iff.1 h).2.2 u64 (List.mem_of_getElem? hu64); omega)
          | (refine Bool.eq_false_iff.2 fun h => ?_; have h1 := (grpOk_iff.1 h).1.1; have h2 := (grpOk_iff.1 h).2.1; omega)
          | (rw [List.take_of_length_le (by omega)] at hi1 hi2; exact grpOk_iff.2 ⟨⟨by omega, hi1⟩, by omega, hi2⟩)
      · refine LJ.yd rfl (Yd.mvB rfl) ?_
        refine LJ.gT rfl ?_
        refine LJ.yd rfl (Yd.mvS rfl) ?_
        refine LJ.gT rfl ?_
        refine LJ.yd rfl (Yd.len rfl) ?_
        refine LJ.gT rfl ?_
        refine LJ.yd rfl (Yd.mvS rfl) ?_
        refine LJ.gT rfl ?_
        refine LJ.yd rfl (Yd.len rfl) ?_
        refine LJ.gT rfl ?_
        refine LJ.splitN rfl (Yd.neq rfl rfl) (fun h31 => ?_) (fun h31 => ?_)
        · refine LJ.yd rfl (Yd.pickFB rfl rfl) ?_
          refine LJ.yd rfl (Yd.mvB rfl) ?_
          refine LJ.gF rfl rfl ?_
          refine LJ.gF rfl rfl ?_
          refine LJ.gF rfl rfl ?_
          refine LJ.yd rfl (Yd.pickTB rfl rfl) ?_
          refine LJ.nil ?_
          refine CJ.condT rfl ?_
          refine CJ.seq ?_
          refine CJ.region ?_
          refine LJ.yd rfl (Yd.asB rfl) ?_
          refine LJ.nil ?_
          refine CJ.ret ?_
          refine Fin.V (Res.one (ResV.tmp (v := .bool false) rfl)) ?_
          refine congrArg Value.bool (Eq.symm ?_)
          try simp only [Bool.and_eq_true, Bool.and_eq_false_iff, decide_eq_true_eq, decide_eq_false_iff_not] at *
          first
            | (refine Bool.eq_false_iff.2 fun h => ?_; have := (grpOk_iff.1 h).1.2 u20 (List.mem_of_getElem? hu20); omega)
            | (refine Bool.eq_false_iff.2 fun h => ?_; have := (grpOk_iff.1 h).2.2 u64 (List.mem_of_getElem? hu64); omega)
            | (refine Bool.eq_false_iff.2 fun h => ?_; have h1 := (grpOk_iff.1 h).1.1; have h2 := (grpOk_iff.1 h).2.1; omega)
            | (rw [List.take_of_length_le (by omega)] at hi1 hi2; exact grpOk_iff.2 ⟨⟨by omega, hi1⟩, by omega, hi2⟩)
        · refine LJ.yd rfl (Yd.pickFB rfl rfl) ?_
          refine LJ.yd rfl (Yd.mvB rfl) ?_
          refine LJ.gT rfl ?_
          refine LJ.yd rfl (Yd.mvI rfl) ?_
          refine LJ.gT rfl ?_
          refine LJ.callB rfl (fun k hk dk => inRange_ok _ _ _ _) (fun h35 => ?_) (fun h35 => ?_)
          · refine LJ.gT rfl ?_
            refine LJ.yd rfl (Yd.not rfl) ?_
            refine LJ.yd rfl (Yd.pickFB rfl rfl) ?_
            refine LJ.nil ?_
            refine CJ.condF rfl ?_
            refine CJ.skip ?_
            refine CJ.seq ?_
            refine CJ.seq ?_
            refine CJ.region ?_
            refine LJ.yd rfl (Yd.asI rfl) ?_
            refine LJ.nil ?_
            refine CJ.block ?_
            refine CJ.loopK [1, 2] Nat (fun j => j ≤ groups.length ∧ ∀ g ∈ groups.take j, 0 ≤ g ∧ g ≤ 15 ∧ cntI g groups ≤ room) (fun j => [(8, vI j)]) (fun j => groups.length - j) (0) ?_ ⟨rfl, trivial⟩ ?_
            · exact ⟨by omega, by simp⟩
            · rintro j σ ⟨hj, hi2⟩
              refine CJ.seq ?_
              refine CJ.seq ?_
              refine CJ.region ?_
              refine LJ.yd rfl (Yd.mvI rfl) ?_
              refine LJ.yd rfl (Yd.mvS rfl) ?_
              refine LJ.yd rfl (Yd.len rfl) ?_
              refine LJ.splitD rfl (Yd.lss rfl rfl) (fun h41 => ?_) (fun h41 => ?_)
              · refine LJ.nil ?_
                refine CJ.condT rfl ?_
                refine CJ.skip ?_
                refine CJ.seq ?_
                refine CJ.block ?_
                refine CJ.seq ?_
                refine CJ.region ?_
                refine LJ.yd rfl (Yd.asI rfl) ?_
                refine LJ.nil ?_
                refine CJ.seqK [1, 2, 8, 38, 39, 40, 41] Int (fun x => x = cntI (gt groups j) groups) (fun x => [(9, vI x)]) ?_ ?_
                · refine CJ.seq ?_
                  refine CJ.region ?_
                  refine LJ.yd rfl (Yd.asI rfl) ?_
                  refine LJ.nil ?_
                  refine CJ.block ?_
                  refine CJ.loopK [1, 2, 8, 38, 39, 40, 41] (Nat × Int) (fun ⟨q, x⟩ => q ≤ groups.length ∧ x = cntI (gt groups j) (groups.take q)) (fun ⟨q, x⟩ => [(10, vI q), (9, vI x)]) (fun ⟨q, x⟩ => groups.length - q) (0, 0) ?_ ⟨rfl, rfl, trivial⟩ ?_
                  · exact ⟨by omega, by rfl⟩
                  · rintro ⟨q, x⟩ σ ⟨hq, hx⟩
                    have hxb := cntI_le (gt groups j) (groups.take q)
                    have hxl : (groups.take q).length = q := by simp; omega
                    refine CJ.seq ?_
                    refine CJ.seq ?_
                    refine CJ.region ?_
                    refine LJ.yd rfl (Yd.mvI rfl) ?_
                    refine LJ.yd rfl (Yd.mvS rfl) ?_
                    refine LJ.yd rfl (Yd.len rfl) ?_
                    refine LJ.splitD rfl (Yd.lss rfl rfl) (fun h47 => ?_) (fun h47 => ?_)
                    · refine LJ.nil ?_
                      refine CJ.condT rfl ?_
                      refine CJ.skip ?_
                      refine CJ.seq ?_
                      refine CJ.block ?_
                      refine CJ.seq ?_
                      refine CJ.regionD [] [] (by kernel_rfl) rfl ?_
                      refine DJ.norm [] [] rfl rfl ?_
                      refine DJ.yd 0 rfl (by kernel_rfl) (by kernel_rfl) (by kernel_rfl) rfl rfl (Yd.mvS rfl) ?_
                      refine DJ.yd 1 rfl (by kernel_rfl) (by kernel_rfl) (by kernel_rfl) rfl rfl (Yd.mvI rfl) ?_
                      refine DJ.idxA 2 rfl (by kernel_rfl) (by kernel_rfl) (by kernel_rfl) rfl rfl hg rfl rfl (by omega) (by first | rfl | omega | (simp; done) | (simp; omega) | (simp [upN_len, idxBy_len, marks_len]; done) | (simp [upN_len, idxBy_len, marks_len]; omega) | (simp at *; omega)) (fun ib52 io52 ia52 ir52 => ?_)
                      refine DJ.ldA 3 rfl (by kernel_rfl) (by kernel_rfl) (by kernel_rfl) rfl rfl 0 (fun u => vI u) (fun _ => rfl) ir52 rfl rfl (by first | rfl | omega | (simp; done) | (simp; omega) | (simp [upN_len, idxBy_len, marks_len]; done) | (simp [upN_len, idxBy_len, marks_len]; omega) | (simp at *; omega)) (fun u53 hu53 => ?_)
                      try simp only [Int.toNat_natCast] at hu53
                      refine DJ.yd 4 rfl (by kernel_rfl) (by kernel_rfl) (by kernel_rfl) rfl rfl (Yd.mvS rfl) ?_
                      refine DJ.yd 5 rfl (by kernel_rfl) (by kernel_rfl) (by kernel_rfl) rfl rfl (Yd.mvI rfl) ?_
                      refine DJ.idxA 6 rfl (by kernel_rfl) (by kernel_rfl) (by kernel_rfl) rfl rfl hg rfl rfl (by omega) (by first | rfl | omega | (simp; done) | (simp; omega) | (simp [upN_len, idxBy_len, marks_len]; done) | (simp [upN_len, idxBy_len, marks_len]; omega) | (simp at *; omega)) (fun ib56 io56 ia56 ir56 => ?_)
                      refine DJ.ldA 7 rfl (by kernel_rfl) (by kernel_rfl) (by kernel_rfl) rfl rfl 0 (fun u => vI u) (fun _ => rfl) ir56 rfl rfl (by first | rfl | omega | (simp; done) | (simp; omega) | (simp [upN_len, idxBy_len, marks_len]; done) | (simp [upN_len, idxBy_len, marks_len]; omega) | (simp at *; omega)) (fun u57 hu57 => ?_)
                      try simp only [Int.toNat_natCast] at hu57
                      refine DJ.splitD 8 rfl (by kernel_rfl) (by kernel_rfl) (by kernel_rfl) rfl rfl (Yd.eql rfl rfl) (fun h58 => ?_) (fun h58 => ?_)
                      · refine DJ.done (by kernel_rfl) ?_
                        refine CJ.condT rfl ?_
                        refine CJ.region ?_
                        refine LJ.yd rfl (Yd.mvI rfl) ?_
                        refine LJ.yd rfl (Yd.add rfl rfl (by unfold I64; omega)) ?_
                        refine LJ.yd rfl (Yd.asI rfl) ?_
                        refine LJ.nil ?_
                        refine CJ.region ?_
                        refine LJ.yd rfl (Yd.mvI rfl) ?_
                        refine LJ.yd rfl (Yd.add rfl rfl (by unfold I64; omega)) ?_
                        refine LJ.yd rfl (Yd.asI rfl) ?_
                        refine LJ.nil ?_
                        refine ⟨(q + 1, _), ?_, ⟨rfl, rfl, rfl, rfl, rfl, rfl, rfl, trivial⟩, ⟨rfl, rfl, trivial⟩, Ent.refl _, ?_⟩
                        · refine ⟨by omega, ?_⟩
                          rw [takeC hu53, cntI_append, ← hx, gtC' hu57, cntI, cntI]; first | rw [if_pos h58]; omega | rw [if_neg h58]; omega
                        · first | omega | (dsimp only; omega) | (simp only []; omega)
                      · refine DJ.done (by kernel_rfl) ?_
                        refine CJ.condF rfl ?_
                        refine CJ.skip ?_
                        refine CJ.region ?_
                        refine LJ.yd rfl (Yd.mvI rfl) ?_
                        refine LJ.yd rfl (Yd.add rfl rfl (by unfold I64; omega)) ?_
                        refine LJ.yd rfl (Yd.asI rfl) ?_
                        refine LJ.nil ?_
                        refine ⟨(q + 1, _), ?_, ⟨rfl, rfl, rfl, rfl, rfl, rfl, rfl, trivial⟩, ⟨rfl, rfl, trivial⟩, Ent.refl _, ?_⟩
                        · refine ⟨by omega, ?_⟩
                          rw [takeC hu53, cntI_append, ← hx, gtC' hu57, cntI, cntI]; first | rw [if_pos h58]; omega | rw [if_neg h58]; omega
                        · first | omega | (dsimp only; omega) | (simp only []; omega)
                    · refine LJ.nil ?_
                      refine CJ.condF rfl ?_
                      refine CJ.exit ?_
                      refine ⟨x, ?_, ?_, ?_, Ent.refl _⟩
                      · rw [hx, List.take_of_length_le (by omega)]
                      · exact ⟨rfl, rfl, rfl, rfl, rfl, rfl, rfl, trivial⟩
                      · exact ⟨rfl, trivial⟩
                · rintro x σ hx
                  refine CJ.seq ?_
                  refine CJ.region ?_
                  refine LJ.yd rfl (Yd.mvS rfl) ?_
                  refine LJ.yd rfl (Yd.mvI rfl) ?_
                  refine LJ.idxA rfl hg rfl rfl (by omega) (by first | rfl | omega | (simp; done) | (simp; omega) | (simp [upN_len, idxBy_len, marks_len]; done) | (simp [upN_len, idxBy_len, marks_len]; omega) | (simp at *; omega)) (fun ib63 io63 ia63 ir63 => ?_)
                  refine LJ.ldA 0 (fun u => vI u) (fun _ => rfl) ir63 rfl rfl rfl (by first | rfl | omega | (simp; done) | (simp; omega) | (simp [upN_len, idxBy_len, marks_len]; done) | (simp [upN_len, idxBy_len, marks_len]; omega) | (simp at *; omega)) (fun u64 hu64 => ?_)
                  try simp only [Int.toNat_natCast] at hu64
                  rw [gtC' hu64] at hx
                  refine LJ.callB rfl (fun k hk dk => inRange_ok _ _ _ _) (fun h65 => ?_) (fun h65 => ?_)
                  · refine LJ.yd rfl (Yd.not rfl) ?_
                    refine LJ.yd rfl (Yd.mvB rfl) ?_
                    refine LJ.gT rfl ?_
                    refine LJ.yd rfl (Yd.mvI rfl) ?_
                    refine LJ.gT rfl ?_
                    refine LJ.yd rfl (Yd.mvI rfl) ?_
                    refine LJ.gT rfl ?_
                    refine LJ.splitD rfl (Yd.gtr rfl rfl) (fun h70 => ?_) (fun h70 => ?_)
                    · refine LJ.yd rfl (Yd.pickFB rfl rfl) ?_
                      refine LJ.nil ?_
                      refine CJ.condT rfl ?_
                      refine CJ.seq ?_
                      refine CJ.region ?_
                      refine LJ.yd rfl (Yd.asB rfl) ?_
                      refine LJ.nil ?_
                      refine CJ.ret ?_
                      refine Fin.V (Res.one (ResV.tmp (v := .bool false) rfl)) ?_
                      refine congrArg Value.bool (Eq.symm ?_)
                      try simp only [Bool.and_eq_true, Bool.and_eq_false_iff, decide_eq_true_eq, decide_eq_false_iff_not] at *
                      first
                        | (refine Bool.eq_false_iff.2 fun h => ?_; have := (grpOk_iff.1 h).1.2 u20 (List.mem_of_getElem? hu20); omega)
                        | (refine Bool.eq_false_iff.2 fun h => ?_; have := (grpOk_iff.1 h).2.2 u64 (List.mem_of_getElem? hu64); omega)
                        | (refine Bool.eq_false_iff.2 fun h => ?_; have h1 := (grpOk_iff.1 h).1.1; have h2 := (grpOk_iff.1 h).2.1; omega)
                        | (rw [List.take_of_length_le (by omega)] at hi1 hi2; exact grpOk_iff.2 ⟨⟨by omega, hi1⟩, by omega, hi2⟩)
                    · refine LJ.yd rfl (Yd.pickFB rfl rfl) ?_
                      refine LJ.nil ?_
                      refine CJ.condF rfl ?_
                      refine CJ.skip ?_
                      refine CJ.region ?_
                      refine LJ.yd rfl (Yd.mvI rfl) ?_
                      refine LJ.yd rfl (Yd.add rfl rfl (by unfold I64; omega)) ?_
                      refine LJ.yd rfl (Yd.asI rfl) ?_
                      refine LJ.nil ?_
                      refine ⟨(j + 1), ?_, ⟨rfl, rfl, trivial⟩, ⟨rfl, trivial⟩, Ent.refl _, ?_⟩
                      · refine ⟨by omega, ?_⟩
                        intro z hz
                        rw [takeC hu64, List.mem_append, List.mem_singleton] at hz
                        simp only [Bool.and_eq_true, decide_eq_true_eq] at h65
                        rcases hz with hz | rfl
                        · exact hi2 z hz
                        · rw [← hx]; omega
                      · first | omega | (dsimp only; omega) | (simp only []; omega)
                  · refine LJ.yd rfl (Yd.not rfl) ?_
                    refine LJ.yd rfl (Yd.mvB rfl) ?_
                    refine LJ.gF rfl rfl ?_
                    refine LJ.gF rfl rfl ?_
                    refine LJ.gF rfl rfl ?_
                    refine LJ.yd rfl (Yd.pickTB rfl rfl) ?_
                    refine LJ.nil ?_
                    refine CJ.condT rfl ?_
                    refine CJ.seq ?_
                    refine CJ.region ?_
                    refine LJ.yd rfl (Yd.asB rfl) ?_
                    refine LJ.nil ?_
                    refine CJ.ret ?_
                    refine Fin.V (Res.one (ResV.tmp (v := .bool false) rfl)) ?_
                    refine congrArg Value.bool (Eq.symm ?_)
                    try simp only [Bool.and_eq_true, Bool.and_eq_false_iff, decide_eq_true_eq, decide_eq_false_iff_not] at *
                    first
                      | (refine Bool.eq_false_iff.2 fun h => ?_; have := (grpOk_iff.1 h).1.2 u20 (List.mem_of_getElem? hu20); omega)
                      | (refine Bool.eq_false_iff.2 fun h => ?_; have := (grpOk_iff.1 h).2.2 u64 (List.mem_of_getElem? hu64); omega)
                      | (refine Bool.eq_false_iff.2 fun h => ?_; have h1 := (grpOk_iff.1 h).1.1; have h2 := (grpOk_iff.1 h).2.1; omega)
                      | (rw [List.take_of_length_le (by omega)] at hi1 hi2; exact grpOk_iff.2 ⟨⟨by omega, hi1⟩, by omega, hi2⟩)
              · refine LJ.nil ?_
                refine CJ.condF rfl ?_
                refine CJ.exit ?_
                refine CJ.seq ?_
                refine CJ.region ?_
                refine LJ.yd rfl (Yd.asB rfl) ?_
                refine LJ.nil ?_
                refine CJ.ret ?_
                refine Fin.V (Res.one (ResV.tmp (v := .bool true) rfl)) ?_
                refine congrArg Value.bool (Eq.symm ?_)
                try simp only [Bool.and_eq_true, Bool.and_eq_false_iff, decide_eq_true_eq, decide_eq_false_iff_not] at *
                first
                  | (refine Bool.eq_false_iff.2 fun h => ?_; have := (grpOk_iff.1 h).1.2 u20 (List.mem_of_getElem? hu20); omega)
                  | (refine Bool.eq_false_iff.2 fun h => ?_; have := (grpOk_iff.1 h).2.2 u64 (List.mem_of_getElem? hu64); omega)
                  | (refine Bool.eq_false_iff.2 fun h => ?_; have h1 := (grpOk_iff.1 h).1.1; have h2 := (grpOk_iff.1 h).2.1; omega)
                  | (rw [List.take_of_length_le (by omega)] at hi1 hi2; exact grpOk_iff.2 ⟨⟨by omega, hi1⟩, by omega, hi2⟩)
          · refine LJ.gT rfl ?_
            refine LJ.yd rfl (Yd.not rfl) ?_
            refine LJ.yd rfl (Yd.pickFB rfl rfl) ?_
            refine LJ.nil ?_
            refine CJ.condT rfl ?_
            refine CJ.seq ?_
            refine CJ.region ?_
            refine LJ.yd rfl (Yd.asB rfl) ?_
            refine LJ.nil ?_
            refine CJ.ret ?_
            refine Fin.V (Res.one (ResV.tmp (v := .bool false) rfl)) ?_
            refine congrArg Value.bool (Eq.symm ?_)
            try simp only [Bool.and_eq_true, Bool.and_eq_false_iff, decide_eq_true_eq, decide_eq_false_iff_not] at *
            first
              | (refine Bool.eq_false_iff.2 fun h => ?_; have := (grpOk_iff.1 h).1.2 u20 (List.mem_of_getElem? hu20); omega)
              | (refine Bool.eq_false_iff.2 fun h => ?_; have := (grpOk_iff.1 h).2.2 u64 (List.mem_of_getElem? hu64); omega)
              | (refine Bool.eq_false_iff.2 fun h => ?_; have h1 := (grpOk_iff.1 h).1.1; have h2 := (grpOk_iff.1 h).2.1; omega)
              | (rw [List.take_of_length_le (by omega)] at hi1 hi2; exact grpOk_iff.2 ⟨⟨by omega, hi1⟩, by omega, hi2⟩)
/-- groups in an order -/
def gpGo (room : Int) : Nat → List Int → List Int → List Int
  | _, [], o => o
  | i, x :: r, o => gpGo room (i + 1) r (o.set x.toNat ((i : Int) / room))
theorem gpGo_len (room : Int) : ∀ (r : List Int) (i : Nat) (o : List Int), (gpGo room i r o).length = o.length
  | [], _, _ => rfl
  | x :: r, i, o => by rw [gpGo, gpGo_len room r, List.length_set]
def gpOf (l : List Int) (room : Int) : List Int := gpGo room 0 (idxBy (ltF l) l.length) (List.replicate l.length 0)
theorem gpOf_len (l : List Int) (room : Int) : (gpOf l room).length = l.length := by rw [gpOf, gpGo_len, List.length_replicate]
def gpR (l : List Int) (room : Int) : List Int := if timesOk l = true ∧ 1 ≤ room ∧ room ≤ 16 then gpOf l room else []
theorem cntI_rep (n : Nat) : cntI 0 (List.replicate n 0) = n := by
  induction n with
  | zero => rfl
  | succ n ih => rw [List.replicate_succ, cntI, ih, if_pos rfl]; omega
theorem grp_zero {l : List Int} {room : Int} : (grpOk l (List.replicate l.length 0) (max room l.length) = true ∧ 1 ≤ room ∧ room ≤ 16) ↔ (timesOk l = true ∧ 1 ≤ room ∧ room ≤ 16) := by
  rw [grpOk_iff, timesOk_iff]
  constructor
  · exact fun h => ⟨h.1.1, h.2⟩
  · refine fun h => ⟨⟨h.1, ⟨by simp, by omega, by omega⟩, fun g hg => ?_⟩, h.2⟩
    rw [(List.mem_replicate.1 hg).2, cntI_rep]; omega
theorem GroupPanesI_ok {A : Amb} {v : Value} {l : List Int} {room : Int} (hl : RdL encI 1 A.h v l) : Ctr Try.prog 21 #[v, vI room] A [] (RLP encI 3 1 (gpR l room)) := by
  obtain ⟨la, lc, rfl, hlb, hl⟩ := hl.un
  refine Ctr.body (args := [_, _]) Try.func21 rfl Try.ntmps21 Try.results21 (by simp) ?_
  refine CJ.seq ?_
  refine CJ.region ?_
  refine LJ.yd rfl (Yd.asS rfl) ?_
  refine LJ.nil ?_
  refine CJ.seq ?_
  refine CJ.seq ?_
  refine CJ.region ?_
  refine LJ.yd rfl (Yd.mvS rfl) ?_
  refine LJ.callB rfl (fun k hk dk => validTimes_ok (RdRow.up hl)) (fun h9 => ?_) (fun h9 => ?_)
  · refine LJ.yd rfl (Yd.not rfl) ?_
    refine LJ.yd rfl (Yd.mvB rfl) ?_
    refine LJ.gT rfl ?_
    refine LJ.yd rfl (Yd.mvI rfl) ?_
    refine LJ.gT rfl ?_
    refine LJ.splitD rfl (Yd.lss rfl rfl) (fun h13 => ?_) (fun h13 => ?_)
    · refine LJ.yd rfl (Yd.pickFB rfl rfl) ?_
      refine LJ.yd rfl (Yd.mvB rfl) ?_
      refine LJ.gF rfl rfl ?_
      refine LJ.gF rfl rfl ?_
      refine LJ.yd rfl (Yd.pickTB rfl rfl) ?_
      refine LJ.nil ?_
      refine CJ.condT rfl ?_
      refine CJ.seq ?_
      refine CJ.region ?_
      refine LJ.yd rfl (Yd.asS rfl) ?_
      refine LJ.nil ?_
      refine CJ.ret ?_
      refine Fin.RN (Res.one (ResV.tmp (v := .slice _ _ _) rfl)) ?_
      first
        | (unfold gpR; rw [if_neg (by omega)]; done)
        | (unfold gpR; rw [if_neg (by rw [h9]; simp)]; done)
        | (unfold gpR; rw [if_pos ⟨h9, by omega, by omega⟩, ← hg, List.drop_of_length_le (by omega), gpGo])
    · refine LJ.yd rfl (Yd.pickFB rfl rfl) ?_
      refine LJ.yd rfl (Yd.mvB rfl) ?_
      refine LJ.gT rfl ?_
      refine LJ.yd rfl (Yd.mvI rfl) ?_
      refine LJ.gT rfl ?_
      refine LJ.splitD rfl (Yd.gtr rfl rfl) (fun h17 => ?_) (fun h17 => ?_)
      · refine LJ.yd rfl (Yd.pickFB rfl rfl) ?_
        refine LJ.nil ?_
        refine CJ.condT rfl ?_
        refine CJ.seq ?_
        refine CJ.region ?_
        refine LJ.yd rfl (Yd.asS rfl) ?_
        refine LJ.nil ?_
        refine CJ.ret ?_
        refine Fin.RN (Res.one (ResV.tmp (v := .slice _ _ _) rfl)) ?_
        first
          | (unfold gpR; rw [if_neg (by omega)]; done)
          | (unfold gpR; rw [if_neg (by rw [h9]; simp)]; done)
          | (unfold gpR; rw [if_pos ⟨h9, by omega, by omega⟩, ← hg, List.drop_of_length_le (by omega), gpGo])
      · refine LJ.yd rfl (Yd.pickFB rfl rfl) ?_
        refine LJ.nil ?_
        refine CJ.condF rfl ?_
        refine CJ.skip ?_
        refine CJ.seq ?_
        have hto := timesOk_iff.1 h9
        refine CJ.region ?_
        refine LJ.yd rfl (Yd.mvS rfl) ?_
        refine LJ.yd rfl (Yd.len rfl) ?_
        refine LJ.op rfl (OpR.mk (enc := encI) (0 : Int) (m := l.length) rfl rfl rfl (by first | rfl | omega | (simp; done) | (simp; omega) | (simp [upN_len, idxBy_len, marks_len]; done) | (simp [upN_len, idxBy_len, marks_len]; omega) | (simp at *; omega))) ?_
        rintro _ _ ⟨g21, rfl, rfl⟩
        refine LJ.norm [_] rfl ?_
        refine LJ.yd rfl (Yd.asS rfl) ?_
        refine LJ.nil ?_
        refine CJ.seq ?_
        refine CJ.seq ?_
        refine CJ.region ?_
        refine LJ.yd rfl (Yd.mvS rfl) ?_
        refine LJ.call0 rfl (fun k hk dk => fallingI_ok (RdRow.up hl) (fun u hu => by have := hto.2 u hu; omega) (by have := hto.1; omega)) ?_
        rintro _ _ ⟨ra23, rc23, rfl, rfl⟩
        refine LJ.norm [_, _] rfl ?_
        refine LJ.yd rfl (Yd.len rfl) ?_
        refine LJ.yd rfl (Yd.mvI rfl) ?_
        refine LJ.nil ?_
        refine CJ.block ?_
        refine CJ.loopF [1, 4, 5, 23, 24] (Nat × List Int) (fun ⟨k, o⟩ => k ≤ l.length ∧ gpGo room k ((idxBy (ltF l) l.length).drop k) o = gpOf l room ∧ o.length = l.length) (fun ⟨k, o⟩ => [(25, vI k)]) (fun ⟨k, o⟩ => [LR encI 3 1 (some ⟨g21, 0, none⟩) l.length o]) (fun ⟨k, o⟩ => l.length - k) (0, List.replicate l.length 0) [_] [1] [0] rfl rfl rfl ?_ ⟨rfl, trivial⟩ ?_
        · exact ⟨by omega, rfl, by simp⟩
        · rintro ⟨k, o⟩ σ ⟨hk1, hg, hol⟩
          refine CJ.norm [_, _] rfl ?_
          have hil := idxBy_len (ltF l) l.length
          refine CJ.seq ?_
          refine CJ.region ?_
          refine LJ.splitD rfl (Yd.lss rfl rfl) (fun h26 => ?_) (fun h26 => ?_)
          · refine LJ.nil ?_
            refine CJ.seq ?_
            refine CJ.condT rfl ?_
            refine CJ.skip ?_
            refine CJ.seq ?_
            refine CJ.block ?_
            refine CJ.seq ?_
            refine CJ.region ?_
            refine LJ.yd rfl (Yd.mvI rfl) ?_
            refine LJ.idxR 0 rfl rfl rfl rfl (by omega) (by first | rfl | omega | (simp; done) | (simp; omega) | (simp [upN_len, idxBy_len, marks_len]; done) | (simp [upN_len, idxBy_len, marks_len]; omega) | (simp at *; omega)) (by first | rfl | omega | (simp; done) | (simp; omega) | (simp [upN_len, idxBy_len, marks_len]; done) | (simp [upN_len, idxBy_len, marks_len]; omega) | (simp at *; omega)) (fun ib28 ia28 => ?_)
            refine LJ.ldR 0 0 (fun u => vI u) (fun _ => rfl) rfl ia28 rfl rfl rfl (by first | rfl | omega | (simp; done) | (simp; omega) | (simp [upN_len, idxBy_len, marks_len]; done) | (simp [upN_len, idxBy_len, marks_len]; omega) | (simp at *; omega)) (fun u29 hu29 => ?_)
            try simp only [Int.toNat_natCast] at hu29
            have hf29 := idxBy_mem.1 (List.mem_of_getElem? hu29)
            refine LJ.yd rfl (Yd.asI rfl) ?_
            refine LJ.yd rfl (Yd.asI rfl) ?_
            refine LJ.nil ?_
            refine CJ.region ?_
            refine LJ.yd rfl (Yd.mvS rfl) ?_
            refine LJ.yd rfl (Yd.mvI rfl) ?_
            refine LJ.yd rfl (Yd.mvI rfl) ?_
            refine LJ.yd rfl (Yd.mvI rfl) ?_
            refine LJ.yd rfl (Yd.quo rfl rfl (by omega) (by omega) (by unfold I64; omega)) ?_
            refine LJ.idxR 1 rfl rfl rfl rfl (by omega) (by first | rfl | omega | (simp; done) | (simp; omega) | (simp [upN_len, idxBy_len, marks_len]; done) | (simp [upN_len, idxBy_len, marks_len]; omega) | (simp at *; omega)) (by first | rfl | omega | (simp; done) | (simp; omega) | (simp [upN_len, idxBy_len, marks_len]; done) | (simp [upN_len, idxBy_len, marks_len]; omega) | (simp at *; omega)) (fun ib35 ia35 => ?_)
            refine LJ.op rfl (OpR.st1 (enc := encI) (e1 := fun u => vI u) 1 (fun _ => rfl) (fun _ => rfl) (fun _ => rfl) rfl ia35 rfl rfl rfl (by first | rfl | omega | (simp; done) | (simp; omega) | (simp [upN_len, idxBy_len, marks_len]; done) | (simp [upN_len, idxBy_len, marks_len]; omega) | (simp at *; omega))) ?_
            rintro _ _ ⟨rfl, rfl⟩
            refine LJ.norm [_, _] rfl ?_
            refine LJ.nil ?_
            refine CJ.region ?_
            refine LJ.yd rfl (Yd.add rfl rfl (by unfold I64; omega)) ?_
            refine LJ.yd rfl (Yd.mvI rfl) ?_
            refine LJ.nil ?_
            refine ⟨(k + 1, _), ?_, ⟨rfl, rfl, rfl, rfl, rfl, trivial⟩, ⟨rfl, trivial⟩, Ent.refl _, ?_⟩
            · refine ⟨by omega, ?_⟩
              rw [dropC hu29, gpGo] at hg
              exact ⟨hg, by simp [hol]⟩
            · first | omega | (dsimp only; omega) | (simp only []; omega)
          · refine LJ.nil ?_
            refine CJ.seq ?_
            refine CJ.condF rfl ?_
            refine CJ.exit ?_
            refine CJ.seq ?_
            refine CJ.region ?_
            refine LJ.yd rfl (Yd.mvS rfl) ?_
            refine LJ.yd rfl (Yd.asS rfl) ?_
            refine LJ.nil ?_
            refine CJ.ret ?_
            refine Fin.RL 1 (Res.one (ResV.tmp (v := .slice _ _ _) rfl)) rfl (by first | rfl | omega | (simp; done) | (simp; omega) | (simp [upN_len, idxBy_len, marks_len]; done) | (simp [upN_len, idxBy_len, marks_len]; omega) | (simp at *; omega)) ?_
            first
              | (unfold gpR; rw [if_neg (by omega)]; done)
              | (unfold gpR; rw [if_neg (by rw [h9]; simp)]; done)
              | (unfold gpR; rw [if_pos ⟨h9, by omega, by omega⟩, ← hg, List.drop_of_length_le (by omega), gpGo])
  · refine LJ.yd rfl (Yd.not rfl) ?_
    refine LJ.yd rfl (Yd.mvB rfl) ?_
    refine LJ.gF rfl rfl ?_
    refine LJ.gF rfl rfl ?_
    refine LJ.yd rfl (Yd.pickTB rfl rfl) ?_
    refine LJ.yd rfl (Yd.mvB rfl) ?_
    refine LJ.gF rfl rfl ?_
    refine LJ.gF rfl rfl ?_
    refine LJ.yd rfl (Yd.pickTB rfl rfl) ?_
    refine LJ.nil ?_
    refine CJ.condT rfl ?_
    refine CJ.seq ?_
    refine CJ.region ?_
    refine LJ.yd rfl (Yd.asS rfl) ?_
    refine LJ.nil ?_
    refine CJ.ret ?_
    refine Fin.RN (Res.one (ResV.tmp (v := .slice _ _ _) rfl)) ?_
    first
      | (unfold gpR; rw [if_neg (by omega)]; done)
      | (unfold gpR; rw [if_neg (by rw [h9]; simp)]; done)
      | (unfold gpR; rw [if_pos ⟨h9, by omega, by omega⟩, ← hg, List.drop_of_length_le (by omega), gpGo])
theorem GroupPanesS_ok {A : Amb} {v : Value} {l : List Int} {room : Int} (hl : RdL encI 1 A.h v l) (hn : l.length ≤ 2000000) : Ctr Try.prog 20 #[v, vI room] A [] (RLP encI 3 1 (gpR l room)) := by
  obtain ⟨la, lc, rfl, hlb, hl⟩ := hl.un
  refine Ctr.body (args := [_, _]) Try.func20 rfl Try.ntmps20 Try.results20 (by simp) ?_
  refine CJ.seq ?_
  refine CJ.region ?_
  refine LJ.yd rfl (Yd.asS rfl) ?_
  refine LJ.nil ?_
  refine CJ.seq ?_
  refine CJ.seq ?_
  refine CJ.region ?_
  refine LJ.yd rfl (Yd.mvS rfl) ?_
  refine LJ.yd rfl (Yd.mvS rfl) ?_
  refine LJ.yd rfl (Yd.len rfl) ?_
  refine LJ.op rfl (OpR.mk (enc := encI) (0 : Int) (m := l.length) rfl rfl rfl (by first | rfl | omega | (simp; done) | (simp; omega) | (simp [upN_len, idxBy_len, marks_len]; done) | (simp [upN_len, idxBy_len, marks_len]; omega) | (simp at *; omega))) ?_
  rintro _ _ ⟨g11, rfl, rfl⟩
  refine LJ.norm [_] rfl ?_
  refine LJ.yd rfl (Yd.mvI rfl) ?_
  refine LJ.yd rfl (Yd.mvS rfl) ?_
  refine LJ.yd rfl (Yd.len rfl) ?_
  refine LJ.yd rfl (Yd.max' rfl rfl) ?_
  refine LJ.callB rfl (fun k hk dk => validGroups_ok (RdRow.up hl) (Sts.lrm hk dk 0 (by first | rfl | omega | (simp; done) | (simp; omega) | (simp [upN_len, idxBy_len, marks_len]; done) | (simp [upN_len, idxBy_len, marks_len]; omega) | (simp at *; omega)) (by first | rfl | omega | (simp; done) | (simp; omega) | (simp [upN_len, idxBy_len, marks_len]; done) | (simp [upN_len, idxBy_len, marks_len]; omega) | (simp at *; omega)) rfl)) (fun h16 => ?_) (fun h16 => ?_)
  · refine LJ.yd rfl (Yd.not rfl) ?_
    refine LJ.yd rfl (Yd.mvB rfl) ?_
    refine LJ.gT rfl ?_
    refine LJ.yd rfl (Yd.mvI rfl) ?_
    refine LJ.gT rfl ?_
    refine LJ.callB rfl (fun k hk dk => inRange_ok _ _ _ _) (fun h20 => ?_) (fun h20 => ?_)
    · refine LJ.gT rfl ?_
      refine LJ.yd rfl (Yd.not rfl) ?_
      refine LJ.yd rfl (Yd.pickFB rfl rfl) ?_
      refine LJ.nil ?_
      refine CJ.condF rfl ?_
      refine CJ.skip ?_
      refine CJ.seq ?_
      simp only [Bool.and_eq_true, decide_eq_true_eq] at h20
      have hgz := grp_zero.1 ⟨h16, h20⟩
      have hto := timesOk_iff.1 hgz.1
      refine CJ.region ?_
      refine LJ.yd rfl (Yd.mvS rfl) ?_
      refine LJ.yd rfl (Yd.len rfl) ?_
      refine LJ.op rfl (OpR.mk (enc := encI) (0 : Int) (m := l.length) rfl rfl rfl (by first | rfl | omega | (simp; done) | (simp; omega) | (simp [upN_len, idxBy_len, marks_len]; done) | (simp [upN_len, idxBy_len, marks_len]; omega) | (simp at *; omega))) ?_
      rintro _ _ ⟨g25, rfl, rfl⟩
      refine LJ.norm [_, _] rfl ?_
      refine LJ.yd rfl (Yd.asS rfl) ?_
      refine LJ.nil ?_
      refine CJ.seq ?_
      refine CJ.region ?_
      refine LJ.yd rfl (Yd.mvS rfl) ?_
      refine LJ.call0 rfl (fun k hk dk => fallingS_ok (RdRow.up hl) (by omega)) ?_
      rintro _ _ ⟨ra27, rc27, rfl, rfl⟩
      refine LJ.norm [_, _, _] rfl ?_
      refine LJ.yd rfl (Yd.asS rfl) ?_
      refine LJ.nil ?_
      refine CJ.seq ?_
      refine CJ.seq ?_
      refine CJ.region ?_
      refine LJ.yd rfl (Yd.asI rfl) ?_
      refine LJ.nil ?_
      refine CJ.block ?_
      refine CJ.loopF [1, 4, 5, 6] (Nat × List Int) (fun ⟨k, o⟩ => k ≤ l.length ∧ gpGo room k ((idxBy (ltF l) l.length).drop k) o = gpOf l room ∧ o.length = l.length) (fun ⟨k, o⟩ => [(7, vI k)]) (fun ⟨k, o⟩ => [LR encI 3 1 (some ⟨g25, 0, none⟩) l.length o]) (fun ⟨k, o⟩ => l.length - k) (0, List.replicate l.length 0) [_, _] [0, 2] [1] rfl rfl rfl ?_ ⟨rfl, trivial⟩ ?_
      · exact ⟨by omega, rfl, by simp⟩
      · rintro ⟨k, o⟩ σ ⟨hk1, hg, hol⟩
        refine CJ.norm [_, _, _] rfl ?_
        have hil := idxBy_len (ltF l) l.length
        refine CJ.seq ?_
        refine CJ.seq ?_
        refine CJ.region ?_
        refine LJ.yd rfl (Yd.mvI rfl) ?_
        refine LJ.yd rfl (Yd.mvS rfl) ?_
        refine LJ.yd rfl (Yd.len rfl) ?_
        refine LJ.splitD rfl (Yd.lss rfl rfl) (fun h31 => ?_) (fun h31 => ?_)
        · refine LJ.nil ?_
          refine CJ.condT rfl ?_
          refine CJ.skip ?_
          refine CJ.seq ?_
          refine CJ.block ?_
          refine CJ.regionD [0, 1] [2] (by kernel_rfl) rfl ?_
          refine DJ.norm [_, _] [_] rfl rfl ?_
          refine DJ.yd 0 rfl (by kernel_rfl) (by kernel_rfl) (by kernel_rfl) rfl rfl (Yd.mvS rfl) ?_
          refine DJ.yd 1 rfl (by kernel_rfl) (by kernel_rfl) (by kernel_rfl) rfl rfl (Yd.mvS rfl) ?_
          refine DJ.yd 2 rfl (by kernel_rfl) (by kernel_rfl) (by kernel_rfl) rfl rfl (Yd.mvI rfl) ?_
          refine DJ.idxF 1 rfl 3 rfl (by kernel_rfl) (by kernel_rfl) (by kernel_rfl) rfl rfl rfl rfl (by omega) (by first | rfl | omega | (simp; done) | (simp; omega) | (simp [upN_len, idxBy_len, marks_len]; done) | (simp [upN_len, idxBy_len, marks_len]; omega) | (simp at *; omega)) (by first | rfl | omega | (simp; done) | (simp; omega) | (simp [upN_len, idxBy_len, marks_len]; done) | (simp [upN_len, idxBy_len, marks_len]; omega) | (simp at *; omega)) (fun ib37 ia37 => ?_)
          refine DJ.ldF 4 rfl (by kernel_rfl) (by kernel_rfl) (by kernel_rfl) rfl rfl 1 0 (fun u => vI u) (fun _ => rfl) rfl ia37 rfl rfl (by first | rfl | omega | (simp; done) | (simp; omega) | (simp [upN_len, idxBy_len, marks_len]; done) | (simp [upN_len, idxBy_len, marks_len]; omega) | (simp at *; omega)) (fun u38 hu38 => ?_)
          try simp only [Int.toNat_natCast] at hu38
          have hf38 := idxBy_mem.1 (List.mem_of_getElem? hu38)
          refine DJ.yd 5 rfl (by kernel_rfl) (by kernel_rfl) (by kernel_rfl) rfl rfl (Yd.mvI rfl) ?_
          refine DJ.yd 6 rfl (by kernel_rfl) (by kernel_rfl) (by kernel_rfl) rfl rfl (Yd.mvI rfl) ?_
          refine DJ.yd 7 rfl (by kernel_rfl) (by kernel_rfl) (by kernel_rfl) rfl rfl (Yd.quo rfl rfl (by omega) (by omega) (by unfold I64; omega)) ?_
          refine DJ.idxR 0 rfl 8 rfl (by kernel_rfl) (by kernel_rfl) (by kernel_rfl) rfl rfl rfl rfl (by omega) (by first | rfl | omega | (simp; done) | (simp; omega) | (simp [upN_len, idxBy_len, marks_len]; done) | (simp [upN_len, idxBy_len, marks_len]; omega) | (simp at *; omega)) (by first | rfl | omega | (simp; done) | (simp; omega) | (simp [upN_len, idxBy_len, marks_len]; done) | (simp [upN_len, idxBy_len, marks_len]; omega) | (simp at *; omega)) (fun ib42 ia42 => ?_)
          refine DJ.one (i := 9) (by kernel_rfl) ?_
          refine DO.op rfl rfl rfl (fun k0 hk0 dk0 => OpR.st1 (enc := encI) (e1 := fun u => vI u) 0 (fun _ => rfl) (fun _ => rfl) (fun _ => rfl) rfl ia42 rfl rfl rfl (by first | rfl | omega | (simp; done) | (simp; omega) | (simp [upN_len, idxBy_len, marks_len]; done) | (simp [upN_len, idxBy_len, marks_len]; omega) | (simp at *; omega))) ?_
          rintro _ _ ⟨rfl, rfl⟩
          refine DJ.norm [_, _] [_] rfl rfl ?_
          refine DJ.done (by kernel_rfl) ?_
          refine CJ.region ?_
          refine LJ.yd rfl (Yd.mvI rfl) ?_
          refine LJ.yd rfl (Yd.add rfl rfl (by unfold I64; omega)) ?_
          refine LJ.yd rfl (Yd.asI rfl) ?_
          refine LJ.nil ?_
          refine ⟨(k + 1, _), ?_, ⟨rfl, rfl, rfl, rfl, trivial⟩, ⟨rfl, trivial⟩, Ent.refl _, ?_⟩
          · refine ⟨by omega, ?_⟩
            rw [dropC hu38, gpGo] at hg
            exact ⟨hg, by simp [hol]⟩
          · first | omega | (dsimp only; omega) | (simp only []; omega)
        · refine LJ.nil ?_
          refine CJ.condF rfl ?_
          refine CJ.exit ?_
          refine CJ.seq ?_
          refine CJ.region ?_
          refine LJ.yd rfl (Yd.mvS rfl) ?_
          refine LJ.yd rfl (Yd.asS rfl) ?_
          refine LJ.nil ?_
          refine CJ.ret ?_
          refine Fin.RL 2 (Res.one (ResV.tmp (v := .slice _ _ _) rfl)) rfl (by first | rfl | omega | (simp; done) | (simp; omega) | (simp [upN_len, idxBy_len, marks_len]; done) | (simp [upN_len, idxBy_len, marks_len]; omega) | (simp at *; omega)) ?_
          first
            | (unfold gpR; rw [if_pos hgz, ← hg, List.drop_of_length_le (by omega), gpGo]; done)
            | (simp only [Bool.and_eq_false_iff, decide_eq_false_iff_not] at h20
               unfold gpR; rw [if_neg (by omega)]; done)
            | (unfold gpR; rw [if_neg (fun h => by rw [(grp_zero.2 h).1] at h16; cases h16)]; done)
    · refine LJ.gT rfl ?_
      refine LJ.yd rfl (Yd.not rfl) ?_
      refine LJ.yd rfl (Yd.pickFB rfl rfl) ?_
      refine LJ.nil ?_
      refine CJ.condT rfl ?_
      refine CJ.seq ?_
      refine CJ.region ?_
      refine LJ.yd rfl (Yd.asS rfl) ?_
      refine LJ.nil ?_
      refine CJ.ret ?_
      refine Fin.RN (Res.one (ResV.tmp (v := .slice _ _ _) rfl)) ?_
      first
        | (unfold gpR; rw [if_pos hgz, ← hg, List.drop_of_length_le (by omega), gpGo]; done)
        | (simp only [Bool.and_eq_false_iff, decide_eq_false_iff_not] at h20
           unfold gpR; rw [if_neg (by omega)]; done)
        | (unfold gpR; rw [if_neg (fun h => by rw [(grp_zero.2 h).1] at h16; cases h16)]; done)
  · refine LJ.yd rfl (Yd.not rfl) ?_
    refine LJ.yd rfl (Yd.mvB rfl) ?_
    refine LJ.gF rfl rfl ?_
    refine LJ.gF rfl rfl ?_
    refine LJ.gF rfl rfl ?_
    refine LJ.yd rfl (Yd.pickTB rfl rfl) ?_
    refine LJ.nil ?_
    refine CJ.condT rfl ?_
    refine CJ.seq ?_
    refine CJ.region ?_
    refine LJ.yd rfl (Yd.asS rfl) ?_
    refine LJ.nil ?_
    refine CJ.ret ?_
    refine Fin.RN (Res.one (ResV.tmp (v := .slice _ _ _) rfl)) ?_
    first
      | (unfold gpR; rw [if_pos hgz, ← hg, List.drop_of_length_le (by omega), gpGo]; done)
      | (simp only [Bool.and_eq_false_iff, decide_eq_false_iff_not] at h20
         unfold gpR; rw [if_neg (by omega)]; done)
      | (unfold gpR; rw [if_neg (fun h => by rw [(grp_zero.2 h).1] at h16; cases h16)]; done)
end Go.Proofs.Ytlknglhldfpbdaa
