/-
  Contracts: lengths on bars, first fit.
-/
import Derived.Test.YtkojheinklgdeaaA4
namespace Go.Proofs.Ytkojheinklgdeaa
open Go
set_option maxRecDepth 20000
set_option maxHeartbeats 1000000

def barsOk (most : Int) (l : List Int) (bar : Int) : Bool := decide (1 ≤ bar ∧ bar ≤ 200 ∧ (l.length : Int) ≤ most) && l.all fun u => decide (1 ≤ u ∧ u ≤ bar)
theorem barsOk_iff {most bar : Int} {l : List Int} : barsOk most l bar = true ↔ (1 ≤ bar ∧ bar ≤ 200 ∧ (l.length : Int) ≤ most) ∧ ∀ u ∈ l, 1 ≤ u ∧ u ≤ bar := by
  simp only [barsOk, Bool.and_eq_true, decide_eq_true_eq, List.all_eq_true]
theorem all_take {p : Int → Bool} {l : List Int} {k : Nat} {u : Int} (h : ∀ z ∈ l.take k, p z = true) (hu : l[k]? = some u) (hp : p u = true) : ∀ z ∈ l.take (k + 1), p z = true := by
  intro z hz
  rw [takeC hu, List.mem_append, List.mem_singleton] at hz
  rcases hz with hz | rfl
  · exact h z hz
  · exact hp
theorem validBars_ok {A : Amb} {v : Value} {l : List Int} {bar : Int} (hl : RdL encI 1 A.h v l) : Ctr Try.prog 50 #[v, vI bar] A [] (Val (.bool (barsOk 20 l bar))) := by
  obtain ⟨la, lc, rfl, hlb, hl⟩ := hl.un
  refine Ctr.body (args := [_, _]) Try.func50 rfl Try.ntmps50 Try.results50 (by simp) ?_
  refine CJ.seq ?_
  refine CJ.region ?_
  refine LJ.yd rfl (Yd.asB rfl) ?_
  refine LJ.nil ?_
  refine CJ.seq ?_
  refine CJ.seq ?_
  refine CJ.region ?_
  refine LJ.yd rfl (Yd.asI rfl) ?_
  refine LJ.nil ?_
  refine CJ.block ?_
  refine CJ.loopK [0, 1] Nat (fun k => k ≤ l.length ∧ ∀ z ∈ l.take k, 1 ≤ z ∧ z ≤ bar) (fun k => [(5, vI k)]) (fun k => l.length - k) (0) ?_ ⟨rfl, trivial⟩ ?_
  · exact ⟨by omega, by simp⟩
  · rintro k σ ⟨hk1, hi1⟩
    refine CJ.seq ?_
    refine CJ.seq ?_
    refine CJ.region ?_
    refine LJ.yd rfl (Yd.mvI rfl) ?_
    refine LJ.yd rfl (Yd.mvS rfl) ?_
    refine LJ.yd rfl (Yd.len rfl) ?_
    refine LJ.splitD rfl (Yd.lss rfl rfl) (fun h9 => ?_) (fun h9 => ?_)
    · refine LJ.nil ?_
      refine CJ.condT rfl ?_
      refine CJ.skip ?_
      refine CJ.seq ?_
      refine CJ.block ?_
      refine CJ.seq ?_
      refine CJ.region ?_
      refine LJ.yd rfl (Yd.mvS rfl) ?_
      refine LJ.yd rfl (Yd.mvI rfl) ?_
      refine LJ.idxA rfl hl rfl rfl (by omega) (by first | rfl | omega | (simp; done) | (simp; omega) | (simp [upN_len]; omega) | (simp [idxBy_len]; omega) | (simp [marks_len]; omega) | (simp [upN_len]; done) | (simp [idxBy_len]; done) | (simp [marks_len]; done) | (simp at *; omega)) (fun ib14 io14 ia14 ir14 => ?_)
      refine LJ.ldA 0 (fun u => vI u) (fun _ => rfl) ir14 rfl rfl rfl (by first | rfl | omega | (simp; done) | (simp; omega) | (simp [upN_len]; omega) | (simp [idxBy_len]; omega) | (simp [marks_len]; omega) | (simp [upN_len]; done) | (simp [idxBy_len]; done) | (simp [marks_len]; done) | (simp at *; omega)) (fun u15 hu15 => ?_)
      try simp only [Int.toNat_natCast] at hu15
      refine LJ.yd rfl (Yd.mvI rfl) ?_
      refine LJ.callB rfl (fun k hk dk => inRange_ok _ _ _ _) (fun h17 => ?_) (fun h17 => ?_)
      · refine LJ.yd rfl (Yd.not rfl) ?_
        refine LJ.nil ?_
        refine CJ.condF rfl ?_
        refine CJ.skip ?_
        refine CJ.region ?_
        refine LJ.yd rfl (Yd.mvI rfl) ?_
        refine LJ.yd rfl (Yd.add rfl rfl (by unfold I64; omega)) ?_
        refine LJ.yd rfl (Yd.asI rfl) ?_
        refine LJ.nil ?_
        refine ⟨(k + 1), ?_, ⟨rfl, rfl, trivial⟩, ⟨rfl, trivial⟩, Ent.refl _, ?_⟩
        · refine ⟨by omega, ?_⟩
          intro z hz
          rw [takeC hu15, List.mem_append, List.mem_singleton] at hz
          simp only [Bool.and_eq_true, decide_eq_true_eq] at h17
          rcases hz with hz | rfl
          · exact hi1 z hz
          · exact h17
        · first | omega | (dsimp only; omega) | (simp only []; omega)
      · refine LJ.yd rfl (Yd.not rfl) ?_
        refine LJ.nil ?_
        refine CJ.condT rfl ?_
        refine CJ.seq ?_
        refine CJ.region ?_
        refine LJ.yd rfl (Yd.asB rfl) ?_
        refine LJ.nil ?_
        refine CJ.ret ?_
        refine Fin.V (Res.one (ResV.tmp (v := .bool false) rfl)) ?_
        refine congrArg Value.bool (Eq.symm ?_)
        simp only [Bool.and_eq_true, Bool.and_eq_false_iff, decide_eq_true_eq, decide_eq_false_iff_not] at *
        first
          | (refine Bool.eq_false_iff.2 fun h => ?_; have := (barsOk_iff.1 h).2 u15 (List.mem_of_getElem? hu15); omega)
          | (rw [List.take_of_length_le (by omega)] at hi1; exact barsOk_iff.2 ⟨by omega, hi1⟩)
          | (refine Bool.eq_false_iff.2 fun h => ?_; have := (barsOk_iff.1 h).1; omega)
    · refine LJ.nil ?_
      refine CJ.condF rfl ?_
      refine CJ.exit ?_
      refine CJ.seq ?_
      refine CJ.region ?_
      refine LJ.yd rfl (Yd.mvI rfl) ?_
      refine LJ.callB rfl (fun k hk dk => inRange_ok _ _ _ _) (fun h20 => ?_) (fun h20 => ?_)
      · refine LJ.yd rfl (Yd.mvB rfl) ?_
        refine LJ.gT rfl ?_
        refine LJ.yd rfl (Yd.mvS rfl) ?_
        refine LJ.gT rfl ?_
        refine LJ.yd rfl (Yd.len rfl) ?_
        refine LJ.gT rfl ?_
        refine LJ.splitD rfl (Yd.leq rfl rfl) (fun h24 => ?_) (fun h24 => ?_)
        · refine LJ.yd rfl (Yd.pickTB rfl rfl) ?_
          refine LJ.yd rfl (Yd.asB rfl) ?_
          refine LJ.nil ?_
          refine CJ.ret ?_
          refine Fin.V (Res.one (ResV.tmp (v := .bool true) rfl)) ?_
          refine congrArg Value.bool (Eq.symm ?_)
          simp only [Bool.and_eq_true, Bool.and_eq_false_iff, decide_eq_true_eq, decide_eq_false_iff_not] at *
          first
            | (refine Bool.eq_false_iff.2 fun h => ?_; have := (barsOk_iff.1 h).2 u15 (List.mem_of_getElem? hu15); omega)
            | (rw [List.take_of_length_le (by omega)] at hi1; exact barsOk_iff.2 ⟨by omega, hi1⟩)
            | (refine Bool.eq_false_iff.2 fun h => ?_; have := (barsOk_iff.1 h).1; omega)
        · refine LJ.yd rfl (Yd.pickTB rfl rfl) ?_
          refine LJ.yd rfl (Yd.asB rfl) ?_
          refine LJ.nil ?_
          refine CJ.ret ?_
          refine Fin.V (Res.one (ResV.tmp (v := .bool false) rfl)) ?_
          refine congrArg Value.bool (Eq.symm ?_)
          simp only [Bool.and_eq_true, Bool.and_eq_false_iff, decide_eq_true_eq, decide_eq_false_iff_not] at *
          first
            | (refine Bool.eq_false_iff.2 fun h => ?_; have := (barsOk_iff.1 h).2 u15 (List.mem_of_getElem? hu15); omega)
            | (rw [List.take_of_length_le (by omega)] at hi1; exact barsOk_iff.2 ⟨by omega, hi1⟩)
            | (refine Bool.eq_false_iff.2 fun h => ?_; have := (barsOk_iff.1 h).1; omega)
      · refine LJ.yd rfl (Yd.mvB rfl) ?_
        refine LJ.gF rfl rfl ?_
        refine LJ.gF rfl rfl ?_
        refine LJ.gF rfl rfl ?_
        refine LJ.yd rfl (Yd.pickFB rfl rfl) ?_
        refine LJ.yd rfl (Yd.asB rfl) ?_
        refine LJ.nil ?_
        refine CJ.ret ?_
        refine Fin.V (Res.one (ResV.tmp (v := .bool false) rfl)) ?_
        refine congrArg Value.bool (Eq.symm ?_)
        simp only [Bool.and_eq_true, Bool.and_eq_false_iff, decide_eq_true_eq, decide_eq_false_iff_not] at *
        first
          | (refine Bool.eq_false_iff.2 fun h => ?_; have := (barsOk_iff.1 h).2 u15 (List.mem_of_getElem? hu15); omega)
          | (rw [List.take_of_length_le (by omega)] at hi1; exact barsOk_iff.2 ⟨by omega, hi1⟩)
          | (refine Bool.eq_false_iff.2 fun h => ?_; have := (barsOk_iff.1 h).1; omega)
theorem barLengths_ok {A : Amb} {v : Value} {l : List Int} {bar most : Int} (hl : RdL encI 1 A.h v l) : Ctr Try.prog 57 #[v, vI bar, vI most] A [] (Val (.bool (barsOk most l bar))) := by
  obtain ⟨la, lc, rfl, hlb, hl⟩ := hl.un
  refine Ctr.body (args := [_, _, _]) Try.func57 rfl Try.ntmps57 Try.results57 (by simp) ?_
  refine CJ.seq ?_
  refine CJ.region ?_
  refine LJ.yd rfl (Yd.asB rfl) ?_
  refine LJ.nil ?_
  refine CJ.seq ?_
  refine CJ.seq ?_
  refine CJ.region ?_
  refine LJ.yd rfl (Yd.mvI rfl) ?_
  refine LJ.splitD rfl (Yd.lss rfl rfl) (fun h10 => ?_) (fun h10 => ?_)
  · refine LJ.yd rfl (Yd.mvB rfl) ?_
    refine LJ.gF rfl rfl ?_
    refine LJ.gF rfl rfl ?_
    refine LJ.yd rfl (Yd.pickTB rfl rfl) ?_
    refine LJ.yd rfl (Yd.mvB rfl) ?_
    refine LJ.gF rfl rfl ?_
    refine LJ.gF rfl rfl ?_
    refine LJ.gF rfl rfl ?_
    refine LJ.gF rfl rfl ?_
    refine LJ.yd rfl (Yd.pickTB rfl rfl) ?_
    refine LJ.nil ?_
    refine CJ.condT rfl ?_
    refine CJ.seq ?_
    refine CJ.region ?_
    refine LJ.yd rfl (Yd.asB rfl) ?_
    refine LJ.nil ?_
    refine CJ.ret ?_
    refine Fin.V (Res.one (ResV.tmp (v := .bool false) rfl)) ?_
    refine congrArg Value.bool (Eq.symm ?_)
    first
      | (refine Bool.eq_false_iff.2 fun h => ?_; have := (barsOk_iff.1 h).2 u26 (List.mem_of_getElem? hu26); omega)
      | (refine Bool.eq_false_iff.2 fun h => ?_; have := (barsOk_iff.1 h).1; omega)
      | (rw [List.take_of_length_le (by omega)] at hi1; exact barsOk_iff.2 ⟨by omega, hi1⟩)
  · refine LJ.yd rfl (Yd.mvB rfl) ?_
    refine LJ.gT rfl ?_
    refine LJ.yd rfl (Yd.mvI rfl) ?_
    refine LJ.gT rfl ?_
    refine LJ.splitD rfl (Yd.gtr rfl rfl) (fun h13 => ?_) (fun h13 => ?_)
    · refine LJ.yd rfl (Yd.pickFB rfl rfl) ?_
      refine LJ.yd rfl (Yd.mvB rfl) ?_
      refine LJ.gF rfl rfl ?_
      refine LJ.gF rfl rfl ?_
      refine LJ.gF rfl rfl ?_
      refine LJ.gF rfl rfl ?_
      refine LJ.yd rfl (Yd.pickTB rfl rfl) ?_
      refine LJ.nil ?_
      refine CJ.condT rfl ?_
      refine CJ.seq ?_
      refine CJ.region ?_
      refine LJ.yd rfl (Yd.asB rfl) ?_
      refine LJ.nil ?_
      refine CJ.ret ?_
      refine Fin.V (Res.one (ResV.tmp (v := .bool false) rfl)) ?_
      refine congrArg Value.bool (Eq.symm ?_)
      first
        | (refine Bool.eq_false_iff.2 fun h => ?_; have := (barsOk_iff.1 h).2 u26 (List.mem_of_getElem? hu26); omega)
        | (refine Bool.eq_false_iff.2 fun h => ?_; have := (barsOk_iff.1 h).1; omega)
        | (rw [List.take_of_length_le (by omega)] at hi1; exact barsOk_iff.2 ⟨by omega, hi1⟩)
    · refine LJ.yd rfl (Yd.pickFB rfl rfl) ?_
      refine LJ.yd rfl (Yd.mvB rfl) ?_
      refine LJ.gT rfl ?_
      refine LJ.yd rfl (Yd.mvS rfl) ?_
      refine LJ.gT rfl ?_
      refine LJ.yd rfl (Yd.len rfl) ?_
      refine LJ.gT rfl ?_
      refine LJ.yd rfl (Yd.mvI rfl) ?_
      refine LJ.gT rfl ?_
      refine LJ.splitD rfl (Yd.gtr rfl rfl) (fun h19 => ?_) (fun h19 => ?_)
      · refine LJ.yd rfl (Yd.pickFB rfl rfl) ?_
        refine LJ.nil ?_
        refine CJ.condT rfl ?_
        refine CJ.seq ?_
        refine CJ.region ?_
        refine LJ.yd rfl (Yd.asB rfl) ?_
        refine LJ.nil ?_
        refine CJ.ret ?_
        refine Fin.V (Res.one (ResV.tmp (v := .bool false) rfl)) ?_
        refine congrArg Value.bool (Eq.symm ?_)
        first
          | (refine Bool.eq_false_iff.2 fun h => ?_; have := (barsOk_iff.1 h).2 u26 (List.mem_of_getElem? hu26); omega)
          | (refine Bool.eq_false_iff.2 fun h => ?_; have := (barsOk_iff.1 h).1; omega)
          | (rw [List.take_of_length_le (by omega)] at hi1; exact barsOk_iff.2 ⟨by omega, hi1⟩)
      · refine LJ.yd rfl (Yd.pickFB rfl rfl) ?_
        refine LJ.nil ?_
        refine CJ.condF rfl ?_
        refine CJ.skip ?_
        refine CJ.seq ?_
        refine CJ.seq ?_
        refine CJ.region ?_
        refine LJ.yd rfl (Yd.mvS rfl) ?_
        refine LJ.yd rfl (Yd.len rfl) ?_
        refine LJ.yd rfl (Yd.mvI rfl) ?_
        refine LJ.nil ?_
        refine CJ.block ?_
        refine CJ.loopK [1, 21, 22] Nat (fun k => k ≤ l.length ∧ ∀ z ∈ l.take k, 1 ≤ z ∧ z ≤ bar) (fun k => [(23, vI k)]) (fun k => l.length - k) (0) ?_ ⟨rfl, trivial⟩ ?_
        · exact ⟨by omega, by simp⟩
        · rintro k σ ⟨hk1, hi1⟩
          refine CJ.seq ?_
          refine CJ.region ?_
          refine LJ.splitD rfl (Yd.lss rfl rfl) (fun h24 => ?_) (fun h24 => ?_)
          · refine LJ.nil ?_
            refine CJ.seq ?_
            refine CJ.condT rfl ?_
            refine CJ.skip ?_
            refine CJ.seq ?_
            refine CJ.block ?_
            refine CJ.seq ?_
            refine CJ.region ?_
            refine LJ.idxA rfl hl rfl rfl (by omega) (by first | rfl | omega | (simp; done) | (simp; omega) | (simp [upN_len]; omega) | (simp [idxBy_len]; omega) | (simp [marks_len]; omega) | (simp [upN_len]; done) | (simp [idxBy_len]; done) | (simp [marks_len]; done) | (simp at *; omega)) (fun ib25 io25 ia25 ir25 => ?_)
            refine LJ.ldA 0 (fun u => vI u) (fun _ => rfl) ir25 rfl rfl rfl (by first | rfl | omega | (simp; done) | (simp; omega) | (simp [upN_len]; omega) | (simp [idxBy_len]; omega) | (simp [marks_len]; omega) | (simp [upN_len]; done) | (simp [idxBy_len]; done) | (simp [marks_len]; done) | (simp at *; omega)) (fun u26 hu26 => ?_)
            try simp only [Int.toNat_natCast] at hu26
            refine LJ.yd rfl (Yd.asI rfl) ?_
            refine LJ.nil ?_
            refine CJ.seq ?_
            refine CJ.region ?_
            refine LJ.yd rfl (Yd.mvI rfl) ?_
            refine LJ.splitD rfl (Yd.lss rfl rfl) (fun h28 => ?_) (fun h28 => ?_)
            · refine LJ.yd rfl (Yd.mvB rfl) ?_
              refine LJ.gF rfl rfl ?_
              refine LJ.gF rfl rfl ?_
              refine LJ.gF rfl rfl ?_
              refine LJ.yd rfl (Yd.pickTB rfl rfl) ?_
              refine LJ.nil ?_
              refine CJ.condT rfl ?_
              refine CJ.seq ?_
              refine CJ.region ?_
              refine LJ.yd rfl (Yd.asB rfl) ?_
              refine LJ.nil ?_
              refine CJ.ret ?_
              refine Fin.V (Res.one (ResV.tmp (v := .bool false) rfl)) ?_
              refine congrArg Value.bool (Eq.symm ?_)
              first
                | (refine Bool.eq_false_iff.2 fun h => ?_; have := (barsOk_iff.1 h).2 u26 (List.mem_of_getElem? hu26); omega)
                | (refine Bool.eq_false_iff.2 fun h => ?_; have := (barsOk_iff.1 h).1; omega)
                | (rw [List.take_of_length_le (by omega)] at hi1; exact barsOk_iff.2 ⟨by omega, hi1⟩)
            · refine LJ.yd rfl (Yd.mvB rfl) ?_
              refine LJ.gT rfl ?_
              refine LJ.yd rfl (Yd.mvI rfl) ?_
              refine LJ.gT rfl ?_
              refine LJ.yd rfl (Yd.mvI rfl) ?_
              refine LJ.gT rfl ?_
              refine LJ.splitD rfl (Yd.gtr rfl rfl) (fun h32 => ?_) (fun h32 => ?_)
              · refine LJ.yd rfl (Yd.pickFB rfl rfl) ?_
                refine LJ.nil ?_
                refine CJ.condT rfl ?_
                refine CJ.seq ?_
                refine CJ.region ?_
                refine LJ.yd rfl (Yd.asB rfl) ?_
                refine LJ.nil ?_
                refine CJ.ret ?_
                refine Fin.V (Res.one (ResV.tmp (v := .bool false) rfl)) ?_
                refine congrArg Value.bool (Eq.symm ?_)
                first
                  | (refine Bool.eq_false_iff.2 fun h => ?_; have := (barsOk_iff.1 h).2 u26 (List.mem_of_getElem? hu26); omega)
                  | (refine Bool.eq_false_iff.2 fun h => ?_; have := (barsOk_iff.1 h).1; omega)
                  | (rw [List.take_of_length_le (by omega)] at hi1; exact barsOk_iff.2 ⟨by omega, hi1⟩)
              · refine LJ.yd rfl (Yd.pickFB rfl rfl) ?_
                refine LJ.nil ?_
                refine CJ.condF rfl ?_
                refine CJ.skip ?_
                refine CJ.region ?_
                refine LJ.yd rfl (Yd.add rfl rfl (by unfold I64; omega)) ?_
                refine LJ.yd rfl (Yd.mvI rfl) ?_
                refine LJ.nil ?_
                refine ⟨(k + 1), ?_, ⟨rfl, rfl, rfl, trivial⟩, ⟨rfl, trivial⟩, Ent.refl _, ?_⟩
                · refine ⟨by omega, ?_⟩
                  intro z hz
                  rw [takeC hu26, List.mem_append, List.mem_singleton] at hz
                  rcases hz with hz | rfl
                  · exact hi1 z hz
                  · omega
                · first | omega | (dsimp only; omega) | (simp only []; omega)
          · refine LJ.nil ?_
            refine CJ.seq ?_
            refine CJ.condF rfl ?_
            refine CJ.exit ?_
            refine CJ.seq ?_
            refine CJ.region ?_
            refine LJ.yd rfl (Yd.asB rfl) ?_
            refine LJ.nil ?_
            refine CJ.ret ?_
            refine Fin.V (Res.one (ResV.tmp (v := .bool true) rfl)) ?_
            refine congrArg Value.bool (Eq.symm ?_)
            first
              | (refine Bool.eq_false_iff.2 fun h => ?_; have := (barsOk_iff.1 h).2 u26 (List.mem_of_getElem? hu26); omega)
              | (refine Bool.eq_false_iff.2 fun h => ?_; have := (barsOk_iff.1 h).1; omega)
              | (rw [List.take_of_length_le (by omega)] at hi1; exact barsOk_iff.2 ⟨by omega, hi1⟩)
/-- the first bar with room, of bars with these loads -/
def fB (x bar : Int) : List Int → Nat
  | [] => 0
  | u :: r => if u + x > bar then fB x bar r + 1 else 0
/-- the loads behind x on that bar -/
def fS (x bar : Int) : List Int → List Int
  | [] => [x]
  | u :: r => if u + x > bar then u :: fS x bar r else (u + x) :: r
/-- first fit: the loads, and the bars -/
def ffGo (l : List Int) (bar : Int) : List Int → List Int → List Int → List Int × List Int
  | [], s, o => (s, o)
  | i :: r, s, o => ffGo l bar r (fS (gt l i) bar s) (o.set i.toNat (fB (gt l i) bar s))
def ffit (l : List Int) (bar : Int) (order : List Int) : List Int := (ffGo l bar order [] (List.replicate l.length 0)).2
theorem fB_le (x bar : Int) : ∀ s : List Int, fB x bar s ≤ s.length
  | [] => Nat.le_refl _
  | u :: r => by have := fB_le x bar r; simp only [fB]; split <;> simp <;> omega
theorem fS_len (x bar : Int) : ∀ s : List Int, (fS x bar s).length = if fB x bar s = s.length then s.length + 1 else s.length
  | [] => rfl
  | u :: r => by
    have h1 := fS_len x bar r
    have h2 := fB_le x bar r
    simp only [fB, fS]
    split
    · simp only [List.length_cons, h1]; split <;> split <;> omega
    · simp only [List.length_cons]; split <;> omega
theorem fS_old {x bar : Int} : ∀ {s : List Int} {u : Int}, s[fB x bar s]? = some u → fS x bar s = s.set (fB x bar s) (u + x)
  | [], u, h => by cases h
  | v :: r, u, h => by
    simp only [fB, fS] at h ⊢
    split
    · rename_i hv; rw [if_pos hv, List.getElem?_cons_succ] at h; rw [List.set_cons_succ, fS_old h]
    · rename_i hv; rw [if_neg hv] at h; cases h; rfl
theorem fS_new {x bar : Int} : ∀ {s : List Int}, fB x bar s = s.length → fS x bar s = s ++ [x]
  | [], h => rfl
  | v :: r, h => by
    simp only [fB, fS] at h ⊢
    split
    · rename_i hv; rw [if_pos hv] at h; rw [fS_new (by simpa using h)]; rfl
    · rename_i hv; rw [if_neg hv] at h; simp at h
theorem fB_stop {x bar u : Int} : ∀ {s : List Int} {j : Nat}, j + fB x bar (s.drop j) = fB x bar s → s[j]? = some u → ¬ u + x > bar → j = fB x bar s := by
  intro s j h hu hx
  rw [dropC hu, fB, if_neg hx] at h
  omega
theorem fB_next {x bar u : Int} {s : List Int} {j : Nat} (h : j + fB x bar (s.drop j) = fB x bar s) (hu : s[j]? = some u) (hx : u + x > bar) : (j + 1) + fB x bar (s.drop (j + 1)) = fB x bar s := by
  rw [dropC hu, fB, if_pos hx] at h
  omega
theorem fS_mem {x bar : Int} (h0 : 1 ≤ x) (h1 : x ≤ bar) : ∀ {s : List Int}, (∀ u ∈ s, 1 ≤ u ∧ u ≤ bar) → ∀ u ∈ fS x bar s, 1 ≤ u ∧ u ≤ bar
  | [], _ => by intro u hu; cases List.mem_singleton.1 hu; exact ⟨h0, h1⟩
  | v :: r, h => by
    intro u hu
    have hv := h v (List.mem_cons_self)
    simp only [fS] at hu
    split at hu
    · rcases List.mem_cons.1 hu with rfl | hu
      · exact hv
      · exact fS_mem h0 h1 (fun z hz => h z (List.mem_cons_of_mem _ hz)) u hu
    · rcases List.mem_cons.1 hu with rfl | hu
      · omega
      · exact h u (List.mem_cons_of_mem _ hu)
theorem firstFitS_ok {A : Amb} {v w : Value} {l order : List Int} {bar : Int} (hl : RdL encI 1 A.h v l) (ho : RdL encI 1 A.h w order) (hb : bar ≤ 1000) (hm : ∀ u ∈ l, 1 ≤ u ∧ u ≤ bar) (hi : ∀ i ∈ order, 0 ≤ i ∧ i < l.length) (hn : l.length ≤ 1000) (hn2 : order.length ≤ 1000) :
    Ctr Try.prog 52 #[v, vI bar, w] A [] (RLP encI 3 1 (ffit l bar order)) := by
  obtain ⟨la, lc, rfl, hlb, hl⟩ := hl.un
  obtain ⟨oa, oc, rfl, hob, ho⟩ := ho.un
  refine Ctr.body (args := [_, _, _]) Try.func52 rfl Try.ntmps52 Try.results52 (by simp) ?_
  refine CJ.seq ?_
  refine CJ.region ?_
  refine LJ.yd rfl (Yd.asS rfl) ?_
  refine LJ.nil ?_
  refine CJ.seq ?_
  refine CJ.region ?_
  refine LJ.yd rfl (Yd.mvS rfl) ?_
  refine LJ.yd rfl (Yd.len rfl) ?_
  refine LJ.op rfl (OpR.mk (enc := encI) (0 : Int) (m := l.length) rfl rfl rfl (by first | rfl | omega | (simp; done) | (simp; omega) | (simp [upN_len]; omega) | (simp [idxBy_len]; omega) | (simp [marks_len]; omega) | (simp [upN_len]; done) | (simp [idxBy_len]; done) | (simp [marks_len]; done) | (simp at *; omega))) ?_
  rintro _ _ ⟨g14, rfl, rfl⟩
  refine LJ.norm [_] rfl ?_
  refine LJ.yd rfl (Yd.asS rfl) ?_
  refine LJ.nil ?_
  refine CJ.seq ?_
  refine CJ.region ?_
  refine LJ.op rfl (OpR.buildSlice (cs := []) rfl rfl) ?_
  rintro _ _ ⟨b2, rfl, rfl⟩
  refine LJ.yd rfl (Yd.asS rfl) ?_
  refine LJ.nil ?_
  refine CJ.seq ?_
  refine CJ.seq ?_
  refine CJ.region ?_
  refine LJ.yd rfl (Yd.asI rfl) ?_
  refine LJ.nil ?_
  refine CJ.block ?_
  refine CJ.imp1 1 rfl (fun _ h => Cel.lr (enc := encI) (k := 1) (m := 0) [] rfl rfl rfl rfl h) ?_
  refine CJ.norm [_, _] rfl ?_
  refine CJ.loopF [0, 1, 2, 6, 7] (Nat × List Int × List Int × Option Addr × Nat × Nat) (fun ⟨k, o, s, sA, sN, sC⟩ => (sN = s.length) ∧ k ≤ order.length ∧ ffGo l bar (order.drop k) s o = ffGo l bar order [] (List.replicate l.length 0) ∧ o.length = l.length ∧ s.length ≤ k ∧ ∀ u ∈ s, 1 ≤ u ∧ u ≤ bar) (fun ⟨k, o, s, sA, sN, sC⟩ => [(9, vI k), (8, .slice sA sN sC)]) (fun ⟨k, o, s, sA, sN, sC⟩ => [LR encI 3 1 sA sC s, LR encI 3 1 (some ⟨g14, 0, none⟩) l.length o]) (fun ⟨k, o, s, sA, sN, sC⟩ => order.length - k) (0, List.replicate l.length 0, [], _, _, _) [] [] [1, 0] rfl rfl rfl ?_ ⟨rfl, rfl, trivial⟩ ?_
  · exact ⟨(by first | rfl | omega | (simp; done) | (simp; omega) | (simp [upN_len]; omega) | (simp [idxBy_len]; omega) | (simp [marks_len]; omega) | (simp [upN_len]; done) | (simp [idxBy_len]; done) | (simp [marks_len]; done) | (simp at *; omega)), ⟨by omega, rfl, by simp, by simp, by simp⟩⟩
  · rintro ⟨k, o, s, sA, sN, sC⟩ σ ⟨hlNs, ⟨hk1, hg, hol, hsl, hsm⟩⟩
    subst hlNs
    refine CJ.norm [_, _] rfl ?_
    refine CJ.seq ?_
    refine CJ.seq ?_
    refine CJ.region ?_
    refine LJ.yd rfl (Yd.mvI rfl) ?_
    refine LJ.yd rfl (Yd.mvS rfl) ?_
    refine LJ.yd rfl (Yd.len rfl) ?_
    refine LJ.splitD rfl (Yd.lss rfl rfl) (fun h19 => ?_) (fun h19 => ?_)
    · refine LJ.nil ?_
      refine CJ.condT rfl ?_
      refine CJ.skip ?_
      refine CJ.seq ?_
      refine CJ.block ?_
      refine CJ.seq ?_
      refine CJ.region ?_
      refine LJ.yd rfl (Yd.mvS rfl) ?_
      refine LJ.yd rfl (Yd.mvS rfl) ?_
      refine LJ.yd rfl (Yd.mvI rfl) ?_
      refine LJ.idxA rfl ho rfl rfl (by omega) (by first | rfl | omega | (simp; done) | (simp; omega) | (simp [upN_len]; omega) | (simp [idxBy_len]; omega) | (simp [marks_len]; omega) | (simp [upN_len]; done) | (simp [idxBy_len]; done) | (simp [marks_len]; done) | (simp at *; omega)) (fun ib25 io25 ia25 ir25 => ?_)
      refine LJ.ldA 0 (fun u => vI u) (fun _ => rfl) ir25 rfl rfl rfl (by first | rfl | omega | (simp; done) | (simp; omega) | (simp [upN_len]; omega) | (simp [idxBy_len]; omega) | (simp [marks_len]; omega) | (simp [upN_len]; done) | (simp [idxBy_len]; done) | (simp [marks_len]; done) | (simp at *; omega)) (fun u26 hu26 => ?_)
      try simp only [Int.toNat_natCast] at hu26
      have hf26 := hi u26 (List.mem_of_getElem? hu26)
      refine LJ.idxA rfl hl rfl rfl (by omega) (by first | rfl | omega | (simp; done) | (simp; omega) | (simp [upN_len]; omega) | (simp [idxBy_len]; omega) | (simp [marks_len]; omega) | (simp [upN_len]; done) | (simp [idxBy_len]; done) | (simp [marks_len]; done) | (simp at *; omega)) (fun ib27 io27 ia27 ir27 => ?_)
      refine LJ.ldA 0 (fun u => vI u) (fun _ => rfl) ir27 rfl rfl rfl (by first | rfl | omega | (simp; done) | (simp; omega) | (simp [upN_len]; omega) | (simp [idxBy_len]; omega) | (simp [marks_len]; omega) | (simp [upN_len]; done) | (simp [idxBy_len]; done) | (simp [marks_len]; done) | (simp at *; omega)) (fun u28 hu28 => ?_)
      try simp only [Int.toNat_natCast] at hu28
      have hf28 := hm u28 (List.mem_of_getElem? hu28)
      refine LJ.yd rfl (Yd.asI rfl) ?_
      refine LJ.nil ?_
      refine CJ.seq ?_
      refine CJ.region ?_
      refine LJ.yd rfl (Yd.asI rfl) ?_
      refine LJ.nil ?_
      refine CJ.seqK [0, 1, 2, 6, 7, 8, 9, 10, 16, 17, 18, 19, 22, 23, 24, 25, 26, 27, 28] Nat (fun j => j = fB u28 bar s) (fun j => [(11, vI j)]) ?_ ?_
      · refine CJ.block ?_
        refine CJ.loopK [0, 1, 2, 6, 7, 8, 9, 10, 16, 17, 18, 19, 22, 23, 24, 25, 26, 27, 28] Nat (fun j => j ≤ s.length ∧ j + fB u28 bar (s.drop j) = fB u28 bar s) (fun j => [(11, vI j)]) (fun j => s.length - j) (0) ?_ ⟨rfl, trivial⟩ ?_
        · exact ⟨by omega, by simp⟩
        · rintro j σ ⟨hj, hj2⟩
          refine CJ.seq ?_
          refine CJ.seq ?_
          refine CJ.region ?_
          refine LJ.yd rfl (Yd.mvI rfl) ?_
          refine LJ.yd rfl (Yd.mvS rfl) ?_
          refine LJ.yd rfl (Yd.len rfl) ?_
          refine LJ.splitD rfl (Yd.lss rfl rfl) (fun h32 => ?_) (fun h32 => ?_)
          · refine LJ.yd rfl (Yd.mvB rfl) ?_
            refine LJ.gT rfl ?_
            refine LJ.yd rfl (Yd.mvS rfl) ?_
            refine LJ.gT rfl ?_
            refine LJ.yd rfl (Yd.mvI rfl) ?_
            refine LJ.gT rfl ?_
            refine LJ.idxR 0 rfl rfl rfl rfl (by omega) (by first | rfl | omega | (simp; done) | (simp; omega) | (simp [upN_len]; omega) | (simp [idxBy_len]; omega) | (simp [marks_len]; omega) | (simp [upN_len]; done) | (simp [idxBy_len]; done) | (simp [marks_len]; done) | (simp at *; omega)) (by first | rfl | omega | (simp; done) | (simp; omega) | (simp [upN_len]; omega) | (simp [idxBy_len]; omega) | (simp [marks_len]; omega) | (simp [upN_len]; done) | (simp [idxBy_len]; done) | (simp [marks_len]; done) | (simp at *; omega)) (fun ib36 ia36 => ?_)
            refine LJ.gT rfl ?_
            refine LJ.ldR 0 0 (fun u => vI u) (fun _ => rfl) rfl ia36 rfl rfl rfl (by first | rfl | omega | (simp; done) | (simp; omega) | (simp [upN_len]; omega) | (simp [idxBy_len]; omega) | (simp [marks_len]; omega) | (simp [upN_len]; done) | (simp [idxBy_len]; done) | (simp [marks_len]; done) | (simp at *; omega)) (fun u37 hu37 => ?_)
            try simp only [Int.toNat_natCast] at hu37
            have hf37 := hsm u37 (List.mem_of_getElem? hu37)
            refine LJ.gT rfl ?_
            refine LJ.yd rfl (Yd.mvI rfl) ?_
            refine LJ.gT rfl ?_
            refine LJ.yd rfl (Yd.add rfl rfl (by unfold I64; omega)) ?_
            refine LJ.gT rfl ?_
            refine LJ.yd rfl (Yd.mvI rfl) ?_
            refine LJ.gT rfl ?_
            refine LJ.splitD rfl (Yd.gtr rfl rfl) (fun h41 => ?_) (fun h41 => ?_)
            · refine LJ.yd rfl (Yd.pickTB rfl rfl) ?_
              refine LJ.nil ?_
              refine CJ.condT rfl ?_
              refine CJ.skip ?_
              refine CJ.block ?_
              refine CJ.region ?_
              refine LJ.yd rfl (Yd.mvI rfl) ?_
              refine LJ.yd rfl (Yd.add rfl rfl (by unfold I64; omega)) ?_
              refine LJ.yd rfl (Yd.asI rfl) ?_
              refine LJ.nil ?_
              refine ⟨(j + 1), ?_, ⟨rfl, rfl, rfl, rfl, rfl, rfl, rfl, rfl, rfl, rfl, rfl, rfl, rfl, rfl, rfl, rfl, rfl, rfl, rfl, trivial⟩, ⟨rfl, trivial⟩, Ent.refl _, ?_⟩
              · refine ⟨by omega, ?_⟩
                exact fB_next hj2 hu37 h41
              · first | omega | (dsimp only; omega) | (simp only []; omega)
            · refine LJ.yd rfl (Yd.pickTB rfl rfl) ?_
              refine LJ.nil ?_
              refine CJ.condF rfl ?_
              refine CJ.exit ?_
              refine ⟨j, ?_, ?_, ?_, Ent.refl _⟩
              · first | exact fB_stop hj2 hu37 h41 | (rw [List.drop_of_length_le (by omega)] at hj2; simpa [fB] using hj2)
              · exact ⟨rfl, rfl, rfl, rfl, rfl, rfl, rfl, rfl, rfl, rfl, rfl, rfl, rfl, rfl, rfl, rfl, rfl, rfl, rfl, trivial⟩
              · exact ⟨rfl, trivial⟩
          · refine LJ.yd rfl (Yd.mvB rfl) ?_
            refine LJ.gF rfl rfl ?_
            refine LJ.gF rfl rfl ?_
            refine LJ.gF rfl rfl ?_
            refine LJ.gF rfl rfl ?_
            refine LJ.gF rfl rfl ?_
            refine LJ.gF rfl rfl ?_
            refine LJ.gF rfl rfl ?_
            refine LJ.gF rfl rfl ?_
            refine LJ.yd rfl (Yd.pickFB rfl rfl) ?_
            refine LJ.nil ?_
            refine CJ.condF rfl ?_
            refine CJ.exit ?_
            refine ⟨j, ?_, ?_, ?_, Ent.refl _⟩
            · first | exact fB_stop hj2 hu37 h41 | (rw [List.drop_of_length_le (by omega)] at hj2; simpa [fB] using hj2)
            · exact ⟨rfl, rfl, rfl, rfl, rfl, rfl, rfl, rfl, rfl, rfl, rfl, rfl, rfl, rfl, rfl, rfl, rfl, rfl, rfl, trivial⟩
            · exact ⟨rfl, trivial⟩
      · rintro j σ hjb
        refine CJ.seq ?_
        refine CJ.seq ?_
        have hfb := fB_le u28 bar s
        refine CJ.region ?_
        refine LJ.yd rfl (Yd.mvI rfl) ?_
        refine LJ.yd rfl (Yd.mvS rfl) ?_
        refine LJ.yd rfl (Yd.len rfl) ?_
        refine LJ.splitD rfl (Yd.eql rfl rfl) (fun h48 => ?_) (fun h48 => ?_)
        · refine LJ.nil ?_
          refine CJ.condT rfl ?_
          refine CJ.region ?_
          refine LJ.yd rfl (Yd.mvS rfl) ?_
          refine LJ.op rfl (OpR.buildSlice (cs := [_]) rfl rfl) ?_
          rintro _ _ ⟨b3, rfl, rfl⟩
          refine LJ.op rfl (OpR.apT (enc := encI) [_] 0 2 rfl rfl rfl (by first | rfl | omega | (simp; done) | (simp; omega) | (simp [upN_len]; omega) | (simp [idxBy_len]; omega) | (simp [marks_len]; omega) | (simp [upN_len]; done) | (simp [idxBy_len]; done) | (simp [marks_len]; done) | (simp at *; omega)) rfl rfl rfl rfl rfl (by first | rfl | omega | (simp; done) | (simp; omega) | (simp [upN_len]; omega) | (simp [idxBy_len]; omega) | (simp [marks_len]; omega) | (simp [upN_len]; done) | (simp [idxBy_len]; done) | (simp [marks_len]; done) | (simp at *; omega))) ?_
          rintro _ _ ⟨ra51, rc51, rfl, rfl⟩
          refine LJ.norm [_, _, _] rfl ?_
          refine LJ.yd rfl (Yd.asS rfl) ?_
          refine LJ.nil ?_
          refine CJ.seq ?_
          refine CJ.region ?_
          refine LJ.yd rfl (Yd.mvS rfl) ?_
          refine LJ.yd rfl (Yd.mvI rfl) ?_
          refine LJ.yd rfl (Yd.mvS rfl) ?_
          refine LJ.yd rfl (Yd.mvI rfl) ?_
          refine LJ.idxR 0 rfl rfl rfl rfl (by omega) (by first | rfl | omega | (simp; done) | (simp; omega) | (simp [upN_len]; omega) | (simp [idxBy_len]; omega) | (simp [marks_len]; omega) | (simp [upN_len]; done) | (simp [idxBy_len]; done) | (simp [marks_len]; done) | (simp at *; omega)) (by first | rfl | omega | (simp; done) | (simp; omega) | (simp [upN_len]; omega) | (simp [idxBy_len]; omega) | (simp [marks_len]; omega) | (simp [upN_len]; done) | (simp [idxBy_len]; done) | (simp [marks_len]; done) | (simp at *; omega)) (fun ib56 ia56 => ?_)
          refine LJ.ldR 0 0 (fun u => vI u) (fun _ => rfl) rfl ia56 rfl rfl rfl (by first | rfl | omega | (simp; done) | (simp; omega) | (simp [upN_len]; omega) | (simp [idxBy_len]; omega) | (simp [marks_len]; omega) | (simp [upN_len]; done) | (simp [idxBy_len]; done) | (simp [marks_len]; done) | (simp at *; omega)) (fun u57 hu57 => ?_)
          try simp only [Int.toNat_natCast] at hu57
          have hf57 : 0 ≤ u57 ∧ u57 ≤ bar := by
            first
              | (have := hsm u57 (List.mem_of_getElem? hu57); omega)
              | (rcases List.mem_append.1 (List.mem_of_getElem? hu57) with h | h
                 · have := hsm u57 h; omega
                 · simp at h; omega)
          refine LJ.yd rfl (Yd.mvI rfl) ?_
          refine LJ.yd rfl (Yd.add rfl rfl (by unfold I64; omega)) ?_
          refine LJ.idxR 0 rfl rfl rfl rfl (by omega) (by first | rfl | omega | (simp; done) | (simp; omega) | (simp [upN_len]; omega) | (simp [idxBy_len]; omega) | (simp [marks_len]; omega) | (simp [upN_len]; done) | (simp [idxBy_len]; done) | (simp [marks_len]; done) | (simp at *; omega)) (by first | rfl | omega | (simp; done) | (simp; omega) | (simp [upN_len]; omega) | (simp [idxBy_len]; omega) | (simp [marks_len]; omega) | (simp [upN_len]; done) | (simp [idxBy_len]; done) | (simp [marks_len]; done) | (simp at *; omega)) (fun ib60 ia60 => ?_)
          refine LJ.op rfl (OpR.st1 (enc := encI) (e1 := fun u => vI u) 0 (fun _ => rfl) (fun _ => rfl) (fun _ => rfl) rfl ia60 rfl rfl rfl (by first | rfl | omega | (simp; done) | (simp; omega) | (simp [upN_len]; omega) | (simp [idxBy_len]; omega) | (simp [marks_len]; omega) | (simp [upN_len]; done) | (simp [idxBy_len]; done) | (simp [marks_len]; done) | (simp at *; omega))) ?_
          rintro _ _ ⟨rfl, rfl⟩
          refine LJ.norm [_, _, _] rfl ?_
          refine LJ.nil ?_
          first
            | (obtain rfl : j = s.length := by omega
               have e0 : u57 = 0 := by simpa using hu57.symm
               subst e0
               rw [show (s ++ [(0 : Int)]).set (s.length : Int).toNat (0 + u28) = fS u28 bar s by rw [fS_new hjb.symm]; simp])
            | rw [show s.set (j : Int).toNat (u57 + u28) = fS u28 bar s by rw [fS_old (u := u57) (by rw [← hjb]; exact hu57), ← hjb]; rfl]
          refine CJ.region ?_
          refine LJ.yd rfl (Yd.mvS rfl) ?_
          refine LJ.yd rfl (Yd.mvS rfl) ?_
          refine LJ.yd rfl (Yd.mvI rfl) ?_
          refine LJ.idxA rfl ho rfl rfl (by omega) (by first | rfl | omega | (simp; done) | (simp; omega) | (simp [upN_len]; omega) | (simp [idxBy_len]; omega) | (simp [marks_len]; omega) | (simp [upN_len]; done) | (simp [idxBy_len]; done) | (simp [marks_len]; done) | (simp at *; omega)) (fun ib64 io64 ia64 ir64 => ?_)
          refine LJ.ldA 0 (fun u => vI u) (fun _ => rfl) ir64 rfl rfl rfl (by first | rfl | omega | (simp; done) | (simp; omega) | (simp [upN_len]; omega) | (simp [idxBy_len]; omega) | (simp [marks_len]; omega) | (simp [upN_len]; done) | (simp [idxBy_len]; done) | (simp [marks_len]; done) | (simp at *; omega)) (fun u65 hu65 => ?_)
          try simp only [Int.toNat_natCast] at hu65
          have hf65 := hi u65 (List.mem_of_getElem? hu65)
          refine LJ.yd rfl (Yd.mvI rfl) ?_
          refine LJ.idxR 1 rfl rfl rfl rfl (by omega) (by first | rfl | omega | (simp; done) | (simp; omega) | (simp [upN_len]; omega) | (simp [idxBy_len]; omega) | (simp [marks_len]; omega) | (simp [upN_len]; done) | (simp [idxBy_len]; done) | (simp [marks_len]; done) | (simp at *; omega)) (by first | rfl | omega | (simp; done) | (simp; omega) | (simp [upN_len]; omega) | (simp [idxBy_len]; omega) | (simp [marks_len]; omega) | (simp [upN_len]; done) | (simp [idxBy_len]; done) | (simp [marks_len]; done) | (simp at *; omega)) (fun ib67 ia67 => ?_)
          refine LJ.op rfl (OpR.st1 (enc := encI) (e1 := fun u => vI u) 1 (fun _ => rfl) (fun _ => rfl) (fun _ => rfl) rfl ia67 rfl rfl rfl (by first | rfl | omega | (simp; done) | (simp; omega) | (simp [upN_len]; omega) | (simp [idxBy_len]; omega) | (simp [marks_len]; omega) | (simp [upN_len]; done) | (simp [idxBy_len]; done) | (simp [marks_len]; done) | (simp at *; omega))) ?_
          rintro _ _ ⟨rfl, rfl⟩
          refine LJ.norm [_, _, _] rfl ?_
          refine LJ.nil ?_
          refine CJ.region ?_
          refine LJ.yd rfl (Yd.mvI rfl) ?_
          refine LJ.yd rfl (Yd.add rfl rfl (by unfold I64; omega)) ?_
          refine LJ.yd rfl (Yd.asI rfl) ?_
          refine LJ.nil ?_
          refine ⟨(k + 1, _, _, _, _, _), ?_, ⟨rfl, rfl, rfl, rfl, rfl, trivial⟩, ⟨rfl, rfl, trivial⟩, Ent.pick [0, 1] [2] rfl, ?_⟩
          · refine ⟨(by rw [fS_len]; simp; omega), ?_⟩
            refine ⟨by omega, ?_⟩
            have e65 : u65 = u26 := by rw [hu26] at hu65; exact (Option.some.inj hu65).symm
            rw [dropC hu26, ffGo, gtC hu28, ← hjb] at hg
            refine ⟨by rw [e65]; exact hg, by simp [hol], ?_, fS_mem (by omega) (by omega) hsm⟩
            rw [fS_len]; have := fB_le u28 bar s; split <;> omega
          · first | omega | (dsimp only; omega) | (simp only []; omega)
        · refine LJ.nil ?_
          refine CJ.condF rfl ?_
          refine CJ.skip ?_
          refine CJ.seq ?_
          refine CJ.region ?_
          refine LJ.yd rfl (Yd.mvS rfl) ?_
          refine LJ.yd rfl (Yd.mvI rfl) ?_
          refine LJ.yd rfl (Yd.mvS rfl) ?_
          refine LJ.yd rfl (Yd.mvI rfl) ?_
          refine LJ.idxR 0 rfl rfl rfl rfl (by omega) (by first | rfl | omega | (simp; done) | (simp; omega) | (simp [upN_len]; omega) | (simp [idxBy_len]; omega) | (simp [marks_len]; omega) | (simp [upN_len]; done) | (simp [idxBy_len]; done) | (simp [marks_len]; done) | (simp at *; omega)) (by first | rfl | omega | (simp; done) | (simp; omega) | (simp [upN_len]; omega) | (simp [idxBy_len]; omega) | (simp [marks_len]; omega) | (simp [upN_len]; done) | (simp [idxBy_len]; done) | (simp [marks_len]; done) | (simp at *; omega)) (fun ib56 ia56 => ?_)
          refine LJ.ldR 0 0 (fun u => vI u) (fun _ => rfl) rfl ia56 rfl rfl rfl (by first | rfl | omega | (simp; done) | (simp; omega) | (simp [upN_len]; omega) | (simp [idxBy_len]; omega) | (simp [marks_len]; omega) | (simp [upN_len]; done) | (simp [idxBy_len]; done) | (simp [marks_len]; done) | (simp at *; omega)) (fun u57 hu57 => ?_)
          try simp only [Int.toNat_natCast] at hu57
          have hf57 : 0 ≤ u57 ∧ u57 ≤ bar := by
            first
              | (have := hsm u57 (List.mem_of_getElem? hu57); omega)
              | (rcases List.mem_append.1 (List.mem_of_getElem? hu57) with h | h
                 · have := hsm u57 h; omega
                 · simp at h; omega)
          refine LJ.yd rfl (Yd.mvI rfl) ?_
          refine LJ.yd rfl (Yd.add rfl rfl (by unfold I64; omega)) ?_
          refine LJ.idxR 0 rfl rfl rfl rfl (by omega) (by first | rfl | omega | (simp; done) | (simp; omega) | (simp [upN_len]; omega) | (simp [idxBy_len]; omega) | (simp [marks_len]; omega) | (simp [upN_len]; done) | (simp [idxBy_len]; done) | (simp [marks_len]; done) | (simp at *; omega)) (by first | rfl | omega | (simp; done) | (simp; omega) | (simp [upN_len]; omega) | (simp [idxBy_len]; omega) | (simp [marks_len]; omega) | (simp [upN_len]; done) | (simp [idxBy_len]; done) | (simp [marks_len]; done) | (simp at *; omega)) (fun ib60 ia60 => ?_)
          refine LJ.op rfl (OpR.st1 (enc := encI) (e1 := fun u => vI u) 0 (fun _ => rfl) (fun _ => rfl) (fun _ => rfl) rfl ia60 rfl rfl rfl (by first | rfl | omega | (simp; done) | (simp; omega) | (simp [upN_len]; omega) | (simp [idxBy_len]; omega) | (simp [marks_len]; omega) | (simp [upN_len]; done) | (simp [idxBy_len]; done) | (simp [marks_len]; done) | (simp at *; omega))) ?_
          rintro _ _ ⟨rfl, rfl⟩
          refine LJ.norm [_, _] rfl ?_
          refine LJ.nil ?_
          first
            | (obtain rfl : j = s.length := by omega
               have e0 : u57 = 0 := by simpa using hu57.symm
               subst e0
               rw [show (s ++ [(0 : Int)]).set (s.length : Int).toNat (0 + u28) = fS u28 bar s by rw [fS_new hjb.symm]; simp])
            | rw [show s.set (j : Int).toNat (u57 + u28) = fS u28 bar s by rw [fS_old (u := u57) (by rw [← hjb]; exact hu57), ← hjb]; rfl]
          refine CJ.region ?_
          refine LJ.yd rfl (Yd.mvS rfl) ?_
          refine LJ.yd rfl (Yd.mvS rfl) ?_
          refine LJ.yd rfl (Yd.mvI rfl) ?_
          refine LJ.idxA rfl ho rfl rfl (by omega) (by first | rfl | omega | (simp; done) | (simp; omega) | (simp [upN_len]; omega) | (simp [idxBy_len]; omega) | (simp [marks_len]; omega) | (simp [upN_len]; done) | (simp [idxBy_len]; done) | (simp [marks_len]; done) | (simp at *; omega)) (fun ib64 io64 ia64 ir64 => ?_)
          refine LJ.ldA 0 (fun u => vI u) (fun _ => rfl) ir64 rfl rfl rfl (by first | rfl | omega | (simp; done) | (simp; omega) | (simp [upN_len]; omega) | (simp [idxBy_len]; omega) | (simp [marks_len]; omega) | (simp [upN_len]; done) | (simp [idxBy_len]; done) | (simp [marks_len]; done) | (simp at *; omega)) (fun u65 hu65 => ?_)
          try simp only [Int.toNat_natCast] at hu65
          have hf65 := hi u65 (List.mem_of_getElem? hu65)
          refine LJ.yd rfl (Yd.mvI rfl) ?_
          refine LJ.idxR 1 rfl rfl rfl rfl (by omega) (by first | rfl | omega | (simp; done) | (simp; omega) | (simp [upN_len]; omega) | (simp [idxBy_len]; omega) | (simp [marks_len]; omega) | (simp [upN_len]; done) | (simp [idxBy_len]; done) | (simp [marks_len]; done) | (simp at *; omega)) (by first | rfl | omega | (simp; done) | (simp; omega) | (simp [upN_len]; omega) | (simp [idxBy_len]; omega) | (simp [marks_len]; omega) | (simp [upN_len]; done) | (simp [idxBy_len]; done) | (simp [marks_len]; done) | (simp at *; omega)) (fun ib67 ia67 => ?_)
          refine LJ.op rfl (OpR.st1 (enc := encI) (e1 := fun u => vI u) 1 (fun _ => rfl) (fun _ => rfl) (fun _ => rfl) rfl ia67 rfl rfl rfl (by first | rfl | omega | (simp; done) | (simp; omega) | (simp [upN_len]; omega) | (simp [idxBy_len]; omega) | (simp [marks_len]; omega) | (simp [upN_len]; done) | (simp [idxBy_len]; done) | (simp [marks_len]; done) | (simp at *; omega))) ?_
          rintro _ _ ⟨rfl, rfl⟩
          refine LJ.norm [_, _] rfl ?_
          refine LJ.nil ?_
          refine CJ.region ?_
          refine LJ.yd rfl (Yd.mvI rfl) ?_
          refine LJ.yd rfl (Yd.add rfl rfl (by unfold I64; omega)) ?_
          refine LJ.yd rfl (Yd.asI rfl) ?_
          refine LJ.nil ?_
          refine ⟨(k + 1, _, _, _, _, _), ?_, ⟨rfl, rfl, rfl, rfl, rfl, trivial⟩, ⟨rfl, rfl, trivial⟩, Ent.refl _, ?_⟩
          · refine ⟨(by rw [fS_len]; simp; omega), ?_⟩
            refine ⟨by omega, ?_⟩
            have e65 : u65 = u26 := by rw [hu26] at hu65; exact (Option.some.inj hu65).symm
            rw [dropC hu26, ffGo, gtC hu28, ← hjb] at hg
            refine ⟨by rw [e65]; exact hg, by simp [hol], ?_, fS_mem (by omega) (by omega) hsm⟩
            rw [fS_len]; have := fB_le u28 bar s; split <;> omega
          · first | omega | (dsimp only; omega) | (simp only []; omega)
    · refine LJ.nil ?_
      refine CJ.condF rfl ?_
      refine CJ.exit ?_
      refine CJ.seq ?_
      refine CJ.region ?_
      refine LJ.yd rfl (Yd.mvS rfl) ?_
      refine LJ.yd rfl (Yd.asS rfl) ?_
      refine LJ.nil ?_
      refine CJ.ret ?_
      refine Fin.RL 1 (Res.one (ResV.tmp (v := .slice _ _ _) rfl)) rfl (by first | rfl | omega | (simp; done) | (simp; omega) | (simp [upN_len]; omega) | (simp [idxBy_len]; omega) | (simp [marks_len]; omega) | (simp [upN_len]; done) | (simp [idxBy_len]; done) | (simp [marks_len]; done) | (simp at *; omega)) ?_
      rw [List.drop_of_length_le (by omega), ffGo] at hg; exact congrArg Prod.snd hg
end Go.Proofs.Ytkojheinklgdeaa
