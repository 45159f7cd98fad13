/-
  Contracts: how many pairs; the laws on pairs.
-/
import Derived.Test.YtbgalcjkmgdaiaaJ10
import Derived.Test.YtbgalcjkmgdaiaaM6
namespace Go.Proofs.Ytbgalcjkmgdaiaa
open Go
set_option maxRecDepth 20000
set_option maxHeartbeats 1000000

def piR (a b : List Int) (s : Int) : Int := if PairOk a b s then (nP a b s : Int) else -1
theorem PairUpI_t {A : Amb} {v w : Value} {a b : List Int} {s : Int} (hl : RdL encI 1 A.h v a) (hl2 : RdL encI 1 A.h w b) (hpo : PairOk a b s) (h1 : a.length ≤ 20) : Ctr Try.prog 15 #[v, w, vI s] A [] (RLP encI 3 1 (pairR a b s)) := by
  have := PairUpI_ok (s := s) hl hl2 h1
  rwa [puR, if_pos hpo] at this
theorem cntC {l : List Int} {k : Nat} {u : Int} (h : l[k]? = some u) : (l.take (k + 1)).countP (fun u => decide (0 ≤ u)) = (l.take k).countP (fun u => decide (0 ≤ u)) + if 0 ≤ u then 1 else 0 := by
  rw [takeC h, List.countP_append]; simp [List.countP_cons]
theorem PairsInI_ok {A : Amb} {v w : Value} {a b : List Int} {s : Int} (hl : RdL encI 1 A.h v a) (hl2 : RdL encI 1 A.h w b) (h1 : a.length ≤ 20) : Ctr Try.prog 20 #[v, w, vI s] A [] (Val (vI (piR a b s))) := by
  obtain ⟨la, lc, rfl, hlb, hl⟩ := hl.un
  obtain ⟨la2, lc2, rfl, hlb2, hl2⟩ := hl2.un
  have hpl := pairR_len a b s
  refine Ctr.body (args := [_, _, _]) Try.func20 rfl Try.ntmps20 Try.results20 (by simp) ?_
  refine CJ.seq ?_
  refine CJ.region ?_
  refine LJ.yd rfl (Yd.asI rfl) ?_
  refine LJ.nil ?_
  refine CJ.seq ?_
  refine CJ.seq ?_
  refine CJ.region ?_
  refine LJ.yd rfl (Yd.mvS rfl) ?_
  refine LJ.yd rfl (Yd.mvS rfl) ?_
  refine LJ.yd rfl (Yd.mvI rfl) ?_
  refine LJ.callB rfl (fun k hk dk => validPairs_ok (RdRow.up hl) (RdRow.up hl2)) (fun h13 => ?_) (fun h13 => ?_)
  · refine LJ.yd rfl (Yd.not rfl) ?_
    refine LJ.nil ?_
    refine CJ.condF rfl ?_
    refine CJ.skip ?_
    refine CJ.seq ?_
    have hpo : PairOk a b s := of_decide_eq_true h13
    refine CJ.region ?_
    refine LJ.yd rfl (Yd.asI rfl) ?_
    refine LJ.nil ?_
    refine CJ.seq ?_
    refine CJ.seq ?_
    refine CJ.region ?_
    refine LJ.yd rfl (Yd.mvS rfl) ?_
    refine LJ.yd rfl (Yd.mvS rfl) ?_
    refine LJ.yd rfl (Yd.mvI rfl) ?_
    refine LJ.call0 rfl (fun k hk dk => PairUpI_t (RdRow.up hl) (RdRow.up hl2) hpo h1) ?_
    rintro _ _ ⟨ra18, rc18, rfl, rfl⟩
    refine LJ.norm [_] rfl ?_
    refine LJ.yd rfl (Yd.len rfl) ?_
    refine LJ.yd rfl (Yd.mvI rfl) ?_
    refine LJ.nil ?_
    refine CJ.block ?_
    refine CJ.loopK [6, 18, 19] (Nat × Int) (fun ⟨k, x⟩ => k ≤ (pairR a b s).length ∧ x = ((pairR a b s).take k).countP (fun u => decide (0 ≤ u)) ∧ 0 ≤ x ∧ x ≤ k) (fun ⟨k, x⟩ => [(20, vI k), (7, vI x)]) (fun ⟨k, x⟩ => (pairR a b s).length - k) (0, 0) ?_ ⟨rfl, rfl, trivial⟩ ?_
    · exact ⟨by omega, by simp, by omega, by omega⟩
    · rintro ⟨k, x⟩ σ ⟨hk1, hx, hx0, hx1⟩
      refine CJ.seq ?_
      refine CJ.region ?_
      refine LJ.splitD rfl (Yd.lss rfl rfl) (fun h21 => ?_) (fun h21 => ?_)
      · refine LJ.nil ?_
        refine CJ.seq ?_
        refine CJ.condT rfl ?_
        refine CJ.skip ?_
        refine CJ.seq ?_
        refine CJ.block ?_
        refine CJ.seq ?_
        refine CJ.region ?_
        refine LJ.idxR 0 rfl rfl rfl rfl (by omega) (by first | rfl | omega | (simp; done) | (simp; omega) | (simp [upN_len]; omega) | (simp [idxBy_len]; omega) | (simp [marks_len]; omega) | (simp [upN_len]; done) | (simp [idxBy_len]; done) | (simp [marks_len]; done) | (simp at *; omega)) (by first | rfl | omega | (simp; done) | (simp; omega) | (simp [upN_len]; omega) | (simp [idxBy_len]; omega) | (simp [marks_len]; omega) | (simp [upN_len]; done) | (simp [idxBy_len]; done) | (simp [marks_len]; done) | (simp at *; omega)) (fun ib22 ia22 => ?_)
        refine LJ.ldR 0 0 (fun u => vI u) (fun _ => rfl) rfl ia22 rfl rfl rfl (by first | rfl | omega | (simp; done) | (simp; omega) | (simp [upN_len]; omega) | (simp [idxBy_len]; omega) | (simp [marks_len]; omega) | (simp [upN_len]; done) | (simp [idxBy_len]; done) | (simp [marks_len]; done) | (simp at *; omega)) (fun u23 hu23 => ?_)
        try simp only [Int.toNat_natCast] at hu23
        refine LJ.yd rfl (Yd.asI rfl) ?_
        refine LJ.nil ?_
        refine CJ.seq ?_
        refine CJ.region ?_
        refine LJ.yd rfl (Yd.mvI rfl) ?_
        refine LJ.splitD rfl (Yd.geq rfl rfl) (fun h25 => ?_) (fun h25 => ?_)
        · refine LJ.nil ?_
          refine CJ.condT rfl ?_
          refine CJ.region ?_
          refine LJ.yd rfl (Yd.mvI rfl) ?_
          refine LJ.yd rfl (Yd.add rfl rfl (by unfold I64; omega)) ?_
          refine LJ.yd rfl (Yd.asI rfl) ?_
          refine LJ.nil ?_
          refine CJ.region ?_
          refine LJ.yd rfl (Yd.add rfl rfl (by unfold I64; omega)) ?_
          refine LJ.yd rfl (Yd.mvI rfl) ?_
          refine LJ.nil ?_
          refine ⟨(k + 1, _), ?_, ⟨rfl, rfl, rfl, trivial⟩, ⟨rfl, rfl, trivial⟩, Ent.refl _, ?_⟩
          · refine ⟨by omega, ?_⟩
            rw [cntC hu23]
            first
              | (rw [if_pos (by omega)]; exact ⟨by omega, by omega, by omega⟩)
              | (rw [if_neg (by omega)]; exact ⟨by omega, by omega, by omega⟩)
          · first | omega | (dsimp only; omega) | (simp only []; omega)
        · refine LJ.nil ?_
          refine CJ.condF rfl ?_
          refine CJ.skip ?_
          refine CJ.region ?_
          refine LJ.yd rfl (Yd.add rfl rfl (by unfold I64; omega)) ?_
          refine LJ.yd rfl (Yd.mvI rfl) ?_
          refine LJ.nil ?_
          refine ⟨(k + 1, _), ?_, ⟨rfl, rfl, rfl, trivial⟩, ⟨rfl, rfl, trivial⟩, Ent.refl _, ?_⟩
          · refine ⟨by omega, ?_⟩
            rw [cntC hu23]
            first
              | (rw [if_pos (by omega)]; exact ⟨by omega, by omega, by omega⟩)
              | (rw [if_neg (by omega)]; exact ⟨by omega, by omega, by omega⟩)
          · first | omega | (dsimp only; omega) | (simp only []; omega)
      · refine LJ.nil ?_
        refine CJ.seq ?_
        refine CJ.condF rfl ?_
        refine CJ.exit ?_
        refine CJ.seq ?_
        refine CJ.region ?_
        refine LJ.yd rfl (Yd.mvI rfl) ?_
        refine LJ.yd rfl (Yd.asI rfl) ?_
        refine LJ.nil ?_
        refine CJ.ret ?_
        refine Fin.V (Res.one (ResV.tmp (v := .int _ _) rfl)) ?_
        first
          | (rw [piR, if_pos hpo, ← cnt_pair a b hpo.2.2.1, hx, List.take_of_length_le (by omega)]; done)
          | (rw [piR, if_neg (of_decide_eq_false h13)]; done)
  · refine LJ.yd rfl (Yd.not rfl) ?_
    refine LJ.nil ?_
    refine CJ.condT rfl ?_
    refine CJ.seq ?_
    refine CJ.region ?_
    refine LJ.yd rfl (Yd.asI rfl) ?_
    refine LJ.nil ?_
    refine CJ.ret ?_
    refine Fin.V (Res.one (ResV.tmp (v := .int _ _) rfl)) ?_
    first
      | (rw [piR, if_pos hpo, ← cnt_pair a b hpo.2.2.1, hx, List.take_of_length_le (by omega)]; done)
      | (rw [piR, if_neg (of_decide_eq_false h13)]; done)
theorem PairsInS_ok {A : Amb} {v w : Value} {a b : List Int} {s : Int} (hl : RdL encI 1 A.h v a) (hl2 : RdL encI 1 A.h w b) : Ctr Try.prog 19 #[v, w, vI s] A [] (Val (vI (piR a b s))) := by
  obtain ⟨la, lc, rfl, hlb, hl⟩ := hl.un
  obtain ⟨la2, lc2, rfl, hlb2, hl2⟩ := hl2.un
  have hpl := pairR_len a b s
  refine Ctr.body (args := [_, _, _]) Try.func19 rfl Try.ntmps19 Try.results19 (by simp) ?_
  refine CJ.seq ?_
  refine CJ.region ?_
  refine LJ.yd rfl (Yd.asI rfl) ?_
  refine LJ.nil ?_
  refine CJ.seq ?_
  refine CJ.seq ?_
  refine CJ.region ?_
  refine LJ.yd rfl (Yd.mvS rfl) ?_
  refine LJ.callB rfl (fun k hk dk => validSizesS_ok (RdRow.up hl)) (fun h11 => ?_) (fun h11 => ?_)
  · refine LJ.yd rfl (Yd.not rfl) ?_
    refine LJ.yd rfl (Yd.mvB rfl) ?_
    refine LJ.gT rfl ?_
    refine LJ.yd rfl (Yd.mvS rfl) ?_
    refine LJ.gT rfl ?_
    refine LJ.callB rfl (fun k hk dk => validSizesS_ok (RdRow.up hl2)) (fun h15 => ?_) (fun h15 => ?_)
    · refine LJ.gT rfl ?_
      refine LJ.yd rfl (Yd.not rfl) ?_
      refine LJ.yd rfl (Yd.pickFB rfl rfl) ?_
      refine LJ.yd rfl (Yd.mvB rfl) ?_
      refine LJ.gT rfl ?_
      refine LJ.yd rfl (Yd.mvI rfl) ?_
      refine LJ.gT rfl ?_
      refine LJ.callB rfl (fun k hk dk => inRange_ok _ _ _ _) (fun h20 => ?_) (fun h20 => ?_)
      · refine LJ.gT rfl ?_
        refine LJ.yd rfl (Yd.not rfl) ?_
        refine LJ.yd rfl (Yd.pickFB rfl rfl) ?_
        refine LJ.nil ?_
        refine CJ.condF rfl ?_
        refine CJ.skip ?_
        refine CJ.seq ?_
        have hpo : PairOk a b s := ⟨h11, h15, by simpa using h20⟩
        have hbn := (szOk_iff.1 hpo.1).1
        refine CJ.region ?_
        refine LJ.yd rfl (Yd.asI rfl) ?_
        refine LJ.nil ?_
        refine CJ.seq ?_
        refine CJ.region ?_
        refine LJ.yd rfl (Yd.mvS rfl) ?_
        refine LJ.yd rfl (Yd.mvS rfl) ?_
        refine LJ.yd rfl (Yd.mvI rfl) ?_
        refine LJ.call0 rfl (fun k hk dk => pairUpS_ok (RdRow.up hl) (RdRow.up hl2) hpo) ?_
        rintro _ _ ⟨ra26, rc26, rfl, rfl⟩
        refine LJ.norm [_] rfl ?_
        refine LJ.yd rfl (Yd.asS rfl) ?_
        refine LJ.nil ?_
        refine CJ.seq ?_
        refine CJ.seq ?_
        refine CJ.region ?_
        refine LJ.yd rfl (Yd.asI rfl) ?_
        refine LJ.nil ?_
        refine CJ.block ?_
        refine CJ.loopK [6, 8] (Nat × Int) (fun ⟨k, x⟩ => k ≤ (pairR a b s).length ∧ x = ((pairR a b s).take k).countP (fun u => decide (0 ≤ u)) ∧ 0 ≤ x ∧ x ≤ k) (fun ⟨k, x⟩ => [(9, vI k), (7, vI x)]) (fun ⟨k, x⟩ => (pairR a b s).length - k) (0, 0) ?_ ⟨rfl, rfl, trivial⟩ ?_
        · exact ⟨by omega, by simp, by omega, by omega⟩
        · rintro ⟨k, x⟩ σ ⟨hk1, hx, hx0, hx1⟩
          refine CJ.seq ?_
          refine CJ.seq ?_
          refine CJ.region ?_
          refine LJ.yd rfl (Yd.mvI rfl) ?_
          refine LJ.yd rfl (Yd.mvS rfl) ?_
          refine LJ.yd rfl (Yd.len rfl) ?_
          refine LJ.splitD rfl (Yd.lss rfl rfl) (fun h30 => ?_) (fun h30 => ?_)
          · refine LJ.nil ?_
            refine CJ.condT rfl ?_
            refine CJ.skip ?_
            refine CJ.seq ?_
            refine CJ.block ?_
            refine CJ.seq ?_
            refine CJ.region ?_
            refine LJ.yd rfl (Yd.mvS rfl) ?_
            refine LJ.yd rfl (Yd.mvI rfl) ?_
            refine LJ.idxR 0 rfl rfl rfl rfl (by omega) (by first | rfl | omega | (simp; done) | (simp; omega) | (simp [upN_len]; omega) | (simp [idxBy_len]; omega) | (simp [marks_len]; omega) | (simp [upN_len]; done) | (simp [idxBy_len]; done) | (simp [marks_len]; done) | (simp at *; omega)) (by first | rfl | omega | (simp; done) | (simp; omega) | (simp [upN_len]; omega) | (simp [idxBy_len]; omega) | (simp [marks_len]; omega) | (simp [upN_len]; done) | (simp [idxBy_len]; done) | (simp [marks_len]; done) | (simp at *; omega)) (fun ib35 ia35 => ?_)
            refine LJ.ldR 0 0 (fun u => vI u) (fun _ => rfl) rfl ia35 rfl rfl rfl (by first | rfl | omega | (simp; done) | (simp; omega) | (simp [upN_len]; omega) | (simp [idxBy_len]; omega) | (simp [marks_len]; omega) | (simp [upN_len]; done) | (simp [idxBy_len]; done) | (simp [marks_len]; done) | (simp at *; omega)) (fun u36 hu36 => ?_)
            try simp only [Int.toNat_natCast] at hu36
            refine LJ.splitD rfl (Yd.geq rfl rfl) (fun h37 => ?_) (fun h37 => ?_)
            · refine LJ.nil ?_
              refine CJ.condT rfl ?_
              refine CJ.region ?_
              refine LJ.yd rfl (Yd.mvI rfl) ?_
              refine LJ.yd rfl (Yd.add rfl rfl (by unfold I64; omega)) ?_
              refine LJ.yd rfl (Yd.asI rfl) ?_
              refine LJ.nil ?_
              refine CJ.region ?_
              refine LJ.yd rfl (Yd.mvI rfl) ?_
              refine LJ.yd rfl (Yd.add rfl rfl (by unfold I64; omega)) ?_
              refine LJ.yd rfl (Yd.asI rfl) ?_
              refine LJ.nil ?_
              refine ⟨(k + 1, _), ?_, ⟨rfl, rfl, trivial⟩, ⟨rfl, rfl, trivial⟩, Ent.refl _, ?_⟩
              · refine ⟨by omega, ?_⟩
                rw [cntC hu36]
                first
                  | (rw [if_pos (by omega)]; exact ⟨by omega, by omega, by omega⟩)
                  | (rw [if_neg (by omega)]; exact ⟨by omega, by omega, by omega⟩)
              · first | omega | (dsimp only; omega) | (simp only []; omega)
            · refine LJ.nil ?_
              refine CJ.condF rfl ?_
              refine CJ.skip ?_
              refine CJ.region ?_
              refine LJ.yd rfl (Yd.mvI rfl) ?_
              refine LJ.yd rfl (Yd.add rfl rfl (by unfold I64; omega)) ?_
              refine LJ.yd rfl (Yd.asI rfl) ?_
              refine LJ.nil ?_
              refine ⟨(k + 1, _), ?_, ⟨rfl, rfl, trivial⟩, ⟨rfl, rfl, trivial⟩, Ent.refl _, ?_⟩
              · refine ⟨by omega, ?_⟩
                rw [cntC hu36]
                first
                  | (rw [if_pos (by omega)]; exact ⟨by omega, by omega, by omega⟩)
                  | (rw [if_neg (by omega)]; exact ⟨by omega, by omega, by omega⟩)
              · first | omega | (dsimp only; omega) | (simp only []; omega)
          · refine LJ.nil ?_
            refine CJ.condF rfl ?_
            refine CJ.exit ?_
            refine CJ.seq ?_
            refine CJ.region ?_
            refine LJ.yd rfl (Yd.mvI rfl) ?_
            refine LJ.yd rfl (Yd.asI rfl) ?_
            refine LJ.nil ?_
            refine CJ.ret ?_
            refine Fin.V (Res.one (ResV.tmp (v := .int _ _) rfl)) ?_
            first
              | (rw [piR, if_pos hpo, ← cnt_pair a b hpo.2.2.1, hx, List.take_of_length_le (by omega)]; done)
              | (rw [piR, if_neg (fun h => nomatch (show true = false from h.1.symm.trans h11))]; done)
              | (rw [piR, if_neg (fun h => nomatch (show true = false from h.2.1.symm.trans h15))]; done)
              | (rw [piR, if_neg (fun h => by have h2 := h.2.2; simp at h20; omega)]; done)
      · refine LJ.gT rfl ?_
        refine LJ.yd rfl (Yd.not rfl) ?_
        refine LJ.yd rfl (Yd.pickFB rfl rfl) ?_
        refine LJ.nil ?_
        refine CJ.condT rfl ?_
        refine CJ.seq ?_
        refine CJ.region ?_
        refine LJ.yd rfl (Yd.asI rfl) ?_
        refine LJ.nil ?_
        refine CJ.ret ?_
        refine Fin.V (Res.one (ResV.tmp (v := .int _ _) rfl)) ?_
        first
          | (rw [piR, if_pos hpo, ← cnt_pair a b hpo.2.2.1, hx, List.take_of_length_le (by omega)]; done)
          | (rw [piR, if_neg (fun h => nomatch (show true = false from h.1.symm.trans h11))]; done)
          | (rw [piR, if_neg (fun h => nomatch (show true = false from h.2.1.symm.trans h15))]; done)
          | (rw [piR, if_neg (fun h => by have h2 := h.2.2; simp at h20; omega)]; done)
    · refine LJ.gT rfl ?_
      refine LJ.yd rfl (Yd.not rfl) ?_
      refine LJ.yd rfl (Yd.pickFB rfl rfl) ?_
      refine LJ.yd rfl (Yd.mvB rfl) ?_
      refine LJ.gF rfl rfl ?_
      refine LJ.gF rfl rfl ?_
      refine LJ.gF rfl rfl ?_
      refine LJ.yd rfl (Yd.pickTB rfl rfl) ?_
      refine LJ.nil ?_
      refine CJ.condT rfl ?_
      refine CJ.seq ?_
      refine CJ.region ?_
      refine LJ.yd rfl (Yd.asI rfl) ?_
      refine LJ.nil ?_
      refine CJ.ret ?_
      refine Fin.V (Res.one (ResV.tmp (v := .int _ _) rfl)) ?_
      first
        | (rw [piR, if_pos hpo, ← cnt_pair a b hpo.2.2.1, hx, List.take_of_length_le (by omega)]; done)
        | (rw [piR, if_neg (fun h => nomatch (show true = false from h.1.symm.trans h11))]; done)
        | (rw [piR, if_neg (fun h => nomatch (show true = false from h.2.1.symm.trans h15))]; done)
        | (rw [piR, if_neg (fun h => by have h2 := h.2.2; simp at h20; omega)]; done)
  · refine LJ.yd rfl (Yd.not rfl) ?_
    refine LJ.yd rfl (Yd.mvB rfl) ?_
    refine LJ.gF rfl rfl ?_
    refine LJ.gF rfl rfl ?_
    refine LJ.gF rfl rfl ?_
    refine LJ.yd rfl (Yd.pickTB rfl rfl) ?_
    refine LJ.yd rfl (Yd.mvB rfl) ?_
    refine LJ.gF rfl rfl ?_
    refine LJ.gF rfl rfl ?_
    refine LJ.gF rfl rfl ?_
    refine LJ.yd rfl (Yd.pickTB rfl rfl) ?_
    refine LJ.nil ?_
    refine CJ.condT rfl ?_
    refine CJ.seq ?_
    refine CJ.region ?_
    refine LJ.yd rfl (Yd.asI rfl) ?_
    refine LJ.nil ?_
    refine CJ.ret ?_
    refine Fin.V (Res.one (ResV.tmp (v := .int _ _) rfl)) ?_
    first
      | (rw [piR, if_pos hpo, ← cnt_pair a b hpo.2.2.1, hx, List.take_of_length_le (by omega)]; done)
      | (rw [piR, if_neg (fun h => nomatch (show true = false from h.1.symm.trans h11))]; done)
      | (rw [piR, if_neg (fun h => nomatch (show true = false from h.2.1.symm.trans h15))]; done)
      | (rw [piR, if_neg (fun h => by have h2 := h.2.2; simp at h20; omega)]; done)
theorem join_ok {A : Amb} {v w : Value} {a b : List Int} (hl : RdL encI 1 A.h v a) (hl2 : RdL encI 1 A.h w b) (h1 : a.length ≤ 1000) (h2 : b.length ≤ 1000) : Ctr Try.prog 51 #[v, w] A [] (RLP encI 3 1 (a ++ b)) := by
  obtain ⟨la, lc, rfl, hlb, hl⟩ := hl.un
  obtain ⟨la2, lc2, rfl, hlb2, hl2⟩ := hl2.un
  refine Ctr.body (args := [_, _]) Try.func51 rfl Try.ntmps51 Try.results51 (by simp) ?_
  refine CJ.seq ?_
  refine CJ.region ?_
  refine LJ.yd rfl (Yd.asS rfl) ?_
  refine LJ.nil ?_
  refine CJ.seq ?_
  refine CJ.region ?_
  refine LJ.op rfl (OpR.buildSlice (cs := []) rfl rfl) ?_
  rintro _ _ ⟨b1, rfl, rfl⟩
  refine LJ.yd rfl (Yd.mvS rfl) ?_
  refine LJ.imp1 0 rfl (fun _ h => Cel.lr (enc := encI) (k := 1) (m := 0) [] rfl rfl rfl rfl h) ?_
  refine LJ.norm [_] rfl ?_
  refine LJ.op rfl (OpR.apA (enc := encI) 0 rfl hl rfl (by first | rfl | omega | (simp; done) | (simp; omega) | (simp [upN_len]; omega) | (simp [idxBy_len]; omega) | (simp [marks_len]; omega) | (simp [upN_len]; done) | (simp [idxBy_len]; done) | (simp [marks_len]; done) | (simp at *; omega)) rfl (fun _ => rfl) (by first | rfl | omega | (simp; done) | (simp; omega) | (simp [upN_len]; omega) | (simp [idxBy_len]; omega) | (simp [marks_len]; omega) | (simp [upN_len]; done) | (simp [idxBy_len]; done) | (simp [marks_len]; done) | (simp at *; omega))) ?_
  rintro _ _ ⟨ra7, rc7, rfl, rfl⟩
  refine LJ.norm [_] rfl ?_
  refine LJ.yd rfl (Yd.mvS rfl) ?_
  refine LJ.op rfl (OpR.apA (enc := encI) 0 rfl hl2 rfl (by first | rfl | omega | (simp; done) | (simp; omega) | (simp [upN_len]; omega) | (simp [idxBy_len]; omega) | (simp [marks_len]; omega) | (simp [upN_len]; done) | (simp [idxBy_len]; done) | (simp [marks_len]; done) | (simp at *; omega)) rfl (fun _ => rfl) (by first | rfl | omega | (simp; done) | (simp; omega) | (simp [upN_len]; omega) | (simp [idxBy_len]; omega) | (simp [marks_len]; omega) | (simp [upN_len]; done) | (simp [idxBy_len]; done) | (simp [marks_len]; done) | (simp at *; omega))) ?_
  rintro _ _ ⟨ra9, rc9, rfl, rfl⟩
  refine LJ.norm [_] rfl ?_
  refine LJ.yd rfl (Yd.asS rfl) ?_
  refine LJ.nil ?_
  refine CJ.ret ?_
  refine Fin.RL 0 (Res.one (ResV.tmp (v := .slice _ _ _) rfl)) rfl (by first | rfl | omega | (simp; done) | (simp; omega) | (simp [upN_len]; omega) | (simp [idxBy_len]; omega) | (simp [marks_len]; omega) | (simp [upN_len]; done) | (simp [idxBy_len]; done) | (simp [marks_len]; done) | (simp at *; omega)) ?_
  simp
theorem without_ok {A : Amb} {v : Value} {a : List Int} {k : Nat} (hl : RdL encI 1 A.h v a) (h1 : a.length ≤ 1000) (hk : k < a.length) : Ctr Try.prog 25 #[v, vI k] A [] (RLP encI 3 1 (a.take k ++ a.drop (k + 1))) := by
  obtain ⟨la, lc, rfl, hlb, hl⟩ := hl.un
  obtain ⟨wb, wo, rfl, _⟩ := hl.row (by omega)
  refine Ctr.body (args := [_, _]) Try.func25 rfl Try.ntmps25 Try.results25 (by simp) ?_
  refine CJ.seq ?_
  refine CJ.region ?_
  refine LJ.yd rfl (Yd.asS rfl) ?_
  refine LJ.nil ?_
  refine CJ.seq ?_
  refine CJ.regionD [] [] (by kernel_rfl) rfl ?_
  refine DJ.norm [] [] rfl rfl ?_
  refine DJ.yd 0 rfl (by kernel_rfl) (by kernel_rfl) (by kernel_rfl) rfl rfl (Yd.mvS rfl) ?_
  refine DJ.yd 1 rfl (by kernel_rfl) (by kernel_rfl) (by kernel_rfl) rfl rfl (Yd.mvI rfl) ?_
  refine DJ.slHA 2 rfl (by kernel_rfl) (by kernel_rfl) (by kernel_rfl) rfl rfl hl rfl rfl (by omega) (by first | rfl | omega | (simp; done) | (simp; omega) | (simp [upN_len]; omega) | (simp [idxBy_len]; omega) | (simp [marks_len]; omega) | (simp [upN_len]; done) | (simp [idxBy_len]; done) | (simp [marks_len]; done) | (simp at *; omega)) (fun e => by cases e) (fun q e => by cases e; rfl) (fun sm7 hsm7 hs7 => ?_)
  refine DJ.yd 3 rfl (by kernel_rfl) (by kernel_rfl) (by kernel_rfl) rfl rfl (Yd.mvS rfl) ?_
  refine DJ.yd 4 rfl (by kernel_rfl) (by kernel_rfl) (by kernel_rfl) rfl rfl (Yd.mvI rfl) ?_
  refine DJ.yd 5 rfl (by kernel_rfl) (by kernel_rfl) (by kernel_rfl) rfl rfl (Yd.add rfl rfl (by unfold I64; omega)) ?_
  refine DJ.slLA 6 rfl (by kernel_rfl) (by kernel_rfl) (by kernel_rfl) rfl rfl hl rfl rfl (by omega) (by first | rfl | omega | (simp; done) | (simp; omega) | (simp [upN_len]; omega) | (simp [idxBy_len]; omega) | (simp [marks_len]; omega) | (simp [upN_len]; done) | (simp [idxBy_len]; done) | (simp [marks_len]; done) | (simp at *; omega)) (.inr ⟨_, _, rfl⟩) (fun sa11 sm11 sc11 hsm11 hs11 => ?_)
  refine DJ.one (i := 7) (by kernel_rfl) ?_
  refine DO.call0 rfl rfl rfl (fun k0 hk0 dk0 k hk dk => join_ok (RdRow.up hs7) (RdRow.up hs11) (by simp; omega) (by simp; omega)) ?_
  rintro _ _ ⟨ra12, rc12, rfl, rfl⟩
  refine DJ.norm [] [_] rfl rfl ?_
  refine DJ.yd 8 rfl (by kernel_rfl) (by kernel_rfl) (by kernel_rfl) rfl rfl (Yd.asS rfl) ?_
  refine DJ.done (by kernel_rfl) ?_
  refine CJ.ret ?_
  refine Fin.RL 0 (Res.one (ResV.tmp (v := .slice _ _ _) rfl)) rfl (by first | rfl | omega | (simp; done) | (simp; omega) | (simp [upN_len]; omega) | (simp [idxBy_len]; omega) | (simp [marks_len]; omega) | (simp [upN_len]; done) | (simp [idxBy_len]; done) | (simp [marks_len]; done) | (simp at *; omega)) ?_
  first | rfl | (rw [hsm7]; rfl)
theorem FnPairsIn_ok {A : Amb} {a : Option Addr} {n c : Nat} (hc : Code A.h a n c) : Ctr Try.prog 7 #[.slice a n c] A [] (Val (.bool true)) := by
  refine Ctr.body (args := [_]) Try.func7 rfl Try.ntmps7 Try.results7 (by simp) ?_
  refine CJ.seq ?_
  refine CJ.region ?_
  refine LJ.yd rfl (Yd.asB rfl) ?_
  refine LJ.nil ?_
  refine CJ.seq ?_
  refine CJ.seq ?_
  refine CJ.region ?_
  refine LJ.yd rfl (Yd.mvS rfl) ?_
  refine LJ.yd rfl (Yd.len rfl) ?_
  refine LJ.splitD rfl (Yd.gtr rfl rfl) (fun h9 => ?_) (fun h9 => ?_)
  · refine LJ.nil ?_
    refine CJ.condT rfl ?_
    refine CJ.seq ?_
    refine CJ.region ?_
    refine LJ.yd rfl (Yd.asB rfl) ?_
    refine LJ.nil ?_
    refine CJ.ret ?_
    refine Fin.V (Res.one (ResV.tmp (v := .bool true) rfl)) ?_
    rfl
  · refine LJ.nil ?_
    refine CJ.condF rfl ?_
    refine CJ.skip ?_
    refine CJ.seq ?_
    refine CJ.region ?_
    refine LJ.yd rfl (Yd.mvS rfl) ?_
    refine LJ.call0 rfl (fun k hk dk => DrawPairsIn_ok hc.up) ?_
    rintro _ _ ⟨l, g, s, aa, m, cc, ba, bk, bc, rfl, rfl, rfl, rfl, hl1, hg1, hs0, hs1⟩
    refine LJ.norm [_, _] rfl ?_
    refine LJ.yd rfl (Yd.mvU rfl) ?_
    refine LJ.yd rfl (Yd.extract rfl rfl) ?_
    refine LJ.yd rfl (Yd.extract rfl rfl) ?_
    refine LJ.yd rfl (Yd.extract rfl rfl) ?_
    refine LJ.yd rfl (Yd.asS rfl) ?_
    refine LJ.yd rfl (Yd.asS rfl) ?_
    refine LJ.yd rfl (Yd.asI rfl) ?_
    refine LJ.nil ?_
    refine CJ.seq ?_
    refine CJ.region ?_
    refine LJ.yd rfl (Yd.mvS rfl) ?_
    refine LJ.yd rfl (Yd.mvS rfl) ?_
    refine LJ.yd rfl (Yd.mvI rfl) ?_
    refine LJ.callV rfl (fun k hk dk => PairsInI_ok (Sts.lrm hk dk 0 (by first | rfl | omega | (simp; done) | (simp; omega) | (simp [upN_len]; omega) | (simp [idxBy_len]; omega) | (simp [marks_len]; omega) | (simp [upN_len]; done) | (simp [idxBy_len]; done) | (simp [marks_len]; done) | (simp at *; omega)) (by first | rfl | omega | (simp; done) | (simp; omega) | (simp [upN_len]; omega) | (simp [idxBy_len]; omega) | (simp [marks_len]; omega) | (simp [upN_len]; done) | (simp [idxBy_len]; done) | (simp [marks_len]; done) | (simp at *; omega)) rfl) (Sts.lrm hk dk 1 (by first | rfl | omega | (simp; done) | (simp; omega) | (simp [upN_len]; omega) | (simp [idxBy_len]; omega) | (simp [marks_len]; omega) | (simp [upN_len]; done) | (simp [idxBy_len]; done) | (simp [marks_len]; done) | (simp at *; omega)) (by first | rfl | omega | (simp; done) | (simp; omega) | (simp [upN_len]; omega) | (simp [idxBy_len]; omega) | (simp [marks_len]; omega) | (simp [upN_len]; done) | (simp [idxBy_len]; done) | (simp [marks_len]; done) | (simp at *; omega)) rfl) (by omega)) ?_
    refine LJ.yd rfl (Yd.asI rfl) ?_
    refine LJ.nil ?_
    refine CJ.seq ?_
    refine CJ.seq ?_
    refine CJ.region ?_
    refine LJ.yd rfl (Yd.mvI rfl) ?_
    refine LJ.yd rfl (Yd.mvS rfl) ?_
    refine LJ.yd rfl (Yd.mvS rfl) ?_
    refine LJ.yd rfl (Yd.mvI rfl) ?_
    refine LJ.callV rfl (fun k hk dk => PairsInS_ok (Sts.lrm hk dk 0 (by first | rfl | omega | (simp; done) | (simp; omega) | (simp [upN_len]; omega) | (simp [idxBy_len]; omega) | (simp [marks_len]; omega) | (simp [upN_len]; done) | (simp [idxBy_len]; done) | (simp [marks_len]; done) | (simp at *; omega)) (by first | rfl | omega | (simp; done) | (simp; omega) | (simp [upN_len]; omega) | (simp [idxBy_len]; omega) | (simp [marks_len]; omega) | (simp [upN_len]; done) | (simp [idxBy_len]; done) | (simp [marks_len]; done) | (simp at *; omega)) rfl) (Sts.lrm hk dk 1 (by first | rfl | omega | (simp; done) | (simp; omega) | (simp [upN_len]; omega) | (simp [idxBy_len]; omega) | (simp [marks_len]; omega) | (simp [upN_len]; done) | (simp [idxBy_len]; done) | (simp [marks_len]; done) | (simp at *; omega)) (by first | rfl | omega | (simp; done) | (simp; omega) | (simp [upN_len]; omega) | (simp [idxBy_len]; omega) | (simp [marks_len]; omega) | (simp [upN_len]; done) | (simp [idxBy_len]; done) | (simp [marks_len]; done) | (simp at *; omega)) rfl)) ?_
    refine LJ.splitN rfl (Yd.neq rfl rfl) (fun h25 => ?_) (fun h25 => ?_)
    · exfalso; first | omega | (have := q2 (by omega); omega)
    · refine LJ.yd rfl (Yd.mvB rfl) ?_
      refine LJ.gT rfl ?_
      refine LJ.yd rfl (Yd.mvI rfl) ?_
      refine LJ.gT rfl ?_
      refine LJ.splitD rfl (Yd.lss rfl rfl) (fun h28 => ?_) (fun h28 => ?_)
      · refine LJ.yd rfl (Yd.pickFB rfl rfl) ?_
        refine LJ.nil ?_
        refine CJ.condT rfl ?_
        refine CJ.seq ?_
        refine CJ.region ?_
        refine LJ.yd rfl (Yd.mvI rfl) ?_
        refine LJ.yd rfl (Yd.mvS rfl) ?_
        refine LJ.yd rfl (Yd.mvS rfl) ?_
        refine LJ.yd rfl (Yd.mvI rfl) ?_
        refine LJ.callV rfl (fun k hk dk => PairsInS_ok (Sts.lrm hk dk 0 (by first | rfl | omega | (simp; done) | (simp; omega) | (simp [upN_len]; omega) | (simp [idxBy_len]; omega) | (simp [marks_len]; omega) | (simp [upN_len]; done) | (simp [idxBy_len]; done) | (simp [marks_len]; done) | (simp at *; omega)) (by first | rfl | omega | (simp; done) | (simp; omega) | (simp [upN_len]; omega) | (simp [idxBy_len]; omega) | (simp [marks_len]; omega) | (simp [upN_len]; done) | (simp [idxBy_len]; done) | (simp [marks_len]; done) | (simp at *; omega)) rfl) (Sts.lrm hk dk 1 (by first | rfl | omega | (simp; done) | (simp; omega) | (simp [upN_len]; omega) | (simp [idxBy_len]; omega) | (simp [marks_len]; omega) | (simp [upN_len]; done) | (simp [idxBy_len]; done) | (simp [marks_len]; done) | (simp at *; omega)) (by first | rfl | omega | (simp; done) | (simp; omega) | (simp [upN_len]; omega) | (simp [idxBy_len]; omega) | (simp [marks_len]; omega) | (simp [upN_len]; done) | (simp [idxBy_len]; done) | (simp [marks_len]; done) | (simp at *; omega)) rfl)) ?_
        refine LJ.splitD rfl (Yd.eql rfl rfl) (fun h35 => ?_) (fun h35 => ?_)
        · refine LJ.yd rfl (Yd.asB rfl) ?_
          refine LJ.nil ?_
          refine CJ.ret ?_
          refine Fin.V (Res.one (ResV.tmp (v := .bool true) rfl)) ?_
          rfl
        · exfalso; first | omega | (have := q2 (by omega); omega)
      · refine LJ.yd rfl (Yd.pickFB rfl rfl) ?_
        refine LJ.nil ?_
        refine CJ.condF rfl ?_
        refine CJ.skip ?_
        refine CJ.seq ?_
        have hpo : PairOk l g s := Decidable.byContradiction fun hn => h28 (by rw [piR, if_neg hn]; decide)
        have hs2 := hpo.2.2.1
        have e0 : piR l g s = nP l g s := if_pos hpo
        have q1 : piR g l s = nP g l s := if_pos ⟨hpo.2.1, hpo.1, hpo.2.2⟩
        have q2 : s ≠ 200 → piR l g (s + 1) = nP l g (s + 1) := fun h => if_pos ⟨hpo.1, hpo.2.1, by omega, by have := hpo.2.2.2; omega⟩
        have q3 : piR l l 0 = nP l l 0 := if_pos ⟨hpo.1, hpo.1, by omega, by omega⟩
        have p1 := nP_symm l g hs2
        have p2 := nP_mono l g hs2 (t := s + 1) (by omega)
        have p3 := nP_diag l
        have p4 := nP_le l g hs2
        have p5 := nP_le2 l g hs2
        refine CJ.region ?_
        refine LJ.yd rfl (Yd.mvS rfl) ?_
        refine LJ.yd rfl (Yd.mvS rfl) ?_
        refine LJ.yd rfl (Yd.mvI rfl) ?_
        refine LJ.callV rfl (fun k hk dk => PairsInI_ok (Sts.lrm hk dk 1 (by first | rfl | omega | (simp; done) | (simp; omega) | (simp [upN_len]; omega) | (simp [idxBy_len]; omega) | (simp [marks_len]; omega) | (simp [upN_len]; done) | (simp [idxBy_len]; done) | (simp [marks_len]; done) | (simp at *; omega)) (by first | rfl | omega | (simp; done) | (simp; omega) | (simp [upN_len]; omega) | (simp [idxBy_len]; omega) | (simp [marks_len]; omega) | (simp [upN_len]; done) | (simp [idxBy_len]; done) | (simp [marks_len]; done) | (simp at *; omega)) rfl) (Sts.lrm hk dk 0 (by first | rfl | omega | (simp; done) | (simp; omega) | (simp [upN_len]; omega) | (simp [idxBy_len]; omega) | (simp [marks_len]; omega) | (simp [upN_len]; done) | (simp [idxBy_len]; done) | (simp [marks_len]; done) | (simp at *; omega)) (by first | rfl | omega | (simp; done) | (simp; omega) | (simp [upN_len]; omega) | (simp [idxBy_len]; omega) | (simp [marks_len]; omega) | (simp [upN_len]; done) | (simp [idxBy_len]; done) | (simp [marks_len]; done) | (simp at *; omega)) rfl) (by omega)) ?_
        refine LJ.yd rfl (Yd.mvI rfl) ?_
        refine LJ.splitD rfl (Yd.eql rfl rfl) (fun h41 => ?_) (fun h41 => ?_)
        · refine LJ.yd rfl (Yd.mvB rfl) ?_
          refine LJ.gT rfl ?_
          refine LJ.yd rfl (Yd.mvI rfl) ?_
          refine LJ.gT rfl ?_
          refine LJ.splitD rfl (Yd.eql rfl rfl) (fun h44 => ?_) (fun h44 => ?_)
          · refine LJ.gT rfl ?_
            refine LJ.yd rfl (Yd.mvB rfl) ?_
            refine LJ.gF rfl rfl ?_
            refine LJ.gF rfl rfl ?_
            refine LJ.gF rfl rfl ?_
            refine LJ.gF rfl rfl ?_
            refine LJ.gF rfl rfl ?_
            refine LJ.gF rfl rfl ?_
            refine LJ.gF rfl rfl ?_
            refine LJ.gT rfl ?_
            refine LJ.yd rfl (Yd.pickTB rfl rfl) ?_
            refine LJ.yd rfl (Yd.pickTB rfl rfl) ?_
            refine LJ.yd rfl (Yd.mvB rfl) ?_
            refine LJ.gT rfl ?_
            refine LJ.yd rfl (Yd.mvS rfl) ?_
            refine LJ.gT rfl ?_
            refine LJ.yd rfl (Yd.mvS rfl) ?_
            refine LJ.gT rfl ?_
            refine LJ.callV rfl (fun k hk dk => PairsInI_ok (Sts.lrm hk dk 0 (by first | rfl | omega | (simp; done) | (simp; omega) | (simp [upN_len]; omega) | (simp [idxBy_len]; omega) | (simp [marks_len]; omega) | (simp [upN_len]; done) | (simp [idxBy_len]; done) | (simp [marks_len]; done) | (simp at *; omega)) (by first | rfl | omega | (simp; done) | (simp; omega) | (simp [upN_len]; omega) | (simp [idxBy_len]; omega) | (simp [marks_len]; omega) | (simp [upN_len]; done) | (simp [idxBy_len]; done) | (simp [marks_len]; done) | (simp at *; omega)) rfl) (Sts.lrm hk dk 0 (by first | rfl | omega | (simp; done) | (simp; omega) | (simp [upN_len]; omega) | (simp [idxBy_len]; omega) | (simp [marks_len]; omega) | (simp [upN_len]; done) | (simp [idxBy_len]; done) | (simp [marks_len]; done) | (simp at *; omega)) (by first | rfl | omega | (simp; done) | (simp; omega) | (simp [upN_len]; omega) | (simp [idxBy_len]; omega) | (simp [marks_len]; omega) | (simp [upN_len]; done) | (simp [idxBy_len]; done) | (simp [marks_len]; done) | (simp at *; omega)) rfl) (by omega)) ?_
            refine LJ.gT rfl ?_
            refine LJ.yd rfl (Yd.mvS rfl) ?_
            refine LJ.gT rfl ?_
            refine LJ.yd rfl (Yd.len rfl) ?_
            refine LJ.gT rfl ?_
            refine LJ.splitD rfl (Yd.eql rfl rfl) (fun h61 => ?_) (fun h61 => ?_)
            · refine LJ.yd rfl (Yd.pickTB rfl rfl) ?_
              refine LJ.yd rfl (Yd.mvB rfl) ?_
              refine LJ.gT rfl ?_
              refine LJ.yd rfl (Yd.mvI rfl) ?_
              refine LJ.gT rfl ?_
              refine LJ.yd rfl (Yd.mvS rfl) ?_
              refine LJ.gT rfl ?_
              refine LJ.yd rfl (Yd.len rfl) ?_
              refine LJ.gT rfl ?_
              refine LJ.yd rfl (Yd.mvS rfl) ?_
              refine LJ.gT rfl ?_
              refine LJ.yd rfl (Yd.len rfl) ?_
              refine LJ.gT rfl ?_
              refine LJ.yd rfl (Yd.min' rfl rfl) ?_
              refine LJ.gT rfl ?_
              refine LJ.splitD rfl (Yd.leq rfl rfl) (fun h70 => ?_) (fun h70 => ?_)
              · refine LJ.yd rfl (Yd.pickTB rfl rfl) ?_
                refine LJ.yd rfl (Yd.asB rfl) ?_
                refine LJ.nil ?_
                refine CJ.ret ?_
                refine Fin.V (Res.one (ResV.tmp (v := .bool true) rfl)) ?_
                rfl
              · exfalso; first | omega | (have := q2 (by omega); omega)
            · exfalso; first | omega | (have := q2 (by omega); omega)
          · refine LJ.gT rfl ?_
            refine LJ.yd rfl (Yd.mvB rfl) ?_
            refine LJ.gT rfl ?_
            refine LJ.yd rfl (Yd.mvS rfl) ?_
            refine LJ.gT rfl ?_
            refine LJ.yd rfl (Yd.mvS rfl) ?_
            refine LJ.gT rfl ?_
            refine LJ.yd rfl (Yd.mvI rfl) ?_
            refine LJ.gT rfl ?_
            refine LJ.yd rfl (Yd.add rfl rfl (by unfold I64; omega)) ?_
            refine LJ.gT rfl ?_
            refine LJ.callV rfl (fun k hk dk => PairsInI_ok (Sts.lrm hk dk 0 (by first | rfl | omega | (simp; done) | (simp; omega) | (simp [upN_len]; omega) | (simp [idxBy_len]; omega) | (simp [marks_len]; omega) | (simp [upN_len]; done) | (simp [idxBy_len]; done) | (simp [marks_len]; done) | (simp at *; omega)) (by first | rfl | omega | (simp; done) | (simp; omega) | (simp [upN_len]; omega) | (simp [idxBy_len]; omega) | (simp [marks_len]; omega) | (simp [upN_len]; done) | (simp [idxBy_len]; done) | (simp [marks_len]; done) | (simp at *; omega)) rfl) (Sts.lrm hk dk 1 (by first | rfl | omega | (simp; done) | (simp; omega) | (simp [upN_len]; omega) | (simp [idxBy_len]; omega) | (simp [marks_len]; omega) | (simp [upN_len]; done) | (simp [idxBy_len]; done) | (simp [marks_len]; done) | (simp at *; omega)) (by first | rfl | omega | (simp; done) | (simp; omega) | (simp [upN_len]; omega) | (simp [idxBy_len]; omega) | (simp [marks_len]; omega) | (simp [upN_len]; done) | (simp [idxBy_len]; done) | (simp [marks_len]; done) | (simp at *; omega)) rfl) (by omega)) ?_
            refine LJ.gT rfl ?_
            refine LJ.yd rfl (Yd.mvI rfl) ?_
            refine LJ.gT rfl ?_
            refine LJ.splitD rfl (Yd.geq rfl rfl) (fun h52 => ?_) (fun h52 => ?_)
            · refine LJ.gT rfl ?_
              refine LJ.yd rfl (Yd.pickFB rfl rfl) ?_
              refine LJ.yd rfl (Yd.pickTB rfl rfl) ?_
              refine LJ.yd rfl (Yd.mvB rfl) ?_
              refine LJ.gT rfl ?_
              refine LJ.yd rfl (Yd.mvS rfl) ?_
              refine LJ.gT rfl ?_
              refine LJ.yd rfl (Yd.mvS rfl) ?_
              refine LJ.gT rfl ?_
              refine LJ.callV rfl (fun k hk dk => PairsInI_ok (Sts.lrm hk dk 0 (by first | rfl | omega | (simp; done) | (simp; omega) | (simp [upN_len]; omega) | (simp [idxBy_len]; omega) | (simp [marks_len]; omega) | (simp [upN_len]; done) | (simp [idxBy_len]; done) | (simp [marks_len]; done) | (simp at *; omega)) (by first | rfl | omega | (simp; done) | (simp; omega) | (simp [upN_len]; omega) | (simp [idxBy_len]; omega) | (simp [marks_len]; omega) | (simp [upN_len]; done) | (simp [idxBy_len]; done) | (simp [marks_len]; done) | (simp at *; omega)) rfl) (Sts.lrm hk dk 0 (by first | rfl | omega | (simp; done) | (simp; omega) | (simp [upN_len]; omega) | (simp [idxBy_len]; omega) | (simp [marks_len]; omega) | (simp [upN_len]; done) | (simp [idxBy_len]; done) | (simp [marks_len]; done) | (simp at *; omega)) (by first | rfl | omega | (simp; done) | (simp; omega) | (simp [upN_len]; omega) | (simp [idxBy_len]; omega) | (simp [marks_len]; omega) | (simp [upN_len]; done) | (simp [idxBy_len]; done) | (simp [marks_len]; done) | (simp at *; omega)) rfl) (by omega)) ?_
              refine LJ.gT rfl ?_
              refine LJ.yd rfl (Yd.mvS rfl) ?_
              refine LJ.gT rfl ?_
              refine LJ.yd rfl (Yd.len rfl) ?_
              refine LJ.gT rfl ?_
              refine LJ.splitD rfl (Yd.eql rfl rfl) (fun h61 => ?_) (fun h61 => ?_)
              · refine LJ.yd rfl (Yd.pickTB rfl rfl) ?_
                refine LJ.yd rfl (Yd.mvB rfl) ?_
                refine LJ.gT rfl ?_
                refine LJ.yd rfl (Yd.mvI rfl) ?_
                refine LJ.gT rfl ?_
                refine LJ.yd rfl (Yd.mvS rfl) ?_
                refine LJ.gT rfl ?_
                refine LJ.yd rfl (Yd.len rfl) ?_
                refine LJ.gT rfl ?_
                refine LJ.yd rfl (Yd.mvS rfl) ?_
                refine LJ.gT rfl ?_
                refine LJ.yd rfl (Yd.len rfl) ?_
                refine LJ.gT rfl ?_
                refine LJ.yd rfl (Yd.min' rfl rfl) ?_
                refine LJ.gT rfl ?_
                refine LJ.splitD rfl (Yd.leq rfl rfl) (fun h70 => ?_) (fun h70 => ?_)
                · refine LJ.yd rfl (Yd.pickTB rfl rfl) ?_
                  refine LJ.yd rfl (Yd.asB rfl) ?_
                  refine LJ.nil ?_
                  refine CJ.ret ?_
                  refine Fin.V (Res.one (ResV.tmp (v := .bool true) rfl)) ?_
                  rfl
                · exfalso; first | omega | (have := q2 (by omega); omega)
              · exfalso; first | omega | (have := q2 (by omega); omega)
            · exfalso; first | omega | (have := q2 (by omega); omega)
        · exfalso; first | omega | (have := q2 (by omega); omega)
theorem FnPairsInLess_ok {A : Amb} {a : Option Addr} {n c : Nat} (hc : Code A.h a n c) : Ctr Try.prog 8 #[.slice a n c] A [] (Val (.bool true)) := by
  refine Ctr.body (args := [_]) Try.func8 rfl Try.ntmps8 Try.results8 (by simp) ?_
  refine CJ.seq ?_
  refine CJ.region ?_
  refine LJ.yd rfl (Yd.asB rfl) ?_
  refine LJ.nil ?_
  refine CJ.seq ?_
  refine CJ.seq ?_
  refine CJ.region ?_
  refine LJ.yd rfl (Yd.mvS rfl) ?_
  refine LJ.yd rfl (Yd.len rfl) ?_
  refine LJ.splitD rfl (Yd.gtr rfl rfl) (fun h11 => ?_) (fun h11 => ?_)
  · refine LJ.nil ?_
    refine CJ.condT rfl ?_
    refine CJ.seq ?_
    refine CJ.region ?_
    refine LJ.yd rfl (Yd.asB rfl) ?_
    refine LJ.nil ?_
    refine CJ.ret ?_
    refine Fin.V (Res.one (ResV.tmp (v := .bool true) rfl)) ?_
    rfl
  · refine LJ.nil ?_
    refine CJ.condF rfl ?_
    refine CJ.skip ?_
    refine CJ.seq ?_
    refine CJ.region ?_
    refine LJ.yd rfl (Yd.mvS rfl) ?_
    refine LJ.call0 rfl (fun k hk dk => DrawPairsIn_ok hc.up) ?_
    rintro _ _ ⟨l, g, s, aa, m, cc, ba, bk, bc, rfl, rfl, rfl, rfl, hl1, hg1, hs0, hs1⟩
    refine LJ.norm [_, _] rfl ?_
    refine LJ.yd rfl (Yd.mvU rfl) ?_
    refine LJ.yd rfl (Yd.extract rfl rfl) ?_
    refine LJ.yd rfl (Yd.extract rfl rfl) ?_
    refine LJ.yd rfl (Yd.extract rfl rfl) ?_
    refine LJ.yd rfl (Yd.asS rfl) ?_
    refine LJ.yd rfl (Yd.asS rfl) ?_
    refine LJ.yd rfl (Yd.asI rfl) ?_
    refine LJ.nil ?_
    refine CJ.seq ?_
    refine CJ.region ?_
    refine LJ.yd rfl (Yd.mvS rfl) ?_
    refine LJ.yd rfl (Yd.mvS rfl) ?_
    refine LJ.yd rfl (Yd.mvI rfl) ?_
    refine LJ.callV rfl (fun k hk dk => PairsInI_ok (Sts.lrm hk dk 0 (by first | rfl | omega | (simp; done) | (simp; omega) | (simp [upN_len]; omega) | (simp [idxBy_len]; omega) | (simp [marks_len]; omega) | (simp [upN_len]; done) | (simp [idxBy_len]; done) | (simp [marks_len]; done) | (simp at *; omega)) (by first | rfl | omega | (simp; done) | (simp; omega) | (simp [upN_len]; omega) | (simp [idxBy_len]; omega) | (simp [marks_len]; omega) | (simp [upN_len]; done) | (simp [idxBy_len]; done) | (simp [marks_len]; done) | (simp at *; omega)) rfl) (Sts.lrm hk dk 1 (by first | rfl | omega | (simp; done) | (simp; omega) | (simp [upN_len]; omega) | (simp [idxBy_len]; omega) | (simp [marks_len]; omega) | (simp [upN_len]; done) | (simp [idxBy_len]; done) | (simp [marks_len]; done) | (simp at *; omega)) (by first | rfl | omega | (simp; done) | (simp; omega) | (simp [upN_len]; omega) | (simp [idxBy_len]; omega) | (simp [marks_len]; omega) | (simp [upN_len]; done) | (simp [idxBy_len]; done) | (simp [marks_len]; done) | (simp at *; omega)) rfl) (by omega)) ?_
    refine LJ.yd rfl (Yd.asI rfl) ?_
    refine LJ.nil ?_
    refine CJ.seq ?_
    refine CJ.seq ?_
    refine CJ.region ?_
    refine LJ.yd rfl (Yd.mvI rfl) ?_
    refine LJ.yd rfl (Yd.mvS rfl) ?_
    refine LJ.yd rfl (Yd.mvS rfl) ?_
    refine LJ.yd rfl (Yd.mvI rfl) ?_
    refine LJ.callV rfl (fun k hk dk => PairsInS_ok (Sts.lrm hk dk 0 (by first | rfl | omega | (simp; done) | (simp; omega) | (simp [upN_len]; omega) | (simp [idxBy_len]; omega) | (simp [marks_len]; omega) | (simp [upN_len]; done) | (simp [idxBy_len]; done) | (simp [marks_len]; done) | (simp at *; omega)) (by first | rfl | omega | (simp; done) | (simp; omega) | (simp [upN_len]; omega) | (simp [idxBy_len]; omega) | (simp [marks_len]; omega) | (simp [upN_len]; done) | (simp [idxBy_len]; done) | (simp [marks_len]; done) | (simp at *; omega)) rfl) (Sts.lrm hk dk 1 (by first | rfl | omega | (simp; done) | (simp; omega) | (simp [upN_len]; omega) | (simp [idxBy_len]; omega) | (simp [marks_len]; omega) | (simp [upN_len]; done) | (simp [idxBy_len]; done) | (simp [marks_len]; done) | (simp at *; omega)) (by first | rfl | omega | (simp; done) | (simp; omega) | (simp [upN_len]; omega) | (simp [idxBy_len]; omega) | (simp [marks_len]; omega) | (simp [upN_len]; done) | (simp [idxBy_len]; done) | (simp [marks_len]; done) | (simp at *; omega)) rfl)) ?_
    refine LJ.splitN rfl (Yd.neq rfl rfl) (fun h27 => ?_) (fun h27 => ?_)
    · exfalso; omega
    · refine LJ.yd rfl (Yd.mvB rfl) ?_
      refine LJ.gT rfl ?_
      refine LJ.yd rfl (Yd.mvI rfl) ?_
      refine LJ.gT rfl ?_
      refine LJ.splitD rfl (Yd.lss rfl rfl) (fun h30 => ?_) (fun h30 => ?_)
      · refine LJ.yd rfl (Yd.pickFB rfl rfl) ?_
        refine LJ.nil ?_
        refine CJ.condT rfl ?_
        refine CJ.seq ?_
        refine CJ.region ?_
        refine LJ.yd rfl (Yd.mvI rfl) ?_
        refine LJ.yd rfl (Yd.mvS rfl) ?_
        refine LJ.yd rfl (Yd.mvS rfl) ?_
        refine LJ.yd rfl (Yd.mvI rfl) ?_
        refine LJ.callV rfl (fun k hk dk => PairsInS_ok (Sts.lrm hk dk 0 (by first | rfl | omega | (simp; done) | (simp; omega) | (simp [upN_len]; omega) | (simp [idxBy_len]; omega) | (simp [marks_len]; omega) | (simp [upN_len]; done) | (simp [idxBy_len]; done) | (simp [marks_len]; done) | (simp at *; omega)) (by first | rfl | omega | (simp; done) | (simp; omega) | (simp [upN_len]; omega) | (simp [idxBy_len]; omega) | (simp [marks_len]; omega) | (simp [upN_len]; done) | (simp [idxBy_len]; done) | (simp [marks_len]; done) | (simp at *; omega)) rfl) (Sts.lrm hk dk 1 (by first | rfl | omega | (simp; done) | (simp; omega) | (simp [upN_len]; omega) | (simp [idxBy_len]; omega) | (simp [marks_len]; omega) | (simp [upN_len]; done) | (simp [idxBy_len]; done) | (simp [marks_len]; done) | (simp at *; omega)) (by first | rfl | omega | (simp; done) | (simp; omega) | (simp [upN_len]; omega) | (simp [idxBy_len]; omega) | (simp [marks_len]; omega) | (simp [upN_len]; done) | (simp [idxBy_len]; done) | (simp [marks_len]; done) | (simp at *; omega)) rfl)) ?_
        refine LJ.splitD rfl (Yd.eql rfl rfl) (fun h37 => ?_) (fun h37 => ?_)
        · refine LJ.yd rfl (Yd.asB rfl) ?_
          refine LJ.nil ?_
          refine CJ.ret ?_
          refine Fin.V (Res.one (ResV.tmp (v := .bool true) rfl)) ?_
          rfl
        · exfalso; omega
      · refine LJ.yd rfl (Yd.pickFB rfl rfl) ?_
        refine LJ.nil ?_
        refine CJ.condF rfl ?_
        refine CJ.skip ?_
        refine CJ.seq ?_
        refine CJ.seq ?_
        have hpo : PairOk l g s := Decidable.byContradiction fun hn => h30 (by rw [piR, if_neg hn]; decide)
        have hs2 := hpo.2.2.1
        have e0 : piR l g s = nP l g s := if_pos hpo
        have p4 := nP_le l g hs2
        refine CJ.region ?_
        refine LJ.yd rfl (Yd.asI rfl) ?_
        refine LJ.nil ?_
        refine CJ.block ?_
        refine CJ.loopK [3, 4, 5, 6] Nat (fun k => k ≤ l.length) (fun k => [(7, vI k)]) (fun k => l.length - k) (0) ?_ ⟨rfl, trivial⟩ ?_
        · exact by omega
        · rintro k σ hk1
          refine CJ.seq ?_
          refine CJ.seq ?_
          refine CJ.region ?_
          refine LJ.yd rfl (Yd.mvI rfl) ?_
          refine LJ.yd rfl (Yd.mvS rfl) ?_
          refine LJ.yd rfl (Yd.len rfl) ?_
          refine LJ.splitD rfl (Yd.lss rfl rfl) (fun h41 => ?_) (fun h41 => ?_)
          · refine LJ.nil ?_
            refine CJ.condT rfl ?_
            refine CJ.skip ?_
            refine CJ.seq ?_
            refine CJ.block ?_
            refine CJ.seq ?_
            obtain ⟨x, hx⟩ := someC (l := l) (j := k) (by omega)
            have hle : l = l.take k ++ x :: l.drop (k + 1) := by rw [← dropC hx, List.take_append_drop]
            have hsub : szOk (l.take k ++ l.drop (k + 1)) = true := by
              have h1 := szOk_iff.1 hpo.1
              refine szOk_iff.2 ⟨by simp; omega, fun y hy => h1.2 y ?_⟩
              exact (List.mem_append.1 hy).elim List.mem_of_mem_take List.mem_of_mem_drop
            have q1 : piR (l.take k ++ l.drop (k + 1)) g s = nP (l.take k ++ l.drop (k + 1)) g s := if_pos ⟨hsub, hpo.2⟩
            have p1 := nP_less (u := l.take k) (v := l.drop (k + 1)) (x := x) g hs2
            rw [← hle] at p1
            refine CJ.region ?_
            refine LJ.yd rfl (Yd.mvS rfl) ?_
            refine LJ.yd rfl (Yd.mvI rfl) ?_
            refine LJ.call0 rfl (fun k hk dk => without_ok (Sts.lrm hk dk 0 (by first | rfl | omega | (simp; done) | (simp; omega) | (simp [upN_len]; omega) | (simp [idxBy_len]; omega) | (simp [marks_len]; omega) | (simp [upN_len]; done) | (simp [idxBy_len]; done) | (simp [marks_len]; done) | (simp at *; omega)) (by first | rfl | omega | (simp; done) | (simp; omega) | (simp [upN_len]; omega) | (simp [idxBy_len]; omega) | (simp [marks_len]; omega) | (simp [upN_len]; done) | (simp [idxBy_len]; done) | (simp [marks_len]; done) | (simp at *; omega)) rfl) (by omega) (by omega)) ?_
            rintro _ _ ⟨ra46, rc46, rfl, rfl⟩
            refine LJ.norm [_, _, _] rfl ?_
            refine LJ.yd rfl (Yd.mvS rfl) ?_
            refine LJ.yd rfl (Yd.mvI rfl) ?_
            refine LJ.callV rfl (fun k hk dk => PairsInI_ok (Sts.lrm hk dk 2 (by first | rfl | omega | (simp; done) | (simp; omega) | (simp [upN_len]; omega) | (simp [idxBy_len]; omega) | (simp [marks_len]; omega) | (simp [upN_len]; done) | (simp [idxBy_len]; done) | (simp [marks_len]; done) | (simp at *; omega)) (by first | rfl | omega | (simp; done) | (simp; omega) | (simp [upN_len]; omega) | (simp [idxBy_len]; omega) | (simp [marks_len]; omega) | (simp [upN_len]; done) | (simp [idxBy_len]; done) | (simp [marks_len]; done) | (simp at *; omega)) rfl) (Sts.lrm hk dk 1 (by first | rfl | omega | (simp; done) | (simp; omega) | (simp [upN_len]; omega) | (simp [idxBy_len]; omega) | (simp [marks_len]; omega) | (simp [upN_len]; done) | (simp [idxBy_len]; done) | (simp [marks_len]; done) | (simp at *; omega)) (by first | rfl | omega | (simp; done) | (simp; omega) | (simp [upN_len]; omega) | (simp [idxBy_len]; omega) | (simp [marks_len]; omega) | (simp [upN_len]; done) | (simp [idxBy_len]; done) | (simp [marks_len]; done) | (simp at *; omega)) rfl) (by simp; omega)) ?_
            refine LJ.yd rfl (Yd.asI rfl) ?_
            refine LJ.nil ?_
            refine CJ.seq ?_
            refine CJ.region ?_
            refine LJ.yd rfl (Yd.mvI rfl) ?_
            refine LJ.yd rfl (Yd.mvI rfl) ?_
            refine LJ.splitD rfl (Yd.gtr rfl rfl) (fun h52 => ?_) (fun h52 => ?_)
            · exfalso; omega
            · refine LJ.yd rfl (Yd.mvB rfl) ?_
              refine LJ.gT rfl ?_
              refine LJ.yd rfl (Yd.mvI rfl) ?_
              refine LJ.gT rfl ?_
              refine LJ.yd rfl (Yd.mvI rfl) ?_
              refine LJ.gT rfl ?_
              refine LJ.yd rfl (Yd.sub rfl rfl (by unfold I64; omega)) ?_
              refine LJ.gT rfl ?_
              refine LJ.splitD rfl (Yd.lss rfl rfl) (fun h57 => ?_) (fun h57 => ?_)
              · exfalso; omega
              · refine LJ.yd rfl (Yd.pickFB rfl rfl) ?_
                refine LJ.nil ?_
                refine CJ.condF rfl ?_
                refine CJ.skip ?_
                refine CJ.region ?_
                refine LJ.yd rfl (Yd.mvI rfl) ?_
                refine LJ.yd rfl (Yd.add rfl rfl (by unfold I64; omega)) ?_
                refine LJ.yd rfl (Yd.asI rfl) ?_
                refine LJ.nil ?_
                refine ⟨(k + 1), ?_, ⟨rfl, rfl, rfl, rfl, trivial⟩, ⟨rfl, trivial⟩, Ent.pick [0, 1] [2] rfl, ?_⟩
                · omega
                · first | omega | (dsimp only; omega) | (simp only []; omega)
          · refine LJ.nil ?_
            refine CJ.condF rfl ?_
            refine CJ.exit ?_
            refine CJ.seq ?_
            refine CJ.region ?_
            refine LJ.yd rfl (Yd.asB rfl) ?_
            refine LJ.nil ?_
            refine CJ.ret ?_
            refine Fin.V (Res.one (ResV.tmp (v := .bool true) rfl)) ?_
            rfl
end Go.Proofs.Ytbgalcjkmgdaiaa
