/-
  Contracts: stocks; clear boxes of a size; the smallest piece for a pane.
-/
import Derived.Test.YtnfnidplhkfamaaPC2
namespace Go.Proofs.Ytnfnidplhkfamaa
open Go
set_option maxRecDepth 20000
set_option maxHeartbeats 1000000

/-- valid pieces with ascending labels -/
def stGo : Int → List Piece → Bool
  | _, [] => true
  | b, p :: r => pcOk p && (decide (b < p.l) && stGo p.l r)
def stOk (L : List Piece) : Bool := decide (L.length ≤ 20) && stGo 0 L
abbrev psX (X : List Pc) : List Piece := X.map Pc.p
theorem dropP {X : List Pc} {k : Nat} {u : Pc} (h : X[k]? = some u) : (psX X).drop k = u.p :: (psX X).drop (k + 1) := dropC (by rw [List.getElem?_map, h]; rfl)
theorem dropP_end {X : List Pc} {k : Nat} (h : X.length ≤ k) : (psX X).drop k = [] := List.drop_of_length_le (by simpa using h)
theorem stOk_iff {L : List Piece} : stOk L = true ↔ L.length ≤ 20 ∧ stGo 0 L = true := by simp [stOk]
theorem ValidStockI_ok {A : Amb} {v : Value} {X : List Pc} (hl : RdL encQ 4 A.h v X) (hx : Fls A.h X) : Ctr Try.prog 46 #[v] A [] (Val (.bool (stOk (psX X)))) := by
  obtain ⟨la, lc, rfl, hlb, hl⟩ := hl.un
  refine Ctr.body (args := [_]) Try.func46 rfl Try.ntmps46 Try.results46 (by simp) ?_
  refine CJ.seq ?_
  refine CJ.region ?_
  refine LJ.yd rfl (Yd.asB rfl) ?_
  refine LJ.nil ?_
  refine CJ.seq ?_
  refine CJ.seq ?_
  refine CJ.region ?_
  refine LJ.yd rfl (Yd.mvS rfl) ?_
  refine LJ.yd rfl (Yd.len rfl) ?_
  refine LJ.splitD rfl (Yd.gtr rfl rfl) (fun h8 => ?_) (fun h8 => ?_)
  · refine LJ.nil ?_
    refine CJ.condT rfl ?_
    refine CJ.seq ?_
    refine CJ.region ?_
    refine LJ.yd rfl (Yd.asB rfl) ?_
    refine LJ.nil ?_
    refine CJ.ret ?_
    refine Fin.V (Res.one (ResV.tmp (v := .bool false) rfl)) ?_
    refine congrArg Value.bool (Eq.symm ?_)
    first
      | (rw [stOk, decide_eq_false (by simp; omega), Bool.false_and]; done)
      | (rw [dropP hu14, stGo, h16, Bool.false_and] at hi1; rw [stOk, ← hi1, Bool.and_false]; done)
      | (rw [dropP hu14, stGo, decide_eq_false (by omega), Bool.false_and, Bool.and_false] at hi1; rw [stOk, ← hi1, Bool.and_false]; done)
      | (rw [dropP_end (by omega)] at hi1
         rw [stOk, ← hi1, decide_eq_true (by simp; omega)]; rfl)
  · refine LJ.nil ?_
    refine CJ.condF rfl ?_
    refine CJ.skip ?_
    refine CJ.seq ?_
    refine CJ.region ?_
    refine LJ.yd rfl (Yd.asI rfl) ?_
    refine LJ.nil ?_
    refine CJ.seq ?_
    refine CJ.seq ?_
    refine CJ.region ?_
    refine LJ.yd rfl (Yd.mvS rfl) ?_
    refine LJ.yd rfl (Yd.len rfl) ?_
    refine LJ.yd rfl (Yd.mvI rfl) ?_
    refine LJ.nil ?_
    refine CJ.block ?_
    refine CJ.loopK [9, 10] (Nat × Int) (fun ⟨k, bf⟩ => k ≤ X.length ∧ stGo bf ((psX X).drop k) = stGo 0 (psX X)) (fun ⟨k, bf⟩ => [(11, vI k), (3, vI bf)]) (fun ⟨k, bf⟩ => X.length - k) (0, 0) ?_ ⟨rfl, rfl, trivial⟩ ?_
    · exact ⟨by omega, rfl⟩
    · rintro ⟨k, bf⟩ σ ⟨hk1, hi1⟩
      refine CJ.seq ?_
      refine CJ.region ?_
      refine LJ.splitD rfl (Yd.lss rfl rfl) (fun h12 => ?_) (fun h12 => ?_)
      · refine LJ.nil ?_
        refine CJ.seq ?_
        refine CJ.condT rfl ?_
        refine CJ.skip ?_
        refine CJ.seq ?_
        refine CJ.block ?_
        refine CJ.seq ?_
        refine CJ.region ?_
        refine LJ.idxA rfl hl rfl rfl (by omega) (by first | rfl | omega | (simp; done) | (simp; omega) | (simp [upN_len]; omega) | (simp [idxBy_len]; omega) | (simp [marks_len]; omega) | (simp [upN_len]; done) | (simp [idxBy_len]; done) | (simp [marks_len]; done) | (simp at *; omega)) (fun ib13 io13 ia13 ir13 => ?_)
        refine LJ.lgA (enc := encQ) (fun u => [vI u.p.l, vI u.p.w, vI u.p.h, .slice u.a u.p.fl.length u.c]) (fun _ => rfl) (fun _ => rfl) ir13 rfl rfl rfl (by first | rfl | omega | (simp; done) | (simp; omega) | (simp [upN_len]; omega) | (simp [idxBy_len]; omega) | (simp [marks_len]; omega) | (simp [upN_len]; done) | (simp [idxBy_len]; done) | (simp [marks_len]; done) | (simp at *; omega)) (fun u14 hu14 => ?_)
        try simp only [Int.toNat_natCast] at hu14
        refine LJ.alloc ([_, _, _, _] : List Value) rfl rfl (fun b1 => ?_)
        refine LJ.store (v := .agg #[_, _, _, _]) (us := [_, _, _, _]) 0 rfl rfl rfl rfl rfl rfl rfl rfl ?_
        refine LJ.nil ?_
        refine CJ.seq ?_
        refine CJ.seq ?_
        refine CJ.region ?_
        refine LJ.yd rfl (Yd.loadG (us := [_, _, _, _]) 0 rfl rfl rfl rfl) ?_
        refine LJ.callB rfl (fun k hk dk => ValidPieceI_ok (p := u14.p) (RdRow.up (hx u14 (List.mem_of_getElem? hu14)))) (fun h16 => ?_) (fun h16 => ?_)
        · refine LJ.yd rfl (Yd.not rfl) ?_
          refine LJ.yd rfl (Yd.mvB rfl) ?_
          refine LJ.gT rfl ?_
          refine LJ.yd rfl (Yd.fieldAddr rfl) ?_
          refine LJ.gT rfl ?_
          refine LJ.yd rfl (Yd.loadC 0 rfl rfl rfl) ?_
          refine LJ.gT rfl ?_
          refine LJ.yd rfl (Yd.mvI rfl) ?_
          refine LJ.gT rfl ?_
          refine LJ.splitD rfl (Yd.leq rfl rfl) (fun h22 => ?_) (fun h22 => ?_)
          · refine LJ.yd rfl (Yd.pickFB rfl rfl) ?_
            refine LJ.nil ?_
            refine CJ.condT rfl ?_
            refine CJ.seq ?_
            refine CJ.region ?_
            refine LJ.yd rfl (Yd.asB rfl) ?_
            refine LJ.nil ?_
            refine CJ.ret ?_
            refine Fin.V (Res.one (ResV.tmp (v := .bool false) rfl)) ?_
            refine congrArg Value.bool (Eq.symm ?_)
            first
              | (rw [stOk, decide_eq_false (by simp; omega), Bool.false_and]; done)
              | (rw [dropP hu14, stGo, h16, Bool.false_and] at hi1; rw [stOk, ← hi1, Bool.and_false]; done)
              | (rw [dropP hu14, stGo, decide_eq_false (by omega), Bool.false_and, Bool.and_false] at hi1; rw [stOk, ← hi1, Bool.and_false]; done)
              | (rw [dropP_end (by omega)] at hi1
                 rw [stOk, ← hi1, decide_eq_true (by simp; omega)]; rfl)
          · refine LJ.yd rfl (Yd.pickFB rfl rfl) ?_
            refine LJ.nil ?_
            refine CJ.condF rfl ?_
            refine CJ.skip ?_
            refine CJ.region ?_
            refine LJ.yd rfl (Yd.fieldAddr rfl) ?_
            refine LJ.yd rfl (Yd.loadC 0 rfl rfl rfl) ?_
            refine LJ.yd rfl (Yd.asI rfl) ?_
            refine LJ.nil ?_
            refine CJ.region ?_
            refine LJ.yd rfl (Yd.add rfl rfl (by unfold I64; omega)) ?_
            refine LJ.yd rfl (Yd.mvI rfl) ?_
            refine LJ.nil ?_
            refine ⟨(k + 1, _), ?_, ⟨rfl, rfl, trivial⟩, ⟨rfl, rfl, trivial⟩, Ent.pick [] [0] rfl, ?_⟩
            · refine ⟨by omega, ?_⟩
              rw [dropP hu14, stGo, h16, decide_eq_true (by omega), Bool.true_and, Bool.true_and] at hi1
              exact hi1
            · first | omega | (dsimp only; omega) | (simp only []; omega)
        · refine LJ.yd rfl (Yd.not rfl) ?_
          refine LJ.yd rfl (Yd.mvB rfl) ?_
          refine LJ.gF rfl rfl ?_
          refine LJ.gF rfl rfl ?_
          refine LJ.gF rfl rfl ?_
          refine LJ.gF rfl rfl ?_
          refine LJ.yd rfl (Yd.pickTB rfl rfl) ?_
          refine LJ.nil ?_
          refine CJ.condT rfl ?_
          refine CJ.seq ?_
          refine CJ.region ?_
          refine LJ.yd rfl (Yd.asB rfl) ?_
          refine LJ.nil ?_
          refine CJ.ret ?_
          refine Fin.V (Res.one (ResV.tmp (v := .bool false) rfl)) ?_
          refine congrArg Value.bool (Eq.symm ?_)
          first
            | (rw [stOk, decide_eq_false (by simp; omega), Bool.false_and]; done)
            | (rw [dropP hu14, stGo, h16, Bool.false_and] at hi1; rw [stOk, ← hi1, Bool.and_false]; done)
            | (rw [dropP hu14, stGo, decide_eq_false (by omega), Bool.false_and, Bool.and_false] at hi1; rw [stOk, ← hi1, Bool.and_false]; done)
            | (rw [dropP_end (by omega)] at hi1
               rw [stOk, ← hi1, decide_eq_true (by simp; omega)]; rfl)
      · refine LJ.nil ?_
        refine CJ.seq ?_
        refine CJ.condF rfl ?_
        refine CJ.exit ?_
        refine CJ.seq ?_
        refine CJ.region ?_
        refine LJ.yd rfl (Yd.asB rfl) ?_
        refine LJ.nil ?_
        refine CJ.ret ?_
        refine Fin.V (Res.one (ResV.tmp (v := .bool true) rfl)) ?_
        refine congrArg Value.bool (Eq.symm ?_)
        first
          | (rw [stOk, decide_eq_false (by simp; omega), Bool.false_and]; done)
          | (rw [dropP hu14, stGo, h16, Bool.false_and] at hi1; rw [stOk, ← hi1, Bool.and_false]; done)
          | (rw [dropP hu14, stGo, decide_eq_false (by omega), Bool.false_and, Bool.and_false] at hi1; rw [stOk, ← hi1, Bool.and_false]; done)
          | (rw [dropP_end (by omega)] at hi1
             rw [stOk, ← hi1, decide_eq_true (by simp; omega)]; rfl)
/-- numbers that fit -/
def Wfs (X : List Pc) : Prop := ∀ u ∈ X, I64 u.p.w ∧ I64 u.p.h
theorem validStockS_ok {A : Amb} {v : Value} {X : List Pc} (hl : RdL encQ 4 A.h v X) (hx : Fls A.h X) (hw : Wfs X) : Ctr Try.prog 49 #[v] A [] (Val (.bool (stOk (psX X)))) := by
  obtain ⟨la, lc, rfl, hlb, hl⟩ := hl.un
  refine Ctr.body (args := [_]) Try.func49 rfl Try.ntmps49 Try.results49 (by simp) ?_
  refine CJ.seq ?_
  refine CJ.region ?_
  refine LJ.yd rfl (Yd.asB rfl) ?_
  refine LJ.nil ?_
  refine CJ.seq ?_
  refine CJ.seq ?_
  refine CJ.region ?_
  refine LJ.yd rfl (Yd.asI rfl) ?_
  refine LJ.nil ?_
  refine CJ.block ?_
  refine CJ.loopK [0] (Nat × Int) (fun ⟨k, bf⟩ => k ≤ X.length ∧ stGo bf ((psX X).drop k) = stGo 0 (psX X) ∧ ((k = 0 ∧ bf = 0) ∨ ∃ j z, k = j + 1 ∧ X[j]? = some z ∧ bf = z.p.l)) (fun ⟨k, bf⟩ => [(3, vI k)]) (fun ⟨k, bf⟩ => X.length - k) (0, 0) ?_ ⟨rfl, trivial⟩ ?_
  · exact ⟨by omega, rfl, .inl ⟨rfl, rfl⟩⟩
  · rintro ⟨k, bf⟩ σ ⟨hk1, hi1, hbf⟩
    refine CJ.seq ?_
    refine CJ.seq ?_
    refine CJ.region ?_
    refine LJ.yd rfl (Yd.mvI rfl) ?_
    refine LJ.yd rfl (Yd.mvS rfl) ?_
    refine LJ.yd rfl (Yd.len rfl) ?_
    refine LJ.splitD rfl (Yd.lss rfl rfl) (fun h7 => ?_) (fun h7 => ?_)
    · refine LJ.nil ?_
      refine CJ.condT rfl ?_
      refine CJ.skip ?_
      refine CJ.seq ?_
      refine CJ.block ?_
      refine CJ.seq ?_
      refine CJ.regionD [] [] (by kernel_rfl) rfl ?_
      refine DJ.norm [] [] rfl rfl ?_
      refine DJ.yd 0 rfl (by kernel_rfl) (by kernel_rfl) (by kernel_rfl) rfl rfl (Yd.mvS rfl) ?_
      refine DJ.yd 1 rfl (by kernel_rfl) (by kernel_rfl) (by kernel_rfl) rfl rfl (Yd.mvI rfl) ?_
      refine DJ.idxA 2 rfl (by kernel_rfl) (by kernel_rfl) (by kernel_rfl) rfl rfl hl rfl rfl (by omega) (by first | rfl | omega | (simp; done) | (simp; omega) | (simp [upN_len]; omega) | (simp [idxBy_len]; omega) | (simp [marks_len]; omega) | (simp [upN_len]; done) | (simp [idxBy_len]; done) | (simp [marks_len]; done) | (simp at *; omega)) (fun ib12 io12 ia12 ir12 => ?_)
      refine DJ.lgA 3 rfl (by kernel_rfl) (by kernel_rfl) (by kernel_rfl) rfl rfl (enc := encQ) (fun u => [vI u.p.l, vI u.p.w, vI u.p.h, .slice u.a u.p.fl.length u.c]) (fun _ => rfl) (fun _ => rfl) ir12 rfl rfl (by first | rfl | omega | (simp; done) | (simp; omega) | (simp [upN_len]; omega) | (simp [idxBy_len]; omega) | (simp [marks_len]; omega) | (simp [upN_len]; done) | (simp [idxBy_len]; done) | (simp [marks_len]; done) | (simp at *; omega)) (fun u13 hu13 => ?_)
      try simp only [Int.toNat_natCast] at hu13
      refine DJ.one (i := 4) (by kernel_rfl) ?_
      refine DO.callB rfl rfl rfl (fun k0 hk0 dk0 k hk dk => validPieceS_ok (p := u13.p) (RdRow.up (hx u13 (List.mem_of_getElem? hu13))) (hw u13 (List.mem_of_getElem? hu13)).1 (hw u13 (List.mem_of_getElem? hu13)).2) (fun h14 => ?_) (fun h14 => ?_)
      · refine DJ.yd 5 rfl (by kernel_rfl) (by kernel_rfl) (by kernel_rfl) rfl rfl (Yd.not rfl) ?_
        refine DJ.yd 6 rfl (by kernel_rfl) (by kernel_rfl) (by kernel_rfl) rfl rfl (Yd.mvB rfl) ?_
        refine DJ.yd 7 rfl (by kernel_rfl) (by kernel_rfl) (by kernel_rfl) rfl rfl (Yd.mvI rfl) ?_
        refine DJ.splitD 8 rfl (by kernel_rfl) (by kernel_rfl) (by kernel_rfl) rfl rfl (Yd.gtr rfl rfl) (fun h18 => ?_) (fun h18 => ?_)
        · refine DJ.yd 9 rfl (by kernel_rfl) (by kernel_rfl) (by kernel_rfl) rfl rfl (Yd.mvB rfl) ?_
          refine DJ.yd 10 rfl (by kernel_rfl) (by kernel_rfl) (by kernel_rfl) rfl rfl (Yd.mvS rfl) ?_
          refine DJ.yd 11 rfl (by kernel_rfl) (by kernel_rfl) (by kernel_rfl) rfl rfl (Yd.mvI rfl) ?_
          refine DJ.idxA 12 rfl (by kernel_rfl) (by kernel_rfl) (by kernel_rfl) rfl rfl hl rfl rfl (by omega) (by first | rfl | omega | (simp; done) | (simp; omega) | (simp [upN_len]; omega) | (simp [idxBy_len]; omega) | (simp [marks_len]; omega) | (simp [upN_len]; done) | (simp [idxBy_len]; done) | (simp [marks_len]; done) | (simp at *; omega)) (fun ib22 io22 ia22 ir22 => ?_)
          refine DJ.yd 13 rfl (by kernel_rfl) (by kernel_rfl) (by kernel_rfl) rfl rfl (Yd.fieldAddr rfl) ?_
          refine DJ.ldA 14 rfl (by kernel_rfl) (by kernel_rfl) (by kernel_rfl) rfl rfl 0 (fun u => vI u.p.l) (fun _ => rfl) ir22 rfl rfl (by first | rfl | omega | (simp; done) | (simp; omega) | (simp [upN_len]; omega) | (simp [idxBy_len]; omega) | (simp [marks_len]; omega) | (simp [upN_len]; done) | (simp [idxBy_len]; done) | (simp [marks_len]; done) | (simp at *; omega)) (fun u24 hu24 => ?_)
          try simp only [Int.toNat_natCast] at hu24
          refine DJ.yd 15 rfl (by kernel_rfl) (by kernel_rfl) (by kernel_rfl) rfl rfl (Yd.mvS rfl) ?_
          refine DJ.yd 16 rfl (by kernel_rfl) (by kernel_rfl) (by kernel_rfl) rfl rfl (Yd.mvI rfl) ?_
          refine DJ.yd 17 rfl (by kernel_rfl) (by kernel_rfl) (by kernel_rfl) rfl rfl (Yd.sub rfl rfl (by unfold I64; omega)) ?_
          refine DJ.idxA 18 rfl (by kernel_rfl) (by kernel_rfl) (by kernel_rfl) rfl rfl hl rfl rfl (by omega) (by first | rfl | omega | (simp; done) | (simp; omega) | (simp [upN_len]; omega) | (simp [idxBy_len]; omega) | (simp [marks_len]; omega) | (simp [upN_len]; done) | (simp [idxBy_len]; done) | (simp [marks_len]; done) | (simp at *; omega)) (fun ib28 io28 ia28 ir28 => ?_)
          refine DJ.yd 19 rfl (by kernel_rfl) (by kernel_rfl) (by kernel_rfl) rfl rfl (Yd.fieldAddr rfl) ?_
          refine DJ.ldA 20 rfl (by kernel_rfl) (by kernel_rfl) (by kernel_rfl) rfl rfl 0 (fun u => vI u.p.l) (fun _ => rfl) ir28 rfl rfl (by first | rfl | omega | (simp; done) | (simp; omega) | (simp [upN_len]; omega) | (simp [idxBy_len]; omega) | (simp [marks_len]; omega) | (simp [upN_len]; done) | (simp [idxBy_len]; done) | (simp [marks_len]; done) | (simp at *; omega)) (fun u30 hu30 => ?_)
          try simp only [Int.toNat_natCast] at hu30
          refine DJ.splitD 21 rfl (by kernel_rfl) (by kernel_rfl) (by kernel_rfl) rfl rfl (Yd.leq rfl rfl) (fun h31 => ?_) (fun h31 => ?_)
          · refine DJ.yd 22 rfl (by kernel_rfl) (by kernel_rfl) (by kernel_rfl) rfl rfl (Yd.pickTB rfl rfl) ?_
            refine DJ.yd 23 rfl (by kernel_rfl) (by kernel_rfl) (by kernel_rfl) rfl rfl (Yd.pickFB rfl rfl) ?_
            refine DJ.done (by kernel_rfl) ?_
            refine CJ.condT rfl ?_
            refine CJ.seq ?_
            refine CJ.region ?_
            refine LJ.yd rfl (Yd.asB rfl) ?_
            refine LJ.nil ?_
            refine CJ.ret ?_
            refine Fin.V (Res.one (ResV.tmp (v := .bool false) rfl)) ?_
            refine congrArg Value.bool (Eq.symm ?_)
            first
              | (rw [dropP hu13, stGo, h14, Bool.false_and] at hi1; rw [stOk, ← hi1, Bool.and_false]; done)
              | (rcases hbf with ⟨h2, h3⟩ | ⟨j, z, rfl, hz, rfl⟩
                 · omega
                 · obtain rfl : u13 = u24 := by rw [hu13] at hu24; exact Option.some.inj hu24
                   rw [show ((j + 1 : Nat) : Int) - 1 = (j : Int) by omega, Int.toNat_natCast, hz] at hu30
                   cases hu30
                   rw [dropP hu13, stGo, decide_eq_false (by omega), Bool.false_and, Bool.and_false] at hi1; rw [stOk, ← hi1, Bool.and_false]; done)
              | (rw [dropP_end (by omega)] at hi1
                 rw [stOk, ← hi1]
                 first
                   | (rw [decide_eq_true (by simp; omega)]; rfl)
                   | (rw [decide_eq_false (by simp; omega)]; rfl))
          · refine DJ.yd 22 rfl (by kernel_rfl) (by kernel_rfl) (by kernel_rfl) rfl rfl (Yd.pickTB rfl rfl) ?_
            refine DJ.yd 23 rfl (by kernel_rfl) (by kernel_rfl) (by kernel_rfl) rfl rfl (Yd.pickFB rfl rfl) ?_
            refine DJ.done (by kernel_rfl) ?_
            refine CJ.condF rfl ?_
            refine CJ.skip ?_
            refine CJ.region ?_
            refine LJ.yd rfl (Yd.mvI rfl) ?_
            refine LJ.yd rfl (Yd.add rfl rfl (by unfold I64; omega)) ?_
            refine LJ.yd rfl (Yd.asI rfl) ?_
            refine LJ.nil ?_
            refine ⟨(k + 1, u13.p.l), ?_, ⟨rfl, trivial⟩, ⟨rfl, trivial⟩, Ent.refl _, ?_⟩
            · refine ⟨by omega, ?_⟩
              rw [dropP hu13, stGo, h14] at hi1
              have hlt : bf < u13.p.l := by
                have h1 := (pcOk_iff.1 h14).1
                rcases hbf with ⟨h2, h3⟩ | ⟨j, z, rfl, hz, rfl⟩
                · omega
                · first
                    | omega
                    | (obtain rfl : u13 = u24 := by rw [hu13] at hu24; exact Option.some.inj hu24
                       rw [show ((j + 1 : Nat) : Int) - 1 = (j : Int) by omega, Int.toNat_natCast, hz] at hu30
                       cases hu30
                       omega)
              rw [decide_eq_true hlt, Bool.true_and, Bool.true_and] at hi1
              exact ⟨hi1, .inr ⟨k, u13, rfl, hu13, rfl⟩⟩
            · first | omega | (dsimp only; omega) | (simp only []; omega)
        · refine DJ.yd 9 rfl (by kernel_rfl) (by kernel_rfl) (by kernel_rfl) rfl rfl (Yd.mvB rfl) ?_
          refine DJ.skip 10 rfl (by kernel_rfl) (by kernel_rfl) (by kernel_rfl) rfl rfl ?_
          refine DJ.skip 11 rfl (by kernel_rfl) (by kernel_rfl) (by kernel_rfl) rfl rfl ?_
          refine DJ.skip 12 rfl (by kernel_rfl) (by kernel_rfl) (by kernel_rfl) rfl rfl ?_
          refine DJ.skip 13 rfl (by kernel_rfl) (by kernel_rfl) (by kernel_rfl) rfl rfl ?_
          refine DJ.skip 14 rfl (by kernel_rfl) (by kernel_rfl) (by kernel_rfl) rfl rfl ?_
          refine DJ.skip 15 rfl (by kernel_rfl) (by kernel_rfl) (by kernel_rfl) rfl rfl ?_
          refine DJ.skip 16 rfl (by kernel_rfl) (by kernel_rfl) (by kernel_rfl) rfl rfl ?_
          refine DJ.skip 17 rfl (by kernel_rfl) (by kernel_rfl) (by kernel_rfl) rfl rfl ?_
          refine DJ.skip 18 rfl (by kernel_rfl) (by kernel_rfl) (by kernel_rfl) rfl rfl ?_
          refine DJ.skip 19 rfl (by kernel_rfl) (by kernel_rfl) (by kernel_rfl) rfl rfl ?_
          refine DJ.skip 20 rfl (by kernel_rfl) (by kernel_rfl) (by kernel_rfl) rfl rfl ?_
          refine DJ.skip 21 rfl (by kernel_rfl) (by kernel_rfl) (by kernel_rfl) rfl rfl ?_
          refine DJ.yd 22 rfl (by kernel_rfl) (by kernel_rfl) (by kernel_rfl) rfl rfl (Yd.pickFB rfl rfl) ?_
          refine DJ.yd 23 rfl (by kernel_rfl) (by kernel_rfl) (by kernel_rfl) rfl rfl (Yd.pickFB rfl rfl) ?_
          refine DJ.done (by kernel_rfl) ?_
          refine CJ.condF rfl ?_
          refine CJ.skip ?_
          refine CJ.region ?_
          refine LJ.yd rfl (Yd.mvI rfl) ?_
          refine LJ.yd rfl (Yd.add rfl rfl (by unfold I64; omega)) ?_
          refine LJ.yd rfl (Yd.asI rfl) ?_
          refine LJ.nil ?_
          refine ⟨(k + 1, u13.p.l), ?_, ⟨rfl, trivial⟩, ⟨rfl, trivial⟩, Ent.refl _, ?_⟩
          · refine ⟨by omega, ?_⟩
            rw [dropP hu13, stGo, h14] at hi1
            have hlt : bf < u13.p.l := by
              have h1 := (pcOk_iff.1 h14).1
              rcases hbf with ⟨h2, h3⟩ | ⟨j, z, rfl, hz, rfl⟩
              · omega
              · first
                  | omega
                  | (obtain rfl : u13 = u24 := by rw [hu13] at hu24; exact Option.some.inj hu24
                     rw [show ((j + 1 : Nat) : Int) - 1 = (j : Int) by omega, Int.toNat_natCast, hz] at hu30
                     cases hu30
                     omega)
            rw [decide_eq_true hlt, Bool.true_and, Bool.true_and] at hi1
            exact ⟨hi1, .inr ⟨k, u13, rfl, hu13, rfl⟩⟩
          · first | omega | (dsimp only; omega) | (simp only []; omega)
      · refine DJ.yd 5 rfl (by kernel_rfl) (by kernel_rfl) (by kernel_rfl) rfl rfl (Yd.not rfl) ?_
        refine DJ.yd 6 rfl (by kernel_rfl) (by kernel_rfl) (by kernel_rfl) rfl rfl (Yd.mvB rfl) ?_
        refine DJ.skip 7 rfl (by kernel_rfl) (by kernel_rfl) (by kernel_rfl) rfl rfl ?_
        refine DJ.skip 8 rfl (by kernel_rfl) (by kernel_rfl) (by kernel_rfl) rfl rfl ?_
        refine DJ.skip 9 rfl (by kernel_rfl) (by kernel_rfl) (by kernel_rfl) rfl rfl ?_
        refine DJ.skip 10 rfl (by kernel_rfl) (by kernel_rfl) (by kernel_rfl) rfl rfl ?_
        refine DJ.skip 11 rfl (by kernel_rfl) (by kernel_rfl) (by kernel_rfl) rfl rfl ?_
        refine DJ.skip 12 rfl (by kernel_rfl) (by kernel_rfl) (by kernel_rfl) rfl rfl ?_
        refine DJ.skip 13 rfl (by kernel_rfl) (by kernel_rfl) (by kernel_rfl) rfl rfl ?_
        refine DJ.skip 14 rfl (by kernel_rfl) (by kernel_rfl) (by kernel_rfl) rfl rfl ?_
        refine DJ.skip 15 rfl (by kernel_rfl) (by kernel_rfl) (by kernel_rfl) rfl rfl ?_
        refine DJ.skip 16 rfl (by kernel_rfl) (by kernel_rfl) (by kernel_rfl) rfl rfl ?_
        refine DJ.skip 17 rfl (by kernel_rfl) (by kernel_rfl) (by kernel_rfl) rfl rfl ?_
        refine DJ.skip 18 rfl (by kernel_rfl) (by kernel_rfl) (by kernel_rfl) rfl rfl ?_
        refine DJ.skip 19 rfl (by kernel_rfl) (by kernel_rfl) (by kernel_rfl) rfl rfl ?_
        refine DJ.skip 20 rfl (by kernel_rfl) (by kernel_rfl) (by kernel_rfl) rfl rfl ?_
        refine DJ.skip 21 rfl (by kernel_rfl) (by kernel_rfl) (by kernel_rfl) rfl rfl ?_
        refine DJ.skip 22 rfl (by kernel_rfl) (by kernel_rfl) (by kernel_rfl) rfl rfl ?_
        refine DJ.yd 23 rfl (by kernel_rfl) (by kernel_rfl) (by kernel_rfl) rfl rfl (Yd.pickTB rfl rfl) ?_
        refine DJ.done (by kernel_rfl) ?_
        refine CJ.condT rfl ?_
        refine CJ.seq ?_
        refine CJ.region ?_
        refine LJ.yd rfl (Yd.asB rfl) ?_
        refine LJ.nil ?_
        refine CJ.ret ?_
        refine Fin.V (Res.one (ResV.tmp (v := .bool false) rfl)) ?_
        refine congrArg Value.bool (Eq.symm ?_)
        first
          | (rw [dropP hu13, stGo, h14, Bool.false_and] at hi1; rw [stOk, ← hi1, Bool.and_false]; done)
          | (rcases hbf with ⟨h2, h3⟩ | ⟨j, z, rfl, hz, rfl⟩
             · omega
             · obtain rfl : u13 = u24 := by rw [hu13] at hu24; exact Option.some.inj hu24
               rw [show ((j + 1 : Nat) : Int) - 1 = (j : Int) by omega, Int.toNat_natCast, hz] at hu30
               cases hu30
               rw [dropP hu13, stGo, decide_eq_false (by omega), Bool.false_and, Bool.and_false] at hi1; rw [stOk, ← hi1, Bool.and_false]; done)
          | (rw [dropP_end (by omega)] at hi1
             rw [stOk, ← hi1]
             first
               | (rw [decide_eq_true (by simp; omega)]; rfl)
               | (rw [decide_eq_false (by simp; omega)]; rfl))
    · refine LJ.nil ?_
      refine CJ.condF rfl ?_
      refine CJ.exit ?_
      refine CJ.seq ?_
      refine CJ.region ?_
      refine LJ.yd rfl (Yd.mvS rfl) ?_
      refine LJ.yd rfl (Yd.len rfl) ?_
      refine LJ.splitD rfl (Yd.leq rfl rfl) (fun h36 => ?_) (fun h36 => ?_)
      · refine LJ.yd rfl (Yd.asB rfl) ?_
        refine LJ.nil ?_
        refine CJ.ret ?_
        refine Fin.V (Res.one (ResV.tmp (v := .bool true) rfl)) ?_
        refine congrArg Value.bool (Eq.symm ?_)
        first
          | (rw [dropP hu13, stGo, h14, Bool.false_and] at hi1; rw [stOk, ← hi1, Bool.and_false]; done)
          | (rcases hbf with ⟨h2, h3⟩ | ⟨j, z, rfl, hz, rfl⟩
             · omega
             · obtain rfl : u13 = u24 := by rw [hu13] at hu24; exact Option.some.inj hu24
               rw [show ((j + 1 : Nat) : Int) - 1 = (j : Int) by omega, Int.toNat_natCast, hz] at hu30
               cases hu30
               rw [dropP hu13, stGo, decide_eq_false (by omega), Bool.false_and, Bool.and_false] at hi1; rw [stOk, ← hi1, Bool.and_false]; done)
          | (rw [dropP_end (by omega)] at hi1
             rw [stOk, ← hi1]
             first
               | (rw [decide_eq_true (by simp; omega)]; rfl)
               | (rw [decide_eq_false (by simp; omega)]; rfl))
      · refine LJ.yd rfl (Yd.asB rfl) ?_
        refine LJ.nil ?_
        refine CJ.ret ?_
        refine Fin.V (Res.one (ResV.tmp (v := .bool false) rfl)) ?_
        refine congrArg Value.bool (Eq.symm ?_)
        first
          | (rw [dropP hu13, stGo, h14, Bool.false_and] at hi1; rw [stOk, ← hi1, Bool.and_false]; done)
          | (rcases hbf with ⟨h2, h3⟩ | ⟨j, z, rfl, hz, rfl⟩
             · omega
             · obtain rfl : u13 = u24 := by rw [hu13] at hu24; exact Option.some.inj hu24
               rw [show ((j + 1 : Nat) : Int) - 1 = (j : Int) by omega, Int.toNat_natCast, hz] at hu30
               cases hu30
               rw [dropP hu13, stGo, decide_eq_false (by omega), Bool.false_and, Bool.and_false] at hi1; rw [stOk, ← hi1, Bool.and_false]; done)
          | (rw [dropP_end (by omega)] at hi1
             rw [stOk, ← hi1]
             first
               | (rw [decide_eq_true (by simp; omega)]; rfl)
               | (rw [decide_eq_false (by simp; omega)]; rfl))
theorem meetsFlaw_ok {A : Amb} {fl : List Box} {v : Value} (hf : RdL Box.enc 4 A.h v fl) (b : Box) : Ctr Try.prog 52 #[v, agB b] A [] (Val (.bool (fl.any fun f => mt f b))) := by
  obtain ⟨fa, fc, rfl, hfb, hf⟩ := hf.un
  refine Ctr.body (args := [_, _]) Try.func52 rfl Try.ntmps52 Try.results52 (by simp) ?_
  refine CJ.seq ?_
  refine CJ.region ?_
  refine LJ.boxG (vs := [_, _, _, _]) rfl rfl (fun b1 => ?_)
  refine LJ.yd rfl (Yd.asB rfl) ?_
  refine LJ.nil ?_
  refine CJ.seq ?_
  refine CJ.seq ?_
  refine CJ.region ?_
  refine LJ.yd rfl (Yd.mvS rfl) ?_
  refine LJ.yd rfl (Yd.len rfl) ?_
  refine LJ.yd rfl (Yd.mvI rfl) ?_
  refine LJ.nil ?_
  refine CJ.block ?_
  refine CJ.loopK [3, 9, 10] Nat (fun k => k ≤ fl.length ∧ ∀ f ∈ fl.take k, mt f b = false) (fun k => [(11, vI k)]) (fun k => fl.length - k) (0) ?_ ⟨rfl, trivial⟩ ?_
  · exact ⟨by omega, by simp⟩
  · rintro k σ ⟨hk1, hi1⟩
    refine CJ.seq ?_
    refine CJ.region ?_
    refine LJ.splitD rfl (Yd.lss rfl rfl) (fun h12 => ?_) (fun h12 => ?_)
    · refine LJ.nil ?_
      refine CJ.seq ?_
      refine CJ.condT rfl ?_
      refine CJ.skip ?_
      refine CJ.seq ?_
      refine CJ.block ?_
      refine CJ.seq ?_
      refine CJ.region ?_
      refine LJ.idxA rfl hf rfl rfl (by omega) (by first | rfl | omega | (simp; done) | (simp; omega) | (simp [upN_len]; omega) | (simp [idxBy_len]; omega) | (simp [marks_len]; omega) | (simp [upN_len]; done) | (simp [idxBy_len]; done) | (simp [marks_len]; done) | (simp at *; omega)) (fun ib13 io13 ia13 ir13 => ?_)
      refine LJ.lgA (enc := Box.enc) (fun u => [vI u.X, vI u.Y, vI u.W, vI u.H]) (fun _ => rfl) (fun _ => rfl) ir13 rfl rfl rfl (by first | rfl | omega | (simp; done) | (simp; omega) | (simp [upN_len]; omega) | (simp [idxBy_len]; omega) | (simp [marks_len]; omega) | (simp [upN_len]; done) | (simp [idxBy_len]; done) | (simp [marks_len]; done) | (simp at *; omega)) (fun u14 hu14 => ?_)
      try simp only [Int.toNat_natCast] at hu14
      refine LJ.alloc ([_, _, _, _] : List Value) rfl rfl (fun b2 => ?_)
      refine LJ.store (v := .agg #[_, _, _, _]) (us := [_, _, _, _]) 1 rfl rfl rfl rfl rfl rfl rfl rfl ?_
      refine LJ.nil ?_
      refine CJ.seq ?_
      refine CJ.region ?_
      refine LJ.yd rfl (Yd.loadG (us := [_, _, _, _]) 1 rfl rfl rfl rfl) ?_
      refine LJ.yd rfl (Yd.loadG (us := [_, _, _, _]) 0 rfl rfl rfl rfl) ?_
      refine LJ.callV rfl (fun k hk dk => MeetOfI_ok _ u14 b) ?_
      refine LJ.yd rfl (Yd.mvU rfl) ?_
      refine LJ.yd rfl (Yd.extract rfl rfl) ?_
      refine LJ.split rfl (Yd.extract rfl rfl) (fun h20 => ?_) (fun h20 => ?_)
      · refine LJ.alloc ([_, _, _, _] : List Value) rfl rfl (fun b3 => ?_)
        refine LJ.store (v := .agg #[_, _, _, _]) (us := [_, _, _, _]) 2 rfl rfl rfl rfl rfl rfl rfl rfl ?_
        refine LJ.yd rfl (Yd.asB rfl) ?_
        refine LJ.nil ?_
        refine CJ.seq ?_
        refine CJ.region ?_
        refine LJ.yd rfl (Yd.mvB rfl) ?_
        refine LJ.nil ?_
        refine CJ.condT rfl ?_
        refine CJ.seq ?_
        refine CJ.region ?_
        refine LJ.yd rfl (Yd.asB rfl) ?_
        refine LJ.nil ?_
        refine CJ.ret ?_
        refine Fin.V (Res.one (ResV.tmp (v := .bool true) rfl)) ?_
        refine congrArg Value.bool (Eq.symm ?_)
        first
          | (refine List.any_eq_true.2 ⟨u14, List.mem_of_getElem? hu14, by assumption⟩)
          | (rw [List.take_of_length_le (by omega)] at hi1
             refine List.any_eq_false.2 fun f hf => ?_
             rw [hi1 f hf]; simp)
      · refine LJ.alloc ([_, _, _, _] : List Value) rfl rfl (fun b4 => ?_)
        refine LJ.store (v := .agg #[_, _, _, _]) (us := [_, _, _, _]) 2 rfl rfl rfl rfl rfl rfl rfl rfl ?_
        refine LJ.yd rfl (Yd.asB rfl) ?_
        refine LJ.nil ?_
        refine CJ.seq ?_
        refine CJ.region ?_
        refine LJ.yd rfl (Yd.mvB rfl) ?_
        refine LJ.nil ?_
        refine CJ.condF rfl ?_
        refine CJ.skip ?_
        refine CJ.region ?_
        refine LJ.yd rfl (Yd.add rfl rfl (by unfold I64; omega)) ?_
        refine LJ.yd rfl (Yd.mvI rfl) ?_
        refine LJ.nil ?_
        refine ⟨(k + 1), ?_, ⟨rfl, rfl, rfl, trivial⟩, ⟨rfl, trivial⟩, Ent.pick [0] [1, 2] rfl, ?_⟩
        · refine ⟨by omega, ?_⟩
          intro f hf'
          rw [takeC hu14, List.mem_append, List.mem_singleton] at hf'
          rcases hf' with hf' | rfl
          · exact hi1 f hf'
          · assumption
        · first | omega | (dsimp only; omega) | (simp only []; omega)
    · refine LJ.nil ?_
      refine CJ.seq ?_
      refine CJ.condF rfl ?_
      refine CJ.exit ?_
      refine CJ.seq ?_
      refine CJ.region ?_
      refine LJ.yd rfl (Yd.asB rfl) ?_
      refine LJ.nil ?_
      refine CJ.ret ?_
      refine Fin.V (Res.one (ResV.tmp (v := .bool false) rfl)) ?_
      refine congrArg Value.bool (Eq.symm ?_)
      first
        | (refine List.any_eq_true.2 ⟨u14, List.mem_of_getElem? hu14, by assumption⟩)
        | (rw [List.take_of_length_le (by omega)] at hi1
           refine List.any_eq_false.2 fun f hf => ?_
           rw [hi1 f hf]; simp)
theorem any_clr {p : Piece} {b : Box} (hp : pcOk p = true) (hb : bOk b = true) : (p.fl.any fun f => mt f b) = !clr p.fl b := by
  obtain ⟨_, _, _, _, hf⟩ := pcOk_iff.1 hp
  rw [clr, Bool.eq_iff_iff, List.any_eq_true, Bool.not_eq_true', ← Bool.not_eq_true, List.all_eq_true]
  constructor
  · rintro ⟨f, h1, h2⟩ h3
    simp only [mt, Bool.and_eq_true] at h2
    have := h3 f h1
    rw [h2.2.2] at this; cases this
  · intro h
    refine Classical.byContradiction fun hn => h fun f hm => ?_
    have ho : ovl f b = false := Bool.eq_false_iff.2 fun ho => hn ⟨f, hm, by rw [mt, (hf f hm).1, hb, ho]; rfl⟩
    rw [ho]; rfl
theorem clearAtS_ok {A : Amb} {l w h : Int} {fl : List Box} {v : Value} (hf : RdL Box.enc 4 A.h v fl) (hm : ∀ f ∈ fl, f.mid) (b : Box) (hb : b.mid) : Ctr Try.prog 79 #[.agg #[vI l, vI w, vI h, v], agB b] A [] (Val (.bool (clr fl b))) := by
  obtain ⟨fa, fc, rfl, hfb, hf⟩ := hf.un
  refine Ctr.body (args := [_, _]) Try.func79 rfl Try.ntmps79 Try.results79 (by simp) ?_
  refine CJ.seq ?_
  refine CJ.region ?_
  refine LJ.boxG (vs := [_, _, _, _]) rfl rfl (fun b1 => ?_)
  refine LJ.boxG (vs := [_, _, _, _]) rfl rfl (fun b2 => ?_)
  refine LJ.yd rfl (Yd.asB rfl) ?_
  refine LJ.nil ?_
  refine CJ.seq ?_
  refine CJ.seq ?_
  refine CJ.region ?_
  refine LJ.yd rfl (Yd.asI rfl) ?_
  refine LJ.nil ?_
  refine CJ.block ?_
  refine CJ.loopK [2, 3] Nat (fun k => k ≤ fl.length ∧ ∀ f ∈ fl.take k, ovl f b = false) (fun k => [(5, vI k)]) (fun k => fl.length - k) (0) ?_ ⟨rfl, trivial⟩ ?_
  · exact ⟨by omega, by simp⟩
  · rintro k σ ⟨hk1, hi1⟩
    refine CJ.seq ?_
    refine CJ.seq ?_
    refine CJ.region ?_
    refine LJ.yd rfl (Yd.mvI rfl) ?_
    refine LJ.yd rfl (Yd.fieldAddr rfl) ?_
    refine LJ.yd rfl (Yd.loadC 0 rfl rfl rfl) ?_
    refine LJ.yd rfl (Yd.len rfl) ?_
    refine LJ.splitD rfl (Yd.lss rfl rfl) (fun h12 => ?_) (fun h12 => ?_)
    · refine LJ.nil ?_
      refine CJ.condT rfl ?_
      refine CJ.skip ?_
      refine CJ.seq ?_
      refine CJ.block ?_
      refine CJ.seq ?_
      refine CJ.regionD [0, 1] [] (by kernel_rfl) rfl ?_
      refine DJ.norm [_, _] [] rfl rfl ?_
      refine DJ.yd 0 rfl (by kernel_rfl) (by kernel_rfl) (by kernel_rfl) rfl rfl (Yd.fieldAddr rfl) ?_
      refine DJ.yd 1 rfl (by kernel_rfl) (by kernel_rfl) (by kernel_rfl) rfl rfl (Yd.loadC 0 rfl rfl rfl) ?_
      refine DJ.yd 2 rfl (by kernel_rfl) (by kernel_rfl) (by kernel_rfl) rfl rfl (Yd.mvI rfl) ?_
      refine DJ.idxA 3 rfl (by kernel_rfl) (by kernel_rfl) (by kernel_rfl) rfl rfl hf rfl rfl (by omega) (by first | rfl | omega | (simp; done) | (simp; omega) | (simp [upN_len]; omega) | (simp [idxBy_len]; omega) | (simp [marks_len]; omega) | (simp [upN_len]; done) | (simp [idxBy_len]; done) | (simp [marks_len]; done) | (simp at *; omega)) (fun ib19 io19 ia19 ir19 => ?_)
      refine DJ.lgA 4 rfl (by kernel_rfl) (by kernel_rfl) (by kernel_rfl) rfl rfl (enc := Box.enc) (fun u => [vI u.X, vI u.Y, vI u.W, vI u.H]) (fun _ => rfl) (fun _ => rfl) ir19 rfl rfl (by first | rfl | omega | (simp; done) | (simp; omega) | (simp [upN_len]; omega) | (simp [idxBy_len]; omega) | (simp [marks_len]; omega) | (simp [upN_len]; done) | (simp [idxBy_len]; done) | (simp [marks_len]; done) | (simp at *; omega)) (fun u20 hu20 => ?_)
      try simp only [Int.toNat_natCast] at hu20
      refine DJ.yd 5 rfl (by kernel_rfl) (by kernel_rfl) (by kernel_rfl) rfl rfl (Yd.loadG (us := [_, _, _, _]) 1 rfl rfl rfl rfl) ?_
      refine DJ.two (i := 6) (j := 10) (by kernel_rfl) ?_ ?_
      · refine DO.callV rfl rfl rfl (fun k0 hk0 dk0 k hk dk => meetOfS_ok _ u20 b (hm u20 (List.mem_of_getElem? hu20)) hb) ?_
        refine DJ.yd 7 rfl (by kernel_rfl) (by kernel_rfl) (by kernel_rfl) rfl rfl (Yd.mvU rfl) ?_
        refine DJ.yd 8 rfl (by kernel_rfl) (by kernel_rfl) (by kernel_rfl) rfl rfl (Yd.extract rfl rfl) ?_
        refine DJ.split 9 rfl (by kernel_rfl) (by kernel_rfl) (by kernel_rfl) rfl rfl (Yd.extract rfl rfl) (fun h24 => ?_) (fun h24 => ?_)
        · refine DJ.one (i := 10) (by kernel_rfl) ?_
          refine DO.alloc ([_, _, _, _] : List Value) rfl rfl rfl rfl (fun b3 => ?_)
          refine DJ.one (i := 11) (by kernel_rfl) ?_
          refine DO.store (v := .agg #[_, _, _, _]) (us := [_, _, _, _]) 0 rfl rfl rfl rfl rfl rfl rfl rfl rfl rfl ?_
          refine DJ.yd 12 rfl (by kernel_rfl) (by kernel_rfl) (by kernel_rfl) rfl rfl (Yd.asB rfl) ?_
          refine DJ.done (by kernel_rfl) ?_
          refine CJ.seq ?_
          refine CJ.region ?_
          refine LJ.yd rfl (Yd.mvB rfl) ?_
          refine LJ.nil ?_
          refine CJ.condT rfl ?_
          refine CJ.seq ?_
          refine CJ.region ?_
          refine LJ.yd rfl (Yd.asB rfl) ?_
          refine LJ.nil ?_
          refine CJ.ret ?_
          refine Fin.V (Res.one (ResV.tmp (v := .bool false) rfl)) ?_
          refine congrArg Value.bool (Eq.symm ?_)
          first
            | (refine Bool.eq_false_iff.2 fun hc => ?_
               have := (clr_iff.1 hc) u20 (List.mem_of_getElem? hu20)
               simp_all; done)
            | (rw [List.take_of_length_le (by omega)] at hi1
               exact clr_iff.2 hi1)
        · refine DJ.one (i := 10) (by kernel_rfl) ?_
          refine DO.alloc ([_, _, _, _] : List Value) rfl rfl rfl rfl (fun b4 => ?_)
          refine DJ.one (i := 11) (by kernel_rfl) ?_
          refine DO.store (v := .agg #[_, _, _, _]) (us := [_, _, _, _]) 0 rfl rfl rfl rfl rfl rfl rfl rfl rfl rfl ?_
          refine DJ.yd 12 rfl (by kernel_rfl) (by kernel_rfl) (by kernel_rfl) rfl rfl (Yd.asB rfl) ?_
          refine DJ.done (by kernel_rfl) ?_
          refine CJ.seq ?_
          refine CJ.region ?_
          refine LJ.yd rfl (Yd.mvB rfl) ?_
          refine LJ.nil ?_
          refine CJ.condF rfl ?_
          refine CJ.skip ?_
          refine CJ.region ?_
          refine LJ.yd rfl (Yd.mvI rfl) ?_
          refine LJ.yd rfl (Yd.add rfl rfl (by unfold I64; omega)) ?_
          refine LJ.yd rfl (Yd.asI rfl) ?_
          refine LJ.nil ?_
          refine ⟨(k + 1), ?_, ⟨rfl, rfl, trivial⟩, ⟨rfl, trivial⟩, Ent.pick [0, 1] [2] rfl, ?_⟩
          · refine ⟨by omega, ?_⟩
            intro f hf'
            rw [takeC hu20, List.mem_append, List.mem_singleton] at hf'
            rcases hf' with hf' | rfl
            · exact hi1 f hf'
            · assumption
          · first | omega | (dsimp only; omega) | (simp only []; omega)
      · refine DO.alloc ([_, _, _, _] : List Value) rfl rfl rfl rfl (fun b5 => ?_)
        refine DJ.one (i := 6) (by kernel_rfl) ?_
        refine DO.callV rfl rfl rfl (fun k0 hk0 dk0 k hk dk => meetOfS_ok _ u20 b (hm u20 (List.mem_of_getElem? hu20)) hb) ?_
        refine DJ.yd 7 rfl (by kernel_rfl) (by kernel_rfl) (by kernel_rfl) rfl rfl (Yd.mvU rfl) ?_
        refine DJ.yd 8 rfl (by kernel_rfl) (by kernel_rfl) (by kernel_rfl) rfl rfl (Yd.extract rfl rfl) ?_
        refine DJ.split 9 rfl (by kernel_rfl) (by kernel_rfl) (by kernel_rfl) rfl rfl (Yd.extract rfl rfl) (fun h24 => ?_) (fun h24 => ?_)
        · refine DJ.one (i := 11) (by kernel_rfl) ?_
          refine DO.store (v := .agg #[_, _, _, _]) (us := [_, _, _, _]) 0 rfl rfl rfl rfl rfl rfl rfl rfl rfl rfl ?_
          refine DJ.yd 12 rfl (by kernel_rfl) (by kernel_rfl) (by kernel_rfl) rfl rfl (Yd.asB rfl) ?_
          refine DJ.done (by kernel_rfl) ?_
          refine CJ.seq ?_
          refine CJ.region ?_
          refine LJ.yd rfl (Yd.mvB rfl) ?_
          refine LJ.nil ?_
          refine CJ.condT rfl ?_
          refine CJ.seq ?_
          refine CJ.region ?_
          refine LJ.yd rfl (Yd.asB rfl) ?_
          refine LJ.nil ?_
          refine CJ.ret ?_
          refine Fin.V (Res.one (ResV.tmp (v := .bool false) rfl)) ?_
          refine congrArg Value.bool (Eq.symm ?_)
          first
            | (refine Bool.eq_false_iff.2 fun hc => ?_
               have := (clr_iff.1 hc) u20 (List.mem_of_getElem? hu20)
               simp_all; done)
            | (rw [List.take_of_length_le (by omega)] at hi1
               exact clr_iff.2 hi1)
        · refine DJ.one (i := 11) (by kernel_rfl) ?_
          refine DO.store (v := .agg #[_, _, _, _]) (us := [_, _, _, _]) 0 rfl rfl rfl rfl rfl rfl rfl rfl rfl rfl ?_
          refine DJ.yd 12 rfl (by kernel_rfl) (by kernel_rfl) (by kernel_rfl) rfl rfl (Yd.asB rfl) ?_
          refine DJ.done (by kernel_rfl) ?_
          refine CJ.seq ?_
          refine CJ.region ?_
          refine LJ.yd rfl (Yd.mvB rfl) ?_
          refine LJ.nil ?_
          refine CJ.condF rfl ?_
          refine CJ.skip ?_
          refine CJ.region ?_
          refine LJ.yd rfl (Yd.mvI rfl) ?_
          refine LJ.yd rfl (Yd.add rfl rfl (by unfold I64; omega)) ?_
          refine LJ.yd rfl (Yd.asI rfl) ?_
          refine LJ.nil ?_
          refine ⟨(k + 1), ?_, ⟨rfl, rfl, trivial⟩, ⟨rfl, trivial⟩, Ent.pick [0, 1] [2] rfl, ?_⟩
          · refine ⟨by omega, ?_⟩
            intro f hf'
            rw [takeC hu20, List.mem_append, List.mem_singleton] at hf'
            rcases hf' with hf' | rfl
            · exact hi1 f hf'
            · assumption
          · first | omega | (dsimp only; omega) | (simp only []; omega)
    · refine LJ.nil ?_
      refine CJ.condF rfl ?_
      refine CJ.exit ?_
      refine CJ.seq ?_
      refine CJ.region ?_
      refine LJ.yd rfl (Yd.asB rfl) ?_
      refine LJ.nil ?_
      refine CJ.ret ?_
      refine Fin.V (Res.one (ResV.tmp (v := .bool true) rfl)) ?_
      refine congrArg Value.bool (Eq.symm ?_)
      first
        | (refine Bool.eq_false_iff.2 fun hc => ?_
           have := (clr_iff.1 hc) u20 (List.mem_of_getElem? hu20)
           simp_all; done)
        | (rw [List.take_of_length_le (by omega)] at hi1
           exact clr_iff.2 hi1)
end Go.Proofs.Ytnfnidplhkfamaa
