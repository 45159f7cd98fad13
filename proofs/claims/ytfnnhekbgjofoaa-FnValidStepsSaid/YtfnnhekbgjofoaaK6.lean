/-
  Contracts: valid orders of cuts.
-/
import Derived.Test.YtfnnhekbgjofoaaK5
namespace Go.Proofs.Ytfnnhekbgjofoaa
open Go
set_option maxRecDepth 20000
set_option maxHeartbeats 1000000

theorem RdL.spot0 {α : Type} {enc : α → List Value} {h : Hp} {k : Nat} {l : List α} {a : Option Addr} {m c : Nat} (r : RdL enc k h (.slice a m c) l) (h0 : 0 < l.length) : ∀ q, a = some q → q.spot = none := by
  obtain ⟨b, o, rfl, _⟩ := r.row h0
  intro q e; cases e; rfl
def vsOk (q : Plan) (s : List Int) : Bool := !decide (psz q < 0) && (decide ((s.length : Int) = (knP q).length) && begOk (knP q) [] s)
theorem ValidStepsI_ok {A : Amb} {cs : List Value} {q : Plan} {w : Value} {s : List Int} (h : RdPlan A.h cs q) (hs : RdL encI 1 A.h w s) : Ctr Try.prog 22 #[.agg cs.toArray, w] A [] (Val (.bool (vsOk q s))) := by
  have hK := knP_ok q
  have hkl := hK.len
  obtain ⟨o, a, p, t, kids, v, css, e, rfl, ho, ha, hp, ⟨⟨sa, sc, rfl, hm, hrow⟩, hlen⟩, hk⟩ := h.inv
  obtain ⟨wa, wc, rfl, hsb, hs⟩ := hs.un
  unfold vsOk
  refine Ctr.body (args := [_, _]) Try.func22 rfl Try.ntmps22 Try.results22 (by simp) ?_
  refine CJ.seq ?_
  refine CJ.region ?_
  refine LJ.boxG (vs := [_, _, _, _, _]) rfl rfl (fun b1 => ?_)
  refine LJ.yd rfl (Yd.asB rfl) ?_
  refine LJ.nil ?_
  refine CJ.seq ?_
  refine CJ.region ?_
  refine LJ.yd rfl (Yd.loadG (us := [_, _, _, _, _]) 0 rfl rfl rfl rfl) ?_
  refine LJ.call0 rfl (fun k hk dk => knotsOf_ok h.up) ?_
  rintro _ _ ⟨a1, c1, K, hKe, rfl, rfl⟩
  rw [← hKe] at hkl hK ⊢
  refine LJ.norm [_, _] rfl ?_
  refine LJ.yd rfl (Yd.mvU rfl) ?_
  refine LJ.yd rfl (Yd.extract rfl rfl) ?_
  refine LJ.split rfl (Yd.extract rfl rfl) (fun h11 => ?_) (fun h11 => ?_)
  · refine LJ.yd rfl (Yd.asS rfl) ?_
    refine LJ.yd rfl (Yd.asB rfl) ?_
    refine LJ.nil ?_
    refine CJ.seq ?_
    refine CJ.region ?_
    refine LJ.yd rfl (Yd.mvB rfl) ?_
    refine LJ.yd rfl (Yd.mvB rfl) ?_
    refine LJ.gT rfl ?_
    refine LJ.yd rfl (Yd.mvS rfl) ?_
    refine LJ.gT rfl ?_
    refine LJ.yd rfl (Yd.len rfl) ?_
    refine LJ.gT rfl ?_
    refine LJ.yd rfl (Yd.mvS rfl) ?_
    refine LJ.gT rfl ?_
    refine LJ.yd rfl (Yd.len rfl) ?_
    refine LJ.gT rfl ?_
    refine LJ.splitD rfl (Yd.eql rfl rfl) (fun h18 => ?_) (fun h18 => ?_)
    · refine LJ.yd rfl (Yd.pickTB rfl rfl) ?_
      refine LJ.yd rfl (Yd.mvB rfl) ?_
      refine LJ.gT rfl ?_
      refine LJ.yd rfl (Yd.mvS rfl) ?_
      refine LJ.gT rfl ?_
      refine LJ.yd rfl (Yd.mvS rfl) ?_
      refine LJ.gT rfl ?_
      refine LJ.callV rfl (fun k hk dk => beginsOrder_ok hK (Sts.lrm hk dk 1 (by first | rfl | omega | (simp; done) | (simp; omega) | (simp [upN_len]; omega) | (simp [idxBy_len]; omega) | (simp [marks_len]; omega) | (simp [upN_len]; done) | (simp [idxBy_len]; done) | (simp [marks_len]; done) | (simp at *; omega)) (by first | rfl | omega | (simp; done) | (simp; omega) | (simp [upN_len]; omega) | (simp [idxBy_len]; omega) | (simp [marks_len]; omega) | (simp [upN_len]; done) | (simp [idxBy_len]; done) | (simp [marks_len]; done) | (simp at *; omega)) rfl) (RdRow.up hs)) ?_
      refine LJ.yd rfl (Yd.pickTB rfl rfl) ?_
      refine LJ.yd rfl (Yd.asB rfl) ?_
      refine LJ.nil ?_
      refine CJ.ret ?_
      refine Fin.V (Res.one (ResV.tmp (v := .bool _) rfl)) ?_
      refine congrArg Value.bool ?_
      first
        | (rw [h11, decide_eq_true h18, Bool.true_and, Bool.true_and]; done)
        | (rw [h11, decide_eq_false h18, Bool.true_and, Bool.false_and]; done)
        | (rw [h11, Bool.false_and])
    · refine LJ.yd rfl (Yd.pickTB rfl rfl) ?_
      refine LJ.yd rfl (Yd.mvB rfl) ?_
      refine LJ.gF rfl rfl ?_
      refine LJ.gF rfl rfl ?_
      refine LJ.gF rfl rfl ?_
      refine LJ.yd rfl (Yd.pickFB rfl rfl) ?_
      refine LJ.yd rfl (Yd.asB rfl) ?_
      refine LJ.nil ?_
      refine CJ.ret ?_
      refine Fin.V (Res.one (ResV.tmp (v := .bool false) rfl)) ?_
      refine congrArg Value.bool ?_
      first
        | (rw [h11, decide_eq_true h18, Bool.true_and, Bool.true_and]; done)
        | (rw [h11, decide_eq_false h18, Bool.true_and, Bool.false_and]; done)
        | (rw [h11, Bool.false_and])
  · refine LJ.yd rfl (Yd.asS rfl) ?_
    refine LJ.yd rfl (Yd.asB rfl) ?_
    refine LJ.nil ?_
    refine CJ.seq ?_
    refine CJ.region ?_
    refine LJ.yd rfl (Yd.mvB rfl) ?_
    refine LJ.yd rfl (Yd.mvB rfl) ?_
    refine LJ.gF rfl rfl ?_
    refine LJ.gF rfl rfl ?_
    refine LJ.gF rfl rfl ?_
    refine LJ.gF rfl rfl ?_
    refine LJ.gF rfl rfl ?_
    refine LJ.yd rfl (Yd.pickFB rfl rfl) ?_
    refine LJ.yd rfl (Yd.mvB rfl) ?_
    refine LJ.gF rfl rfl ?_
    refine LJ.gF rfl rfl ?_
    refine LJ.gF rfl rfl ?_
    refine LJ.yd rfl (Yd.pickFB rfl rfl) ?_
    refine LJ.yd rfl (Yd.asB rfl) ?_
    refine LJ.nil ?_
    refine CJ.ret ?_
    refine Fin.V (Res.one (ResV.tmp (v := .bool false) rfl)) ?_
    refine congrArg Value.bool ?_
    first
      | (rw [h11, decide_eq_true h18, Bool.true_and, Bool.true_and]; done)
      | (rw [h11, decide_eq_false h18, Bool.true_and, Bool.false_and]; done)
      | (rw [h11, Bool.false_and])
theorem validSteps_iff {K : List (Int × Int)} {s : List Int} {k : Nat} {n : Int} (hn : s[k]? = some n) : okStep K (s.take k) n = false ↔ (plc n (K.map Prod.fst) 0 < 0 ∨ 0 ≤ plc n (s.take k) 0 ∨ (0 ≤ abv K n ∧ plc (abv K n) (s.take k) 0 < 0)) := by
  rw [Bool.eq_false_iff, Ne, okStep_iff, plc_mem, plc_mem, ← Int.not_lt, plc_mem]
  constructor
  · intro h
    by_cases h1 : n ∈ K.map Prod.fst
    · by_cases h2 : n ∈ s.take k
      · exact .inr (.inl (by simpa using h2))
      · right; right
        by_cases h3 : abv K n < 0
        · exact absurd ⟨h1, h2, .inl h3⟩ h
        · exact ⟨by omega, fun h4 => h ⟨h1, h2, .inr h4⟩⟩
    · exact .inl h1
  · rintro (h | h | ⟨h1, h2⟩) ⟨h3, h4, h5⟩
    · exact h h3
    · exact h h4
    · rcases h5 with h5 | h5
      · omega
      · exact h2 h5
theorem ab_get {K : List (Int × Int)} {n u : Int} (h : ¬ plc n (K.map Prod.fst) 0 < 0) (hu : (K.map Prod.snd)[(plc n (K.map Prod.fst) 0).toNat]? = some u) : u = abv K n := by
  obtain ⟨j, h1, h2⟩ := (abv_plc n K 0).resolve_left (by omega)
  rw [h1, Nat.zero_add, Int.toNat_natCast, List.getElem?_map, h2] at hu
  exact (Option.some.inj hu).symm
theorem plc_map {K : List (Int × Int)} {n : Int} : plc n (K.map Prod.fst) 0 < K.length := by
  have := (plc_le (x := n) (l := K.map Prod.fst)).2
  rwa [List.length_map] at this
theorem step_T {K : List (Int × Int)} {s : List Int} {k : Nat} {n : Int} (hn : s[k]? = some n) (h1 : ¬ plc n (K.map Prod.fst) 0 < 0) (h2 : ¬ 0 ≤ plc n (s.take k) 0) (h3 : ¬ 0 ≤ abv K n ∨ ¬ plc (abv K n) (s.take k) 0 < 0) : okStep K (s.take k) n = true := by
  cases h : okStep K (s.take k) n with
  | true => rfl
  | false => rcases (validSteps_iff hn).1 h with h | h | h <;> omega
theorem validSteps_ok {A : Amb} {cs : List Value} {b : BT} {w : Value} {s : List Int} (hz : b.sz ≤ 255) (h : RdT A.h cs b) (hs : RdL encI 1 A.h w s) : Ctr Try.prog 72 #[.agg cs.toArray, w] A [] (Val (.bool (decide ((s.length : Int) = (b.knots 0 (-1)).length) && begOk (b.knots 0 (-1)) [] s))) := by
  obtain ⟨o, a, p, t, x, n, c, rfl⟩ := h.i64
  obtain ⟨wa, wc, rfl, hsb, hs⟩ := hs.un
  have hK := BT.kok hz
  have hkl := knots_len' (b := b) (n := 0) (ab := -1) hz
  refine Ctr.body (args := [_, _]) Try.func72 rfl Try.ntmps72 Try.results72 (by simp) ?_
  refine CJ.seq ?_
  refine CJ.region ?_
  refine LJ.boxG (vs := [_, _, _, _, _]) rfl rfl (fun b1 => ?_)
  refine LJ.yd rfl (Yd.asB rfl) ?_
  refine LJ.nil ?_
  refine CJ.seq ?_
  refine CJ.region ?_
  refine LJ.yd rfl (Yd.loadG (us := [_, _, _, _, _]) 0 rfl rfl rfl rfl) ?_
  refine LJ.call0 rfl (fun k hk dk => innerNodes_ok b _ _ _ (-1) (by omega) (by omega) (by omega) hz h.up) ?_
  rintro _ _ ⟨ra10, rc10, rfl, rfl⟩
  refine LJ.norm [_, _] rfl ?_
  refine LJ.yd rfl (Yd.asS rfl) ?_
  refine LJ.nil ?_
  refine CJ.seq ?_
  refine CJ.region ?_
  refine LJ.yd rfl (Yd.loadG (us := [_, _, _, _, _]) 0 rfl rfl rfl rfl) ?_
  refine LJ.call0 rfl (fun k hk dk => aboves_ok b _ _ _ (-1) (by omega) (by omega) (by omega) hz h.up) ?_
  rintro _ _ ⟨ra12, rc12, rfl, rfl⟩
  refine LJ.norm [_, _, _] rfl ?_
  refine LJ.yd rfl (Yd.asS rfl) ?_
  refine LJ.nil ?_
  refine CJ.seq ?_
  refine CJ.seq ?_
  refine CJ.region ?_
  refine LJ.yd rfl (Yd.mvS rfl) ?_
  refine LJ.yd rfl (Yd.len rfl) ?_
  refine LJ.yd rfl (Yd.mvS rfl) ?_
  refine LJ.yd rfl (Yd.len rfl) ?_
  refine LJ.splitN rfl (Yd.neq rfl rfl) (fun h17 => ?_) (fun h17 => ?_)
  · refine LJ.nil ?_
    refine CJ.condT rfl ?_
    refine CJ.seq ?_
    refine CJ.region ?_
    refine LJ.yd rfl (Yd.asB rfl) ?_
    refine LJ.nil ?_
    refine CJ.ret ?_
    refine Fin.V (Res.one (ResV.tmp (v := .bool false) rfl)) ?_
    refine congrArg Value.bool (Eq.symm ?_)
    simp only [List.length_map] at h17
    first
      | (rw [decide_eq_false h17, Bool.false_and]; done)
      | (rw [decide_eq_true h17, Bool.true_and, ← hi1]
         first
           | (exact begOk_end (by omega))
           | (rw [begOk_dropC hu28, (validSteps_iff hu28).2 (.inl h31), Bool.false_and]; done)
           | (obtain rfl : sm35 = k := by omega
              obtain rfl : u28 = u39 := by rw [hu28] at hu39; exact Option.some.inj hu39
              first
                | (rw [begOk_dropC hu28, (validSteps_iff hu28).2 (.inr (.inl (by omega))), Bool.false_and]; done)
                | (obtain rfl : sm52 = sm35 := by omega
                   rw [hf47] at h48
                   rw [hf56] at h58
                   rw [begOk_dropC hu28, (validSteps_iff hu28).2 (.inr (.inr ⟨by omega, h58⟩)), Bool.false_and])))
  · refine LJ.nil ?_
    refine CJ.condF rfl ?_
    refine CJ.skip ?_
    refine CJ.seq ?_
    refine CJ.seq ?_
    refine CJ.region ?_
    refine LJ.yd rfl (Yd.asI rfl) ?_
    refine LJ.nil ?_
    refine CJ.block ?_
    refine CJ.loopK [1, 5, 6] Nat (fun k => k ≤ s.length ∧ begOk (b.knots 0 (-1)) (s.take k) (s.drop k) = begOk (b.knots 0 (-1)) [] s) (fun k => [(7, vI k)]) (fun k => s.length - k) (0) ?_ ⟨rfl, trivial⟩ ?_
    · exact ⟨by omega, by rfl⟩
    · rintro k σ ⟨hk1, hi1⟩
      refine CJ.seq ?_
      refine CJ.seq ?_
      refine CJ.region ?_
      refine LJ.yd rfl (Yd.mvI rfl) ?_
      refine LJ.yd rfl (Yd.mvS rfl) ?_
      refine LJ.yd rfl (Yd.len rfl) ?_
      refine LJ.splitD rfl (Yd.lss rfl rfl) (fun h21 => ?_) (fun h21 => ?_)
      · refine LJ.nil ?_
        refine CJ.condT rfl ?_
        refine CJ.skip ?_
        refine CJ.seq ?_
        refine CJ.block ?_
        refine CJ.seq ?_
        refine CJ.region ?_
        refine LJ.yd rfl (Yd.mvS rfl) ?_
        refine LJ.yd rfl (Yd.mvS rfl) ?_
        refine LJ.yd rfl (Yd.mvI rfl) ?_
        refine LJ.idxA rfl hs rfl rfl (by omega) (by first | rfl | omega | (simp; done) | (simp; omega) | (simp [upN_len]; omega) | (simp [idxBy_len]; omega) | (simp [marks_len]; omega) | (simp [upN_len]; done) | (simp [idxBy_len]; done) | (simp [marks_len]; done) | (simp at *; omega)) (fun ib27 io27 ia27 ir27 => ?_)
        refine LJ.ldA 0 (fun u => vI u) (fun _ => rfl) ir27 rfl rfl rfl (by first | rfl | omega | (simp; done) | (simp; omega) | (simp [upN_len]; omega) | (simp [idxBy_len]; omega) | (simp [marks_len]; omega) | (simp [upN_len]; done) | (simp [idxBy_len]; done) | (simp [marks_len]; done) | (simp at *; omega)) (fun u28 hu28 => ?_)
        try simp only [Int.toNat_natCast] at hu28
        refine LJ.callV rfl (fun k hk dk => placeIn_ok (Sts.lrm hk dk 1 (by first | rfl | omega | (simp; done) | (simp; omega) | (simp [upN_len]; omega) | (simp [idxBy_len]; omega) | (simp [marks_len]; omega) | (simp [upN_len]; done) | (simp [idxBy_len]; done) | (simp [marks_len]; done) | (simp at *; omega)) (by first | rfl | omega | (simp; done) | (simp; omega) | (simp [upN_len]; omega) | (simp [idxBy_len]; omega) | (simp [marks_len]; omega) | (simp [upN_len]; done) | (simp [idxBy_len]; done) | (simp [marks_len]; done) | (simp at *; omega)) rfl)) ?_
        refine LJ.yd rfl (Yd.asI rfl) ?_
        refine LJ.nil ?_
        refine CJ.seq ?_
        refine CJ.regionD [0, 1, 2] [] (by kernel_rfl) rfl ?_
        refine DJ.norm [_, _, _] [] rfl rfl ?_
        refine DJ.yd 0 rfl (by kernel_rfl) (by kernel_rfl) (by kernel_rfl) rfl rfl (Yd.mvI rfl) ?_
        refine DJ.splitD 1 rfl (by kernel_rfl) (by kernel_rfl) (by kernel_rfl) rfl rfl (Yd.lss rfl rfl) (fun h31 => ?_) (fun h31 => ?_)
        · refine DJ.yd 2 rfl (by kernel_rfl) (by kernel_rfl) (by kernel_rfl) rfl rfl (Yd.mvB rfl) ?_
          refine DJ.skip 3 rfl (by kernel_rfl) (by kernel_rfl) (by kernel_rfl) rfl rfl ?_
          refine DJ.skip 4 rfl (by kernel_rfl) (by kernel_rfl) (by kernel_rfl) rfl rfl ?_
          refine DJ.skip 5 rfl (by kernel_rfl) (by kernel_rfl) (by kernel_rfl) rfl rfl ?_
          refine DJ.skip 6 rfl (by kernel_rfl) (by kernel_rfl) (by kernel_rfl) rfl rfl ?_
          refine DJ.skip 7 rfl (by kernel_rfl) (by kernel_rfl) (by kernel_rfl) rfl rfl ?_
          refine DJ.skip 8 rfl (by kernel_rfl) (by kernel_rfl) (by kernel_rfl) rfl rfl ?_
          refine DJ.skip 9 rfl (by kernel_rfl) (by kernel_rfl) (by kernel_rfl) rfl rfl ?_
          refine DJ.skip 10 rfl (by kernel_rfl) (by kernel_rfl) (by kernel_rfl) rfl rfl ?_
          refine DJ.skip 11 rfl (by kernel_rfl) (by kernel_rfl) (by kernel_rfl) rfl rfl ?_
          refine DJ.yd 12 rfl (by kernel_rfl) (by kernel_rfl) (by kernel_rfl) rfl rfl (Yd.pickTB rfl rfl) ?_
          refine DJ.yd 13 rfl (by kernel_rfl) (by kernel_rfl) (by kernel_rfl) rfl rfl (Yd.mvB rfl) ?_
          refine DJ.skip 14 rfl (by kernel_rfl) (by kernel_rfl) (by kernel_rfl) rfl rfl ?_
          refine DJ.skip 15 rfl (by kernel_rfl) (by kernel_rfl) (by kernel_rfl) rfl rfl ?_
          refine DJ.skip 16 rfl (by kernel_rfl) (by kernel_rfl) (by kernel_rfl) rfl rfl ?_
          refine DJ.skip 17 rfl (by kernel_rfl) (by kernel_rfl) (by kernel_rfl) rfl rfl ?_
          refine DJ.skip 18 rfl (by kernel_rfl) (by kernel_rfl) (by kernel_rfl) rfl rfl ?_
          refine DJ.skip 19 rfl (by kernel_rfl) (by kernel_rfl) (by kernel_rfl) rfl rfl ?_
          refine DJ.skip 20 rfl (by kernel_rfl) (by kernel_rfl) (by kernel_rfl) rfl rfl ?_
          refine DJ.skip 21 rfl (by kernel_rfl) (by kernel_rfl) (by kernel_rfl) rfl rfl ?_
          refine DJ.skip 22 rfl (by kernel_rfl) (by kernel_rfl) (by kernel_rfl) rfl rfl ?_
          refine DJ.skip 23 rfl (by kernel_rfl) (by kernel_rfl) (by kernel_rfl) rfl rfl ?_
          refine DJ.skip 24 rfl (by kernel_rfl) (by kernel_rfl) (by kernel_rfl) rfl rfl ?_
          refine DJ.skip 25 rfl (by kernel_rfl) (by kernel_rfl) (by kernel_rfl) rfl rfl ?_
          refine DJ.skip 26 rfl (by kernel_rfl) (by kernel_rfl) (by kernel_rfl) rfl rfl ?_
          refine DJ.skip 27 rfl (by kernel_rfl) (by kernel_rfl) (by kernel_rfl) rfl rfl ?_
          refine DJ.skip 28 rfl (by kernel_rfl) (by kernel_rfl) (by kernel_rfl) rfl rfl ?_
          refine DJ.skip 29 rfl (by kernel_rfl) (by kernel_rfl) (by kernel_rfl) rfl rfl ?_
          refine DJ.yd 30 rfl (by kernel_rfl) (by kernel_rfl) (by kernel_rfl) rfl rfl (Yd.pickTB rfl rfl) ?_
          refine DJ.done (by kernel_rfl) ?_
          refine CJ.condT rfl ?_
          refine CJ.seq ?_
          refine CJ.region ?_
          refine LJ.yd rfl (Yd.asB rfl) ?_
          refine LJ.nil ?_
          refine CJ.ret ?_
          refine Fin.V (Res.one (ResV.tmp (v := .bool false) rfl)) ?_
          refine congrArg Value.bool (Eq.symm ?_)
          simp only [List.length_map] at h17
          first
            | (rw [decide_eq_false h17, Bool.false_and]; done)
            | (rw [decide_eq_true h17, Bool.true_and, ← hi1]
               first
                 | (exact begOk_end (by omega))
                 | (rw [begOk_dropC hu28, (validSteps_iff hu28).2 (.inl h31), Bool.false_and]; done)
                 | (obtain rfl : sm35 = k := by omega
                    obtain rfl : u28 = u39 := by rw [hu28] at hu39; exact Option.some.inj hu39
                    first
                      | (rw [begOk_dropC hu28, (validSteps_iff hu28).2 (.inr (.inl (by omega))), Bool.false_and]; done)
                      | (obtain rfl : sm52 = sm35 := by omega
                         rw [hf47] at h48
                         rw [hf56] at h58
                         rw [begOk_dropC hu28, (validSteps_iff hu28).2 (.inr (.inr ⟨by omega, h58⟩)), Bool.false_and])))
        · refine DJ.yd 2 rfl (by kernel_rfl) (by kernel_rfl) (by kernel_rfl) rfl rfl (Yd.mvB rfl) ?_
          refine DJ.yd 3 rfl (by kernel_rfl) (by kernel_rfl) (by kernel_rfl) rfl rfl (Yd.mvS rfl) ?_
          refine DJ.yd 4 rfl (by kernel_rfl) (by kernel_rfl) (by kernel_rfl) rfl rfl (Yd.mvI rfl) ?_
          refine DJ.slHA 5 rfl (by kernel_rfl) (by kernel_rfl) (by kernel_rfl) rfl rfl hs rfl rfl (by omega) (by first | rfl | omega | (simp; done) | (simp; omega) | (simp [upN_len]; omega) | (simp [idxBy_len]; omega) | (simp [marks_len]; omega) | (simp [upN_len]; done) | (simp [idxBy_len]; done) | (simp [marks_len]; done) | (simp at *; omega)) (fun e => RdL.none_cap hs (by omega) e) (RdL.spot0 hs (by omega)) (fun sm35 hsm35 hs35 => ?_)
          refine DJ.yd 6 rfl (by kernel_rfl) (by kernel_rfl) (by kernel_rfl) rfl rfl (Yd.mvS rfl) ?_
          refine DJ.yd 7 rfl (by kernel_rfl) (by kernel_rfl) (by kernel_rfl) rfl rfl (Yd.mvI rfl) ?_
          refine DJ.idxA 8 rfl (by kernel_rfl) (by kernel_rfl) (by kernel_rfl) rfl rfl hs rfl rfl (by omega) (by first | rfl | omega | (simp; done) | (simp; omega) | (simp [upN_len]; omega) | (simp [idxBy_len]; omega) | (simp [marks_len]; omega) | (simp [upN_len]; done) | (simp [idxBy_len]; done) | (simp [marks_len]; done) | (simp at *; omega)) (fun ib38 io38 ia38 ir38 => ?_)
          refine DJ.ldA 9 rfl (by kernel_rfl) (by kernel_rfl) (by kernel_rfl) rfl rfl 0 (fun u => vI u) (fun _ => rfl) ir38 rfl rfl (by first | rfl | omega | (simp; done) | (simp; omega) | (simp [upN_len]; omega) | (simp [idxBy_len]; omega) | (simp [marks_len]; omega) | (simp [upN_len]; done) | (simp [idxBy_len]; done) | (simp [marks_len]; done) | (simp at *; omega)) (fun u39 hu39 => ?_)
          try simp only [Int.toNat_natCast] at hu39
          refine DJ.one (i := 10) (by kernel_rfl) ?_
          refine DO.callV rfl rfl rfl (fun k0 hk0 dk0 k hk dk => placeIn_ok (RdRow.up hs35)) ?_
          refine DJ.splitD 11 rfl (by kernel_rfl) (by kernel_rfl) (by kernel_rfl) rfl rfl (Yd.geq rfl rfl) (fun h41 => ?_) (fun h41 => ?_)
          · refine DJ.yd 12 rfl (by kernel_rfl) (by kernel_rfl) (by kernel_rfl) rfl rfl (Yd.pickFB rfl rfl) ?_
            refine DJ.yd 13 rfl (by kernel_rfl) (by kernel_rfl) (by kernel_rfl) rfl rfl (Yd.mvB rfl) ?_
            refine DJ.skip 14 rfl (by kernel_rfl) (by kernel_rfl) (by kernel_rfl) rfl rfl ?_
            refine DJ.skip 15 rfl (by kernel_rfl) (by kernel_rfl) (by kernel_rfl) rfl rfl ?_
            refine DJ.skip 16 rfl (by kernel_rfl) (by kernel_rfl) (by kernel_rfl) rfl rfl ?_
            refine DJ.skip 17 rfl (by kernel_rfl) (by kernel_rfl) (by kernel_rfl) rfl rfl ?_
            refine DJ.skip 18 rfl (by kernel_rfl) (by kernel_rfl) (by kernel_rfl) rfl rfl ?_
            refine DJ.skip 19 rfl (by kernel_rfl) (by kernel_rfl) (by kernel_rfl) rfl rfl ?_
            refine DJ.skip 20 rfl (by kernel_rfl) (by kernel_rfl) (by kernel_rfl) rfl rfl ?_
            refine DJ.skip 21 rfl (by kernel_rfl) (by kernel_rfl) (by kernel_rfl) rfl rfl ?_
            refine DJ.skip 22 rfl (by kernel_rfl) (by kernel_rfl) (by kernel_rfl) rfl rfl ?_
            refine DJ.skip 23 rfl (by kernel_rfl) (by kernel_rfl) (by kernel_rfl) rfl rfl ?_
            refine DJ.skip 24 rfl (by kernel_rfl) (by kernel_rfl) (by kernel_rfl) rfl rfl ?_
            refine DJ.skip 25 rfl (by kernel_rfl) (by kernel_rfl) (by kernel_rfl) rfl rfl ?_
            refine DJ.skip 26 rfl (by kernel_rfl) (by kernel_rfl) (by kernel_rfl) rfl rfl ?_
            refine DJ.skip 27 rfl (by kernel_rfl) (by kernel_rfl) (by kernel_rfl) rfl rfl ?_
            refine DJ.skip 28 rfl (by kernel_rfl) (by kernel_rfl) (by kernel_rfl) rfl rfl ?_
            refine DJ.skip 29 rfl (by kernel_rfl) (by kernel_rfl) (by kernel_rfl) rfl rfl ?_
            refine DJ.yd 30 rfl (by kernel_rfl) (by kernel_rfl) (by kernel_rfl) rfl rfl (Yd.pickTB rfl rfl) ?_
            refine DJ.done (by kernel_rfl) ?_
            refine CJ.condT rfl ?_
            refine CJ.seq ?_
            refine CJ.region ?_
            refine LJ.yd rfl (Yd.asB rfl) ?_
            refine LJ.nil ?_
            refine CJ.ret ?_
            refine Fin.V (Res.one (ResV.tmp (v := .bool false) rfl)) ?_
            refine congrArg Value.bool (Eq.symm ?_)
            simp only [List.length_map] at h17
            first
              | (rw [decide_eq_false h17, Bool.false_and]; done)
              | (rw [decide_eq_true h17, Bool.true_and, ← hi1]
                 first
                   | (exact begOk_end (by omega))
                   | (rw [begOk_dropC hu28, (validSteps_iff hu28).2 (.inl h31), Bool.false_and]; done)
                   | (obtain rfl : sm35 = k := by omega
                      obtain rfl : u28 = u39 := by rw [hu28] at hu39; exact Option.some.inj hu39
                      first
                        | (rw [begOk_dropC hu28, (validSteps_iff hu28).2 (.inr (.inl (by omega))), Bool.false_and]; done)
                        | (obtain rfl : sm52 = sm35 := by omega
                           rw [hf47] at h48
                           rw [hf56] at h58
                           rw [begOk_dropC hu28, (validSteps_iff hu28).2 (.inr (.inr ⟨by omega, h58⟩)), Bool.false_and])))
          · refine DJ.yd 12 rfl (by kernel_rfl) (by kernel_rfl) (by kernel_rfl) rfl rfl (Yd.pickFB rfl rfl) ?_
            refine DJ.yd 13 rfl (by kernel_rfl) (by kernel_rfl) (by kernel_rfl) rfl rfl (Yd.mvB rfl) ?_
            refine DJ.yd 14 rfl (by kernel_rfl) (by kernel_rfl) (by kernel_rfl) rfl rfl (Yd.mvS rfl) ?_
            refine DJ.yd 15 rfl (by kernel_rfl) (by kernel_rfl) (by kernel_rfl) rfl rfl (Yd.mvI rfl) ?_
            refine DJ.idxF 2 rfl 16 rfl (by kernel_rfl) (by kernel_rfl) (by kernel_rfl) rfl rfl rfl rfl (by omega) (by simp; exact plc_map) (by simp; exact plc_map) (fun ib46 ia46 => ?_)
            refine DJ.ldF 17 rfl (by kernel_rfl) (by kernel_rfl) (by kernel_rfl) rfl rfl 2 0 (fun u => vI u) (fun _ => rfl) rfl ia46 rfl rfl (by simp; have := plc_map (K := b.knots 0 (-1)) (n := u28); omega) (fun u47 hu47 => ?_)
            try simp only [Int.toNat_natCast] at hu47
            have hf47 := ab_get h31 hu47
            refine DJ.splitD 18 rfl (by kernel_rfl) (by kernel_rfl) (by kernel_rfl) rfl rfl (Yd.geq rfl rfl) (fun h48 => ?_) (fun h48 => ?_)
            · refine DJ.yd 19 rfl (by kernel_rfl) (by kernel_rfl) (by kernel_rfl) rfl rfl (Yd.mvB rfl) ?_
              refine DJ.yd 20 rfl (by kernel_rfl) (by kernel_rfl) (by kernel_rfl) rfl rfl (Yd.mvS rfl) ?_
              refine DJ.yd 21 rfl (by kernel_rfl) (by kernel_rfl) (by kernel_rfl) rfl rfl (Yd.mvI rfl) ?_
              refine DJ.slHA 22 rfl (by kernel_rfl) (by kernel_rfl) (by kernel_rfl) rfl rfl hs rfl rfl (by omega) (by first | rfl | omega | (simp; done) | (simp; omega) | (simp [upN_len]; omega) | (simp [idxBy_len]; omega) | (simp [marks_len]; omega) | (simp [upN_len]; done) | (simp [idxBy_len]; done) | (simp [marks_len]; done) | (simp at *; omega)) (fun e => RdL.none_cap hs (by omega) e) (RdL.spot0 hs (by omega)) (fun sm52 hsm52 hs52 => ?_)
              refine DJ.yd 23 rfl (by kernel_rfl) (by kernel_rfl) (by kernel_rfl) rfl rfl (Yd.mvS rfl) ?_
              refine DJ.yd 24 rfl (by kernel_rfl) (by kernel_rfl) (by kernel_rfl) rfl rfl (Yd.mvI rfl) ?_
              refine DJ.idxF 2 rfl 25 rfl (by kernel_rfl) (by kernel_rfl) (by kernel_rfl) rfl rfl rfl rfl (by omega) (by simp; exact plc_map) (by simp; exact plc_map) (fun ib55 ia55 => ?_)
              refine DJ.ldF 26 rfl (by kernel_rfl) (by kernel_rfl) (by kernel_rfl) rfl rfl 2 0 (fun u => vI u) (fun _ => rfl) rfl ia55 rfl rfl (by simp; have := plc_map (K := b.knots 0 (-1)) (n := u28); omega) (fun u56 hu56 => ?_)
              try simp only [Int.toNat_natCast] at hu56
              have hf56 := ab_get h31 hu56
              refine DJ.one (i := 27) (by kernel_rfl) ?_
              refine DO.callV rfl rfl rfl (fun k0 hk0 dk0 k hk dk => placeIn_ok (RdRow.up hs52)) ?_
              refine DJ.splitD 28 rfl (by kernel_rfl) (by kernel_rfl) (by kernel_rfl) rfl rfl (Yd.lss rfl rfl) (fun h58 => ?_) (fun h58 => ?_)
              · refine DJ.yd 29 rfl (by kernel_rfl) (by kernel_rfl) (by kernel_rfl) rfl rfl (Yd.pickTB rfl rfl) ?_
                refine DJ.yd 30 rfl (by kernel_rfl) (by kernel_rfl) (by kernel_rfl) rfl rfl (Yd.pickFB rfl rfl) ?_
                refine DJ.done (by kernel_rfl) ?_
                refine CJ.condT rfl ?_
                refine CJ.seq ?_
                refine CJ.region ?_
                refine LJ.yd rfl (Yd.asB rfl) ?_
                refine LJ.nil ?_
                refine CJ.ret ?_
                refine Fin.V (Res.one (ResV.tmp (v := .bool false) rfl)) ?_
                refine congrArg Value.bool (Eq.symm ?_)
                simp only [List.length_map] at h17
                first
                  | (rw [decide_eq_false h17, Bool.false_and]; done)
                  | (rw [decide_eq_true h17, Bool.true_and, ← hi1]
                     first
                       | (exact begOk_end (by omega))
                       | (rw [begOk_dropC hu28, (validSteps_iff hu28).2 (.inl h31), Bool.false_and]; done)
                       | (obtain rfl : sm35 = k := by omega
                          obtain rfl : u28 = u39 := by rw [hu28] at hu39; exact Option.some.inj hu39
                          first
                            | (rw [begOk_dropC hu28, (validSteps_iff hu28).2 (.inr (.inl (by omega))), Bool.false_and]; done)
                            | (obtain rfl : sm52 = sm35 := by omega
                               rw [hf47] at h48
                               rw [hf56] at h58
                               rw [begOk_dropC hu28, (validSteps_iff hu28).2 (.inr (.inr ⟨by omega, h58⟩)), Bool.false_and])))
              · refine DJ.yd 29 rfl (by kernel_rfl) (by kernel_rfl) (by kernel_rfl) rfl rfl (Yd.pickTB rfl rfl) ?_
                refine DJ.yd 30 rfl (by kernel_rfl) (by kernel_rfl) (by kernel_rfl) rfl rfl (Yd.pickFB rfl rfl) ?_
                refine DJ.done (by kernel_rfl) ?_
                refine CJ.condF rfl ?_
                refine CJ.skip ?_
                refine CJ.region ?_
                refine LJ.yd rfl (Yd.mvI rfl) ?_
                refine LJ.yd rfl (Yd.add rfl rfl (by unfold I64; omega)) ?_
                refine LJ.yd rfl (Yd.asI rfl) ?_
                refine LJ.nil ?_
                refine ⟨(k + 1), ?_, ⟨rfl, rfl, rfl, trivial⟩, ⟨rfl, trivial⟩, Ent.refl _, ?_⟩
                · refine ⟨by omega, ?_⟩
                  obtain rfl : sm35 = k := by omega
                  obtain rfl : u28 = u39 := by rw [hu28] at hu39; exact Option.some.inj hu39
                  first
                    | (rw [begOk_dropC hu28, step_T hu28 h31 h41 (.inl (by omega)), Bool.true_and] at hi1; exact hi1)
                    | (obtain rfl : sm52 = sm35 := by omega
                       rw [hf56] at h58
                       rw [begOk_dropC hu28, step_T hu28 h31 h41 (.inr h58), Bool.true_and] at hi1; exact hi1)
                · first | omega | (dsimp only; omega) | (simp only []; omega)
            · refine DJ.yd 19 rfl (by kernel_rfl) (by kernel_rfl) (by kernel_rfl) rfl rfl (Yd.mvB rfl) ?_
              refine DJ.skip 20 rfl (by kernel_rfl) (by kernel_rfl) (by kernel_rfl) rfl rfl ?_
              refine DJ.skip 21 rfl (by kernel_rfl) (by kernel_rfl) (by kernel_rfl) rfl rfl ?_
              refine DJ.skip 22 rfl (by kernel_rfl) (by kernel_rfl) (by kernel_rfl) rfl rfl ?_
              refine DJ.skip 23 rfl (by kernel_rfl) (by kernel_rfl) (by kernel_rfl) rfl rfl ?_
              refine DJ.skip 24 rfl (by kernel_rfl) (by kernel_rfl) (by kernel_rfl) rfl rfl ?_
              refine DJ.skip 25 rfl (by kernel_rfl) (by kernel_rfl) (by kernel_rfl) rfl rfl ?_
              refine DJ.skip 26 rfl (by kernel_rfl) (by kernel_rfl) (by kernel_rfl) rfl rfl ?_
              refine DJ.skip 27 rfl (by kernel_rfl) (by kernel_rfl) (by kernel_rfl) rfl rfl ?_
              refine DJ.skip 28 rfl (by kernel_rfl) (by kernel_rfl) (by kernel_rfl) rfl rfl ?_
              refine DJ.yd 29 rfl (by kernel_rfl) (by kernel_rfl) (by kernel_rfl) rfl rfl (Yd.pickFB rfl rfl) ?_
              refine DJ.yd 30 rfl (by kernel_rfl) (by kernel_rfl) (by kernel_rfl) rfl rfl (Yd.pickFB rfl rfl) ?_
              refine DJ.done (by kernel_rfl) ?_
              refine CJ.condF rfl ?_
              refine CJ.skip ?_
              refine CJ.region ?_
              refine LJ.yd rfl (Yd.mvI rfl) ?_
              refine LJ.yd rfl (Yd.add rfl rfl (by unfold I64; omega)) ?_
              refine LJ.yd rfl (Yd.asI rfl) ?_
              refine LJ.nil ?_
              refine ⟨(k + 1), ?_, ⟨rfl, rfl, rfl, trivial⟩, ⟨rfl, trivial⟩, Ent.refl _, ?_⟩
              · refine ⟨by omega, ?_⟩
                obtain rfl : sm35 = k := by omega
                obtain rfl : u28 = u39 := by rw [hu28] at hu39; exact Option.some.inj hu39
                first
                  | (rw [begOk_dropC hu28, step_T hu28 h31 h41 (.inl (by omega)), Bool.true_and] at hi1; exact hi1)
                  | (obtain rfl : sm52 = sm35 := by omega
                     rw [hf56] at h58
                     rw [begOk_dropC hu28, step_T hu28 h31 h41 (.inr h58), Bool.true_and] at hi1; exact hi1)
              · first | omega | (dsimp only; omega) | (simp only []; omega)
      · refine LJ.nil ?_
        refine CJ.condF rfl ?_
        refine CJ.exit ?_
        refine CJ.seq ?_
        refine CJ.region ?_
        refine LJ.yd rfl (Yd.asB rfl) ?_
        refine LJ.nil ?_
        refine CJ.ret ?_
        refine Fin.V (Res.one (ResV.tmp (v := .bool true) rfl)) ?_
        refine congrArg Value.bool (Eq.symm ?_)
        simp only [List.length_map] at h17
        first
          | (rw [decide_eq_false h17, Bool.false_and]; done)
          | (rw [decide_eq_true h17, Bool.true_and, ← hi1]
             first
               | (exact begOk_end (by omega))
               | (rw [begOk_dropC hu28, (validSteps_iff hu28).2 (.inl h31), Bool.false_and]; done)
               | (obtain rfl : sm35 = k := by omega
                  obtain rfl : u28 = u39 := by rw [hu28] at hu39; exact Option.some.inj hu39
                  first
                    | (rw [begOk_dropC hu28, (validSteps_iff hu28).2 (.inr (.inl (by omega))), Bool.false_and]; done)
                    | (obtain rfl : sm52 = sm35 := by omega
                       rw [hf47] at h48
                       rw [hf56] at h58
                       rw [begOk_dropC hu28, (validSteps_iff hu28).2 (.inr (.inr ⟨by omega, h58⟩)), Bool.false_and])))
end Go.Proofs.Ytfnnhekbgjofoaa
