/-
  Contracts: the points that boxes have together; pieces drawn.
-/
import Derived.Test.YtnfnidplhkfamaaPC6
import Derived.Test.YtnfnidplhkfamaaPC9
namespace Go.Proofs.Ytnfnidplhkfamaa
open Go
set_option maxRecDepth 20000
set_option maxHeartbeats 1000000

theorem validBoxes_T {A : Amb} {fl : List Box} {v : Value} (hf : RdL Box.enc 4 A.h v fl) (h : ∀ f ∈ fl, bOk f = true) (hn : fl.length ≤ 24) : Ctr Try.prog 70 #[v] A [] (Val (.bool true)) := by
  obtain ⟨fa, fc, rfl, hfb, hf⟩ := hf.un
  refine Ctr.body (args := [_]) Try.func70 rfl Try.ntmps70 Try.results70 (by simp) ?_
  refine CJ.seq ?_
  refine CJ.region ?_
  refine LJ.yd rfl (Yd.asB rfl) ?_
  refine LJ.nil ?_
  refine CJ.seq ?_
  refine CJ.seq ?_
  refine CJ.region ?_
  refine LJ.yd rfl (Yd.mvS rfl) ?_
  refine LJ.yd rfl (Yd.len rfl) ?_
  refine LJ.yd rfl (Yd.cmpF (Yd.gtr rfl rfl) (by omega)) ?_
  refine LJ.nil ?_
  refine CJ.condF rfl ?_
  refine CJ.skip ?_
  refine CJ.seq ?_
  refine CJ.seq ?_
  refine CJ.region ?_
  refine LJ.yd rfl (Yd.mvS rfl) ?_
  refine LJ.yd rfl (Yd.len rfl) ?_
  refine LJ.yd rfl (Yd.mvI rfl) ?_
  refine LJ.nil ?_
  refine CJ.block ?_
  refine CJ.loopK [8, 9] Nat (fun k => k ≤ fl.length) (fun k => [(10, vI k)]) (fun k => fl.length - k) (0) ?_ ⟨rfl, trivial⟩ ?_
  · exact by omega
  · rintro k σ hk1
    refine CJ.seq ?_
    refine CJ.region ?_
    refine LJ.splitD rfl (Yd.lss rfl rfl) (fun h11 => ?_) (fun h11 => ?_)
    · refine LJ.nil ?_
      refine CJ.seq ?_
      refine CJ.condT rfl ?_
      refine CJ.skip ?_
      refine CJ.seq ?_
      refine CJ.block ?_
      refine CJ.seq ?_
      refine CJ.region ?_
      refine LJ.idxA rfl hf rfl rfl (by omega) (by first | rfl | omega | (simp; done) | (simp; omega) | (simp [upN_len]; omega) | (simp [idxBy_len]; omega) | (simp [marks_len]; omega) | (simp [upN_len]; done) | (simp [idxBy_len]; done) | (simp [marks_len]; done) | (simp at *; omega)) (fun ib12 io12 ia12 ir12 => ?_)
      refine LJ.lgA (enc := Box.enc) (fun u => [vI u.X, vI u.Y, vI u.W, vI u.H]) (fun _ => rfl) (fun _ => rfl) ir12 rfl rfl rfl (by first | rfl | omega | (simp; done) | (simp; omega) | (simp [upN_len]; omega) | (simp [idxBy_len]; omega) | (simp [marks_len]; omega) | (simp [upN_len]; done) | (simp [idxBy_len]; done) | (simp [marks_len]; done) | (simp at *; omega)) (fun u13 hu13 => ?_)
      try simp only [Int.toNat_natCast] at hu13
      refine LJ.alloc ([_, _, _, _] : List Value) rfl rfl (fun b1 => ?_)
      refine LJ.store (v := .agg #[_, _, _, _]) (us := [_, _, _, _]) 0 rfl rfl rfl rfl rfl rfl rfl rfl ?_
      refine LJ.nil ?_
      refine CJ.seq ?_
      refine CJ.region ?_
      refine LJ.yd rfl (Yd.loadG (us := [_, _, _, _]) 0 rfl rfl rfl rfl) ?_
      refine LJ.callV rfl (fun k hk dk => (h u13 (List.mem_of_getElem? hu13)) ▸ ValidBoxI_ok _ u13) ?_
      refine LJ.yd rfl (Yd.not rfl) ?_
      refine LJ.nil ?_
      refine CJ.condF rfl ?_
      refine CJ.skip ?_
      refine CJ.region ?_
      refine LJ.yd rfl (Yd.add rfl rfl (by unfold I64; omega)) ?_
      refine LJ.yd rfl (Yd.mvI rfl) ?_
      refine LJ.nil ?_
      refine ⟨(k + 1), ?_, ⟨rfl, rfl, trivial⟩, ⟨rfl, trivial⟩, Ent.pick [] [0] rfl, ?_⟩
      · omega
      · first | omega | (dsimp only; omega) | (simp only []; omega)
    · refine LJ.nil ?_
      refine CJ.seq ?_
      refine CJ.condF rfl ?_
      refine CJ.exit ?_
      refine CJ.seq ?_
      refine CJ.region ?_
      refine LJ.yd rfl (Yd.asB rfl) ?_
      refine LJ.nil ?_
      refine CJ.ret ?_
      refine Fin.V (Res.one (ResV.tmp (v := .bool true) rfl)) ?_
      rfl
theorem map_set {f g : Nat → Bool} {n x : Nat} (hx : x < n) (h : ∀ j, j < n → g j = if j = x then true else f j) : ((List.range n).map f).set x true = (List.range n).map g := by
  refine List.ext_getElem? fun j => ?_
  by_cases hj : j < n
  · rw [List.getElem?_map, List.getElem?_range hj, Option.map_some, h j hj]
    by_cases e : j = x
    · subst e; rw [List.getElem?_set_self (by simpa using hj), if_pos rfl]
    · rw [List.getElem?_set_ne (fun h => e h.symm), if_neg e, List.getElem?_map, List.getElem?_range hj]; rfl
  · rw [List.getElem?_eq_none (by simpa using hj), List.getElem?_eq_none (by simpa using hj)]
theorem map_same {f g : Nat → Bool} {n : Nat} (h : ∀ j, j < n → f j = g j) : (List.range n).map f = (List.range n).map g := List.map_congr_left fun j hj => h j (List.mem_range.1 hj)
theorem map_at {f : Nat → Bool} {n j : Nat} {u : Bool} (h : ((List.range n).map f)[j]? = some u) : f j = u := by
  have hj : j < n := by have := (List.getElem?_eq_some_iff.1 h).1; simpa using this
  rw [List.getElem?_map, List.getElem?_range hj] at h
  exact Option.some.inj h
theorem cvP_take {fl : List Box} {k : Nat} {u : Box} (h : fl[k]? = some u) (y : Int) (j : Nat) : cvP (fl.take (k + 1)) y j = (cvP (fl.take k) y j || inP u j y) := by
  unfold cvP; rw [takeC h, List.any_append]; simp
/-- a row that is filled up to a point -/
def rwF (fl : List Box) (u : Box) (y x : Int) (j : Nat) : Bool := cvP fl y j || (decide (u.X ≤ j) && decide ((j : Int) < x))
theorem row_none {u : Box} {j : Nat} : (decide (u.X ≤ j) && decide ((j : Int) < u.X)) = false := by
  rw [Bool.and_eq_false_iff, decide_eq_false_iff_not, decide_eq_false_iff_not]; omega
theorem row_new {fl : List Box} {u : Box} {y x : Int} {j : Nat} (h0 : 0 ≤ x) (h : u.X ≤ x) : rwF fl u y (x + 1) j = if j = x.toNat then true else rwF fl u y x j := by
  by_cases e : j = x.toNat
  · rw [if_pos e, rwF, decide_eq_true (by omega), decide_eq_true (by omega)]; simp
  · rw [if_neg e, rwF, rwF]
    congr 2
    rw [Bool.eq_iff_iff, decide_eq_true_eq, decide_eq_true_eq]; omega
theorem row_old {fl : List Box} {u : Box} {y x : Int} {j : Nat} (h0 : 0 ≤ x) (h : rwF fl u y x x.toNat = true) : rwF fl u y x j = rwF fl u y (x + 1) j := by
  by_cases e : j = x.toNat
  · subst e
    rw [h, rwF, Eq.comm]
    rw [rwF] at h
    rcases Bool.or_eq_true_iff.1 h with h | h
    · rw [h]; rfl
    · rw [Bool.and_eq_true, decide_eq_true_eq, decide_eq_true_eq] at h; omega
  · rw [rwF, rwF]
    congr 2
    rw [Bool.eq_iff_iff, decide_eq_true_eq, decide_eq_true_eq]; omega
theorem cv0 (fl : List Box) (y : Int) : List.replicate 200 false = (List.range 200).map (cvP (fl.take 0) y) := by
  rw [List.take_zero, show cvP [] y = fun _ => false from rfl, List.map_const', List.length_range]
theorem cvP_all {fl : List Box} {k : Nat} (y : Int) (h : fl.length ≤ k) : (List.range 200).map (cvP (fl.take k) y) = cvR fl y := by rw [List.take_of_length_le h]; rfl
theorem CoverArea_ok {A : Amb} {fl : List Box} {v : Value} (hf : RdL Box.enc 4 A.h v fl) (h : ∀ f ∈ fl, bOk f = true) (hn : fl.length ≤ 24) : Ctr Try.prog 32 #[v] A [] (Val (vI (cvA fl 200))) := by
  obtain ⟨fa, fc, rfl, hfb, hf⟩ := hf.un
  refine Ctr.body (args := [_]) Try.func32 rfl Try.ntmps32 Try.results32 (by simp) ?_
  refine CJ.seq ?_
  refine CJ.region ?_
  refine LJ.yd rfl (Yd.asI rfl) ?_
  refine LJ.nil ?_
  refine CJ.seq ?_
  refine CJ.seq ?_
  refine CJ.region ?_
  refine LJ.yd rfl (Yd.mvS rfl) ?_
  refine LJ.callV rfl (fun k hk dk => validBoxes_T (RdRow.up hf) h hn) ?_
  refine LJ.yd rfl (Yd.not rfl) ?_
  refine LJ.nil ?_
  refine CJ.condF rfl ?_
  refine CJ.skip ?_
  refine CJ.seq ?_
  refine CJ.region ?_
  refine LJ.yd rfl (Yd.asI rfl) ?_
  refine LJ.nil ?_
  refine CJ.seq ?_
  refine CJ.seq ?_
  refine CJ.region ?_
  refine LJ.yd rfl (Yd.mvI rfl) ?_
  refine LJ.nil ?_
  refine CJ.block ?_
  refine CJ.loopK [0, 2] (Nat × Int) (fun ⟨y, ar⟩ => y ≤ 200 ∧ ar = cvA fl y) (fun ⟨y, ar⟩ => [(12, vI y), (3, vI ar)]) (fun ⟨y, ar⟩ => 200 - y) (0, 0) ?_ ⟨rfl, rfl, trivial⟩ ?_
  · exact ⟨by omega, rfl⟩
  · rintro ⟨y, ar⟩ σ ⟨hy1, har⟩
    have hab := cvA_le fl y
    refine CJ.seq ?_
    refine CJ.region ?_
    refine LJ.splitD rfl (Yd.lss rfl rfl) (fun h13 => ?_) (fun h13 => ?_)
    · refine LJ.nil ?_
      refine CJ.seq ?_
      refine CJ.condT rfl ?_
      refine CJ.skip ?_
      refine CJ.seq ?_
      refine CJ.block ?_
      refine CJ.seq ?_
      refine CJ.region ?_
      refine LJ.yd rfl (Yd.mvI rfl) ?_
      refine LJ.yd rfl (Yd.asI rfl) ?_
      refine LJ.nil ?_
      refine CJ.seq ?_
      refine CJ.region ?_
      refine LJ.alloc ((List.replicate 200 false).map fun u => .bool u) (by simp [Value.cells]) rfl (fun b1 => ?_)
      refine LJ.norm [_] rfl ?_
      refine LJ.nil ?_
      refine CJ.seq ?_
      refine CJ.region ?_
      refine LJ.yd rfl (Yd.mvS rfl) ?_
      refine LJ.yd rfl (Yd.len rfl) ?_
      refine LJ.yd rfl (Yd.mvI rfl) ?_
      refine LJ.nil ?_
      refine CJ.block ?_
      refine CJ.loopF [0, 2, 4, 5, 12, 13, 14, 15, 16] (Nat × Int × List Bool) (fun ⟨k, a2, R⟩ => k ≤ fl.length ∧ a2 = ar + ctT R ∧ R = (List.range 200).map (cvP (fl.take k) y)) (fun ⟨k, a2, R⟩ => [(17, vI k), (3, vI a2)]) (fun ⟨k, a2, R⟩ => [Cel b1 93 (R.map fun u => .bool u)]) (fun ⟨k, a2, R⟩ => fl.length - k) (0, ar, List.replicate 200 false) [] [] [0] rfl rfl rfl ?_ ⟨rfl, rfl, trivial⟩ ?_
      · exact ⟨by omega, by simp [ctT], cv0 fl y⟩
      · rintro ⟨k, a2, R⟩ σ ⟨hk1, ha2, hR⟩
        refine CJ.norm [_] rfl ?_
        have hRl : R.length = 200 := by rw [hR]; simp
        have hRb := ctT_le R
        refine CJ.seq ?_
        refine CJ.region ?_
        refine LJ.splitD rfl (Yd.lss rfl rfl) (fun h18 => ?_) (fun h18 => ?_)
        · refine LJ.nil ?_
          refine CJ.seq ?_
          refine CJ.condT rfl ?_
          refine CJ.skip ?_
          refine CJ.seq ?_
          refine CJ.block ?_
          refine CJ.seq ?_
          refine CJ.region ?_
          refine LJ.idxA rfl hf rfl rfl (by omega) (by first | rfl | omega | (simp; done) | (simp; omega) | (simp [upN_len]; omega) | (simp [idxBy_len]; omega) | (simp [marks_len]; omega) | (simp [upN_len]; done) | (simp [idxBy_len]; done) | (simp [marks_len]; done) | (simp at *; omega)) (fun ib19 io19 ia19 ir19 => ?_)
          refine LJ.lgA (enc := Box.enc) (fun u => [vI u.X, vI u.Y, vI u.W, vI u.H]) (fun _ => rfl) (fun _ => rfl) ir19 rfl rfl rfl (by first | rfl | omega | (simp; done) | (simp; omega) | (simp [upN_len]; omega) | (simp [idxBy_len]; omega) | (simp [marks_len]; omega) | (simp [upN_len]; done) | (simp [idxBy_len]; done) | (simp [marks_len]; done) | (simp at *; omega)) (fun u20 hu20 => ?_)
          try simp only [Int.toNat_natCast] at hu20
          obtain ⟨w1, w2, w3, w4, w5, w6, w7, w8⟩ := bOk_iff.1 (h u20 (List.mem_of_getElem? hu20))
          refine LJ.alloc ([_, _, _, _] : List Value) rfl rfl (fun b2 => ?_)
          refine LJ.store (v := .agg #[_, _, _, _]) (us := [_, _, _, _]) 1 rfl rfl rfl rfl rfl rfl rfl rfl ?_
          refine LJ.nil ?_
          refine CJ.seq ?_
          refine CJ.seq ?_
          refine CJ.region ?_
          refine LJ.yd rfl (Yd.mvI rfl) ?_
          refine LJ.yd rfl (Yd.fieldAddr rfl) ?_
          refine LJ.yd rfl (Yd.loadC 1 rfl rfl rfl) ?_
          refine LJ.splitD rfl (Yd.lss rfl rfl) (fun h24 => ?_) (fun h24 => ?_)
          · refine LJ.yd rfl (Yd.mvB rfl) ?_
            refine LJ.gF rfl rfl ?_
            refine LJ.gF rfl rfl ?_
            refine LJ.gF rfl rfl ?_
            refine LJ.gF rfl rfl ?_
            refine LJ.gF rfl rfl ?_
            refine LJ.gF rfl rfl ?_
            refine LJ.gF rfl rfl ?_
            refine LJ.yd rfl (Yd.pickTB rfl rfl) ?_
            refine LJ.nil ?_
            refine CJ.condT rfl ?_
            refine CJ.exit ?_
            refine CJ.region ?_
            refine LJ.yd rfl (Yd.add rfl rfl (by unfold I64; omega)) ?_
            refine LJ.yd rfl (Yd.mvI rfl) ?_
            refine LJ.nil ?_
            refine ⟨(k + 1, a2, R), ?_, ⟨rfl, rfl, rfl, rfl, rfl, rfl, rfl, rfl, rfl, trivial⟩, ⟨rfl, rfl, trivial⟩, Ent.pick [0] [1] rfl, ?_⟩
            · refine ⟨by omega, ?_⟩
              exact ⟨ha2, by rw [hR]; exact map_same fun j hj => by rw [cvP_take hu20, show inP u20 j y = false from Bool.eq_false_iff.2 fun h => by have := inP_iff.1 h; omega, Bool.or_false]⟩
            · first | omega | (dsimp only; omega) | (simp only []; omega)
          · refine LJ.yd rfl (Yd.mvB rfl) ?_
            refine LJ.gT rfl ?_
            refine LJ.yd rfl (Yd.mvI rfl) ?_
            refine LJ.gT rfl ?_
            refine LJ.yd rfl (Yd.fieldAddr rfl) ?_
            refine LJ.gT rfl ?_
            refine LJ.yd rfl (Yd.loadC 1 rfl rfl rfl) ?_
            refine LJ.gT rfl ?_
            refine LJ.yd rfl (Yd.fieldAddr rfl) ?_
            refine LJ.gT rfl ?_
            refine LJ.yd rfl (Yd.loadC 1 rfl rfl rfl) ?_
            refine LJ.gT rfl ?_
            refine LJ.yd rfl (Yd.add rfl rfl (by unfold I64; omega)) ?_
            refine LJ.gT rfl ?_
            refine LJ.splitD rfl (Yd.geq rfl rfl) (fun h32 => ?_) (fun h32 => ?_)
            · refine LJ.yd rfl (Yd.pickFB rfl rfl) ?_
              refine LJ.nil ?_
              refine CJ.condT rfl ?_
              refine CJ.exit ?_
              refine CJ.region ?_
              refine LJ.yd rfl (Yd.add rfl rfl (by unfold I64; omega)) ?_
              refine LJ.yd rfl (Yd.mvI rfl) ?_
              refine LJ.nil ?_
              refine ⟨(k + 1, a2, R), ?_, ⟨rfl, rfl, rfl, rfl, rfl, rfl, rfl, rfl, rfl, trivial⟩, ⟨rfl, rfl, trivial⟩, Ent.pick [0] [1] rfl, ?_⟩
              · refine ⟨by omega, ?_⟩
                exact ⟨ha2, by rw [hR]; exact map_same fun j hj => by rw [cvP_take hu20, show inP u20 j y = false from Bool.eq_false_iff.2 fun h => by have := inP_iff.1 h; omega, Bool.or_false]⟩
              · first | omega | (dsimp only; omega) | (simp only []; omega)
            · refine LJ.yd rfl (Yd.pickFB rfl rfl) ?_
              refine LJ.nil ?_
              refine CJ.condF rfl ?_
              refine CJ.skip ?_
              refine CJ.seq ?_
              refine CJ.region ?_
              refine LJ.yd rfl (Yd.fieldAddr rfl) ?_
              refine LJ.yd rfl (Yd.loadC 1 rfl rfl rfl) ?_
              refine LJ.yd rfl (Yd.asI rfl) ?_
              refine LJ.nil ?_
              refine CJ.block ?_
              refine CJ.loopF [0, 2, 4, 5, 7, 12, 13, 14, 15, 16, 17, 18, 19, 20, 21, 22, 23, 24, 25, 26, 27, 28, 29, 30, 31, 32, 33, 34, 35] (Int × Int × List Bool) (fun ⟨x, a3, R3⟩ => u20.X ≤ x ∧ x ≤ u20.X + u20.W ∧ a3 = ar + ctT R3 ∧ R3 = (List.range 200).map (rwF (fl.take k) u20 y x)) (fun ⟨x, a3, R3⟩ => [(8, vI x), (3, vI a3)]) (fun ⟨x, a3, R3⟩ => [Cel b1 93 (R3.map fun u => .bool u)]) (fun ⟨x, a3, R3⟩ => (u20.X + u20.W - x).toNat) (u20.X, a2, R) [_] [1] [0] rfl rfl rfl ?_ ⟨rfl, rfl, trivial⟩ ?_
              · exact ⟨by omega, by omega, ha2, by rw [hR]; exact map_same fun j hj => by rw [rwF, row_none]; simp⟩
              · rintro ⟨x, a3, R3⟩ σ ⟨hx0, hx1, ha3, hR3⟩
                refine CJ.norm [_, _] rfl ?_
                have hR3l : R3.length = 200 := by rw [hR3]; simp
                have hR3b := ctT_le R3
                refine CJ.seq ?_
                refine CJ.seq ?_
                refine CJ.region ?_
                refine LJ.yd rfl (Yd.mvI rfl) ?_
                refine LJ.yd rfl (Yd.fieldAddr rfl) ?_
                refine LJ.yd rfl (Yd.loadC 0 rfl rfl rfl) ?_
                refine LJ.yd rfl (Yd.fieldAddr rfl) ?_
                refine LJ.yd rfl (Yd.loadC 0 rfl rfl rfl) ?_
                refine LJ.yd rfl (Yd.add rfl rfl (by unfold I64; omega)) ?_
                refine LJ.splitD rfl (Yd.lss rfl rfl) (fun h42 => ?_) (fun h42 => ?_)
                · refine LJ.nil ?_
                  refine CJ.condT rfl ?_
                  refine CJ.skip ?_
                  refine CJ.seq ?_
                  refine CJ.block ?_
                  refine CJ.seq ?_
                  refine CJ.region ?_
                  refine LJ.yd rfl (Yd.mvI rfl) ?_
                  refine LJ.yd rfl (Yd.idxArr rfl rfl (by omega) (by omega)) ?_
                  refine LJ.ldMB (F := fun u => u) 1 rfl rfl rfl rfl (by omega) (fun u47 hu47 h47 => ?_) (fun u47 hu47 h47 => ?_)
                  · try simp only [Int.toNat_natCast] at hu47
                    refine LJ.yd rfl (Yd.not rfl) ?_
                    refine LJ.nil ?_
                    refine CJ.condF rfl ?_
                    refine CJ.skip ?_
                    refine CJ.region ?_
                    refine LJ.yd rfl (Yd.mvI rfl) ?_
                    refine LJ.yd rfl (Yd.add rfl rfl (by unfold I64; omega)) ?_
                    refine LJ.yd rfl (Yd.asI rfl) ?_
                    refine LJ.nil ?_
                    refine ⟨(x + 1, a3, R3), ?_, ⟨rfl, rfl, rfl, rfl, rfl, rfl, rfl, rfl, rfl, rfl, rfl, rfl, rfl, rfl, rfl, rfl, rfl, rfl, rfl, rfl, rfl, rfl, rfl, rfl, rfl, rfl, rfl, rfl, rfl, trivial⟩, ⟨rfl, rfl, trivial⟩, Ent.refl _, ?_⟩
                    · rw [hR3] at hu47
                      have e47 := (map_at hu47).trans h47
                      exact ⟨by omega, by omega, ha3, by rw [hR3]; exact map_same fun j hj => row_old (by omega) e47⟩
                    · first | omega | (dsimp only; omega) | (simp only []; omega)
                  · try simp only [Int.toNat_natCast] at hu47
                    refine LJ.yd rfl (Yd.not rfl) ?_
                    refine LJ.nil ?_
                    refine CJ.condT rfl ?_
                    refine CJ.seq ?_
                    refine CJ.region ?_
                    refine LJ.yd rfl (Yd.mvI rfl) ?_
                    refine LJ.yd rfl (Yd.idxArr rfl rfl (by omega) (by omega)) ?_
                    refine LJ.op rfl (OpR.stM (e1 := fun u => .bool u) 1 (fun _ => rfl) (fun _ => rfl) rfl rfl rfl rfl (by omega)) ?_
                    rintro _ _ ⟨rfl, rfl⟩
                    refine LJ.norm [_, _] rfl ?_
                    refine LJ.nil ?_
                    refine CJ.region ?_
                    refine LJ.yd rfl (Yd.mvI rfl) ?_
                    refine LJ.yd rfl (Yd.add rfl rfl (by unfold I64; omega)) ?_
                    refine LJ.yd rfl (Yd.asI rfl) ?_
                    refine LJ.nil ?_
                    refine CJ.region ?_
                    refine LJ.yd rfl (Yd.mvI rfl) ?_
                    refine LJ.yd rfl (Yd.add rfl rfl (by unfold I64; omega)) ?_
                    refine LJ.yd rfl (Yd.asI rfl) ?_
                    refine LJ.nil ?_
                    refine ⟨(x + 1, a3 + 1, R3.set x.toNat true), ?_, ⟨rfl, rfl, rfl, rfl, rfl, rfl, rfl, rfl, rfl, rfl, rfl, rfl, rfl, rfl, rfl, rfl, rfl, rfl, rfl, rfl, rfl, rfl, rfl, rfl, rfl, rfl, rfl, rfl, rfl, trivial⟩, ⟨rfl, rfl, trivial⟩, Ent.refl _, ?_⟩
                    · have hct := ctT_set (h47 ▸ hu47)
                      exact ⟨by omega, by omega, by omega, by rw [hR3]; exact map_set (by omega) fun j hj => row_new (by omega) (by omega)⟩
                    · first | omega | (dsimp only; omega) | (simp only []; omega)
                · refine LJ.nil ?_
                  refine CJ.condF rfl ?_
                  refine CJ.exit ?_
                  refine CJ.region ?_
                  refine LJ.yd rfl (Yd.add rfl rfl (by unfold I64; omega)) ?_
                  refine LJ.yd rfl (Yd.mvI rfl) ?_
                  refine LJ.nil ?_
                  refine ⟨(k + 1, a3, R3), ?_, ⟨rfl, rfl, rfl, rfl, rfl, rfl, rfl, rfl, rfl, trivial⟩, ⟨rfl, rfl, trivial⟩, Ent.pick [1] [0] rfl, ?_⟩
                  · refine ⟨by omega, ?_⟩
                    refine ⟨ha3, ?_⟩
                    rw [hR3]
                    refine map_same fun j hj => ?_
                    rw [cvP_take hu20, rwF, inP]
                    rw [show decide (u20.Y ≤ (y : Int)) = true from decide_eq_true (by omega), show decide ((y : Int) < u20.Y + u20.H) = true from decide_eq_true (by omega), show x = u20.X + u20.W by omega, Bool.and_true, Bool.and_true]
                  · first | omega | (dsimp only; omega) | (simp only []; omega)
        · refine LJ.nil ?_
          refine CJ.seq ?_
          refine CJ.condF rfl ?_
          refine CJ.exit ?_
          refine CJ.region ?_
          refine LJ.yd rfl (Yd.add rfl rfl (by unfold I64; omega)) ?_
          refine LJ.yd rfl (Yd.mvI rfl) ?_
          refine LJ.nil ?_
          refine ⟨(y + 1, _), ?_, ⟨rfl, rfl, trivial⟩, ⟨rfl, rfl, trivial⟩, Ent.pick [] [0] rfl, ?_⟩
          · refine ⟨by omega, ?_⟩
            rw [hR, cvP_all _ (by omega)] at ha2
            rw [ha2, har, cvA]
          · first | omega | (dsimp only; omega) | (simp only []; omega)
    · refine LJ.nil ?_
      refine CJ.seq ?_
      refine CJ.condF rfl ?_
      refine CJ.exit ?_
      refine CJ.seq ?_
      refine CJ.region ?_
      refine LJ.yd rfl (Yd.mvI rfl) ?_
      refine LJ.yd rfl (Yd.asI rfl) ?_
      refine LJ.nil ?_
      refine CJ.ret ?_
      refine Fin.V (Res.one (ResV.tmp (v := .int _ _) rfl)) ?_
      rw [har, show y = 200 by omega]
theorem anyPiece_ok {A : Amb} {rb n c : Nat} {a : Option Addr} {p : Int} (hcode : RdCode A.h a n) (hp0 : 0 ≤ p) (hp1 : p ≤ 4000) :
    Ctr Try.prog 53 #[.pointer (some ⟨rb, 0, none⟩)] A [Rd rb a n c p] (PcR rb a n c p 120 10) := by
  refine Ctr.body (args := [_]) Try.func53 rfl Try.ntmps53 Try.results53 (by simp) ?_
  refine CJ.seq ?_
  refine CJ.region ?_
  refine LJ.alloc ([_, _, _, _] : List Value) rfl rfl (fun b1 => ?_)
  refine LJ.nil ?_
  refine CJ.seq ?_
  refine CJ.region ?_
  refine LJ.yd rfl (Yd.mvP rfl) ?_
  refine LJ.yd rfl (Yd.mvP rfl) ?_
  refine LJ.call (pickF _ [1]) (pickF _ [0]) rfl (perm_pickF _ [1] [0] rfl) (fun k hk dk => pick_ok (hcode.up) (by omega) (by omega)) ?_
  rintro _ _ ⟨x6, rfl, hx6, hy6, rfl⟩
  refine LJ.norm [_, _] rfl ?_
  refine LJ.yd rfl (Yd.add rfl rfl (by unfold I64; omega)) ?_
  refine LJ.call (pickF _ [0]) (pickF _ [1]) rfl (perm_pickF _ [0] [1] rfl) (fun k hk dk => somePiece_ok hcode.up (by omega) (by omega)) ?_
  rintro _ _ ⟨⟨⟨ul, uw, uh, uf⟩, ua, uc⟩, q1, rfl, rfl, hq1, hq2, hb1, hb2, hb3⟩
  dsimp only at hb1 hb2 hb3
  refine LJ.norm [_, _, _] rfl ?_
  refine LJ.alloc ([_, _, _, _] : List Value) rfl rfl (fun b2 => ?_)
  refine LJ.store (v := .agg #[_, _, _, _]) (us := [_, _, _, _]) 3 rfl rfl rfl rfl rfl rfl rfl rfl ?_
  refine LJ.nil ?_
  refine CJ.seq ?_
  refine CJ.seq ?_
  refine CJ.region ?_
  refine LJ.yd rfl (Yd.mvP rfl) ?_
  refine LJ.call (pickF _ [0, 2, 3]) (pickF _ [1]) rfl (perm_pickF _ [0, 2, 3] [1] rfl) (fun k hk dk => pick_ok (hcode.up) (by omega) (by omega)) ?_
  rintro _ _ ⟨x10, rfl, hx10, hy10, rfl⟩
  refine LJ.norm [_, _, _, _] rfl ?_
  refine LJ.nil ?_
  refine CJ.block ?_
  refine CJ.seq ?_
  refine CJ.region ?_
  refine LJ.splitD rfl (Yd.eql rfl rfl) (fun h12 => ?_) (fun h12 => ?_)
  · refine LJ.yd rfl (Yd.asB rfl) ?_
    refine LJ.nil ?_
    refine CJ.condT rfl ?_
    refine CJ.region ?_
    refine LJ.yd rfl (Yd.mvP rfl) ?_
    refine LJ.op rfl (OpR.buildSlice (cs := [_, _]) rfl rfl) ?_
    rintro _ _ ⟨b3, rfl, rfl⟩
    refine LJ.call (pickF _ [0, 1, 2, 4]) (pickF _ [3]) rfl (perm_pickF _ [0, 1, 2, 4] [3] rfl) (fun k hk dk => one_ok (l := [0, 10000]) (hcode.up) (LitAt.of (l := [0, 10000]) hk dk 3 rfl) (by simp) (by omega) (by omega)) ?_
    rintro _ _ ⟨x15, rfl, hx15, rfl⟩
    simp only [List.mem_cons, List.not_mem_nil, or_false] at hx15
    refine LJ.norm [_, _, _, _, _] rfl ?_
    refine LJ.yd rfl (Yd.fieldAddr rfl) ?_
    refine LJ.store (v := .int _ _) (us := [_, _, _, _]) 2 rfl rfl rfl rfl rfl rfl rfl rfl ?_
    refine LJ.nil ?_
    refine CJ.seq ?_
    refine CJ.region ?_
    refine LJ.yd rfl (Yd.loadG (us := [_, _, _, _]) 2 rfl rfl rfl rfl) ?_
    refine LJ.store (v := .agg #[_, _, _, _]) (us := [_, _, _, _]) 0 rfl rfl rfl rfl rfl rfl rfl rfl ?_
    refine LJ.nil ?_
    refine CJ.ret ?_
    exact Fin.R [_, _] (Res.one (ResV.cell (us := [_, _, _, _]) 0 rfl rfl rfl rfl)) ⟨⟨⟨x15, uw, uh, uf⟩, ua, uc⟩, _, rfl, rfl, by omega, by omega, by simp only; omega, by simp only; omega, by first | (simp only; omega) | (simp; omega)⟩ (Ent.pick [4, 1] [0, 2, 3] rfl)
  · refine LJ.yd rfl (Yd.asB rfl) ?_
    refine LJ.nil ?_
    refine CJ.condF rfl ?_
    refine CJ.seq ?_
    refine CJ.region ?_
    refine LJ.splitD rfl (Yd.eql rfl rfl) (fun h18 => ?_) (fun h18 => ?_)
    · refine LJ.yd rfl (Yd.asB rfl) ?_
      refine LJ.nil ?_
      refine CJ.condT rfl ?_
      refine CJ.region ?_
      refine LJ.yd rfl (Yd.mvP rfl) ?_
      refine LJ.op rfl (OpR.buildSlice (cs := [_, _, _]) rfl rfl) ?_
      rintro _ _ ⟨b4, rfl, rfl⟩
      refine LJ.call (pickF _ [0, 1, 2, 4]) (pickF _ [3]) rfl (perm_pickF _ [0, 1, 2, 4] [3] rfl) (fun k hk dk => one_ok (l := [0, 1, 201]) (hcode.up) (LitAt.of (l := [0, 1, 201]) hk dk 3 rfl) (by simp) (by omega) (by omega)) ?_
      rintro _ _ ⟨x21, rfl, hx21, rfl⟩
      simp only [List.mem_cons, List.not_mem_nil, or_false] at hx21
      refine LJ.norm [_, _, _, _, _] rfl ?_
      refine LJ.yd rfl (Yd.fieldAddr rfl) ?_
      refine LJ.store (v := .int _ _) (us := [_, _, _, _]) 2 rfl rfl rfl rfl rfl rfl rfl rfl ?_
      refine LJ.nil ?_
      refine CJ.seq ?_
      refine CJ.region ?_
      refine LJ.yd rfl (Yd.loadG (us := [_, _, _, _]) 2 rfl rfl rfl rfl) ?_
      refine LJ.store (v := .agg #[_, _, _, _]) (us := [_, _, _, _]) 0 rfl rfl rfl rfl rfl rfl rfl rfl ?_
      refine LJ.nil ?_
      refine CJ.ret ?_
      exact Fin.R [_, _] (Res.one (ResV.cell (us := [_, _, _, _]) 0 rfl rfl rfl rfl)) ⟨⟨⟨ul, x21, uh, uf⟩, ua, uc⟩, _, rfl, rfl, by omega, by omega, by simp only; omega, by simp only; omega, by first | (simp only; omega) | (simp; omega)⟩ (Ent.pick [4, 1] [0, 2, 3] rfl)
    · refine LJ.yd rfl (Yd.asB rfl) ?_
      refine LJ.nil ?_
      refine CJ.condF rfl ?_
      refine CJ.seq ?_
      refine CJ.region ?_
      refine LJ.splitD rfl (Yd.eql rfl rfl) (fun h24 => ?_) (fun h24 => ?_)
      · refine LJ.yd rfl (Yd.asB rfl) ?_
        refine LJ.nil ?_
        refine CJ.condT rfl ?_
        refine CJ.region ?_
        refine LJ.yd rfl (Yd.fieldAddr rfl) ?_
        refine LJ.yd rfl (Yd.loadC 2 rfl rfl rfl) ?_
        refine LJ.yd rfl (Yd.fieldAddr rfl) ?_
        refine LJ.yd rfl (Yd.loadC 2 rfl rfl rfl) ?_
        refine LJ.yd rfl (Yd.build (cs := [_, _, _, _]) rfl) ?_
        refine LJ.op rfl (OpR.buildSlice (cs := [_, _, _, _]) rfl rfl) ?_
        rintro _ _ ⟨b5, rfl, rfl⟩
        refine LJ.op rfl (OpR.apT (enc := Box.enc) [⟨_, _, _, _⟩] 1 4 rfl rfl rfl (by first | rfl | omega | (simp; done) | (simp; omega) | (simp [upN_len]; omega) | (simp [idxBy_len]; omega) | (simp [marks_len]; omega) | (simp [upN_len]; done) | (simp [idxBy_len]; done) | (simp [marks_len]; done) | (simp at *; omega)) rfl rfl rfl rfl rfl (by first | rfl | omega | (simp; done) | (simp; omega) | (simp [upN_len]; omega) | (simp [idxBy_len]; omega) | (simp [marks_len]; omega) | (simp [upN_len]; done) | (simp [idxBy_len]; done) | (simp [marks_len]; done) | (simp at *; omega))) ?_
        rintro _ _ ⟨ra31, rc31, rfl, rfl⟩
        refine LJ.norm [_, _, _, _, _] rfl ?_
        refine LJ.yd rfl (Yd.fieldAddr rfl) ?_
        refine LJ.store (v := .slice _ _ _) (us := [_, _, _, _]) 2 rfl rfl rfl rfl rfl rfl rfl rfl ?_
        refine LJ.nil ?_
        refine CJ.seq ?_
        refine CJ.region ?_
        refine LJ.yd rfl (Yd.loadG (us := [_, _, _, _]) 2 rfl rfl rfl rfl) ?_
        refine LJ.store (v := .agg #[_, _, _, _]) (us := [_, _, _, _]) 0 rfl rfl rfl rfl rfl rfl rfl rfl ?_
        refine LJ.nil ?_
        refine CJ.ret ?_
        exact Fin.R [_, _] (Res.one (ResV.cell (us := [_, _, _, _]) 0 rfl rfl rfl rfl)) ⟨⟨⟨ul, uw, uh, uf ++ [⟨uw, 0, 1, 1⟩]⟩, ra31, rc31⟩, _, rfl, rfl, by omega, by omega, by simp only; omega, by simp only; omega, by first | (simp only; omega) | (simp; omega)⟩ (Ent.pick [3, 1] [0, 2, 4] rfl)
      · refine LJ.yd rfl (Yd.asB rfl) ?_
        refine LJ.nil ?_
        refine CJ.condF rfl ?_
        refine CJ.skip ?_
        refine CJ.seq ?_
        refine CJ.region ?_
        refine LJ.yd rfl (Yd.loadG (us := [_, _, _, _]) 2 rfl rfl rfl rfl) ?_
        refine LJ.store (v := .agg #[_, _, _, _]) (us := [_, _, _, _]) 0 rfl rfl rfl rfl rfl rfl rfl rfl ?_
        refine LJ.nil ?_
        refine CJ.ret ?_
        exact Fin.R [_, _] (Res.one (ResV.cell (us := [_, _, _, _]) 0 rfl rfl rfl rfl)) ⟨⟨⟨ul, uw, uh, uf⟩, ua, uc⟩, _, rfl, rfl, by omega, by omega, by simp only; omega, by simp only; omega, by first | (simp only; omega) | (simp; omega)⟩ (Ent.pick [3, 1] [0, 2] rfl)
def PcD (v : Value) (gs : List HProp) : Prop := ∃ (p : Piece) (a : Option Addr) (c : Nat), v = .agg #[vI p.l, vI p.w, vI p.h, .slice a p.fl.length c] ∧ gs = [LR Box.enc 33 4 a c p.fl] ∧ (0 ≤ p.w ∧ p.w ≤ 201) ∧ (0 ≤ p.h ∧ p.h ≤ 201) ∧ p.fl.length ≤ 10
theorem DrawLargestClear_ok {A : Amb} {a : Option Addr} {n c : Nat} (h : Code A.h a n c) : Ctr Try.prog 15 #[.slice a n c] A [] PcD := by
  obtain ⟨hcode, hn, ha, hs⟩ := h
  refine Ctr.body (args := [_]) Try.func15 rfl Try.ntmps15 Try.results15 (by simp) ?_
  refine CJ.seq ?_
  refine CJ.region ?_
  refine LJ.alloc ([_, _, _, _] : List Value) rfl rfl (fun b1 => ?_)
  refine LJ.nil ?_
  refine CJ.seq ?_
  refine CJ.region ?_
  refine LJ.yd rfl (Yd.mvS rfl) ?_
  refine LJ.call0 rfl (fun k hk dk => newReader_ok hn hcode.up ha hs) ?_
  rintro _ _ ⟨rb, n2, rfl, hn1, hn2, rfl⟩
  have hcode2 := hcode.le hn2
  refine LJ.yd rfl (Yd.asP rfl) ?_
  refine LJ.nil ?_
  refine CJ.seq ?_
  refine CJ.region ?_
  refine LJ.yd rfl (Yd.mvP rfl) ?_
  refine LJ.call (pickF _ [0]) (pickF _ [1]) rfl (perm_pickF _ [0] [1] rfl) (fun k hk dk => anyPiece_ok hcode2.up (by omega) (by omega)) ?_
  rintro _ _ ⟨⟨⟨ul, uw, uh, uf⟩, ua, uc⟩, q1, rfl, rfl, hq1, hq2, hb1, hb2, hb3⟩
  dsimp only at hb1 hb2 hb3
  refine LJ.norm [_, _, _] rfl ?_
  refine LJ.alloc ([_, _, _, _] : List Value) rfl rfl (fun b2 => ?_)
  refine LJ.store (v := .agg #[_, _, _, _]) (us := [_, _, _, _]) 3 rfl rfl rfl rfl rfl rfl rfl rfl ?_
  refine LJ.nil ?_
  refine CJ.seq ?_
  refine CJ.seq ?_
  refine CJ.region ?_
  refine LJ.yd rfl (Yd.mvP rfl) ?_
  refine LJ.call (pickF _ [0, 2, 3]) (pickF _ [1]) rfl (perm_pickF _ [0, 2, 3] [1] rfl) (fun k hk dk => pick_ok (hcode2.up) (by omega) (by omega)) ?_
  rintro _ _ ⟨x10, rfl, hx10, hy10, rfl⟩
  refine LJ.norm [_, _, _, _] rfl ?_
  refine LJ.splitD rfl (Yd.eql rfl rfl) (fun h11 => ?_) (fun h11 => ?_)
  · refine LJ.nil ?_
    refine CJ.condT rfl ?_
    refine CJ.region ?_
    refine LJ.yd rfl (Yd.fieldAddr rfl) ?_
    refine LJ.yd rfl (Yd.loadC 2 rfl rfl rfl) ?_
    refine LJ.yd rfl (Yd.fieldAddr rfl) ?_
    refine LJ.yd rfl (Yd.loadC 2 rfl rfl rfl) ?_
    refine LJ.yd rfl (Yd.build (cs := [_, _, _, _]) rfl) ?_
    refine LJ.op rfl (OpR.buildSlice (cs := [_, _, _, _]) rfl rfl) ?_
    rintro _ _ ⟨b3, rfl, rfl⟩
    refine LJ.yd rfl (Yd.fieldAddr rfl) ?_
    refine LJ.store (v := .slice _ _ _) (us := [_, _, _, _]) 2 rfl rfl rfl rfl rfl rfl rfl rfl ?_
    refine LJ.nil ?_
    refine CJ.seq ?_
    refine CJ.region ?_
    refine LJ.yd rfl (Yd.loadG (us := [_, _, _, _]) 2 rfl rfl rfl rfl) ?_
    refine LJ.store (v := .agg #[_, _, _, _]) (us := [_, _, _, _]) 0 rfl rfl rfl rfl rfl rfl rfl rfl ?_
    refine LJ.nil ?_
    refine CJ.ret ?_
    exact Fin.R [_] (Res.one (ResV.cell (us := [_, _, _, _]) 0 rfl rfl rfl rfl)) ⟨⟨ul, uw, uh, [⟨0, 0, uw, uh⟩]⟩, _, _, rfl, rfl, by simp only; omega, by simp only; omega, by simp⟩ (Ent.thn (Ent.impAt 4 rfl (fun _ h => Cel.lr (enc := Box.enc) (k := 4) (m := 1) [⟨0, 0, uw, uh⟩] rfl rfl rfl rfl h)) (Ent.pick [4] [0, 1, 2, 3] rfl))
  · refine LJ.nil ?_
    refine CJ.condF rfl ?_
    refine CJ.skip ?_
    refine CJ.seq ?_
    refine CJ.region ?_
    refine LJ.yd rfl (Yd.loadG (us := [_, _, _, _]) 2 rfl rfl rfl rfl) ?_
    refine LJ.store (v := .agg #[_, _, _, _]) (us := [_, _, _, _]) 0 rfl rfl rfl rfl rfl rfl rfl rfl ?_
    refine LJ.nil ?_
    refine CJ.ret ?_
    exact Fin.R [_] (Res.one (ResV.cell (us := [_, _, _, _]) 0 rfl rfl rfl rfl)) ⟨⟨ul, uw, uh, uf⟩, ua, uc, rfl, rfl, by simp only; omega, by simp only; omega, by simp only; omega⟩ (Ent.pick [1] [0, 2, 3] rfl)
theorem equalBox_T (A : Amb) (b : Box) : Ctr Try.prog 18 #[agB b, agB b] A [] (Val (.bool true)) := by
  refine Ctr.body (args := [_, _]) Try.func18 rfl Try.ntmps18 Try.results18 (by simp) ?_
  refine CJ.seq ?_
  refine CJ.region ?_
  refine LJ.boxG (vs := [_, _, _, _]) rfl rfl (fun b1 => ?_)
  refine LJ.boxG (vs := [_, _, _, _]) rfl rfl (fun b2 => ?_)
  refine LJ.yd rfl (Yd.asB rfl) ?_
  refine LJ.nil ?_
  refine CJ.seq ?_
  refine CJ.region ?_
  refine LJ.yd rfl (Yd.loadG (us := [_, _, _, _]) 0 rfl rfl rfl rfl) ?_
  refine LJ.yd rfl (Yd.loadG (us := [_, _, _, _]) 1 rfl rfl rfl rfl) ?_
  refine LJ.yd rfl (Yd.eqlBox (a := ⟨_, _, _, _⟩) (b := ⟨_, _, _, _⟩) rfl rfl) ?_
  refine LJ.yd rfl (Yd.asB rfl) ?_
  refine LJ.nil ?_
  refine CJ.ret ?_
  refine Fin.V (Res.one (ResV.tmp (v := .bool _) rfl)) ?_
  refine congrArg Value.bool (decide_eq_true rfl)
theorem lgP_facts {p : Piece} (h : 0 < (lgP p).W) : pcOk p = true ∧ (lgP p).inG p.w p.h ∧ clr p.fl (lgP p) = true ∧ ∀ b : Box, b.inG p.w p.h → clr p.fl b = true → b.W * b.H ≤ (lgP p).W * (lgP p).H := by
  cases hp : pcOk p with
  | false => rw [lgP_F hp] at h; exact absurd h (by decide)
  | true =>
    obtain ⟨_, _, hw, _, _⟩ := pcOk_iff.1 hp
    have := lg_facts (pc_G hp) (xs := lnL (IX p.fl) p.w) (ys := lnL (IY p.fl) p.h) (fun n => lnL_mem (by omega)) (fun n => lnL_mem (by omega)) (lnL_up _ _) (lnL_up _ _)
    rw [← lgP_T hp] at this
    rcases this with ⟨h1, _⟩ | ⟨h1, h2, h3⟩
    · rw [h1] at h; exact absurd h (by decide)
    · exact ⟨rfl, h1, h2, h3⟩
theorem lgP_none {p : Piece} (hp : pcOk p = true) (h : ¬ 0 < (lgP p).W) : ∀ b : Box, b.inG p.w p.h → clr p.fl b = false := by
  obtain ⟨_, _, hw, _, _⟩ := pcOk_iff.1 hp
  have := lg_facts (pc_G hp) (xs := lnL (IX p.fl) p.w) (ys := lnL (IY p.fl) p.h) (fun n => lnL_mem (by omega)) (fun n => lnL_mem (by omega)) (lnL_up _ _) (lnL_up _ _)
  rw [← lgP_T hp] at this
  rcases this with ⟨_, h1⟩ | ⟨⟨_, _, h1, _⟩, _⟩
  · exact h1
  · omega
theorem lgP_cov {p : Piece} (hp : pcOk p = true) : decide (0 < (lgP p).W) = decide (cvA p.fl 200 < p.w * p.h) := by
  obtain ⟨_, _, hw, _, _⟩ := pcOk_iff.1 hp
  rw [Bool.eq_iff_iff, decide_eq_true_eq, decide_eq_true_eq, cov_iff (pc_G hp) (by omega) (by omega)]
  constructor
  · intro h
    obtain ⟨_, h1, h2, _⟩ := lgP_facts h
    exact ⟨_, h1, h2⟩
  · rintro ⟨b, h1, h2⟩
    refine Classical.byContradiction fun hn => ?_
    have := lgP_none hp hn b h1
    rw [h2] at this; cases this
theorem lgP_fits {p : Piece} {w h : Int} (hl : 0 < (lgP p).W) (hf : fcV p w h = true) : w * h ≤ (lgP p).W * (lgP p).H := by
  obtain ⟨_, _, _, hm⟩ := lgP_facts hl
  simp only [fcV, Bool.and_eq_true, decide_eq_true_eq] at hf
  obtain ⟨_, h1, h2, h3, h4, hf⟩ := hf
  obtain ⟨x, y, x0, y0, x1, y1, hc⟩ := fcB_iff.1 hf
  exact hm ⟨x, y, w, h⟩ ⟨x0, y0, h1, h3, x1, y1⟩ hc
theorem caV_T {p : Piece} (hl : 0 < (lgP p).W) : caV p (lgP p) = true := by
  obtain ⟨hp, h1, h2, _⟩ := lgP_facts hl
  rw [caV_G hp]; exact clrG_iff.2 ⟨h1, h2⟩
theorem caV_F {p : Piece} {b : Box} (hl : 0 < (lgP p).W) (hb : (lgP p).W * (lgP p).H < b.W * b.H) : caV p b = false := by
  obtain ⟨hp, h1, h2, hm⟩ := lgP_facts hl
  rw [caV_G hp]
  refine Bool.eq_false_iff.2 fun h => ?_
  obtain ⟨h3, h4⟩ := clrG_iff.1 h
  have := hm b h3 h4
  omega
theorem FnLargestClear_ok {A : Amb} {a : Option Addr} {n c : Nat} (h : Code A.h a n c) : Ctr Try.prog 4 #[.slice a n c] A [] (Val (.bool true)) := by
  refine Ctr.body (args := [_]) Try.func4 rfl Try.ntmps4 Try.results4 (by simp) ?_
  refine CJ.seq ?_
  refine CJ.region ?_
  refine LJ.yd rfl (Yd.asB rfl) ?_
  refine LJ.nil ?_
  refine CJ.seq ?_
  refine CJ.seq ?_
  refine CJ.region ?_
  refine LJ.yd rfl (Yd.mvS rfl) ?_
  refine LJ.yd rfl (Yd.len rfl) ?_
  refine LJ.splitD rfl (Yd.gtr rfl rfl) (fun h14 => ?_) (fun h14 => ?_)
  · refine LJ.nil ?_
    refine CJ.condT rfl ?_
    refine CJ.seq ?_
    refine CJ.region ?_
    refine LJ.yd rfl (Yd.asB rfl) ?_
    refine LJ.nil ?_
    refine CJ.ret ?_
    refine Fin.V (Res.one (ResV.tmp (v := .bool true) rfl)) ?_
    first
      | rfl
      | (exfalso; simp_all; done)
      | (refine congrArg Value.bool (decide_eq_true ?_); simp_all)
  · refine LJ.nil ?_
    refine CJ.condF rfl ?_
    refine CJ.skip ?_
    refine CJ.seq ?_
    refine CJ.region ?_
    refine LJ.yd rfl (Yd.mvS rfl) ?_
    refine LJ.call0 rfl (fun k hk dk => DrawLargestClear_ok h.up) ?_
    rintro _ _ ⟨p, pa, pc, rfl, rfl, hpw, hph, hpf⟩
    refine LJ.norm [_] rfl ?_
    refine LJ.alloc ([_, _, _, _] : List Value) rfl rfl (fun b1 => ?_)
    refine LJ.store (v := .agg #[_, _, _, _]) (us := [_, _, _, _]) 1 rfl rfl rfl rfl rfl rfl rfl rfl ?_
    refine LJ.nil ?_
    refine CJ.seq ?_
    refine CJ.region ?_
    refine LJ.yd rfl (Yd.loadG (us := [_, _, _, _]) 1 rfl rfl rfl rfl) ?_
    refine LJ.callV rfl (fun k hk dk => LargestClearI_ok (p := p) (Sts.lr hk dk 0 (by omega) rfl)) ?_
    refine LJ.yd rfl (Yd.mvU rfl) ?_
    refine LJ.yd rfl (Yd.extract rfl rfl) ?_
    refine LJ.split rfl (Yd.extract rfl rfl) (fun h21 => ?_) (fun h21 => ?_)
    · refine LJ.alloc ([_, _, _, _] : List Value) rfl rfl (fun b2 => ?_)
      refine LJ.store (v := .agg #[_, _, _, _]) (us := [_, _, _, _]) 2 rfl rfl rfl rfl rfl rfl rfl rfl ?_
      refine LJ.yd rfl (Yd.asB rfl) ?_
      refine LJ.nil ?_
      refine CJ.seq ?_
      refine CJ.region ?_
      refine LJ.yd rfl (Yd.loadG (us := [_, _, _, _]) 1 rfl rfl rfl rfl) ?_
      refine LJ.callV rfl (fun k hk dk => LargestClearS_ok (p := p) (Sts.lr hk dk 0 (by omega) rfl) (by unfold I64; omega) (by unfold I64; omega)) ?_
      refine LJ.yd rfl (Yd.mvU rfl) ?_
      refine LJ.yd rfl (Yd.extract rfl rfl) ?_
      refine LJ.yd rfl (Yd.extract rfl rfl) ?_
      refine LJ.alloc ([_, _, _, _] : List Value) rfl rfl (fun b3 => ?_)
      refine LJ.store (v := .agg #[_, _, _, _]) (us := [_, _, _, _]) 3 rfl rfl rfl rfl rfl rfl rfl rfl ?_
      refine LJ.yd rfl (Yd.asB rfl) ?_
      refine LJ.nil ?_
      refine CJ.seq ?_
      refine CJ.seq ?_
      refine CJ.region ?_
      refine LJ.yd rfl (Yd.loadG (us := [_, _, _, _]) 2 rfl rfl rfl rfl) ?_
      refine LJ.yd rfl (Yd.loadG (us := [_, _, _, _]) 3 rfl rfl rfl rfl) ?_
      refine LJ.callV rfl (fun k hk dk => equalBox_T _ (lgP p)) ?_
      refine LJ.yd rfl (Yd.not rfl) ?_
      refine LJ.yd rfl (Yd.mvB rfl) ?_
      refine LJ.gT rfl ?_
      refine LJ.yd rfl (Yd.mvB rfl) ?_
      refine LJ.gT rfl ?_
      refine LJ.yd rfl (Yd.mvB rfl) ?_
      refine LJ.gT rfl ?_
      refine LJ.splitN rfl (Yd.neqB rfl rfl) (fun h34 => ?_) (fun h34 => ?_)
      · refine LJ.yd rfl (Yd.pickFB rfl rfl) ?_
        refine LJ.yd rfl (Yd.mvB rfl) ?_
        refine LJ.gF rfl rfl ?_
        refine LJ.gF rfl rfl ?_
        refine LJ.yd rfl (Yd.pickTB rfl rfl) ?_
        refine LJ.nil ?_
        refine CJ.condT rfl ?_
        refine CJ.seq ?_
        refine CJ.region ?_
        refine LJ.yd rfl (Yd.loadG (us := [_, _, _, _]) 2 rfl rfl rfl rfl) ?_
        refine LJ.yd rfl (Yd.loadG (us := [_, _, _, _]) 3 rfl rfl rfl rfl) ?_
        refine LJ.callV rfl (fun k hk dk => equalBox_T _ (lgP p)) ?_
        refine LJ.yd rfl (Yd.mvB rfl) ?_
        refine LJ.gT rfl ?_
        refine LJ.yd rfl (Yd.mvB rfl) ?_
        refine LJ.gT rfl ?_
        refine LJ.yd rfl (Yd.mvB rfl) ?_
        refine LJ.gT rfl ?_
        refine LJ.yd rfl (Yd.eqlB rfl rfl) ?_
        refine LJ.yd rfl (Yd.pickTB rfl rfl) ?_
        refine LJ.yd rfl (Yd.asB rfl) ?_
        refine LJ.nil ?_
        refine CJ.ret ?_
        refine Fin.V (Res.one (ResV.tmp (v := .bool _) rfl)) ?_
        first
          | rfl
          | (exfalso; simp_all; done)
          | (refine congrArg Value.bool (decide_eq_true ?_); simp_all)
      · refine LJ.yd rfl (Yd.pickFB rfl rfl) ?_
        refine LJ.yd rfl (Yd.mvB rfl) ?_
        refine LJ.gT rfl ?_
        refine LJ.yd rfl (Yd.mvB rfl) ?_
        refine LJ.gT rfl ?_
        refine LJ.yd rfl (Yd.not rfl) ?_
        refine LJ.yd rfl (Yd.pickFB rfl rfl) ?_
        refine LJ.nil ?_
        refine CJ.condF rfl ?_
        refine CJ.skip ?_
        refine CJ.seq ?_
        refine CJ.seq ?_
        have hlw : 0 < (lgP p).W := of_decide_eq_true h21
        obtain ⟨hpo, hlg, _, _⟩ := lgP_facts hlw
        obtain ⟨_, _, hpb, _, _⟩ := pcOk_iff.1 hpo
        obtain ⟨g1, g2, g3, g4, g5, g6⟩ := hlg
        have hgar := area_i (a := (lgP p).W) (b := (lgP p).H) (by omega) (by omega) (by omega) (by omega)
        refine CJ.region ?_
        refine LJ.yd rfl (Yd.asI rfl) ?_
        refine LJ.nil ?_
        refine CJ.block ?_
        refine CJ.loopK [3, 4] Int (fun w => 1 ≤ w ∧ w ≤ 1000) (fun w => [(8, vI w)]) (fun w => (1000 - w).toNat) (1) ?_ ⟨rfl, trivial⟩ ?_
        · exact ⟨by omega, by omega⟩
        · rintro w σ ⟨hw1, hw2⟩
          refine CJ.seq ?_
          refine CJ.seq ?_
          refine CJ.region ?_
          refine LJ.yd rfl (Yd.mvI rfl) ?_
          refine LJ.yd rfl (Yd.fieldAddr rfl) ?_
          refine LJ.yd rfl (Yd.loadC 1 rfl rfl rfl) ?_
          refine LJ.splitD rfl (Yd.leq rfl rfl) (fun h51 => ?_) (fun h51 => ?_)
          · refine LJ.nil ?_
            refine CJ.condT rfl ?_
            refine CJ.skip ?_
            refine CJ.seq ?_
            refine CJ.block ?_
            refine CJ.seq ?_
            refine CJ.region ?_
            refine LJ.yd rfl (Yd.asI rfl) ?_
            refine LJ.nil ?_
            refine CJ.block ?_
            refine CJ.loopK [3, 4, 8, 48, 49, 50, 51] Int (fun hh => 1 ≤ hh ∧ hh ≤ 1000) (fun hh => [(9, vI hh)]) (fun hh => (1000 - hh).toNat) (1) ?_ ⟨rfl, trivial⟩ ?_
            · exact ⟨by omega, by omega⟩
            · rintro hh σ ⟨hh1, hh2⟩
              refine CJ.seq ?_
              refine CJ.seq ?_
              refine CJ.region ?_
              refine LJ.yd rfl (Yd.mvI rfl) ?_
              refine LJ.yd rfl (Yd.fieldAddr rfl) ?_
              refine LJ.yd rfl (Yd.loadC 1 rfl rfl rfl) ?_
              refine LJ.splitD rfl (Yd.leq rfl rfl) (fun h61 => ?_) (fun h61 => ?_)
              · refine LJ.nil ?_
                refine CJ.condT rfl ?_
                refine CJ.skip ?_
                refine CJ.seq ?_
                refine CJ.block ?_
                refine CJ.seq ?_
                refine CJ.region ?_
                refine LJ.yd rfl (Yd.loadG (us := [_, _, _, _]) 1 rfl rfl rfl rfl) ?_
                refine LJ.yd rfl (Yd.mvI rfl) ?_
                refine LJ.yd rfl (Yd.mvI rfl) ?_
                refine LJ.call0 rfl (fun k hk dk => FirstClearI_ok (p := p) (Sts.lr hk dk 0 (by omega) rfl)) ?_
                rintro _ _ ⟨r72, rfl, rfl⟩
                refine LJ.yd rfl (Yd.mvU rfl) ?_
                refine LJ.yd rfl (Yd.extract rfl rfl) ?_
                refine LJ.split rfl (Yd.extract rfl rfl) (fun h74 => ?_) (fun h74 => ?_)
                · refine LJ.alloc ([_, _, _, _] : List Value) rfl rfl (fun b4 => ?_)
                  refine LJ.store (v := .agg #[_, _, _, _]) (us := [_, _, _, _]) 4 rfl rfl rfl rfl rfl rfl rfl rfl ?_
                  refine LJ.yd rfl (Yd.asB rfl) ?_
                  refine LJ.nil ?_
                  refine CJ.seq ?_
                  have har := area_i (a := w) (b := hh) (by omega) (by omega) (by omega) (by omega)
                  refine CJ.region ?_
                  refine LJ.yd rfl (Yd.mvB rfl) ?_
                  refine LJ.yd rfl (Yd.mvB rfl) ?_
                  refine LJ.gT rfl ?_
                  refine LJ.yd rfl (Yd.mvI rfl) ?_
                  refine LJ.gT rfl ?_
                  refine LJ.yd rfl (Yd.mvI rfl) ?_
                  refine LJ.gT rfl ?_
                  refine LJ.yd rfl (Yd.mul rfl rfl (by unfold I64; omega)) ?_
                  refine LJ.gT rfl ?_
                  refine LJ.yd rfl (Yd.fieldAddr rfl) ?_
                  refine LJ.gT rfl ?_
                  refine LJ.yd rfl (Yd.loadC 2 rfl rfl rfl) ?_
                  refine LJ.gT rfl ?_
                  refine LJ.yd rfl (Yd.fieldAddr rfl) ?_
                  refine LJ.gT rfl ?_
                  refine LJ.yd rfl (Yd.loadC 2 rfl rfl rfl) ?_
                  refine LJ.gT rfl ?_
                  refine LJ.yd rfl (Yd.mul rfl rfl (by unfold I64; omega)) ?_
                  refine LJ.gT rfl ?_
                  refine LJ.yd rfl (Yd.cmpF (Yd.gtr rfl rfl) (by have := lgP_fits hlw h74; omega)) ?_
                  refine LJ.yd rfl (Yd.pickTB rfl rfl) ?_
                  refine LJ.nil ?_
                  refine CJ.condF rfl ?_
                  refine CJ.skip ?_
                  refine CJ.region ?_
                  refine LJ.yd rfl (Yd.mvI rfl) ?_
                  refine LJ.yd rfl (Yd.add rfl rfl (by unfold I64; omega)) ?_
                  refine LJ.yd rfl (Yd.fieldAddr rfl) ?_
                  refine LJ.yd rfl (Yd.loadC 1 rfl rfl rfl) ?_
                  refine LJ.yd rfl (Yd.quo rfl rfl (by omega) (by omega) (by unfold I64; omega)) ?_
                  refine LJ.yd rfl (Yd.add rfl rfl (by unfold I64; omega)) ?_
                  refine LJ.yd rfl (Yd.asI rfl) ?_
                  refine LJ.nil ?_
                  refine ⟨_, ?_, ⟨rfl, rfl, rfl, rfl, rfl, rfl, rfl, trivial⟩, ⟨rfl, trivial⟩, Ent.pick [0, 1, 2, 3] [4] rfl, ?_⟩
                  · exact ⟨by omega, by omega⟩
                  · first | omega | (dsimp only; omega) | (simp only []; omega)
                · refine LJ.alloc ([_, _, _, _] : List Value) rfl rfl (fun b5 => ?_)
                  refine LJ.store (v := .agg #[_, _, _, _]) (us := [_, _, _, _]) 4 rfl rfl rfl rfl rfl rfl rfl rfl ?_
                  refine LJ.yd rfl (Yd.asB rfl) ?_
                  refine LJ.nil ?_
                  refine CJ.seq ?_
                  have har := area_i (a := w) (b := hh) (by omega) (by omega) (by omega) (by omega)
                  refine CJ.region ?_
                  refine LJ.yd rfl (Yd.mvB rfl) ?_
                  refine LJ.yd rfl (Yd.mvB rfl) ?_
                  refine LJ.gF rfl rfl ?_
                  refine LJ.gF rfl rfl ?_
                  refine LJ.gF rfl rfl ?_
                  refine LJ.gF rfl rfl ?_
                  refine LJ.gF rfl rfl ?_
                  refine LJ.gF rfl rfl ?_
                  refine LJ.gF rfl rfl ?_
                  refine LJ.gF rfl rfl ?_
                  refine LJ.gF rfl rfl ?_
                  refine LJ.yd rfl (Yd.pickFB rfl rfl) ?_
                  refine LJ.nil ?_
                  refine CJ.condF rfl ?_
                  refine CJ.skip ?_
                  refine CJ.region ?_
                  refine LJ.yd rfl (Yd.mvI rfl) ?_
                  refine LJ.yd rfl (Yd.add rfl rfl (by unfold I64; omega)) ?_
                  refine LJ.yd rfl (Yd.fieldAddr rfl) ?_
                  refine LJ.yd rfl (Yd.loadC 1 rfl rfl rfl) ?_
                  refine LJ.yd rfl (Yd.quo rfl rfl (by omega) (by omega) (by unfold I64; omega)) ?_
                  refine LJ.yd rfl (Yd.add rfl rfl (by unfold I64; omega)) ?_
                  refine LJ.yd rfl (Yd.asI rfl) ?_
                  refine LJ.nil ?_
                  refine ⟨_, ?_, ⟨rfl, rfl, rfl, rfl, rfl, rfl, rfl, trivial⟩, ⟨rfl, trivial⟩, Ent.pick [0, 1, 2, 3] [4] rfl, ?_⟩
                  · exact ⟨by omega, by omega⟩
                  · first | omega | (dsimp only; omega) | (simp only []; omega)
              · refine LJ.nil ?_
                refine CJ.condF rfl ?_
                refine CJ.exit ?_
                refine CJ.region ?_
                refine LJ.yd rfl (Yd.mvI rfl) ?_
                refine LJ.yd rfl (Yd.add rfl rfl (by unfold I64; omega)) ?_
                refine LJ.yd rfl (Yd.fieldAddr rfl) ?_
                refine LJ.yd rfl (Yd.loadC 1 rfl rfl rfl) ?_
                refine LJ.yd rfl (Yd.quo rfl rfl (by omega) (by omega) (by unfold I64; omega)) ?_
                refine LJ.yd rfl (Yd.add rfl rfl (by unfold I64; omega)) ?_
                refine LJ.yd rfl (Yd.asI rfl) ?_
                refine LJ.nil ?_
                refine ⟨_, ?_, ⟨rfl, rfl, trivial⟩, ⟨rfl, trivial⟩, Ent.refl _, ?_⟩
                · exact ⟨by omega, by omega⟩
                · first | omega | (dsimp only; omega) | (simp only []; omega)
          · refine LJ.nil ?_
            refine CJ.condF rfl ?_
            refine CJ.exit ?_
            refine CJ.seq ?_
            refine CJ.region ?_
            refine LJ.yd rfl (Yd.loadG (us := [_, _, _, _]) 1 rfl rfl rfl rfl) ?_
            refine LJ.yd rfl (Yd.loadG (us := [_, _, _, _]) 2 rfl rfl rfl rfl) ?_
            refine LJ.callV rfl (fun k hk dk => (caV_T hlw) ▸ ClearAtI_ok (p := p) (Sts.lr hk dk 0 (by omega) rfl) (lgP p)) ?_
            refine LJ.yd rfl (Yd.mvB rfl) ?_
            refine LJ.gT rfl ?_
            refine LJ.yd rfl (Yd.loadG (us := [_, _, _, _]) 1 rfl rfl rfl rfl) ?_
            refine LJ.gT rfl ?_
            refine LJ.yd rfl (Yd.fieldAddr rfl) ?_
            refine LJ.gT rfl ?_
            refine LJ.yd rfl (Yd.loadC 2 rfl rfl rfl) ?_
            refine LJ.gT rfl ?_
            refine LJ.yd rfl (Yd.fieldAddr rfl) ?_
            refine LJ.gT rfl ?_
            refine LJ.yd rfl (Yd.loadC 2 rfl rfl rfl) ?_
            refine LJ.gT rfl ?_
            refine LJ.yd rfl (Yd.fieldAddr rfl) ?_
            refine LJ.gT rfl ?_
            refine LJ.yd rfl (Yd.loadC 2 rfl rfl rfl) ?_
            refine LJ.gT rfl ?_
            refine LJ.yd rfl (Yd.add rfl rfl (by unfold I64; omega)) ?_
            refine LJ.gT rfl ?_
            refine LJ.yd rfl (Yd.fieldAddr rfl) ?_
            refine LJ.gT rfl ?_
            refine LJ.yd rfl (Yd.loadC 2 rfl rfl rfl) ?_
            refine LJ.gT rfl ?_
            refine LJ.yd rfl (Yd.build (cs := [_, _, _, _]) rfl) ?_
            refine LJ.gT rfl ?_
            refine LJ.callV rfl (fun k hk dk => (caV_F (b := ⟨(lgP p).X, (lgP p).Y, (lgP p).W + 1, (lgP p).H⟩) hlw (by simp only; rw [Int.add_mul]; omega)) ▸ ClearAtI_ok (p := p) (Sts.lr hk dk 0 (by omega) rfl) ⟨(lgP p).X, (lgP p).Y, (lgP p).W + 1, (lgP p).H⟩) ?_
            refine LJ.gT rfl ?_
            refine LJ.yd rfl (Yd.not rfl) ?_
            refine LJ.yd rfl (Yd.pickTB rfl rfl) ?_
            refine LJ.yd rfl (Yd.mvB rfl) ?_
            refine LJ.gT rfl ?_
            refine LJ.yd rfl (Yd.loadG (us := [_, _, _, _]) 1 rfl rfl rfl rfl) ?_
            refine LJ.gT rfl ?_
            refine LJ.yd rfl (Yd.fieldAddr rfl) ?_
            refine LJ.gT rfl ?_
            refine LJ.yd rfl (Yd.loadC 2 rfl rfl rfl) ?_
            refine LJ.gT rfl ?_
            refine LJ.yd rfl (Yd.fieldAddr rfl) ?_
            refine LJ.gT rfl ?_
            refine LJ.yd rfl (Yd.loadC 2 rfl rfl rfl) ?_
            refine LJ.gT rfl ?_
            refine LJ.yd rfl (Yd.fieldAddr rfl) ?_
            refine LJ.gT rfl ?_
            refine LJ.yd rfl (Yd.loadC 2 rfl rfl rfl) ?_
            refine LJ.gT rfl ?_
            refine LJ.yd rfl (Yd.fieldAddr rfl) ?_
            refine LJ.gT rfl ?_
            refine LJ.yd rfl (Yd.loadC 2 rfl rfl rfl) ?_
            refine LJ.gT rfl ?_
            refine LJ.yd rfl (Yd.add rfl rfl (by unfold I64; omega)) ?_
            refine LJ.gT rfl ?_
            refine LJ.yd rfl (Yd.build (cs := [_, _, _, _]) rfl) ?_
            refine LJ.gT rfl ?_
            refine LJ.callV rfl (fun k hk dk => (caV_F (b := ⟨(lgP p).X, (lgP p).Y, (lgP p).W, (lgP p).H + 1⟩) hlw (by simp only; rw [Int.mul_add]; omega)) ▸ ClearAtI_ok (p := p) (Sts.lr hk dk 0 (by omega) rfl) ⟨(lgP p).X, (lgP p).Y, (lgP p).W, (lgP p).H + 1⟩) ?_
            refine LJ.gT rfl ?_
            refine LJ.yd rfl (Yd.not rfl) ?_
            refine LJ.yd rfl (Yd.pickTB rfl rfl) ?_
            refine LJ.yd rfl (Yd.asB rfl) ?_
            refine LJ.nil ?_
            refine CJ.ret ?_
            refine Fin.V (Res.one (ResV.tmp (v := .bool true) rfl)) ?_
            first
              | rfl
              | (exfalso; simp_all; done)
              | (refine congrArg Value.bool (decide_eq_true ?_); simp_all)
    · refine LJ.alloc ([_, _, _, _] : List Value) rfl rfl (fun b6 => ?_)
      refine LJ.store (v := .agg #[_, _, _, _]) (us := [_, _, _, _]) 2 rfl rfl rfl rfl rfl rfl rfl rfl ?_
      refine LJ.yd rfl (Yd.asB rfl) ?_
      refine LJ.nil ?_
      refine CJ.seq ?_
      refine CJ.region ?_
      refine LJ.yd rfl (Yd.loadG (us := [_, _, _, _]) 1 rfl rfl rfl rfl) ?_
      refine LJ.callV rfl (fun k hk dk => LargestClearS_ok (p := p) (Sts.lr hk dk 0 (by omega) rfl) (by unfold I64; omega) (by unfold I64; omega)) ?_
      refine LJ.yd rfl (Yd.mvU rfl) ?_
      refine LJ.yd rfl (Yd.extract rfl rfl) ?_
      refine LJ.yd rfl (Yd.extract rfl rfl) ?_
      refine LJ.alloc ([_, _, _, _] : List Value) rfl rfl (fun b7 => ?_)
      refine LJ.store (v := .agg #[_, _, _, _]) (us := [_, _, _, _]) 3 rfl rfl rfl rfl rfl rfl rfl rfl ?_
      refine LJ.yd rfl (Yd.asB rfl) ?_
      refine LJ.nil ?_
      refine CJ.seq ?_
      refine CJ.seq ?_
      refine CJ.region ?_
      refine LJ.yd rfl (Yd.loadG (us := [_, _, _, _]) 2 rfl rfl rfl rfl) ?_
      refine LJ.yd rfl (Yd.loadG (us := [_, _, _, _]) 3 rfl rfl rfl rfl) ?_
      refine LJ.callV rfl (fun k hk dk => equalBox_T _ (lgP p)) ?_
      refine LJ.yd rfl (Yd.not rfl) ?_
      refine LJ.yd rfl (Yd.mvB rfl) ?_
      refine LJ.gT rfl ?_
      refine LJ.yd rfl (Yd.mvB rfl) ?_
      refine LJ.gT rfl ?_
      refine LJ.yd rfl (Yd.mvB rfl) ?_
      refine LJ.gT rfl ?_
      refine LJ.splitN rfl (Yd.neqB rfl rfl) (fun h34 => ?_) (fun h34 => ?_)
      · refine LJ.yd rfl (Yd.pickFB rfl rfl) ?_
        refine LJ.yd rfl (Yd.mvB rfl) ?_
        refine LJ.gF rfl rfl ?_
        refine LJ.gF rfl rfl ?_
        refine LJ.yd rfl (Yd.pickTB rfl rfl) ?_
        refine LJ.nil ?_
        refine CJ.condT rfl ?_
        refine CJ.seq ?_
        refine CJ.region ?_
        refine LJ.yd rfl (Yd.loadG (us := [_, _, _, _]) 2 rfl rfl rfl rfl) ?_
        refine LJ.yd rfl (Yd.loadG (us := [_, _, _, _]) 3 rfl rfl rfl rfl) ?_
        refine LJ.callV rfl (fun k hk dk => equalBox_T _ (lgP p)) ?_
        refine LJ.yd rfl (Yd.mvB rfl) ?_
        refine LJ.gT rfl ?_
        refine LJ.yd rfl (Yd.mvB rfl) ?_
        refine LJ.gT rfl ?_
        refine LJ.yd rfl (Yd.mvB rfl) ?_
        refine LJ.gT rfl ?_
        refine LJ.yd rfl (Yd.eqlB rfl rfl) ?_
        refine LJ.yd rfl (Yd.pickTB rfl rfl) ?_
        refine LJ.yd rfl (Yd.asB rfl) ?_
        refine LJ.nil ?_
        refine CJ.ret ?_
        refine Fin.V (Res.one (ResV.tmp (v := .bool _) rfl)) ?_
        first
          | rfl
          | (exfalso; simp_all; done)
          | (refine congrArg Value.bool (decide_eq_true ?_); simp_all)
      · refine LJ.yd rfl (Yd.pickFB rfl rfl) ?_
        refine LJ.yd rfl (Yd.mvB rfl) ?_
        refine LJ.gT rfl ?_
        refine LJ.yd rfl (Yd.mvB rfl) ?_
        refine LJ.gT rfl ?_
        refine LJ.yd rfl (Yd.not rfl) ?_
        refine LJ.yd rfl (Yd.pickFB rfl rfl) ?_
        refine LJ.nil ?_
        refine CJ.condT rfl ?_
        refine CJ.seq ?_
        refine CJ.region ?_
        refine LJ.yd rfl (Yd.loadG (us := [_, _, _, _]) 2 rfl rfl rfl rfl) ?_
        refine LJ.yd rfl (Yd.loadG (us := [_, _, _, _]) 3 rfl rfl rfl rfl) ?_
        refine LJ.callV rfl (fun k hk dk => equalBox_T _ (lgP p)) ?_
        refine LJ.yd rfl (Yd.mvB rfl) ?_
        refine LJ.gT rfl ?_
        refine LJ.yd rfl (Yd.mvB rfl) ?_
        refine LJ.gT rfl ?_
        refine LJ.yd rfl (Yd.mvB rfl) ?_
        refine LJ.gT rfl ?_
        refine LJ.yd rfl (Yd.eqlB rfl rfl) ?_
        refine LJ.yd rfl (Yd.pickTB rfl rfl) ?_
        refine LJ.yd rfl (Yd.asB rfl) ?_
        refine LJ.nil ?_
        refine CJ.ret ?_
        refine Fin.V (Res.one (ResV.tmp (v := .bool _) rfl)) ?_
        first
          | rfl
          | (exfalso; simp_all; done)
          | (refine congrArg Value.bool (decide_eq_true ?_); simp_all)
theorem FnLargestClearNone_ok {A : Amb} {a : Option Addr} {n c : Nat} (h : Code A.h a n c) : Ctr Try.prog 7 #[.slice a n c] A [] (Val (.bool true)) := by
  refine Ctr.body (args := [_]) Try.func7 rfl Try.ntmps7 Try.results7 (by simp) ?_
  refine CJ.seq ?_
  refine CJ.region ?_
  refine LJ.yd rfl (Yd.asB rfl) ?_
  refine LJ.nil ?_
  refine CJ.seq ?_
  refine CJ.seq ?_
  refine CJ.region ?_
  refine LJ.yd rfl (Yd.mvS rfl) ?_
  refine LJ.yd rfl (Yd.len rfl) ?_
  refine LJ.splitD rfl (Yd.gtr rfl rfl) (fun h10 => ?_) (fun h10 => ?_)
  · refine LJ.nil ?_
    refine CJ.condT rfl ?_
    refine CJ.seq ?_
    refine CJ.region ?_
    refine LJ.yd rfl (Yd.asB rfl) ?_
    refine LJ.nil ?_
    refine CJ.ret ?_
    refine Fin.V (Res.one (ResV.tmp (v := .bool true) rfl)) ?_
    first
      | rfl
      | (exfalso; simp_all; done)
      | (refine congrArg Value.bool (decide_eq_true ?_); simp_all; done)
      | (refine congrArg Value.bool (decide_eq_true ?_); rw [← hcov]; first | exact h17.symm | simp_all)
  · refine LJ.nil ?_
    refine CJ.condF rfl ?_
    refine CJ.skip ?_
    refine CJ.seq ?_
    refine CJ.region ?_
    refine LJ.yd rfl (Yd.mvS rfl) ?_
    refine LJ.call0 rfl (fun k hk dk => DrawLargestClear_ok h.up) ?_
    rintro _ _ ⟨p, pa, pc, rfl, rfl, hpw, hph, hpf⟩
    refine LJ.norm [_] rfl ?_
    refine LJ.alloc ([_, _, _, _] : List Value) rfl rfl (fun b1 => ?_)
    refine LJ.store (v := .agg #[_, _, _, _]) (us := [_, _, _, _]) 1 rfl rfl rfl rfl rfl rfl rfl rfl ?_
    refine LJ.nil ?_
    refine CJ.seq ?_
    refine CJ.region ?_
    refine LJ.yd rfl (Yd.loadG (us := [_, _, _, _]) 1 rfl rfl rfl rfl) ?_
    refine LJ.callV rfl (fun k hk dk => LargestClearI_ok (p := p) (Sts.lr hk dk 0 (by omega) rfl)) ?_
    refine LJ.yd rfl (Yd.mvU rfl) ?_
    refine LJ.yd rfl (Yd.extract rfl rfl) ?_
    refine LJ.yd rfl (Yd.extract rfl rfl) ?_
    refine LJ.alloc ([_, _, _, _] : List Value) rfl rfl (fun b2 => ?_)
    refine LJ.store (v := .agg #[_, _, _, _]) (us := [_, _, _, _]) 2 rfl rfl rfl rfl rfl rfl rfl rfl ?_
    refine LJ.yd rfl (Yd.asB rfl) ?_
    refine LJ.nil ?_
    refine CJ.seq ?_
    refine CJ.region ?_
    refine LJ.yd rfl (Yd.loadG (us := [_, _, _, _]) 1 rfl rfl rfl rfl) ?_
    refine LJ.callV rfl (fun k hk dk => LargestClearS_ok (p := p) (Sts.lr hk dk 0 (by omega) rfl) (by unfold I64; omega) (by unfold I64; omega)) ?_
    refine LJ.yd rfl (Yd.mvU rfl) ?_
    refine LJ.yd rfl (Yd.extract rfl rfl) ?_
    refine LJ.yd rfl (Yd.extract rfl rfl) ?_
    refine LJ.alloc ([_, _, _, _] : List Value) rfl rfl (fun b3 => ?_)
    refine LJ.store (v := .agg #[_, _, _, _]) (us := [_, _, _, _]) 3 rfl rfl rfl rfl rfl rfl rfl rfl ?_
    refine LJ.yd rfl (Yd.asB rfl) ?_
    refine LJ.nil ?_
    refine CJ.seq ?_
    refine CJ.seq ?_
    refine CJ.region ?_
    refine LJ.yd rfl (Yd.loadG (us := [_, _, _, _]) 2 rfl rfl rfl rfl) ?_
    refine LJ.yd rfl (Yd.loadG (us := [_, _, _, _]) 3 rfl rfl rfl rfl) ?_
    refine LJ.callV rfl (fun k hk dk => equalBox_T _ (lgP p)) ?_
    refine LJ.yd rfl (Yd.not rfl) ?_
    refine LJ.yd rfl (Yd.mvB rfl) ?_
    refine LJ.gT rfl ?_
    refine LJ.yd rfl (Yd.mvB rfl) ?_
    refine LJ.gT rfl ?_
    refine LJ.yd rfl (Yd.mvB rfl) ?_
    refine LJ.gT rfl ?_
    refine LJ.splitN rfl (Yd.neqB rfl rfl) (fun h30 => ?_) (fun h30 => ?_)
    · refine LJ.yd rfl (Yd.pickFB rfl rfl) ?_
      refine LJ.yd rfl (Yd.mvB rfl) ?_
      refine LJ.gF rfl rfl ?_
      refine LJ.gF rfl rfl ?_
      refine LJ.gF rfl rfl ?_
      refine LJ.yd rfl (Yd.pickTB rfl rfl) ?_
      refine LJ.nil ?_
      refine CJ.condT rfl ?_
      refine CJ.seq ?_
      refine CJ.region ?_
      refine LJ.yd rfl (Yd.loadG (us := [_, _, _, _]) 2 rfl rfl rfl rfl) ?_
      refine LJ.yd rfl (Yd.loadG (us := [_, _, _, _]) 3 rfl rfl rfl rfl) ?_
      refine LJ.callV rfl (fun k hk dk => equalBox_T _ (lgP p)) ?_
      refine LJ.yd rfl (Yd.mvB rfl) ?_
      refine LJ.gT rfl ?_
      refine LJ.yd rfl (Yd.mvB rfl) ?_
      refine LJ.gT rfl ?_
      refine LJ.yd rfl (Yd.mvB rfl) ?_
      refine LJ.gT rfl ?_
      refine LJ.yd rfl (Yd.eqlB rfl rfl) ?_
      refine LJ.yd rfl (Yd.pickTB rfl rfl) ?_
      refine LJ.yd rfl (Yd.asB rfl) ?_
      refine LJ.nil ?_
      refine CJ.ret ?_
      refine Fin.V (Res.one (ResV.tmp (v := .bool _) rfl)) ?_
      first
        | rfl
        | (exfalso; simp_all; done)
        | (refine congrArg Value.bool (decide_eq_true ?_); simp_all; done)
        | (refine congrArg Value.bool (decide_eq_true ?_); rw [← hcov]; first | exact h17.symm | simp_all)
    · refine LJ.yd rfl (Yd.pickFB rfl rfl) ?_
      refine LJ.yd rfl (Yd.mvB rfl) ?_
      refine LJ.gT rfl ?_
      refine LJ.yd rfl (Yd.loadG (us := [_, _, _, _]) 1 rfl rfl rfl rfl) ?_
      refine LJ.gT rfl ?_
      refine LJ.callB rfl (fun k hk dk => ValidPieceI_ok (p := p) (Sts.lr hk dk 0 (by omega) rfl)) (fun h34 => ?_) (fun h34 => ?_)
      · refine LJ.gT rfl ?_
        refine LJ.yd rfl (Yd.not rfl) ?_
        refine LJ.yd rfl (Yd.pickFB rfl rfl) ?_
        refine LJ.nil ?_
        refine CJ.condF rfl ?_
        refine CJ.skip ?_
        refine CJ.seq ?_
        obtain ⟨_, _, hpb, _, _⟩ := pcOk_iff.1 h34
        have hpar := area_i (a := p.w) (b := p.h) (by omega) (by omega) (by omega) (by omega)
        have hcov := lgP_cov h34
        refine CJ.regionD [0, 1, 2, 3] [] (by kernel_rfl) rfl ?_
        refine DJ.norm [_, _, _, _] [] rfl rfl ?_
        refine DJ.yd 0 rfl (by kernel_rfl) (by kernel_rfl) (by kernel_rfl) rfl rfl (Yd.mvB rfl) ?_
        refine DJ.yd 1 rfl (by kernel_rfl) (by kernel_rfl) (by kernel_rfl) rfl rfl (Yd.fieldAddr rfl) ?_
        refine DJ.yd 2 rfl (by kernel_rfl) (by kernel_rfl) (by kernel_rfl) rfl rfl (Yd.loadC 1 rfl rfl rfl) ?_
        refine DJ.yd 4 rfl (by kernel_rfl) (by kernel_rfl) (by kernel_rfl) rfl rfl (Yd.fieldAddr rfl) ?_
        refine DJ.yd 5 rfl (by kernel_rfl) (by kernel_rfl) (by kernel_rfl) rfl rfl (Yd.loadC 1 rfl rfl rfl) ?_
        refine DJ.yd 6 rfl (by kernel_rfl) (by kernel_rfl) (by kernel_rfl) rfl rfl (Yd.fieldAddr rfl) ?_
        refine DJ.yd 7 rfl (by kernel_rfl) (by kernel_rfl) (by kernel_rfl) rfl rfl (Yd.loadC 1 rfl rfl rfl) ?_
        refine DJ.yd 8 rfl (by kernel_rfl) (by kernel_rfl) (by kernel_rfl) rfl rfl (Yd.mul rfl rfl (by unfold I64; omega)) ?_
        refine DJ.one (i := 3) (by kernel_rfl) ?_
        refine DO.callV rfl rfl rfl (fun k0 hk0 dk0 k hk dk => CoverArea_ok ((Sts.lr hk0 dk0 0 (by omega) rfl).up) (fun f hf => ((pcOk_iff.1 h34).2.2.2.2 f hf).1) (by omega)) ?_
        refine DJ.yd 9 rfl (by kernel_rfl) (by kernel_rfl) (by kernel_rfl) rfl rfl (Yd.lss rfl rfl) ?_
        refine DJ.yd 10 rfl (by kernel_rfl) (by kernel_rfl) (by kernel_rfl) rfl rfl (Yd.eqlB rfl rfl) ?_
        refine DJ.yd 11 rfl (by kernel_rfl) (by kernel_rfl) (by kernel_rfl) rfl rfl (Yd.asB rfl) ?_
        refine DJ.done (by kernel_rfl) ?_
        refine CJ.ret ?_
        refine Fin.V (Res.one (ResV.tmp (v := .bool _) rfl)) ?_
        first
          | rfl
          | (exfalso; simp_all; done)
          | (refine congrArg Value.bool (decide_eq_true ?_); simp_all; done)
          | (refine congrArg Value.bool (decide_eq_true ?_); rw [← hcov]; first | exact h17.symm | simp_all)
      · refine LJ.gT rfl ?_
        refine LJ.yd rfl (Yd.not rfl) ?_
        refine LJ.yd rfl (Yd.pickFB rfl rfl) ?_
        refine LJ.nil ?_
        refine CJ.condT rfl ?_
        refine CJ.seq ?_
        refine CJ.region ?_
        refine LJ.yd rfl (Yd.loadG (us := [_, _, _, _]) 2 rfl rfl rfl rfl) ?_
        refine LJ.yd rfl (Yd.loadG (us := [_, _, _, _]) 3 rfl rfl rfl rfl) ?_
        refine LJ.callV rfl (fun k hk dk => equalBox_T _ (lgP p)) ?_
        refine LJ.yd rfl (Yd.mvB rfl) ?_
        refine LJ.gT rfl ?_
        refine LJ.yd rfl (Yd.mvB rfl) ?_
        refine LJ.gT rfl ?_
        refine LJ.yd rfl (Yd.mvB rfl) ?_
        refine LJ.gT rfl ?_
        refine LJ.yd rfl (Yd.eqlB rfl rfl) ?_
        refine LJ.yd rfl (Yd.pickTB rfl rfl) ?_
        refine LJ.yd rfl (Yd.asB rfl) ?_
        refine LJ.nil ?_
        refine CJ.ret ?_
        refine Fin.V (Res.one (ResV.tmp (v := .bool _) rfl)) ?_
        first
          | rfl
          | (exfalso; simp_all; done)
          | (refine congrArg Value.bool (decide_eq_true ?_); simp_all; done)
          | (refine congrArg Value.bool (decide_eq_true ?_); rw [← hcov]; first | exact h17.symm | simp_all)
end Go.Proofs.Ytnfnidplhkfamaa
