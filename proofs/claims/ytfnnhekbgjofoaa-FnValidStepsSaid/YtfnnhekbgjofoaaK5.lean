/-
  Contracts: orders in which cuts can be made.
-/
import Derived.Test.YtfnnhekbgjofoaaK4
namespace Go.Proofs.Ytfnnhekbgjofoaa
open Go
set_option maxRecDepth 20000
set_option maxHeartbeats 1000000

def mkB (done : List Int) : List Bool := (List.range 255).map fun (i : Nat) => decide ((i : Int) ∈ done)
theorem mkB_len (d : List Int) : (mkB d).length = 255 := by simp [mkB]
theorem mkB_get {d : List Int} {n : Int} {u : Bool} (h0 : 0 ≤ n) (h : (mkB d)[n.toNat]? = some u) : u = decide (n ∈ d) := by
  obtain ⟨m, rfl⟩ := Int.eq_ofNat_of_zero_le h0
  have hm : m < 255 := by have := ltC h; rw [mkB_len] at this; simpa using this
  simp [mkB, hm] at h
  rw [← h]
theorem mkB_set {d : List Int} {n : Int} (h0 : 0 ≤ n) : (mkB d).set n.toNat true = mkB (d ++ [n]) := by
  obtain ⟨m, rfl⟩ := Int.eq_ofNat_of_zero_le h0
  apply List.ext_getElem?
  intro i
  rw [List.getElem?_set]
  by_cases hi : i < 255
  · simp only [mkB, List.length_map, List.length_range, List.getElem?_map, List.getElem?_range hi, Option.map_some, Int.toNat_natCast]
    split
    · rename_i e; subst e; rw [if_pos hi]; simp
    · rename_i e; simp; omega
  · simp only [mkB, List.length_map, List.length_range, List.getElem?_map, List.getElem?_eq_none (l := List.range 255) (i := i) (by simp; omega), Option.map_none, Int.toNat_natCast]
    split
    · rw [if_neg (by omega)]
    · rfl
theorem mkB_nil : mkB [] = List.replicate 255 false := by simp [mkB, List.map_const']
theorem begOk_dropC {K : List (Int × Int)} {s : List Int} {k : Nat} {n : Int} (h : s[k]? = some n) : begOk K (s.take k) (s.drop k) = (okStep K (s.take k) n && begOk K (s.take (k + 1)) (s.drop (k + 1))) := by
  rw [dropC h, begOk, takeC h]
theorem begOk_end {K : List (Int × Int)} {s : List Int} {k : Nat} (h : s.length ≤ k) : begOk K (s.take k) (s.drop k) = true := by rw [List.drop_of_length_le h]; rfl
/-- a cut that is found: its place, and what is above it -/
theorem step_facts {K : List (Int × Int)} (hK : KOk K) {n : Int} (h : ¬ plc n (K.map Prod.fst) 0 < 0) : ∃ j : Nat, plc n (K.map Prod.fst) 0 = j ∧ K[j]? = some (n, abv K n) ∧ n ∈ K.map Prod.fst ∧ 0 ≤ n ∧ n < 255 ∧ -1 ≤ abv K n ∧ abv K n < 255 := by
  obtain ⟨j, h1, h2⟩ := (abv_plc n K 0).resolve_left (by omega)
  have hm := List.mem_of_getElem? h2
  have hu := hK.up _ hm
  exact ⟨j, by rw [h1, Nat.zero_add], h2, List.mem_map_of_mem (f := Prod.fst) hm, by simp only at hu; omega, by simp only at hu; omega, by simp only at hu; omega, by simp only at hu; omega⟩
theorem okStep_F {K : List (Int × Int)} {d : List Int} {n : Int} (h : n ∉ K.map Prod.fst ∨ n ∈ d ∨ (0 ≤ abv K n ∧ abv K n ∉ d)) : okStep K d n = false := by
  refine Bool.eq_false_iff.2 fun h2 => ?_
  obtain ⟨h3, h4, h5⟩ := okStep_iff.1 h2
  rcases h with h | h | h
  · exact h h3
  · exact h4 h
  · rcases h5 with h5 | h5
    · omega
    · exact h.2 h5
theorem beginsOrder_ok {A : Amb} {v w : Value} {K : List (Int × Int)} {s : List Int} (hK : KOk K) (hl : RdL encK 2 A.h v K) (hs : RdL encI 1 A.h w s) : Ctr Try.prog 62 #[v, w] A [] (Val (.bool (begOk K [] s))) := by
  have hkl := hK.len
  obtain ⟨la, lc, rfl, hlb, hl⟩ := hl.un
  obtain ⟨sa, sc, rfl, hsb, hs⟩ := hs.un
  refine Ctr.body (args := [_, _]) Try.func62 rfl Try.ntmps62 Try.results62 (by simp) ?_
  refine CJ.seq ?_
  refine CJ.region ?_
  refine LJ.yd rfl (Yd.asB rfl) ?_
  refine LJ.nil ?_
  refine CJ.seq ?_
  refine CJ.region ?_
  refine LJ.alloc ((List.replicate 255 false).map fun u => .bool u) (by simp [Value.cells]) rfl (fun b1 => ?_)
  refine LJ.norm [_] rfl ?_
  refine LJ.nil ?_
  refine CJ.seq ?_
  refine CJ.seq ?_
  refine CJ.region ?_
  refine LJ.yd rfl (Yd.mvS rfl) ?_
  refine LJ.yd rfl (Yd.len rfl) ?_
  refine LJ.yd rfl (Yd.mvI rfl) ?_
  refine LJ.nil ?_
  refine CJ.block ?_
  refine CJ.norm [Cel b1 95 ((mkB (s.take 0)).map fun u => .bool u)] rfl ?_
  refine CJ.loopF [0, 5, 10, 11] Nat (fun k => k ≤ s.length ∧ begOk K (s.take k) (s.drop k) = begOk K [] s) (fun k => [(12, vI k)]) (fun k => [Cel b1 95 ((mkB (s.take k)).map fun u => .bool u)]) (fun k => s.length - k) (0) [] [] [0] rfl rfl rfl ?_ ⟨rfl, trivial⟩ ?_
  · exact ⟨by omega, by rfl⟩
  · rintro k σ ⟨hk1, hi1⟩
    refine CJ.norm [_] rfl ?_
    refine CJ.seq ?_
    refine CJ.region ?_
    refine LJ.splitD rfl (Yd.lss rfl rfl) (fun h13 => ?_) (fun h13 => ?_)
    · refine LJ.nil ?_
      refine CJ.seq ?_
      refine CJ.condT rfl ?_
      refine CJ.skip ?_
      refine CJ.seq ?_
      refine CJ.block ?_
      refine CJ.seq ?_
      refine CJ.region ?_
      refine LJ.idxA rfl hs rfl rfl (by omega) (by first | rfl | omega | (simp; done) | (simp; omega) | (simp [upN_len]; omega) | (simp [idxBy_len]; omega) | (simp [marks_len]; omega) | (simp [upN_len]; done) | (simp [idxBy_len]; done) | (simp [marks_len]; done) | (simp at *; omega)) (fun ib14 io14 ia14 ir14 => ?_)
      refine LJ.ldA 0 (fun u => vI u) (fun _ => rfl) ir14 rfl rfl rfl (by first | rfl | omega | (simp; done) | (simp; omega) | (simp [upN_len]; omega) | (simp [idxBy_len]; omega) | (simp [marks_len]; omega) | (simp [upN_len]; done) | (simp [idxBy_len]; done) | (simp [marks_len]; done) | (simp at *; omega)) (fun u15 hu15 => ?_)
      try simp only [Int.toNat_natCast] at hu15
      refine LJ.yd rfl (Yd.asI rfl) ?_
      refine LJ.nil ?_
      refine CJ.seq ?_
      refine CJ.region ?_
      refine LJ.yd rfl (Yd.mvS rfl) ?_
      refine LJ.yd rfl (Yd.mvI rfl) ?_
      refine LJ.callV rfl (fun k hk dk => findKnot_ok (RdRow.up hl)) ?_
      refine LJ.yd rfl (Yd.asI rfl) ?_
      refine LJ.nil ?_
      refine CJ.seq ?_
      refine CJ.seq ?_
      refine CJ.region ?_
      refine LJ.yd rfl (Yd.mvI rfl) ?_
      refine LJ.splitD rfl (Yd.lss rfl rfl) (fun h20 => ?_) (fun h20 => ?_)
      · refine LJ.yd rfl (Yd.mvB rfl) ?_
        refine LJ.gF rfl rfl ?_
        refine LJ.gF rfl rfl ?_
        refine LJ.gF rfl rfl ?_
        refine LJ.yd rfl (Yd.pickTB rfl rfl) ?_
        refine LJ.nil ?_
        refine CJ.condT rfl ?_
        refine CJ.seq ?_
        refine CJ.region ?_
        refine LJ.yd rfl (Yd.asB rfl) ?_
        refine LJ.nil ?_
        refine CJ.ret ?_
        refine Fin.V (Res.one (ResV.tmp (v := .bool false) rfl)) ?_
        refine congrArg Value.bool (Eq.symm ?_)
        first
          | (rw [← hi1]; exact begOk_end (by omega))
          | (rw [← hi1, begOk_dropC hu15, okStep_F (.inl (plc_mem.1 h20)), Bool.false_and]; done)
          | (obtain ⟨j, hf1, hf2, hf3, hf4, hf5, hf6, hf7⟩ := step_facts hK h20
             rw [← hi1, begOk_dropC hu15, okStep_F (.inr (.inl (of_decide_eq_true (by rw [← mkB_get hf4 hu24]; exact h24)))), Bool.false_and]; done)
          | (rw [← hi1, begOk_dropC hu15, okStep_F (.inr (.inr ⟨by omega, fun h => by rw [mkB_get (by omega) hu36, decide_eq_true h] at h36; cases h36⟩)), Bool.false_and])
      · refine LJ.yd rfl (Yd.mvB rfl) ?_
        refine LJ.gT rfl ?_
        refine LJ.yd rfl (Yd.mvI rfl) ?_
        refine LJ.gT rfl ?_
        refine LJ.yd rfl (Yd.idxArr rfl rfl (by obtain ⟨_, _, _, _, _, _, _⟩ := step_facts hK h20; omega) (by obtain ⟨_, _, _, _, _, _, _⟩ := step_facts hK h20; omega)) ?_
        refine LJ.gT rfl ?_
        refine LJ.ldMB (F := fun u => u) 0 rfl rfl rfl rfl (by rw [mkB_len]; obtain ⟨_, _, _, _, _, _, _⟩ := step_facts hK h20; omega) (fun u24 hu24 h24 => ?_) (fun u24 hu24 h24 => ?_)
        · try simp only [Int.toNat_natCast] at hu24
          refine LJ.yd rfl (Yd.pickFB rfl rfl) ?_
          refine LJ.nil ?_
          refine CJ.condT rfl ?_
          refine CJ.seq ?_
          refine CJ.region ?_
          refine LJ.yd rfl (Yd.asB rfl) ?_
          refine LJ.nil ?_
          refine CJ.ret ?_
          refine Fin.V (Res.one (ResV.tmp (v := .bool false) rfl)) ?_
          refine congrArg Value.bool (Eq.symm ?_)
          first
            | (rw [← hi1]; exact begOk_end (by omega))
            | (rw [← hi1, begOk_dropC hu15, okStep_F (.inl (plc_mem.1 h20)), Bool.false_and]; done)
            | (obtain ⟨j, hf1, hf2, hf3, hf4, hf5, hf6, hf7⟩ := step_facts hK h20
               rw [← hi1, begOk_dropC hu15, okStep_F (.inr (.inl (of_decide_eq_true (by rw [← mkB_get hf4 hu24]; exact h24)))), Bool.false_and]; done)
            | (rw [← hi1, begOk_dropC hu15, okStep_F (.inr (.inr ⟨by omega, fun h => by rw [mkB_get (by omega) hu36, decide_eq_true h] at h36; cases h36⟩)), Bool.false_and])
        · try simp only [Int.toNat_natCast] at hu24
          refine LJ.yd rfl (Yd.pickFB rfl rfl) ?_
          refine LJ.nil ?_
          refine CJ.condF rfl ?_
          refine CJ.skip ?_
          refine CJ.seq ?_
          refine CJ.seq ?_
          obtain ⟨j, hf1, hf2, hf3, hf4, hf5, hf6, hf7⟩ := step_facts hK h20
          have hj := ltC hf2
          have hd24 : u15 ∉ s.take k := fun h => by rw [mkB_get hf4 hu24, decide_eq_true h] at h24; cases h24
          refine CJ.region ?_
          refine LJ.yd rfl (Yd.mvS rfl) ?_
          refine LJ.yd rfl (Yd.mvI rfl) ?_
          refine LJ.idxA rfl hl rfl rfl (by omega) (by omega) (fun ib28 io28 ia28 ir28 => ?_)
          refine LJ.yd rfl (Yd.fieldAddr rfl) ?_
          refine LJ.ldA 1 (fun u => vI u.2) (fun _ => rfl) ir28 rfl rfl rfl (by first | rfl | omega | (simp; done) | (simp; omega) | (simp [upN_len]; omega) | (simp [idxBy_len]; omega) | (simp [marks_len]; omega) | (simp [upN_len]; done) | (simp [idxBy_len]; done) | (simp [marks_len]; done) | (simp at *; omega)) (fun u30 hu30 => ?_)
          try simp only [Int.toNat_natCast] at hu30
          rw [hf1, Int.toNat_natCast, hf2] at hu30; cases hu30
          refine LJ.yd rfl (Yd.asI rfl) ?_
          refine LJ.nil ?_
          refine CJ.seq ?_
          refine CJ.region ?_
          refine LJ.yd rfl (Yd.mvI rfl) ?_
          refine LJ.splitD rfl (Yd.geq rfl rfl) (fun h32 => ?_) (fun h32 => ?_)
          · refine LJ.yd rfl (Yd.mvB rfl) ?_
            refine LJ.gT rfl ?_
            refine LJ.yd rfl (Yd.mvI rfl) ?_
            refine LJ.gT rfl ?_
            refine LJ.yd rfl (Yd.idxArr rfl rfl (by omega) hf7) ?_
            refine LJ.gT rfl ?_
            refine LJ.ldMB (F := fun u => u) 0 rfl rfl rfl rfl (by rw [mkB_len]; omega) (fun u36 hu36 h36 => ?_) (fun u36 hu36 h36 => ?_)
            · try simp only [Int.toNat_natCast] at hu36
              refine LJ.gT rfl ?_
              refine LJ.yd rfl (Yd.not rfl) ?_
              refine LJ.yd rfl (Yd.pickTB rfl rfl) ?_
              refine LJ.nil ?_
              refine CJ.condF rfl ?_
              refine CJ.skip ?_
              refine CJ.region ?_
              refine LJ.yd rfl (Yd.mvI rfl) ?_
              refine LJ.yd rfl (Yd.idxArr rfl rfl hf4 hf5) ?_
              refine LJ.op rfl (OpR.stM (e1 := fun u => .bool u) 0 (fun _ => rfl) (fun _ => rfl) rfl rfl rfl rfl (by rw [mkB_len]; omega)) ?_
              rintro _ _ ⟨rfl, rfl⟩
              refine LJ.norm [_] rfl ?_
              refine LJ.nil ?_
              refine CJ.norm [Cel b1 95 ((mkB (s.take (k + 1))).map fun u => .bool u)] (by rw [takeC hu15, ← mkB_set hf4]) ?_
              refine CJ.region ?_
              refine LJ.yd rfl (Yd.add rfl rfl (by unfold I64; omega)) ?_
              refine LJ.yd rfl (Yd.mvI rfl) ?_
              refine LJ.nil ?_
              refine ⟨(k + 1), ?_, ⟨rfl, rfl, rfl, rfl, trivial⟩, ⟨rfl, trivial⟩, Ent.refl _, ?_⟩
              · refine ⟨by omega, ?_⟩
                rw [begOk_dropC hu15, okStep_iff.2 ⟨hf3, hd24, by first | exact .inl (by omega) | exact .inr (of_decide_eq_true (by rw [← mkB_get (by omega) hu36]; exact h36))⟩, Bool.true_and] at hi1; exact hi1
              · first | omega | (dsimp only; omega) | (simp only []; omega)
            · try simp only [Int.toNat_natCast] at hu36
              refine LJ.gT rfl ?_
              refine LJ.yd rfl (Yd.not rfl) ?_
              refine LJ.yd rfl (Yd.pickTB rfl rfl) ?_
              refine LJ.nil ?_
              refine CJ.condT rfl ?_
              refine CJ.seq ?_
              refine CJ.region ?_
              refine LJ.yd rfl (Yd.asB rfl) ?_
              refine LJ.nil ?_
              refine CJ.ret ?_
              refine Fin.V (Res.one (ResV.tmp (v := .bool false) rfl)) ?_
              refine congrArg Value.bool (Eq.symm ?_)
              first
                | (rw [← hi1]; exact begOk_end (by omega))
                | (rw [← hi1, begOk_dropC hu15, okStep_F (.inl (plc_mem.1 h20)), Bool.false_and]; done)
                | (obtain ⟨j, hf1, hf2, hf3, hf4, hf5, hf6, hf7⟩ := step_facts hK h20
                   rw [← hi1, begOk_dropC hu15, okStep_F (.inr (.inl (of_decide_eq_true (by rw [← mkB_get hf4 hu24]; exact h24)))), Bool.false_and]; done)
                | (rw [← hi1, begOk_dropC hu15, okStep_F (.inr (.inr ⟨by omega, fun h => by rw [mkB_get (by omega) hu36, decide_eq_true h] at h36; cases h36⟩)), Bool.false_and])
          · refine LJ.yd rfl (Yd.mvB rfl) ?_
            refine LJ.gF rfl rfl ?_
            refine LJ.gF rfl rfl ?_
            refine LJ.gF rfl rfl ?_
            refine LJ.gF rfl rfl ?_
            refine LJ.yd rfl (Yd.pickFB rfl rfl) ?_
            refine LJ.nil ?_
            refine CJ.condF rfl ?_
            refine CJ.skip ?_
            refine CJ.region ?_
            refine LJ.yd rfl (Yd.mvI rfl) ?_
            refine LJ.yd rfl (Yd.idxArr rfl rfl hf4 hf5) ?_
            refine LJ.op rfl (OpR.stM (e1 := fun u => .bool u) 0 (fun _ => rfl) (fun _ => rfl) rfl rfl rfl rfl (by rw [mkB_len]; omega)) ?_
            rintro _ _ ⟨rfl, rfl⟩
            refine LJ.norm [_] rfl ?_
            refine LJ.nil ?_
            refine CJ.norm [Cel b1 95 ((mkB (s.take (k + 1))).map fun u => .bool u)] (by rw [takeC hu15, ← mkB_set hf4]) ?_
            refine CJ.region ?_
            refine LJ.yd rfl (Yd.add rfl rfl (by unfold I64; omega)) ?_
            refine LJ.yd rfl (Yd.mvI rfl) ?_
            refine LJ.nil ?_
            refine ⟨(k + 1), ?_, ⟨rfl, rfl, rfl, rfl, trivial⟩, ⟨rfl, trivial⟩, Ent.refl _, ?_⟩
            · refine ⟨by omega, ?_⟩
              rw [begOk_dropC hu15, okStep_iff.2 ⟨hf3, hd24, by first | exact .inl (by omega) | exact .inr (of_decide_eq_true (by rw [← mkB_get (by omega) hu36]; exact h36))⟩, Bool.true_and] at hi1; exact hi1
            · first | omega | (dsimp only; omega) | (simp only []; omega)
    · refine LJ.nil ?_
      refine CJ.seq ?_
      refine CJ.condF rfl ?_
      refine CJ.exit ?_
      refine CJ.seq ?_
      refine CJ.region ?_
      refine LJ.yd rfl (Yd.asB rfl) ?_
      refine LJ.nil ?_
      refine CJ.ret ?_
      refine Fin.V (Res.one (ResV.tmp (v := .bool true) rfl)) ?_
      refine congrArg Value.bool (Eq.symm ?_)
      first
        | (rw [← hi1]; exact begOk_end (by omega))
        | (rw [← hi1, begOk_dropC hu15, okStep_F (.inl (plc_mem.1 h20)), Bool.false_and]; done)
        | (obtain ⟨j, hf1, hf2, hf3, hf4, hf5, hf6, hf7⟩ := step_facts hK h20
           rw [← hi1, begOk_dropC hu15, okStep_F (.inr (.inl (of_decide_eq_true (by rw [← mkB_get hf4 hu24]; exact h24)))), Bool.false_and]; done)
        | (rw [← hi1, begOk_dropC hu15, okStep_F (.inr (.inr ⟨by omega, fun h => by rw [mkB_get (by omega) hu36, decide_eq_true h] at h36; cases h36⟩)), Bool.false_and])
end Go.Proofs.Ytfnnhekbgjofoaa
