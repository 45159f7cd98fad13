/-
  The least number of sheets: contracts; the exact law.
-/
import Derived.Test.YtkojheinklgdeaaCF5
namespace Go.Proofs.Ytkojheinklgdeaa
open Go
set_option maxRecDepth 20000
set_option maxHeartbeats 1000000

/-- the least number of sheets -/
noncomputable def fsR (W H : Int) (ps : List Pane) : Int := if cfOk W H ps = true then fewN (canB ps W.toNat H.toNat) (2 ^ ps.length - 1) else -1
theorem bitS_ok {W H : Int} {ps : List Pane} (hk : cfOk W H ps = true) : ∀ i, i < ps.length → canB ps W.toNat H.toNat (2 ^ i) = true := fun i hi => by
  obtain ⟨hk1, hk2, hk3, hk4, hk5⟩ := cfOk_iff.1 hk
  obtain ⟨hw1, hw2, hw3, hw4, hw5, hw6⟩ := workOk_iff.1 hk1
  obtain ⟨p, hp⟩ := someC (l := ps) (j := i) hi
  rw [canB_one hp, ← wnum_iff, Int.toNat_of_nonneg (by omega), Int.toNat_of_nonneg (by omega)]
  exact hk5 p (List.mem_of_getElem? hp)
theorem fitS {A : Amb} {b1 b2 tb W H : Nat} {ps : List Pane} {L : List Bool} (hc1 : A.h.cell ⟨b1, 0, none⟩ = some (.pointer (some ⟨tb, 0, none⟩))) (hc2 : A.h.cell ⟨b2, 0, none⟩ = some (vI W)) (hc3 : A.h.cell ⟨b2, 1, none⟩ = some (vI H)) (hr : RdM (fun u : Bool => .bool u) A.h tb L) (hT : T1 ps W H (2 ^ ps.length) L)
    (hn : ps.length ≤ 4) (hW : 1 ≤ W ∧ W ≤ 16) (hH : 1 ≤ H ∧ H ≤ 16) : Fits A 77 [.pointer (some ⟨b1, 0, none⟩), .pointer (some ⟨b2, 0, none⟩)] ps.length (canB ps W H) := by
  intro B hB g hg hg2
  obtain ⟨hp1, hp2⟩ := pow4 hn
  obtain ⟨hTl, hT⟩ := hT
  replace hr : RdM (fun u : Bool => .bool u) B.h tb L := hr.up
  replace hc1 := Hp.cell_le hB.le hc1
  replace hc2 := Hp.cell_le hB.le hc2
  replace hc3 := Hp.cell_le hB.le hc3
  refine Ctr.body (args := [_, _, _]) Try.func77 rfl Try.ntmps77 Try.results77 (by simp) ?_
  refine CJ.seq ?_
  refine CJ.region ?_
  refine LJ.yd rfl (Yd.asB rfl) ?_
  refine LJ.nil ?_
  refine CJ.seq ?_
  refine CJ.regionD [] [] (by kernel_rfl) rfl ?_
  refine DJ.norm [] [] rfl rfl ?_
  refine DJ.yd 0 rfl (by kernel_rfl) (by kernel_rfl) (by kernel_rfl) rfl rfl (Yd.load rfl (Rdc.amb hc1)) ?_
  refine DJ.yd 1 rfl (by kernel_rfl) (by kernel_rfl) (by kernel_rfl) rfl rfl (Yd.mvI rfl) ?_
  refine DJ.yd 2 rfl (by kernel_rfl) (by kernel_rfl) (by kernel_rfl) rfl rfl (Yd.fieldAddr rfl) ?_
  refine DJ.yd 3 rfl (by kernel_rfl) (by kernel_rfl) (by kernel_rfl) rfl rfl (Yd.load rfl (Rdc.amb hc2)) ?_
  refine DJ.yd 4 rfl (by kernel_rfl) (by kernel_rfl) (by kernel_rfl) rfl rfl (Yd.fieldAddr rfl) ?_
  refine DJ.yd 5 rfl (by kernel_rfl) (by kernel_rfl) (by kernel_rfl) rfl rfl (Yd.load rfl (Rdc.amb hc3)) ?_
  refine DJ.yd 6 rfl (by kernel_rfl) (by kernel_rfl) (by kernel_rfl) rfl rfl (Yd.nilCheck rfl) ?_
  refine DJ.yd 7 rfl (by kernel_rfl) (by kernel_rfl) (by kernel_rfl) rfl rfl (Yd.idxArr rfl rfl (by omega) (by omega)) ?_
  refine DJ.yd 8 rfl (by kernel_rfl) (by kernel_rfl) (by kernel_rfl) rfl rfl (Yd.idxArr rfl rfl (by omega) (by omega)) ?_
  refine DJ.yd 9 rfl (by kernel_rfl) (by kernel_rfl) (by kernel_rfl) rfl rfl (Yd.idxArr rfl rfl (by omega) (by omega)) ?_
  refine DJ.ldMA (i := 10) (j := (g * 17 + W) * 17 + H) (e1 := fun u => .bool u) rfl (by kernel_rfl) (by kernel_rfl) (by kernel_rfl) rfl rfl hr rfl (by omega) (by first | rfl | omega | (simp; done) | (simp; omega) | (simp [upN_len]; omega) | (simp [idxBy_len]; omega) | (simp [marks_len]; omega) | (simp [upN_len]; done) | (simp [idxBy_len]; done) | (simp [marks_len]; done) | (simp at *; omega)) (fun u15 hu15 => ?_)
  try simp only [Int.toNat_natCast] at hu15
  refine DJ.yd 11 rfl (by kernel_rfl) (by kernel_rfl) (by kernel_rfl) rfl rfl (Yd.asB rfl) ?_
  refine DJ.done (by kernel_rfl) ?_
  refine CJ.ret ?_
  refine Fin.V (Res.one (ResV.tmp (v := .bool _) rfl)) ?_
  have := hT g W H (by omega) (by omega) (by omega) (by omega) (by omega)
  rw [hu15] at this
  rw [Option.some.inj this]
theorem FewestSheetsI_ok {A : Amb} {W H : Int} {v : Value} {ps : List Pane} (hl : RdL Pane.enc 4 A.h v ps) : Ctr Try.prog 39 #[.agg #[vI W, vI H, v]] A [] (Val (vI (fsR W H ps))) := by
  obtain ⟨la, lc, rfl, hlb, hl⟩ := hl.un
  refine Ctr.body (args := [_]) Try.func39 rfl Try.ntmps39 Try.results39 (by simp) ?_
  refine CJ.seq ?_
  refine CJ.region ?_
  refine LJ.boxG (vs := [_, _, _]) rfl rfl (fun b1 => ?_)
  refine LJ.yd rfl (Yd.asI rfl) ?_
  refine LJ.nil ?_
  refine CJ.seq ?_
  refine CJ.seq ?_
  refine CJ.region ?_
  refine LJ.yd rfl (Yd.loadG (us := [_, _, _]) 0 rfl rfl rfl rfl) ?_
  refine LJ.callB rfl (fun k hk dk => cutsTold_ok hl.up) (fun h5 => ?_) (fun h5 => ?_)
  · refine LJ.yd rfl (Yd.not rfl) ?_
    refine LJ.nil ?_
    refine CJ.condF rfl ?_
    refine CJ.skip ?_
    refine CJ.seq ?_
    obtain ⟨hk1, hk2, hk3, hk4, hk5⟩ := cfOk_iff.1 h5
    obtain ⟨hw1, hw2, hw3, hw4, hw5, hw6⟩ := workOk_iff.1 hk1
    obtain ⟨W, rfl⟩ := Int.eq_ofNat_of_zero_le (show 0 ≤ W by omega)
    obtain ⟨H, rfl⟩ := Int.eq_ofNat_of_zero_le (show 0 ≤ H by omega)
    refine CJ.region ?_
    refine LJ.yd rfl (Yd.loadG (us := [_, _, _]) 0 rfl rfl rfl rfl) ?_
    refine LJ.call0 rfl (fun k hk dk => setsOf_ok hl.up h5) ?_
    rintro _ _ ⟨tb, L, rfl, rfl, hT⟩
    refine LJ.norm [_, _] rfl ?_
    refine LJ.alloc ([_] : List Value) rfl rfl (fun b2 => ?_)
    refine LJ.store (v := .pointer _) (us := [_]) 2 rfl rfl rfl rfl rfl rfl rfl rfl ?_
    refine LJ.nil ?_
    refine CJ.seq ?_
    refine CJ.region ?_
    refine LJ.yd rfl (Yd.fieldAddr rfl) ?_
    refine LJ.yd rfl (Yd.loadC 0 rfl rfl rfl) ?_
    refine LJ.yd rfl (Yd.len rfl) ?_
    refine LJ.yd rfl (Yd.makeFunc rfl) ?_
    refine LJ.callV rfl (fun k hk dk => fewestGroups_ok (fitS (ps := ps) (Sts.cel hk dk 2 rfl rfl) (Sts.cel hk dk 0 rfl rfl) (Sts.cel hk dk 0 rfl rfl) (Sts.celM hk dk 1 rfl) hT hk2 (by omega) (by omega)) (by omega)) ?_
    refine LJ.yd rfl (Yd.asI rfl) ?_
    refine LJ.nil ?_
    refine CJ.ret ?_
    refine Fin.V (Res.one (ResV.tmp (v := .int _ _) rfl)) ?_
    first
      | (rw [fsR, if_neg (by rw [h5]; simp)]; done)
      | (rw [fsR, if_pos h5]; rfl)
  · refine LJ.yd rfl (Yd.not rfl) ?_
    refine LJ.nil ?_
    refine CJ.condT rfl ?_
    refine CJ.seq ?_
    refine CJ.region ?_
    refine LJ.yd rfl (Yd.asI rfl) ?_
    refine LJ.nil ?_
    refine CJ.ret ?_
    refine Fin.V (Res.one (ResV.tmp (v := .int _ _) rfl)) ?_
    first
      | (rw [fsR, if_neg (by rw [h5]; simp)]; done)
      | (rw [fsR, if_pos h5]; rfl)
theorem low_up {ok : Nat → Bool} {s g : Nat} {B v : Int} (h0 : 0 < g) (h : Low ok s (fun x => x = g ∨ (x < g ∧ 0 < x)) B v) : Low ok s (fun x => x < g + 1 ∧ 0 < x) B v := by
  obtain ⟨a, ha, hv⟩ := h
  exact ⟨a, ha.cong fun x _ _ => ⟨fun hp => by omega, fun hp => by omega⟩, hv⟩
theorem sheetTable_ok {A : Amb} {W H : Int} {v : Value} {ps : List Pane} (hl : RdL Pane.enc 4 A.h v ps) (hcf : cfOk W H ps = true) : Ctr Try.prog 78 #[.agg #[vI W, vI H, v]] A [] (fun v gs => ∃ a c, ∃ O : List Int, v = .slice a O.length c ∧ gs = [LR encI 3 1 a c O] ∧ O.length = 2 ^ ps.length ∧ ∀ t, t < 2 ^ ps.length → O[t]? = some (fewN (canB ps W.toNat H.toNat) t)) := by
  have hone := bitS_ok hcf
  obtain ⟨hk1, hk2, hk3, hk4, hk5⟩ := cfOk_iff.1 hcf
  obtain ⟨hw1, hw2, hw3, hw4, hw5, hw6⟩ := workOk_iff.1 hk1
  obtain ⟨W, rfl⟩ := Int.eq_ofNat_of_zero_le (show 0 ≤ W by omega)
  obtain ⟨H, rfl⟩ := Int.eq_ofNat_of_zero_le (show 0 ≤ H by omega)
  obtain ⟨hp1, hp2⟩ := pow4 hk2
  simp only [Int.toNat_natCast] at hone ⊢
  obtain ⟨N, hN⟩ : ∃ N, N = (W + 1) * (H + 1) := ⟨_, rfl⟩
  obtain ⟨q, hq, hqi, hqb⟩ := mulb (x := W) (H := H) (by omega) (by omega)
  have hlt := idx_lt (x := W) (h := H) hN (by omega) (by omega)
  rw [← hq] at hlt
  obtain ⟨la, lc, rfl, hlb, hl⟩ := hl.un
  refine Ctr.body (args := [_]) Try.func78 rfl Try.ntmps78 Try.results78 (by simp) ?_
  refine CJ.seq ?_
  refine CJ.region ?_
  refine LJ.boxG (vs := [_, _, _]) rfl rfl (fun b1 => ?_)
  refine LJ.yd rfl (Yd.asS rfl) ?_
  refine LJ.nil ?_
  refine CJ.seq ?_
  refine CJ.region ?_
  refine LJ.yd rfl (Yd.loadG (us := [_, _, _]) 0 rfl rfl rfl rfl) ?_
  refine LJ.call0 rfl (fun k hk dk => cutTable_ok hl.up hcf) ?_
  rintro _ _ ⟨ta, tc, X, rfl, rfl, hXl, hX⟩
  rw [Int.toNat_natCast, Int.toNat_natCast, ← hN] at hX
  refine LJ.norm [_, _, _] rfl ?_
  refine LJ.yd rfl (Yd.asS rfl) ?_
  refine LJ.nil ?_
  refine CJ.seq ?_
  refine CJ.region ?_
  refine LJ.op rfl (OpR.buildSlice (cs := [_]) rfl rfl) ?_
  rintro _ _ ⟨b2, rfl, rfl⟩
  refine LJ.yd rfl (Yd.asS rfl) ?_
  refine LJ.nil ?_
  refine CJ.seq ?_
  refine CJ.seq ?_
  refine CJ.region ?_
  refine LJ.yd rfl (Yd.asI rfl) ?_
  refine LJ.nil ?_
  refine CJ.block ?_
  refine CJ.imp1 3 rfl (fun _ h => Cel.lr (enc := encI) (k := 1) (m := 1) [_] rfl rfl rfl rfl h) ?_
  refine CJ.norm [_, _, _, _] rfl ?_
  refine CJ.loopF [1, 2, 3] (Nat × List Int × Option Addr × Nat × Nat) (fun ⟨s, O, OA, ON, OC⟩ => (ON = O.length) ∧ s ≤ X.length ∧ 1 ≤ s ∧ O.length = s ∧ ∀ t, t < s → ∃ v, O[t]? = some v ∧ Few (canB ps W H) t v ∧ 0 ≤ v) (fun ⟨s, O, OA, ON, OC⟩ => [(5, vI s), (4, .slice OA ON OC)]) (fun ⟨s, O, OA, ON, OC⟩ => [LR encI 3 1 OA OC O]) (fun ⟨s, O, OA, ON, OC⟩ => X.length - s) (1, [0], _, _, _) [_, _, _] [0, 1, 2] [3] rfl rfl rfl ?_ ⟨rfl, rfl, trivial⟩ ?_
  · exact ⟨(by first | rfl | omega | (simp; done) | (simp; omega) | (simp [upN_len]; omega) | (simp [idxBy_len]; omega) | (simp [marks_len]; omega) | (simp [upN_len]; done) | (simp [idxBy_len]; done) | (simp [marks_len]; done) | (simp at *; omega)), ⟨by omega, by omega, rfl, fun t ht => ⟨0, by rw [show t = 0 by omega]; rfl, Few.zeroT ht, by omega⟩⟩⟩
  · rintro ⟨s, O, OA, ON, OC⟩ σ ⟨hlNO, ⟨hs1, hs0, hOl, hO⟩⟩
    subst hlNO
    refine CJ.norm [_, _, _, _] rfl ?_
    refine CJ.seq ?_
    refine CJ.seq ?_
    refine CJ.region ?_
    refine LJ.yd rfl (Yd.mvI rfl) ?_
    refine LJ.yd rfl (Yd.mvS rfl) ?_
    refine LJ.yd rfl (Yd.len rfl) ?_
    refine LJ.splitD rfl (Yd.lss rfl rfl) (fun h14 => ?_) (fun h14 => ?_)
    · refine LJ.nil ?_
      refine CJ.condT rfl ?_
      refine CJ.skip ?_
      refine CJ.seq ?_
      refine CJ.block ?_
      refine CJ.seq ?_
      refine CJ.region ?_
      refine LJ.yd rfl (Yd.fieldAddr rfl) ?_
      refine LJ.yd rfl (Yd.loadC 0 rfl rfl rfl) ?_
      refine LJ.yd rfl (Yd.len rfl) ?_
      refine LJ.yd rfl (Yd.asI rfl) ?_
      refine LJ.nil ?_
      refine CJ.seq ?_
      refine CJ.seq ?_
      refine CJ.region ?_
      refine LJ.yd rfl (Yd.asI rfl) ?_
      refine LJ.nil ?_
      refine CJ.block ?_
      refine CJ.loopK [1, 2, 3, 4, 5, 11, 12, 13, 14, 17, 18, 19] (Nat × Int) (fun ⟨g, m⟩ => g ≤ s + 1 ∧ 1 ≤ g ∧ Low (canB ps W H) s (fun x => x < g ∧ 0 < x) ps.length m ∧ m ≤ 100 ∧ -100 ≤ m) (fun ⟨g, m⟩ => [(7, vI g), (6, vI m)]) (fun ⟨g, m⟩ => s + 1 - g) (1, ps.length) ?_ ⟨rfl, rfl, trivial⟩ ?_
      · exact ⟨by omega, by omega, Low.init fun x h1 h2 _ => by omega, by omega, by omega⟩
      · rintro ⟨g, m⟩ σ ⟨hg1, hg0, hlow, hm1, hm2⟩
        refine CJ.seq ?_
        refine CJ.seq ?_
        refine CJ.region ?_
        refine LJ.yd rfl (Yd.mvI rfl) ?_
        refine LJ.yd rfl (Yd.mvI rfl) ?_
        refine LJ.splitD rfl (Yd.leq rfl rfl) (fun h22 => ?_) (fun h22 => ?_)
        · refine LJ.nil ?_
          refine CJ.condT rfl ?_
          refine CJ.skip ?_
          refine CJ.seq ?_
          refine CJ.block ?_
          refine CJ.seq ?_
          refine CJ.regionD [0, 1, 2, 3] [] (by kernel_rfl) rfl ?_
          refine DJ.norm [_, _, _, _] [] rfl rfl ?_
          refine DJ.yd 0 rfl (by kernel_rfl) (by kernel_rfl) (by kernel_rfl) rfl rfl (Yd.mvI rfl) ?_
          refine DJ.yd 1 rfl (by kernel_rfl) (by kernel_rfl) (by kernel_rfl) rfl rfl (Yd.mvI rfl) ?_
          refine DJ.one (i := 2) (by kernel_rfl) ?_
          refine DO.callB rfl rfl rfl (fun k0 hk0 dk0 k hk dk => inside_ok (by omega) (by omega)) (fun h27 => ?_) (fun h27 => ?_)
          · refine DJ.yd 3 rfl (by kernel_rfl) (by kernel_rfl) (by kernel_rfl) rfl rfl (Yd.mvB rfl) ?_
            refine DJ.yd 4 rfl (by kernel_rfl) (by kernel_rfl) (by kernel_rfl) rfl rfl (Yd.mvS rfl) ?_
            refine DJ.yd 5 rfl (by kernel_rfl) (by kernel_rfl) (by kernel_rfl) rfl rfl (Yd.mvI rfl) ?_
            refine DJ.idxF 1 rfl 6 rfl (by kernel_rfl) (by kernel_rfl) (by kernel_rfl) rfl rfl rfl rfl (by omega) (by first | rfl | omega | (simp; done) | (simp; omega) | (simp [upN_len]; omega) | (simp [idxBy_len]; omega) | (simp [marks_len]; omega) | (simp [upN_len]; done) | (simp [idxBy_len]; done) | (simp [marks_len]; done) | (simp at *; omega)) (by first | rfl | omega | (simp; done) | (simp; omega) | (simp [upN_len]; omega) | (simp [idxBy_len]; omega) | (simp [marks_len]; omega) | (simp [upN_len]; done) | (simp [idxBy_len]; done) | (simp [marks_len]; done) | (simp at *; omega)) (fun ib31 ia31 => ?_)
            refine DJ.ldF 7 rfl (by kernel_rfl) (by kernel_rfl) (by kernel_rfl) rfl rfl 1 0 (fun u => .slice u.a u.l.length u.c) (fun _ => rfl) rfl ia31 rfl rfl (by first | rfl | omega | (simp; done) | (simp; omega) | (simp [upN_len]; omega) | (simp [idxBy_len]; omega) | (simp [marks_len]; omega) | (simp [upN_len]; done) | (simp [idxBy_len]; done) | (simp [marks_len]; done) | (simp at *; omega)) (fun u32 hu32 => ?_)
            try simp only [Int.toNat_natCast] at hu32
            obtain ⟨hl32, hv32⟩ := hX _ _ hu32
            refine DJ.yd 8 rfl (by kernel_rfl) (by kernel_rfl) (by kernel_rfl) rfl rfl (Yd.fieldAddr rfl) ?_
            refine DJ.yd 9 rfl (by kernel_rfl) (by kernel_rfl) (by kernel_rfl) rfl rfl (Yd.loadC 0 rfl rfl rfl) ?_
            refine DJ.yd 10 rfl (by kernel_rfl) (by kernel_rfl) (by kernel_rfl) rfl rfl (Yd.fieldAddr rfl) ?_
            refine DJ.yd 11 rfl (by kernel_rfl) (by kernel_rfl) (by kernel_rfl) rfl rfl (Yd.loadC 0 rfl rfl rfl) ?_
            refine DJ.yd 12 rfl (by kernel_rfl) (by kernel_rfl) (by kernel_rfl) rfl rfl (Yd.add rfl rfl (by unfold I64; omega)) ?_
            refine DJ.yd 13 rfl (by kernel_rfl) (by kernel_rfl) (by kernel_rfl) rfl rfl (Yd.mul rfl rfl (by unfold I64; omega)) ?_
            refine DJ.yd 14 rfl (by kernel_rfl) (by kernel_rfl) (by kernel_rfl) rfl rfl (Yd.fieldAddr rfl) ?_
            refine DJ.yd 15 rfl (by kernel_rfl) (by kernel_rfl) (by kernel_rfl) rfl rfl (Yd.loadC 0 rfl rfl rfl) ?_
            refine DJ.yd 16 rfl (by kernel_rfl) (by kernel_rfl) (by kernel_rfl) rfl rfl (Yd.add rfl rfl (by unfold I64; omega)) ?_
            refine DJ.idxN (enc := encB) 2 rfl hu32 17 rfl (by kernel_rfl) (by kernel_rfl) (by kernel_rfl) rfl rfl rfl rfl (by omega) (by first | rfl | omega | (simp; done) | (simp; omega) | (simp [upN_len]; omega) | (simp [idxBy_len]; omega) | (simp [marks_len]; omega) | (simp [upN_len]; done) | (simp [idxBy_len]; done) | (simp [marks_len]; done) | (simp at *; omega)) (fun ib42 ia42 => ?_)
            refine DJ.ldNB (i := 18) (enc := encB) rfl (by kernel_rfl) (by kernel_rfl) (by kernel_rfl) rfl rfl 2 0 (fun u => u) (fun _ => rfl) rfl hu32 ia42 rfl rfl (by first | rfl | omega | (simp; done) | (simp; omega) | (simp [upN_len]; omega) | (simp [idxBy_len]; omega) | (simp [marks_len]; omega) | (simp [upN_len]; done) | (simp [idxBy_len]; done) | (simp [marks_len]; done) | (simp at *; omega)) (fun u43 hu43 h43 => ?_) (fun u43 hu43 h43 => ?_)
            · try simp only [Int.toNat_natCast] at hu43
              rw [show ((W : Int) * ((H : Int) + 1) + (H : Int)).toNat = q + H by omega, hq, hv32 W H (by omega) (by omega) (by omega) (by omega) (by omega)] at hu43
              rw [← Option.some.inj hu43] at h43
              refine DJ.yd 19 rfl (by kernel_rfl) (by kernel_rfl) (by kernel_rfl) rfl rfl (Yd.pickTB rfl rfl) ?_
              refine DJ.done (by kernel_rfl) ?_
              refine CJ.condT rfl ?_
              refine CJ.region ?_
              refine LJ.yd rfl (Yd.mvI rfl) ?_
              refine LJ.yd rfl (Yd.mvS rfl) ?_
              refine LJ.yd rfl (Yd.mvI rfl) ?_
              refine LJ.yd rfl (Yd.mvI rfl) ?_
              refine LJ.yd rfl (Yd.sub rfl rfl (by unfold I64; omega)) ?_
              refine LJ.idxR 3 rfl rfl rfl rfl (by omega) (by first | rfl | omega | (simp; done) | (simp; omega) | (simp [upN_len]; omega) | (simp [idxBy_len]; omega) | (simp [marks_len]; omega) | (simp [upN_len]; done) | (simp [idxBy_len]; done) | (simp [marks_len]; done) | (simp at *; omega)) (by first | rfl | omega | (simp; done) | (simp; omega) | (simp [upN_len]; omega) | (simp [idxBy_len]; omega) | (simp [marks_len]; omega) | (simp [upN_len]; done) | (simp [idxBy_len]; done) | (simp [marks_len]; done) | (simp at *; omega)) (fun ib50 ia50 => ?_)
              refine LJ.ldR 3 0 (fun u => vI u) (fun _ => rfl) rfl ia50 rfl rfl rfl (by first | rfl | omega | (simp; done) | (simp; omega) | (simp [upN_len]; omega) | (simp [idxBy_len]; omega) | (simp [marks_len]; omega) | (simp [upN_len]; done) | (simp [idxBy_len]; done) | (simp [marks_len]; done) | (simp at *; omega)) (fun u51 hu51 => ?_)
              try simp only [Int.toNat_natCast] at hu51
              rw [show ((s : Int) - (g : Int)).toNat = s - g by omega] at hu51
              obtain ⟨r51, hr51, hf51, hn51⟩ := hO (s - g) (by omega)
              obtain rfl : u51 = r51 := by rw [hr51] at hu51; exact (Option.some.inj hu51).symm
              have hb51 := hf51.bound (n := ps.length) (by omega)
              refine LJ.yd rfl (Yd.add rfl rfl (by unfold I64; omega)) ?_
              refine LJ.yd rfl (Yd.min' rfl rfl) ?_
              refine LJ.yd rfl (Yd.asI rfl) ?_
              refine LJ.nil ?_
              refine CJ.region ?_
              refine LJ.yd rfl (Yd.mvI rfl) ?_
              refine LJ.yd rfl (Yd.add rfl rfl (by unfold I64; omega)) ?_
              refine LJ.yd rfl (Yd.asI rfl) ?_
              refine LJ.nil ?_
              refine ⟨(g + 1, min m (1 + u51)), ?_, ⟨rfl, rfl, rfl, rfl, rfl, rfl, rfl, rfl, rfl, rfl, rfl, rfl, trivial⟩, ⟨rfl, rfl, trivial⟩, Ent.refl _, ?_⟩
              · refine ⟨by omega, ?_⟩
                refine ⟨by omega, low_up (by omega) (hlow.add (of_decide_eq_true h27) (by omega) h43 hf51 (by omega)), by omega, by omega⟩
              · first | omega | (dsimp only; omega) | (simp only []; omega)
            · try simp only [Int.toNat_natCast] at hu43
              rw [show ((W : Int) * ((H : Int) + 1) + (H : Int)).toNat = q + H by omega, hq, hv32 W H (by omega) (by omega) (by omega) (by omega) (by omega)] at hu43
              rw [← Option.some.inj hu43] at h43
              refine DJ.yd 19 rfl (by kernel_rfl) (by kernel_rfl) (by kernel_rfl) rfl rfl (Yd.pickTB rfl rfl) ?_
              refine DJ.done (by kernel_rfl) ?_
              refine CJ.condF rfl ?_
              refine CJ.skip ?_
              refine CJ.region ?_
              refine LJ.yd rfl (Yd.mvI rfl) ?_
              refine LJ.yd rfl (Yd.add rfl rfl (by unfold I64; omega)) ?_
              refine LJ.yd rfl (Yd.asI rfl) ?_
              refine LJ.nil ?_
              refine ⟨(g + 1, m), ?_, ⟨rfl, rfl, rfl, rfl, rfl, rfl, rfl, rfl, rfl, rfl, rfl, rfl, trivial⟩, ⟨rfl, rfl, trivial⟩, Ent.refl _, ?_⟩
              · refine ⟨by omega, ?_⟩
                refine ⟨by omega, low_up (by omega) (hlow.skip fun h1 _ h2 => by first | exact of_decide_eq_false h27 h1 | (rw [h43] at h2; cases h2)), by omega, by omega⟩
              · first | omega | (dsimp only; omega) | (simp only []; omega)
          · refine DJ.yd 3 rfl (by kernel_rfl) (by kernel_rfl) (by kernel_rfl) rfl rfl (Yd.mvB rfl) ?_
            refine DJ.skip 4 rfl (by kernel_rfl) (by kernel_rfl) (by kernel_rfl) rfl rfl ?_
            refine DJ.skip 5 rfl (by kernel_rfl) (by kernel_rfl) (by kernel_rfl) rfl rfl ?_
            refine DJ.skip 6 rfl (by kernel_rfl) (by kernel_rfl) (by kernel_rfl) rfl rfl ?_
            refine DJ.skip 7 rfl (by kernel_rfl) (by kernel_rfl) (by kernel_rfl) rfl rfl ?_
            refine DJ.skip 8 rfl (by kernel_rfl) (by kernel_rfl) (by kernel_rfl) rfl rfl ?_
            refine DJ.skip 9 rfl (by kernel_rfl) (by kernel_rfl) (by kernel_rfl) rfl rfl ?_
            refine DJ.skip 10 rfl (by kernel_rfl) (by kernel_rfl) (by kernel_rfl) rfl rfl ?_
            refine DJ.skip 11 rfl (by kernel_rfl) (by kernel_rfl) (by kernel_rfl) rfl rfl ?_
            refine DJ.skip 12 rfl (by kernel_rfl) (by kernel_rfl) (by kernel_rfl) rfl rfl ?_
            refine DJ.skip 13 rfl (by kernel_rfl) (by kernel_rfl) (by kernel_rfl) rfl rfl ?_
            refine DJ.skip 14 rfl (by kernel_rfl) (by kernel_rfl) (by kernel_rfl) rfl rfl ?_
            refine DJ.skip 15 rfl (by kernel_rfl) (by kernel_rfl) (by kernel_rfl) rfl rfl ?_
            refine DJ.skip 16 rfl (by kernel_rfl) (by kernel_rfl) (by kernel_rfl) rfl rfl ?_
            refine DJ.skip 17 rfl (by kernel_rfl) (by kernel_rfl) (by kernel_rfl) rfl rfl ?_
            refine DJ.skip 18 rfl (by kernel_rfl) (by kernel_rfl) (by kernel_rfl) rfl rfl ?_
            refine DJ.yd 19 rfl (by kernel_rfl) (by kernel_rfl) (by kernel_rfl) rfl rfl (Yd.pickFB rfl rfl) ?_
            refine DJ.done (by kernel_rfl) ?_
            refine CJ.condF rfl ?_
            refine CJ.skip ?_
            refine CJ.region ?_
            refine LJ.yd rfl (Yd.mvI rfl) ?_
            refine LJ.yd rfl (Yd.add rfl rfl (by unfold I64; omega)) ?_
            refine LJ.yd rfl (Yd.asI rfl) ?_
            refine LJ.nil ?_
            refine ⟨(g + 1, m), ?_, ⟨rfl, rfl, rfl, rfl, rfl, rfl, rfl, rfl, rfl, rfl, rfl, rfl, trivial⟩, ⟨rfl, rfl, trivial⟩, Ent.refl _, ?_⟩
            · refine ⟨by omega, ?_⟩
              refine ⟨by omega, low_up (by omega) (hlow.skip fun h1 _ h2 => by first | exact of_decide_eq_false h27 h1 | (rw [h43] at h2; cases h2)), by omega, by omega⟩
            · first | omega | (dsimp only; omega) | (simp only []; omega)
        · refine LJ.nil ?_
          refine CJ.condF rfl ?_
          refine CJ.exit ?_
          refine CJ.region ?_
          refine LJ.yd rfl (Yd.mvS rfl) ?_
          refine LJ.yd rfl (Yd.mvI rfl) ?_
          refine LJ.op rfl (OpR.buildSlice (cs := [_]) rfl rfl) ?_
          rintro _ _ ⟨b3, rfl, rfl⟩
          refine LJ.op rfl (OpR.apT (enc := encI) [_] 3 4 rfl rfl rfl (by first | rfl | omega | (simp; done) | (simp; omega) | (simp [upN_len]; omega) | (simp [idxBy_len]; omega) | (simp [marks_len]; omega) | (simp [upN_len]; done) | (simp [idxBy_len]; done) | (simp [marks_len]; done) | (simp at *; omega)) rfl rfl rfl rfl rfl (by first | rfl | omega | (simp; done) | (simp; omega) | (simp [upN_len]; omega) | (simp [idxBy_len]; omega) | (simp [marks_len]; omega) | (simp [upN_len]; done) | (simp [idxBy_len]; done) | (simp [marks_len]; done) | (simp at *; omega))) ?_
          rintro _ _ ⟨ra57, rc57, rfl, rfl⟩
          refine LJ.norm [_, _, _, _, _] rfl ?_
          refine LJ.yd rfl (Yd.asS rfl) ?_
          refine LJ.nil ?_
          refine CJ.region ?_
          refine LJ.yd rfl (Yd.mvI rfl) ?_
          refine LJ.yd rfl (Yd.add rfl rfl (by unfold I64; omega)) ?_
          refine LJ.yd rfl (Yd.asI rfl) ?_
          refine LJ.nil ?_
          refine ⟨(s + 1, _, _, _, _), ?_, ⟨rfl, rfl, rfl, trivial⟩, ⟨rfl, rfl, trivial⟩, Ent.pick [0, 1, 2, 3] [4] rfl, ?_⟩
          · refine ⟨(by first | rfl | omega | (simp; done) | (simp; omega) | (simp [upN_len]; omega) | (simp [idxBy_len]; omega) | (simp [marks_len]; omega) | (simp [upN_len]; done) | (simp [idxBy_len]; done) | (simp [marks_len]; done) | (simp at *; omega)), ?_⟩
            refine ⟨by omega, ?_⟩
            refine ⟨by omega, by simp [hOl], fun t ht => ?_⟩
            rcases Nat.lt_or_ge t s with e | e
            · rw [List.getElem?_append_left (by omega)]; exact hO t e
            · obtain rfl : t = s := by omega
              obtain ⟨d1, d2⟩ := hlow.done (n := ps.length) hone (by omega) (by omega) (by omega) (fun x hx h0 => ⟨by have := hx.le; omega, by omega⟩)
              exact ⟨m, by rw [List.getElem?_append_right (by omega), hOl]; simp, d1, d2⟩
          · first | omega | (dsimp only; omega) | (simp only []; omega)
    · refine LJ.nil ?_
      refine CJ.condF rfl ?_
      refine CJ.exit ?_
      refine CJ.seq ?_
      refine CJ.region ?_
      refine LJ.yd rfl (Yd.mvS rfl) ?_
      refine LJ.yd rfl (Yd.asS rfl) ?_
      refine LJ.nil ?_
      refine CJ.ret ?_
      refine Fin.R [_] (Res.one (ResV.tmp (v := .slice _ _ _) rfl)) ⟨_, _, O, rfl, rfl, by omega, fun t ht => ?_⟩ (Ent.pick [3] [0, 1, 2] rfl)
      obtain ⟨v, h1, h2, _⟩ := hO t (by omega)
      rw [h1, h2.eq]
theorem FewestSheetsS_ok {A : Amb} {W H : Int} {v : Value} {ps : List Pane} (hl : RdL Pane.enc 4 A.h v ps) : Ctr Try.prog 40 #[.agg #[vI W, vI H, v]] A [] (Val (vI (fsR W H ps))) := by
  obtain ⟨la, lc, rfl, hlb, hl⟩ := hl.un
  refine Ctr.body (args := [_]) Try.func40 rfl Try.ntmps40 Try.results40 (by simp) ?_
  refine CJ.seq ?_
  refine CJ.region ?_
  refine LJ.boxG (vs := [_, _, _]) rfl rfl (fun b1 => ?_)
  refine LJ.yd rfl (Yd.asI rfl) ?_
  refine LJ.nil ?_
  refine CJ.seq ?_
  refine CJ.seq ?_
  refine CJ.region ?_
  refine LJ.yd rfl (Yd.loadG (us := [_, _, _]) 0 rfl rfl rfl rfl) ?_
  refine LJ.callB rfl (fun k hk dk => validFew_ok hl.up) (fun h5 => ?_) (fun h5 => ?_)
  · refine LJ.yd rfl (Yd.not rfl) ?_
    refine LJ.nil ?_
    refine CJ.condF rfl ?_
    refine CJ.skip ?_
    refine CJ.seq ?_
    obtain ⟨hk1, hk2, hk3, hk4, hk5⟩ := cfOk_iff.1 h5
    obtain ⟨hp1, hp2⟩ := pow4 hk2
    refine CJ.region ?_
    refine LJ.yd rfl (Yd.loadG (us := [_, _, _]) 0 rfl rfl rfl rfl) ?_
    refine LJ.call0 rfl (fun k hk dk => sheetTable_ok hl.up h5) ?_
    rintro _ _ ⟨oa, oc, O, rfl, rfl, hOl, hO⟩
    refine LJ.norm [_, _] rfl ?_
    refine LJ.yd rfl (Yd.asS rfl) ?_
    refine LJ.nil ?_
    refine CJ.seq ?_
    refine CJ.region ?_
    refine LJ.yd rfl (Yd.mvS rfl) ?_
    refine LJ.yd rfl (Yd.mvS rfl) ?_
    refine LJ.yd rfl (Yd.len rfl) ?_
    refine LJ.yd rfl (Yd.sub rfl rfl (by unfold I64; omega)) ?_
    refine LJ.idxR 1 rfl rfl rfl rfl (by omega) (by first | rfl | omega | (simp; done) | (simp; omega) | (simp [upN_len]; omega) | (simp [idxBy_len]; omega) | (simp [marks_len]; omega) | (simp [upN_len]; done) | (simp [idxBy_len]; done) | (simp [marks_len]; done) | (simp at *; omega)) (by first | rfl | omega | (simp; done) | (simp; omega) | (simp [upN_len]; omega) | (simp [idxBy_len]; omega) | (simp [marks_len]; omega) | (simp [upN_len]; done) | (simp [idxBy_len]; done) | (simp [marks_len]; done) | (simp at *; omega)) (fun ib13 ia13 => ?_)
    refine LJ.ldR 1 0 (fun u => vI u) (fun _ => rfl) rfl ia13 rfl rfl rfl (by first | rfl | omega | (simp; done) | (simp; omega) | (simp [upN_len]; omega) | (simp [idxBy_len]; omega) | (simp [marks_len]; omega) | (simp [upN_len]; done) | (simp [idxBy_len]; done) | (simp [marks_len]; done) | (simp at *; omega)) (fun u14 hu14 => ?_)
    try simp only [Int.toNat_natCast] at hu14
    rw [show ((O.length : Int) - 1).toNat = 2 ^ ps.length - 1 by omega, hO _ (by omega)] at hu14
    have e14 := Option.some.inj hu14
    refine LJ.yd rfl (Yd.asI rfl) ?_
    refine LJ.nil ?_
    refine CJ.ret ?_
    refine Fin.V (Res.one (ResV.tmp (v := .int _ _) rfl)) ?_
    first
      | (rw [fsR, if_neg (by rw [h5]; simp)]; done)
      | (rw [fsR, if_pos h5, e14])
  · refine LJ.yd rfl (Yd.not rfl) ?_
    refine LJ.nil ?_
    refine CJ.condT rfl ?_
    refine CJ.seq ?_
    refine CJ.region ?_
    refine LJ.yd rfl (Yd.asI rfl) ?_
    refine LJ.nil ?_
    refine CJ.ret ?_
    refine Fin.V (Res.one (ResV.tmp (v := .int _ _) rfl)) ?_
    first
      | (rw [fsR, if_neg (by rw [h5]; simp)]; done)
      | (rw [fsR, if_pos h5, e14])
theorem FnExactFewestSheets_ok {A : Amb} {W H : Int} {a : Option Addr} {n c : Nat} {ps : List Pane} (hn : n ≤ 9223372036854775807) (hp : n ≤ 1048576 → RdL Pane.enc 4 A.h (.slice a n c) ps ∧ n = ps.length) :
    Ctr Try.prog 11 #[.agg #[vI W, vI H, .slice a n c]] A [] (Val (.bool true)) := by
  refine Ctr.body (args := [_]) Try.func11 rfl Try.ntmps11 Try.results11 (by simp) ?_
  refine CJ.seq ?_
  refine CJ.region ?_
  refine LJ.boxG (vs := [_, _, _]) rfl rfl (fun b1 => ?_)
  refine LJ.yd rfl (Yd.asB rfl) ?_
  refine LJ.nil ?_
  refine CJ.seq ?_
  refine CJ.region ?_
  refine LJ.yd rfl (Yd.asI rfl) ?_
  refine LJ.nil ?_
  refine CJ.seq ?_
  refine CJ.region ?_
  refine LJ.yd rfl (Yd.loadG (us := [_, _, _]) 0 rfl rfl rfl rfl) ?_
  refine LJ.yd rfl (Yd.mvI rfl) ?_
  refine LJ.callV rfl (fun k hk dk => szWork_ok hn (by omega) (by omega)) ?_
  refine LJ.yd rfl (Yd.asI rfl) ?_
  refine LJ.nil ?_
  refine CJ.seq ?_
  refine CJ.seq ?_
  refine CJ.region ?_
  refine LJ.yd rfl (Yd.mvI rfl) ?_
  refine LJ.splitD rfl (Yd.lss rfl rfl) (fun h11 => ?_) (fun h11 => ?_)
  · refine LJ.nil ?_
    refine CJ.condT rfl ?_
    refine CJ.seq ?_
    refine CJ.region ?_
    refine LJ.yd rfl (Yd.asB rfl) ?_
    refine LJ.nil ?_
    refine CJ.ret ?_
    refine Fin.V (Res.one (ResV.tmp (v := .bool true) rfl)) ?_
    rfl
  · refine LJ.nil ?_
    refine CJ.condF rfl ?_
    refine CJ.skip ?_
    refine CJ.seq ?_
    have hn1 : n ≤ 1048576 := by by_cases hz : (1048576 : Int) - n < 0 <;> omega
    obtain ⟨hps, hnl⟩ := hp hn1
    refine CJ.region ?_
    refine LJ.yd rfl (Yd.loadG (us := [_, _, _]) 0 rfl rfl rfl rfl) ?_
    refine LJ.call0 rfl (fun k hk dk => toWork_ok hps.up (by omega)) ?_
    rintro _ _ ⟨xa13, xc13, rfl, rfl⟩
    refine LJ.norm [_, _] rfl ?_
    refine LJ.callV rfl (fun k hk dk => FewestSheetsS_ok (Sts.lr hk dk 1 (by omega) rfl)) ?_
    refine LJ.yd rfl (Yd.asI rfl) ?_
    refine LJ.nil ?_
    refine CJ.seq ?_
    refine CJ.region ?_
    refine LJ.yd rfl (Yd.loadG (us := [_, _, _]) 0 rfl rfl rfl rfl) ?_
    refine LJ.call0 rfl (fun k hk dk => toWork_ok hps.up (by omega)) ?_
    rintro _ _ ⟨xa16, xc16, rfl, rfl⟩
    refine LJ.norm [_, _, _] rfl ?_
    refine LJ.alloc ([_, _, _] : List Value) rfl rfl (fun b2 => ?_)
    refine LJ.store (v := .agg #[_, _, _]) (us := [_, _, _]) 3 rfl rfl rfl rfl rfl rfl rfl rfl ?_
    refine LJ.nil ?_
    refine CJ.seq ?_
    refine CJ.region ?_
    refine LJ.yd rfl (Yd.loadG (us := [_, _, _]) 3 rfl rfl rfl rfl) ?_
    refine LJ.callV rfl (fun k hk dk => FewestSheetsI_ok (Sts.lr hk dk 2 (by omega) rfl)) ?_
    refine LJ.yd rfl (Yd.asI rfl) ?_
    refine LJ.nil ?_
    refine CJ.seq ?_
    refine CJ.seq ?_
    refine CJ.region ?_
    refine LJ.yd rfl (Yd.mvI rfl) ?_
    refine LJ.yd rfl (Yd.mvI rfl) ?_
    refine LJ.yd rfl (Yd.cmpNF (Yd.neq rfl rfl) (by omega)) ?_
    refine LJ.nil ?_
    refine CJ.condF rfl ?_
    refine CJ.skip ?_
    refine CJ.seq ?_
    refine CJ.seq ?_
    refine CJ.regionD [0, 1, 2, 3] [] (by kernel_rfl) rfl ?_
    refine DJ.norm [_, _, _, _] [] rfl rfl ?_
    refine DJ.yd 0 rfl (by kernel_rfl) (by kernel_rfl) (by kernel_rfl) rfl rfl (Yd.loadG (us := [_, _, _]) 3 rfl rfl rfl rfl) ?_
    refine DJ.yd 1 rfl (by kernel_rfl) (by kernel_rfl) (by kernel_rfl) rfl rfl (Yd.loadG (us := [_, _, _]) 0 rfl rfl rfl rfl) ?_
    refine DJ.one (i := 2) (by kernel_rfl) ?_
    refine DO.call0 rfl rfl rfl (fun k0 hk0 dk0 k hk dk => toWork_ok hps.up (by omega)) ?_
    rintro _ _ ⟨xa24, xc24, rfl, rfl⟩
    refine DJ.norm [_, _, _, _] [_] rfl rfl ?_
    refine DJ.one (i := 3) (by kernel_rfl) ?_
    refine DO.callV rfl rfl rfl (fun k0 hk0 dk0 k hk dk => eqWork_T ((Sts.lr hk0 dk0 2 (by omega) rfl).up) (Sts.lr hk dk 0 (by omega) rfl)) ?_
    refine DJ.yd 4 rfl (by kernel_rfl) (by kernel_rfl) (by kernel_rfl) rfl rfl (Yd.not rfl) ?_
    refine DJ.done (by kernel_rfl) ?_
    refine CJ.condF rfl ?_
    refine CJ.skip ?_
    refine CJ.seq ?_
    refine CJ.region ?_
    refine LJ.yd rfl (Yd.asB rfl) ?_
    refine LJ.nil ?_
    refine CJ.ret ?_
    refine Fin.V (Res.one (ResV.tmp (v := .bool true) rfl)) ?_
    rfl
end Go.Proofs.Ytkojheinklgdeaa
