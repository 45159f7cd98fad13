/-
  Contracts: numbers of cuts, cuts above; orders of cuts.
-/
import Derived.Test.YtfnnhekbgjofoaaK3
namespace Go.Proofs.Ytfnnhekbgjofoaa
open Go
set_option maxRecDepth 20000
set_option maxHeartbeats 1000000

theorem map_fst_get {K : List (Int × Int)} {k : Nat} {u : Int × Int} (h : K[k]? = some u) : (K.take (k + 1)).map Prod.fst = (K.take k).map Prod.fst ++ [u.1] := by rw [takeC h, List.map_append]; rfl
theorem NumbersOfI_ok {A : Amb} {cs : List Value} {q : Plan} (h : RdPlan A.h cs q) : Ctr Try.prog 15 #[.agg cs.toArray] A [] (RLP encI 3 1 ((knP q).map Prod.fst)) := by
  have hkl := (knP_ok q).len
  obtain ⟨o, a, p, t, kids, v, css, e, rfl, ho, ha, hp, ⟨⟨sa, sc, rfl, hm, hrow⟩, hlen⟩, hk⟩ := h.inv
  refine Ctr.body (args := [_]) Try.func15 rfl Try.ntmps15 Try.results15 (by simp) ?_
  refine CJ.seq ?_
  refine CJ.region ?_
  refine LJ.boxG (vs := [_, _, _, _, _]) rfl rfl (fun b1 => ?_)
  refine LJ.yd rfl (Yd.asS rfl) ?_
  refine LJ.nil ?_
  refine CJ.seq ?_
  refine CJ.region ?_
  refine LJ.yd rfl (Yd.loadG (us := [_, _, _, _, _]) 0 rfl rfl rfl rfl) ?_
  refine LJ.call0 rfl (fun k hk dk => knotsOf_ok h.up) ?_
  rintro _ _ ⟨a1, c1, K, hK, rfl, rfl⟩
  rw [← hK] at hkl ⊢
  refine LJ.norm [_, _] rfl ?_
  refine LJ.yd rfl (Yd.mvU rfl) ?_
  refine LJ.yd rfl (Yd.extract rfl rfl) ?_
  refine LJ.yd rfl (Yd.extract rfl rfl) ?_
  refine LJ.yd rfl (Yd.asS rfl) ?_
  refine LJ.yd rfl (Yd.asB rfl) ?_
  refine LJ.nil ?_
  refine CJ.seq ?_
  refine CJ.region ?_
  refine LJ.yd rfl (Yd.asS rfl) ?_
  refine LJ.nil ?_
  refine CJ.seq ?_
  refine CJ.seq ?_
  refine CJ.region ?_
  refine LJ.yd rfl (Yd.mvS rfl) ?_
  refine LJ.yd rfl (Yd.len rfl) ?_
  refine LJ.yd rfl (Yd.mvI rfl) ?_
  refine LJ.nil ?_
  refine CJ.block ?_
  refine CJ.ent (Ent.addLR encI 3 1) ?_
  refine CJ.norm [_, _, _] rfl ?_
  refine CJ.loopF [2, 13, 14] (Nat × List Int × Option Addr × Nat × Nat) (fun ⟨k, g, gA, gN, gC⟩ => (gN = g.length) ∧ k ≤ K.length ∧ g = (K.take k).map Prod.fst) (fun ⟨k, g, gA, gN, gC⟩ => [(15, vI k), (5, .slice gA gN gC)]) (fun ⟨k, g, gA, gN, gC⟩ => [LR encI 3 1 gA gC g]) (fun ⟨k, g, gA, gN, gC⟩ => K.length - k) (0, [], _, _, _) [_, _] [0, 1] [2] rfl rfl rfl ?_ ⟨rfl, rfl, trivial⟩ ?_
  · exact ⟨(by first | rfl | omega | (simp; done) | (simp; omega) | (simp [upN_len]; omega) | (simp [idxBy_len]; omega) | (simp [marks_len]; omega) | (simp [upN_len]; done) | (simp [idxBy_len]; done) | (simp [marks_len]; done) | (simp at *; omega)), ⟨by omega, by simp⟩⟩
  · rintro ⟨k, g, gA, gN, gC⟩ σ ⟨hlNg, ⟨hk1, hg⟩⟩
    subst hlNg
    refine CJ.norm [_, _, _] rfl ?_
    have hgl : g.length = k := by rw [hg]; simp; omega
    refine CJ.seq ?_
    refine CJ.region ?_
    refine LJ.splitD rfl (Yd.lss rfl rfl) (fun h16 => ?_) (fun h16 => ?_)
    · refine LJ.nil ?_
      refine CJ.seq ?_
      refine CJ.condT rfl ?_
      refine CJ.skip ?_
      refine CJ.seq ?_
      refine CJ.block ?_
      refine CJ.seq ?_
      refine CJ.region ?_
      refine LJ.idxR 1 rfl rfl rfl rfl (by omega) (by first | rfl | omega | (simp; done) | (simp; omega) | (simp [upN_len]; omega) | (simp [idxBy_len]; omega) | (simp [marks_len]; omega) | (simp [upN_len]; done) | (simp [idxBy_len]; done) | (simp [marks_len]; done) | (simp at *; omega)) (by first | rfl | omega | (simp; done) | (simp; omega) | (simp [upN_len]; omega) | (simp [idxBy_len]; omega) | (simp [marks_len]; omega) | (simp [upN_len]; done) | (simp [idxBy_len]; done) | (simp [marks_len]; done) | (simp at *; omega)) (fun ib17 ia17 => ?_)
      refine LJ.lgR 1 (enc := encK) (fun u => [vI u.1, vI u.2]) (fun _ => rfl) (fun _ => rfl) rfl ia17 rfl rfl rfl (by first | rfl | omega | (simp; done) | (simp; omega) | (simp [upN_len]; omega) | (simp [idxBy_len]; omega) | (simp [marks_len]; omega) | (simp [upN_len]; done) | (simp [idxBy_len]; done) | (simp [marks_len]; done) | (simp at *; omega)) (fun u18 hu18 => ?_)
      try simp only [Int.toNat_natCast] at hu18
      refine LJ.alloc ([_, _] : List Value) rfl rfl (fun b3 => ?_)
      refine LJ.store (v := .agg #[_, _]) (us := [_, _]) 3 rfl rfl rfl rfl rfl rfl rfl rfl ?_
      refine LJ.nil ?_
      refine CJ.region ?_
      refine LJ.yd rfl (Yd.mvS rfl) ?_
      refine LJ.yd rfl (Yd.fieldAddr rfl) ?_
      refine LJ.yd rfl (Yd.loadC 3 rfl rfl rfl) ?_
      refine LJ.op rfl (OpR.buildSlice (cs := [_]) rfl rfl) ?_
      rintro _ _ ⟨b4, rfl, rfl⟩
      refine LJ.op rfl (OpR.apT (enc := encI) [_] 2 4 rfl rfl rfl (by first | rfl | omega | (simp; done) | (simp; omega) | (simp [upN_len]; omega) | (simp [idxBy_len]; omega) | (simp [marks_len]; omega) | (simp [upN_len]; done) | (simp [idxBy_len]; done) | (simp [marks_len]; done) | (simp at *; omega)) rfl rfl rfl rfl rfl (by first | rfl | omega | (simp; done) | (simp; omega) | (simp [upN_len]; omega) | (simp [idxBy_len]; omega) | (simp [marks_len]; omega) | (simp [upN_len]; done) | (simp [idxBy_len]; done) | (simp [marks_len]; done) | (simp at *; omega))) ?_
      rintro _ _ ⟨ra23, rc23, rfl, rfl⟩
      refine LJ.norm [_, _, _, _, _] rfl ?_
      refine LJ.yd rfl (Yd.asS rfl) ?_
      refine LJ.nil ?_
      refine CJ.region ?_
      refine LJ.yd rfl (Yd.add rfl rfl (by unfold I64; omega)) ?_
      refine LJ.yd rfl (Yd.mvI rfl) ?_
      refine LJ.nil ?_
      refine ⟨(k + 1, _, _, _, _), ?_, ⟨rfl, rfl, rfl, trivial⟩, ⟨rfl, rfl, trivial⟩, Ent.pick [0, 1, 2] [3, 4] rfl, ?_⟩
      · refine ⟨(by first | rfl | omega | (simp; done) | (simp; omega) | (simp [upN_len]; omega) | (simp [idxBy_len]; omega) | (simp [marks_len]; omega) | (simp [upN_len]; done) | (simp [idxBy_len]; done) | (simp [marks_len]; done) | (simp at *; omega)), ?_⟩
        refine ⟨by omega, ?_⟩
        rw [hg, map_fst_get hu18]
      · first | omega | (dsimp only; omega) | (simp only []; omega)
    · refine LJ.nil ?_
      refine CJ.seq ?_
      refine CJ.condF rfl ?_
      refine CJ.exit ?_
      refine CJ.seq ?_
      refine CJ.region ?_
      refine LJ.yd rfl (Yd.mvS rfl) ?_
      refine LJ.yd rfl (Yd.asS rfl) ?_
      refine LJ.nil ?_
      refine CJ.ret ?_
      refine Fin.RL 2 (Res.one (ResV.tmp (v := .slice _ _ _) rfl)) rfl (by first | rfl | omega | (simp; done) | (simp; omega) | (simp [upN_len]; omega) | (simp [idxBy_len]; omega) | (simp [marks_len]; omega) | (simp [upN_len]; done) | (simp [idxBy_len]; done) | (simp [marks_len]; done) | (simp at *; omega)) ?_
      rw [hg, List.take_of_length_le (by omega)]
theorem AboveOfI_ok {A : Amb} {cs : List Value} {q : Plan} {n : Int} (h : RdPlan A.h cs q) : Ctr Try.prog 12 #[.agg cs.toArray, vI n] A [] (Val (vI (abv (knP q) n))) := by
  have hkl := (knP_ok q).len
  obtain ⟨o, a, p, t, kids, v, css, e, rfl, ho, ha, hp, ⟨⟨sa, sc, rfl, hm, hrow⟩, hlen⟩, hk⟩ := h.inv
  refine Ctr.body (args := [_, _]) Try.func12 rfl Try.ntmps12 Try.results12 (by simp) ?_
  refine CJ.seq ?_
  refine CJ.region ?_
  refine LJ.boxG (vs := [_, _, _, _, _]) rfl rfl (fun b1 => ?_)
  refine LJ.yd rfl (Yd.asI rfl) ?_
  refine LJ.nil ?_
  refine CJ.seq ?_
  refine CJ.region ?_
  refine LJ.yd rfl (Yd.loadG (us := [_, _, _, _, _]) 0 rfl rfl rfl rfl) ?_
  refine LJ.call0 rfl (fun k hk dk => knotsOf_ok h.up) ?_
  rintro _ _ ⟨a1, c1, K, hK, rfl, rfl⟩
  rw [← hK] at hkl ⊢
  have hpl := abv_plc n K 0
  refine LJ.norm [_, _] rfl ?_
  refine LJ.yd rfl (Yd.mvU rfl) ?_
  refine LJ.yd rfl (Yd.extract rfl rfl) ?_
  refine LJ.yd rfl (Yd.extract rfl rfl) ?_
  refine LJ.yd rfl (Yd.asS rfl) ?_
  refine LJ.yd rfl (Yd.asB rfl) ?_
  refine LJ.nil ?_
  refine CJ.seq ?_
  refine CJ.region ?_
  refine LJ.yd rfl (Yd.mvS rfl) ?_
  refine LJ.yd rfl (Yd.mvI rfl) ?_
  refine LJ.callV rfl (fun k hk dk => findKnot_ok (Sts.lrm hk dk 1 (by first | rfl | omega | (simp; done) | (simp; omega) | (simp [upN_len]; omega) | (simp [idxBy_len]; omega) | (simp [marks_len]; omega) | (simp [upN_len]; done) | (simp [idxBy_len]; done) | (simp [marks_len]; done) | (simp at *; omega)) (by first | rfl | omega | (simp; done) | (simp; omega) | (simp [upN_len]; omega) | (simp [idxBy_len]; omega) | (simp [marks_len]; omega) | (simp [upN_len]; done) | (simp [idxBy_len]; done) | (simp [marks_len]; done) | (simp at *; omega)) rfl)) ?_
  refine LJ.yd rfl (Yd.asI rfl) ?_
  refine LJ.nil ?_
  refine CJ.seq ?_
  refine CJ.seq ?_
  refine CJ.region ?_
  refine LJ.yd rfl (Yd.mvI rfl) ?_
  refine LJ.splitD rfl (Yd.lss rfl rfl) (fun h17 => ?_) (fun h17 => ?_)
  · refine LJ.nil ?_
    refine CJ.condT rfl ?_
    refine CJ.seq ?_
    refine CJ.region ?_
    refine LJ.yd rfl (Yd.asI rfl) ?_
    refine LJ.nil ?_
    refine CJ.ret ?_
    refine Fin.V (Res.one (ResV.tmp (v := .int _ _) rfl)) ?_
    first | rfl | (rcases hpl with h1 | ⟨j, h1, h2⟩; rw [h1.2.1]; omega)
  · refine LJ.nil ?_
    refine CJ.condF rfl ?_
    refine CJ.skip ?_
    refine CJ.seq ?_
    obtain ⟨j, hj1, hj2⟩ := hpl.resolve_left (by omega)
    rw [hj1, Nat.zero_add]
    have hj3 := ltC hj2
    refine CJ.region ?_
    refine LJ.yd rfl (Yd.mvS rfl) ?_
    refine LJ.yd rfl (Yd.mvI rfl) ?_
    refine LJ.idxR 1 rfl rfl rfl rfl (by omega) (by first | rfl | omega | (simp; done) | (simp; omega) | (simp [upN_len]; omega) | (simp [idxBy_len]; omega) | (simp [marks_len]; omega) | (simp [upN_len]; done) | (simp [idxBy_len]; done) | (simp [marks_len]; done) | (simp at *; omega)) (by first | rfl | omega | (simp; done) | (simp; omega) | (simp [upN_len]; omega) | (simp [idxBy_len]; omega) | (simp [marks_len]; omega) | (simp [upN_len]; done) | (simp [idxBy_len]; done) | (simp [marks_len]; done) | (simp at *; omega)) (fun ib20 ia20 => ?_)
    refine LJ.yd rfl (Yd.fieldAddr rfl) ?_
    refine LJ.ldR 1 1 (fun u => vI u.2) (fun _ => rfl) rfl ia20 rfl rfl rfl (by first | rfl | omega | (simp; done) | (simp; omega) | (simp [upN_len]; omega) | (simp [idxBy_len]; omega) | (simp [marks_len]; omega) | (simp [upN_len]; done) | (simp [idxBy_len]; done) | (simp [marks_len]; done) | (simp at *; omega)) (fun u22 hu22 => ?_)
    try simp only [Int.toNat_natCast] at hu22
    rw [hj2] at hu22; cases hu22
    refine LJ.yd rfl (Yd.asI rfl) ?_
    refine LJ.nil ?_
    refine CJ.ret ?_
    refine Fin.V (Res.one (ResV.tmp (v := .int _ _) rfl)) ?_
    first | rfl | (rcases hpl with h1 | ⟨j, h1, h2⟩; rw [h1.2.1]; omega)
theorem knP_S {q : Plan} (h : ¬ psz q < 0) : ∃ b : BT, q = b.plan ∧ b.sz ≤ 255 ∧ knP q = b.knots 0 (-1) := by
  obtain ⟨b, rfl⟩ := BT.of_psz q (by omega)
  exact ⟨b, rfl, (sz_of_psz h).1, knP_BT h⟩
theorem NumbersOfS_ok {A : Amb} {cs : List Value} {q : Plan} (h : RdPlan A.h cs q) : Ctr Try.prog 18 #[.agg cs.toArray] A [] (RLP encI 3 1 ((knP q).map Prod.fst)) := by
  obtain ⟨o, a, p, t, kids, v, css, e, hcs, ho, ha, hp, ⟨⟨sa, sc, rfl, hm, hrow⟩, hlen⟩, hk⟩ := h.inv
  by_cases hq : psz q < 0
  · have hkn : knP q = [] := if_pos hq
    subst hcs
    refine Ctr.body (args := [_]) Try.func18 rfl Try.ntmps18 Try.results18 (by simp) ?_
    refine CJ.seq ?_
    refine CJ.region ?_
    refine LJ.boxG (vs := [_, _, _, _, _]) rfl rfl (fun b1 => ?_)
    refine LJ.yd rfl (Yd.asS rfl) ?_
    refine LJ.nil ?_
    refine CJ.seq ?_
    refine CJ.seq ?_
    refine CJ.region ?_
    refine LJ.yd rfl (Yd.loadG (us := [_, _, _, _, _]) 0 rfl rfl rfl rfl) ?_
    refine LJ.callV rfl (fun k hk dk => planSizeS_ok h.up) ?_
    refine LJ.yd rfl (Yd.cmpT (Yd.lss rfl rfl) (by omega)) ?_
    refine LJ.nil ?_
    refine CJ.condT rfl ?_
    refine CJ.seq ?_
    refine CJ.region ?_
    refine LJ.yd rfl (Yd.asS rfl) ?_
    refine LJ.nil ?_
    refine CJ.ret ?_
    refine Fin.RN (Res.one (ResV.tmp (v := .slice _ _ _) rfl)) ?_
    rw [hkn]; rfl
  · obtain ⟨b, hb, hz, hkn⟩ := knP_S hq
    have hT : RdT A.h cs b := RdT.of b (hb ▸ h)
    subst hcs
    refine Ctr.body (args := [_]) Try.func18 rfl Try.ntmps18 Try.results18 (by simp) ?_
    refine CJ.seq ?_
    refine CJ.region ?_
    refine LJ.boxG (vs := [_, _, _, _, _]) rfl rfl (fun b1 => ?_)
    refine LJ.yd rfl (Yd.asS rfl) ?_
    refine LJ.nil ?_
    refine CJ.seq ?_
    refine CJ.seq ?_
    refine CJ.region ?_
    refine LJ.yd rfl (Yd.loadG (us := [_, _, _, _, _]) 0 rfl rfl rfl rfl) ?_
    refine LJ.callV rfl (fun k hk dk => planSizeS_ok h.up) ?_
    refine LJ.yd rfl (Yd.cmpF (Yd.lss rfl rfl) (by omega)) ?_
    refine LJ.nil ?_
    refine CJ.condF rfl ?_
    refine CJ.skip ?_
    refine CJ.seq ?_
    refine CJ.region ?_
    refine LJ.yd rfl (Yd.loadG (us := [_, _, _, _, _]) 0 rfl rfl rfl rfl) ?_
    refine LJ.call0 rfl (fun k hk dk => innerNodes_ok b _ _ _ (-1) (by omega) (by omega) (by omega) hz hT.up) ?_
    rintro _ _ ⟨ra7, rc7, rfl, rfl⟩
    refine LJ.norm [_, _] rfl ?_
    refine LJ.yd rfl (Yd.asS rfl) ?_
    refine LJ.nil ?_
    refine CJ.ret ?_
    refine Fin.RL 1 (Res.one (ResV.tmp (v := .slice _ _ _) rfl)) rfl (by first | rfl | omega | (simp; done) | (simp; omega) | (simp [upN_len]; omega) | (simp [idxBy_len]; omega) | (simp [marks_len]; omega) | (simp [upN_len]; done) | (simp [idxBy_len]; done) | (simp [marks_len]; done) | (simp at *; omega)) ?_
    rw [hkn]
theorem AboveOfS_ok {A : Amb} {cs : List Value} {q : Plan} {n : Int} (h : RdPlan A.h cs q) : Ctr Try.prog 13 #[.agg cs.toArray, vI n] A [] (Val (vI (abv (knP q) n))) := by
  obtain ⟨o, a, p, t, kids, v, css, e, hcs, ho, ha, hp, ⟨⟨sa, sc, rfl, hm, hrow⟩, hlen⟩, hk⟩ := h.inv
  by_cases hq : psz q < 0
  · have hkn : knP q = [] := if_pos hq
    subst hcs
    refine Ctr.body (args := [_, _]) Try.func13 rfl Try.ntmps13 Try.results13 (by simp) ?_
    refine CJ.seq ?_
    refine CJ.region ?_
    refine LJ.boxG (vs := [_, _, _, _, _]) rfl rfl (fun b1 => ?_)
    refine LJ.yd rfl (Yd.asI rfl) ?_
    refine LJ.nil ?_
    refine CJ.seq ?_
    refine CJ.seq ?_
    refine CJ.region ?_
    refine LJ.yd rfl (Yd.loadG (us := [_, _, _, _, _]) 0 rfl rfl rfl rfl) ?_
    refine LJ.callV rfl (fun k hk dk => planSizeS_ok h.up) ?_
    refine LJ.yd rfl (Yd.cmpT (Yd.lss rfl rfl) (by omega)) ?_
    refine LJ.yd rfl (Yd.mvB rfl) ?_
    refine LJ.gF rfl rfl ?_
    refine LJ.gF rfl rfl ?_
    refine LJ.gF rfl rfl ?_
    refine LJ.gF rfl rfl ?_
    refine LJ.gF rfl rfl ?_
    refine LJ.yd rfl (Yd.pickTB rfl rfl) ?_
    refine LJ.nil ?_
    refine CJ.condT rfl ?_
    refine CJ.seq ?_
    refine CJ.region ?_
    refine LJ.yd rfl (Yd.asI rfl) ?_
    refine LJ.nil ?_
    refine CJ.ret ?_
    refine Fin.V (Res.one (ResV.tmp (v := .int _ _) rfl)) ?_
    rw [hkn]; rfl
  · obtain ⟨b, hb, hz, hkn⟩ := knP_S hq
    have hT : RdT A.h cs b := RdT.of b (hb ▸ h)
    have hpl := abv_plc n (b.knots 0 (-1)) 0
    have hkl := knots_len' (b := b) (n := 0) (ab := -1) hz
    subst hcs
    refine Ctr.body (args := [_, _]) Try.func13 rfl Try.ntmps13 Try.results13 (by simp) ?_
    refine CJ.seq ?_
    refine CJ.region ?_
    refine LJ.boxG (vs := [_, _, _, _, _]) rfl rfl (fun b1 => ?_)
    refine LJ.yd rfl (Yd.asI rfl) ?_
    refine LJ.nil ?_
    refine CJ.seq ?_
    refine CJ.seq ?_
    refine CJ.region ?_
    refine LJ.yd rfl (Yd.loadG (us := [_, _, _, _, _]) 0 rfl rfl rfl rfl) ?_
    refine LJ.callV rfl (fun k hk dk => planSizeS_ok h.up) ?_
    refine LJ.yd rfl (Yd.cmpF (Yd.lss rfl rfl) (by omega)) ?_
    refine LJ.yd rfl (Yd.mvB rfl) ?_
    refine LJ.gT rfl ?_
    refine LJ.yd rfl (Yd.loadG (us := [_, _, _, _, _]) 0 rfl rfl rfl rfl) ?_
    refine LJ.gT rfl ?_
    refine LJ.call0 rfl (fun k hk dk => innerNodes_ok b _ _ _ (-1) (by omega) (by omega) (by omega) hz hT.up) ?_
    rintro _ _ ⟨ra10, rc10, rfl, rfl⟩
    refine LJ.norm [_, _] rfl ?_
    refine LJ.gT rfl ?_
    refine LJ.yd rfl (Yd.mvI rfl) ?_
    refine LJ.gT rfl ?_
    refine LJ.callV rfl (fun k hk dk => placeIn_ok (Sts.lrm hk dk 1 (by first | rfl | omega | (simp; done) | (simp; omega) | (simp [upN_len]; omega) | (simp [idxBy_len]; omega) | (simp [marks_len]; omega) | (simp [upN_len]; done) | (simp [idxBy_len]; done) | (simp [marks_len]; done) | (simp at *; omega)) (by first | rfl | omega | (simp; done) | (simp; omega) | (simp [upN_len]; omega) | (simp [idxBy_len]; omega) | (simp [marks_len]; omega) | (simp [upN_len]; done) | (simp [idxBy_len]; done) | (simp [marks_len]; done) | (simp at *; omega)) rfl)) ?_
    refine LJ.gT rfl ?_
    refine LJ.splitD rfl (Yd.lss rfl rfl) (fun h13 => ?_) (fun h13 => ?_)
    · refine LJ.yd rfl (Yd.pickFB rfl rfl) ?_
      refine LJ.nil ?_
      refine CJ.condT rfl ?_
      refine CJ.seq ?_
      refine CJ.region ?_
      refine LJ.yd rfl (Yd.asI rfl) ?_
      refine LJ.nil ?_
      refine CJ.ret ?_
      refine Fin.V (Res.one (ResV.tmp (v := .int _ _) rfl)) ?_
      first | (rw [hkn]; done) | (rw [hkn]; rfl) | (rw [hkn]; rcases hpl with h1 | ⟨j, h1, h2⟩; rw [h1.2.1]; omega)
    · refine LJ.yd rfl (Yd.pickFB rfl rfl) ?_
      refine LJ.nil ?_
      refine CJ.condF rfl ?_
      refine CJ.skip ?_
      refine CJ.seq ?_
      obtain ⟨j, hj1, hj2⟩ := hpl.resolve_left (by omega)
      have hj3 := ltC hj2
      refine CJ.regionD [0, 1] [] (by kernel_rfl) rfl ?_
      refine DJ.norm [_, _] [] rfl rfl ?_
      refine DJ.yd 0 rfl (by kernel_rfl) (by kernel_rfl) (by kernel_rfl) rfl rfl (Yd.loadG (us := [_, _, _, _, _]) 0 rfl rfl rfl rfl) ?_
      refine DJ.yd 2 rfl (by kernel_rfl) (by kernel_rfl) (by kernel_rfl) rfl rfl (Yd.loadG (us := [_, _, _, _, _]) 0 rfl rfl rfl rfl) ?_
      refine DJ.yd 4 rfl (by kernel_rfl) (by kernel_rfl) (by kernel_rfl) rfl rfl (Yd.mvI rfl) ?_
      refine DJ.one (i := 1) (by kernel_rfl) ?_
      refine DO.call0 rfl rfl rfl (fun k0 hk0 dk0 k hk dk => aboves_ok b _ _ _ (-1) (by omega) (by omega) (by omega) hz hT.up) ?_
      rintro _ _ ⟨ra16, rc16, rfl, rfl⟩
      refine DJ.norm [_, _] [_] rfl rfl ?_
      refine DJ.one (i := 3) (by kernel_rfl) ?_
      refine DO.call0 rfl rfl rfl (fun k0 hk0 dk0 k hk dk => innerNodes_ok b _ _ _ (-1) (by omega) (by omega) (by omega) hz hT.up) ?_
      rintro _ _ ⟨ra18, rc18, rfl, rfl⟩
      refine DJ.norm [_, _] [_, _] rfl rfl ?_
      refine DJ.one (i := 5) (by kernel_rfl) ?_
      refine DO.callV rfl rfl rfl (fun k0 hk0 dk0 k hk dk => placeIn_ok (Sts.lrm hk dk 1 (by first | rfl | omega | (simp; done) | (simp; omega) | (simp [upN_len]; omega) | (simp [idxBy_len]; omega) | (simp [marks_len]; omega) | (simp [upN_len]; done) | (simp [idxBy_len]; done) | (simp [marks_len]; done) | (simp at *; omega)) (by first | rfl | omega | (simp; done) | (simp; omega) | (simp [upN_len]; omega) | (simp [idxBy_len]; omega) | (simp [marks_len]; omega) | (simp [upN_len]; done) | (simp [idxBy_len]; done) | (simp [marks_len]; done) | (simp at *; omega)) rfl)) ?_
      refine DJ.idxR 0 rfl 6 rfl (by kernel_rfl) (by kernel_rfl) (by kernel_rfl) rfl rfl rfl rfl (by omega) (by simp; omega) (by simp; omega) (fun ib21 ia21 => ?_)
      refine DJ.one (i := 7) (by kernel_rfl) ?_
      refine DO.ldR rfl rfl rfl 0 0 (fun u => vI u) (fun _ => rfl) rfl ia21 rfl rfl (by simp; omega) (fun u22 hu22 => ?_)
      try simp only [Int.toNat_natCast] at hu22
      rw [hj1, Nat.zero_add, List.getElem?_map, Int.toNat_natCast, hj2] at hu22
      obtain rfl := Option.some.inj hu22
      refine DJ.yd 8 rfl (by kernel_rfl) (by kernel_rfl) (by kernel_rfl) rfl rfl (Yd.asI rfl) ?_
      refine DJ.done (by kernel_rfl) ?_
      refine CJ.ret ?_
      refine Fin.V (Res.one (ResV.tmp (v := .int _ _) rfl)) ?_
      first | (rw [hkn]; done) | (rw [hkn]; rfl) | (rw [hkn]; rcases hpl with h1 | ⟨j, h1, h2⟩; rw [h1.2.1]; omega)
end Go.Proofs.Ytfnnhekbgjofoaa
