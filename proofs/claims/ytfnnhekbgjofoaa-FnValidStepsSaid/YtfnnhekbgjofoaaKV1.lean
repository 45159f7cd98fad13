/-
  Orders of cuts that are drawn: contracts.
-/
import Derived.Test.YtfnnhekbgjofoaaK13
import Derived.Test.YtfnnhekbgjofoaaKT
import Derived.Test.YtfnnhekbgjofoaaK2
namespace Go.Proofs.Ytfnnhekbgjofoaa
open Go
set_option maxRecDepth 20000
set_option maxHeartbeats 1000000

def StepsR (rb : Nat) (a : Option Addr) (n c : Nat) (p : Int) (v : Value) (fs : List HProp) : Prop :=
  ∃ (l : List Int) (q : Int) (sa : Option Addr) (sc : Nat), v = .slice sa l.length sc ∧ fs = [Rd rb a n c q, LR encI 3 1 sa sc l] ∧ p ≤ q ∧ q ≤ p + 255 ∧ l.length ≤ 255
theorem someSteps_ok {A : Amb} {rb n c : Nat} {a : Option Addr} {p : Int} {cs : List Value} {b : BT} (hcode : RdCode A.h a n) (hp0 : 0 ≤ p) (hp1 : p ≤ 10000) (hz : b.sz ≤ 255) (h : RdT A.h cs b) :
    Ctr Try.prog 89 #[.pointer (some ⟨rb, 0, none⟩), .agg cs.toArray] A [Rd rb a n c p] (StepsR rb a n c p) := by
  have hK := BT.kok hz
  have hKl : (b.knots 0 (-1)).length ≤ 255 := by
    have h1 := b.knots_len 0 (-1)
    have h2 := b.sz_cuts
    have h3 := b.cuts_nonneg
    omega
  generalize hKe : b.knots 0 (-1) = K at *
  have hpos := b.sz_pos
  have hm1 : (K.map Prod.fst).length = K.length := List.length_map ..
  have hm2 : (K.map Prod.snd).length = K.length := List.length_map ..
  obtain ⟨o, e, i, t, x, m, l, rfl⟩ := h.i64
  refine Ctr.body (args := [_, _]) Try.func89 rfl Try.ntmps89 Try.results89 (by simp) ?_
  refine CJ.seq ?_
  refine CJ.region ?_
  refine LJ.boxG (vs := [_, _, _, _, _]) rfl rfl (fun b1 => ?_)
  refine LJ.yd rfl (Yd.asS rfl) ?_
  refine LJ.nil ?_
  refine CJ.seq ?_
  refine CJ.region ?_
  refine LJ.yd rfl (Yd.loadG (us := [_, _, _, _, _]) 1 rfl rfl rfl rfl) ?_
  refine LJ.call0 rfl (fun k hk dk => hKe ▸ innerNodes_ok b _ _ _ (-1) (by omega) (by omega) (by omega) hz h.up) ?_
  rintro _ _ ⟨ra10, rc10, rfl, rfl⟩
  refine LJ.norm [_, _, _] rfl ?_
  refine LJ.yd rfl (Yd.asS rfl) ?_
  refine LJ.nil ?_
  refine CJ.seq ?_
  refine CJ.region ?_
  refine LJ.yd rfl (Yd.loadG (us := [_, _, _, _, _]) 1 rfl rfl rfl rfl) ?_
  refine LJ.call0 rfl (fun k hk dk => hKe ▸ aboves_ok b _ _ _ (-1) (by omega) (by omega) (by omega) hz h.up) ?_
  rintro _ _ ⟨ra12, rc12, rfl, rfl⟩
  refine LJ.norm [_, _, _, _] rfl ?_
  refine LJ.yd rfl (Yd.asS rfl) ?_
  refine LJ.nil ?_
  refine CJ.seq ?_
  refine CJ.region ?_
  refine LJ.op rfl (OpR.buildSlice (cs := []) rfl rfl) ?_
  rintro _ _ ⟨b4, rfl, rfl⟩
  refine LJ.yd rfl (Yd.asS rfl) ?_
  refine LJ.nil ?_
  refine CJ.seq ?_
  refine CJ.block ?_
  refine CJ.imp1 4 rfl (fun _ h => Cel.lr (enc := encI) (k := 1) (m := 0) [] rfl rfl rfl rfl h) ?_
  refine CJ.norm [_, _, _, _, _] rfl ?_
  refine CJ.loopF [0, 4, 5, 6] (Int × List Int × Option Addr × Nat × Nat) (fun ⟨q, O, OA, ON, OC⟩ => (ON = O.length) ∧ q = p + O.length ∧ O.length ≤ K.length) (fun ⟨q, O, OA, ON, OC⟩ => [(7, .slice OA ON OC)]) (fun ⟨q, O, OA, ON, OC⟩ => [LR encI 3 1 OA OC O, Rd rb a n c q]) (fun ⟨q, O, OA, ON, OC⟩ => K.length - O.length) (p, [], _, _, _) [_, _, _] [1, 2, 3] [4, 0] rfl rfl rfl ?_ ⟨rfl, trivial⟩ ?_
  · exact ⟨(by first | rfl | omega | (simp; done) | (simp; omega) | (simp [upN_len]; omega) | (simp [idxBy_len]; omega) | (simp [marks_len]; omega) | (simp [upN_len]; done) | (simp [idxBy_len]; done) | (simp [marks_len]; done) | (simp at *; omega)), ⟨by simp, by simp⟩⟩
  · rintro ⟨q, O, OA, ON, OC⟩ σ ⟨hlNO, ⟨hq, hOl⟩⟩
    subst hlNO
    refine CJ.norm [_, _, _, _, _] rfl ?_
    refine CJ.seq ?_
    refine CJ.seq ?_
    refine CJ.region ?_
    refine LJ.yd rfl (Yd.mvS rfl) ?_
    refine LJ.yd rfl (Yd.len rfl) ?_
    refine LJ.yd rfl (Yd.mvS rfl) ?_
    refine LJ.yd rfl (Yd.len rfl) ?_
    refine LJ.splitD rfl (Yd.lss rfl rfl) (fun h18 => ?_) (fun h18 => ?_)
    · refine LJ.nil ?_
      refine CJ.condT rfl ?_
      refine CJ.skip ?_
      refine CJ.block ?_
      refine CJ.seq ?_
      obtain ⟨jj, aq, haj, hao, hav⟩ := avail hK (out := O) (by simp at h18; omega)
      refine CJ.region ?_
      refine LJ.yd rfl (Yd.mvP rfl) ?_
      refine LJ.yd rfl (Yd.mvS rfl) ?_
      refine LJ.yd rfl (Yd.len rfl) ?_
      refine LJ.call (pickF _ [0, 1, 2, 3]) (pickF _ [4]) rfl (perm_pickF _ [0, 1, 2, 3] [4] rfl) (fun k hk dk => pick_ok (hcode.up) (by omega) (by omega)) ?_
      rintro _ _ ⟨x22, rfl, hx22, hy22, rfl⟩
      refine LJ.norm [_, _, _, _, _] rfl ?_
      refine LJ.yd rfl (Yd.asI rfl) ?_
      refine LJ.nil ?_
      refine CJ.seq ?_
      refine CJ.block ?_
      refine CJ.loopK [0, 4, 5, 6, 7, 14, 15, 16, 17, 18, 19, 20, 21, 22] Int (fun z => 0 ≤ z ∧ z < K.length) (fun z => [(8, vI z)]) (fun z => (jj + K.length - z.toNat) % K.length) (x22) ?_ ⟨rfl, trivial⟩ ?_
      · exact ⟨by omega, by omega⟩
      · rintro z σ ⟨hz0, hz1⟩
        refine CJ.seq ?_
        refine CJ.seq ?_
        refine CJ.region ?_
        refine LJ.yd rfl (Yd.mvS rfl) ?_
        refine LJ.yd rfl (Yd.mvS rfl) ?_
        refine LJ.yd rfl (Yd.mvI rfl) ?_
        refine LJ.idxR 1 rfl rfl rfl rfl (by omega) (by first | rfl | omega | (simp; done) | (simp; omega) | (simp [upN_len]; omega) | (simp [idxBy_len]; omega) | (simp [marks_len]; omega) | (simp [upN_len]; done) | (simp [idxBy_len]; done) | (simp [marks_len]; done) | (simp at *; omega)) (by first | rfl | omega | (simp; done) | (simp; omega) | (simp [upN_len]; omega) | (simp [idxBy_len]; omega) | (simp [marks_len]; omega) | (simp [upN_len]; done) | (simp [idxBy_len]; done) | (simp [marks_len]; done) | (simp at *; omega)) (fun ib26 ia26 => ?_)
        refine LJ.ldR 1 0 (fun u => vI u) (fun _ => rfl) rfl ia26 rfl rfl rfl (by first | rfl | omega | (simp; done) | (simp; omega) | (simp [upN_len]; omega) | (simp [idxBy_len]; omega) | (simp [marks_len]; omega) | (simp [upN_len]; done) | (simp [idxBy_len]; done) | (simp [marks_len]; done) | (simp at *; omega)) (fun u27 hu27 => ?_)
        try simp only [Int.toNat_natCast] at hu27
        refine LJ.callV rfl (fun k hk dk => placeIn_ok (Sts.lrm hk dk 3 (by first | rfl | omega | (simp; done) | (simp; omega) | (simp [upN_len]; omega) | (simp [idxBy_len]; omega) | (simp [marks_len]; omega) | (simp [upN_len]; done) | (simp [idxBy_len]; done) | (simp [marks_len]; done) | (simp at *; omega)) (by first | rfl | omega | (simp; done) | (simp; omega) | (simp [upN_len]; omega) | (simp [idxBy_len]; omega) | (simp [marks_len]; omega) | (simp [upN_len]; done) | (simp [idxBy_len]; done) | (simp [marks_len]; done) | (simp at *; omega)) rfl)) ?_
        refine LJ.splitD rfl (Yd.geq rfl rfl) (fun h29 => ?_) (fun h29 => ?_)
        · refine LJ.yd rfl (Yd.mvB rfl) ?_
          refine LJ.gF rfl rfl ?_
          refine LJ.gF rfl rfl ?_
          refine LJ.gF rfl rfl ?_
          refine LJ.gF rfl rfl ?_
          refine LJ.gF rfl rfl ?_
          refine LJ.gF rfl rfl ?_
          refine LJ.gF rfl rfl ?_
          refine LJ.gF rfl rfl ?_
          refine LJ.gF rfl rfl ?_
          refine LJ.gF rfl rfl ?_
          refine LJ.gF rfl rfl ?_
          refine LJ.gF rfl rfl ?_
          refine LJ.gF rfl rfl ?_
          refine LJ.gF rfl rfl ?_
          refine LJ.yd rfl (Yd.pickTB rfl rfl) ?_
          refine LJ.nil ?_
          refine CJ.condT rfl ?_
          refine CJ.skip ?_
          refine CJ.block ?_
          refine CJ.region ?_
          refine LJ.yd rfl (Yd.mvI rfl) ?_
          refine LJ.yd rfl (Yd.add rfl rfl (by unfold I64; omega)) ?_
          refine LJ.yd rfl (Yd.mvS rfl) ?_
          refine LJ.yd rfl (Yd.len rfl) ?_
          refine LJ.yd rfl (Yd.rem rfl rfl (by omega) (by omega)) ?_
          refine LJ.yd rfl (Yd.asI rfl) ?_
          refine LJ.nil ?_
          refine ⟨_, ?_, ⟨rfl, rfl, rfl, rfl, rfl, rfl, rfl, rfl, rfl, rfl, rfl, rfl, rfl, rfl, trivial⟩, ⟨rfl, trivial⟩, Ent.refl _, ?_⟩
          · have hr0 := Int.emod_nonneg (z + 1) (show ((K.map Prod.fst).length : Int) ≠ 0 by omega)
            have hr1 := Int.emod_lt_of_pos (z + 1) (show 0 < ((K.map Prod.fst).length : Int) by omega)
            exact ⟨by omega, by omega⟩
          · have hne : z.toNat ≠ jj := fun e => by
              subst e
              first
                | (have h1 := plc_mem.2 hao
                   simp only [List.getElem?_map, haj, Option.map_some, Option.some.injEq] at hu27
                   subst hu27
                   omega)
                | (simp only [List.getElem?_map, haj, Option.map_some, Option.some.injEq] at hu34 hu41
                   subst hu34
                   subst hu41
                   have h1 := plc_mem.1 h43
                   exact hav.elim (fun h => by omega) h1)
            obtain ⟨zn, rfl⟩ := Int.eq_ofNat_of_zero_le hz0
            have e1 : (((zn : Int) + 1) % ((K.map Prod.fst).length : Int)).toNat = (zn + 1) % K.length := by
              rw [hm1]; exact congrArg Int.toNat (show ((zn : Int) + 1) % (K.length : Int) = (((zn + 1) % K.length : Nat) : Int) by simp)
            have e2 := ring (n := K.length) (k := zn) (j := jj) (by omega) (List.getElem?_eq_some_iff.1 haj).1 hne
            show (jj + K.length - (((zn : Int) + 1) % ((K.map Prod.fst).length : Int)).toNat) % K.length < (jj + K.length - (zn : Int).toNat) % K.length
            rw [e1]; exact e2
        · refine LJ.yd rfl (Yd.mvB rfl) ?_
          refine LJ.gT rfl ?_
          refine LJ.yd rfl (Yd.mvS rfl) ?_
          refine LJ.gT rfl ?_
          refine LJ.yd rfl (Yd.mvI rfl) ?_
          refine LJ.gT rfl ?_
          refine LJ.idxR 2 rfl rfl rfl rfl (by omega) (by first | rfl | omega | (simp; done) | (simp; omega) | (simp [upN_len]; omega) | (simp [idxBy_len]; omega) | (simp [marks_len]; omega) | (simp [upN_len]; done) | (simp [idxBy_len]; done) | (simp [marks_len]; done) | (simp at *; omega)) (by first | rfl | omega | (simp; done) | (simp; omega) | (simp [upN_len]; omega) | (simp [idxBy_len]; omega) | (simp [marks_len]; omega) | (simp [upN_len]; done) | (simp [idxBy_len]; done) | (simp [marks_len]; done) | (simp at *; omega)) (fun ib33 ia33 => ?_)
          refine LJ.gT rfl ?_
          refine LJ.ldR 2 0 (fun u => vI u) (fun _ => rfl) rfl ia33 rfl rfl rfl (by first | rfl | omega | (simp; done) | (simp; omega) | (simp [upN_len]; omega) | (simp [idxBy_len]; omega) | (simp [marks_len]; omega) | (simp [upN_len]; done) | (simp [idxBy_len]; done) | (simp [marks_len]; done) | (simp at *; omega)) (fun u34 hu34 => ?_)
          try simp only [Int.toNat_natCast] at hu34
          refine LJ.gT rfl ?_
          refine LJ.splitD rfl (Yd.geq rfl rfl) (fun h35 => ?_) (fun h35 => ?_)
          · refine LJ.gT rfl ?_
            refine LJ.yd rfl (Yd.mvB rfl) ?_
            refine LJ.gT rfl ?_
            refine LJ.yd rfl (Yd.mvS rfl) ?_
            refine LJ.gT rfl ?_
            refine LJ.yd rfl (Yd.mvS rfl) ?_
            refine LJ.gT rfl ?_
            refine LJ.yd rfl (Yd.mvI rfl) ?_
            refine LJ.gT rfl ?_
            refine LJ.idxR 2 rfl rfl rfl rfl (by omega) (by first | rfl | omega | (simp; done) | (simp; omega) | (simp [upN_len]; omega) | (simp [idxBy_len]; omega) | (simp [marks_len]; omega) | (simp [upN_len]; done) | (simp [idxBy_len]; done) | (simp [marks_len]; done) | (simp at *; omega)) (by first | rfl | omega | (simp; done) | (simp; omega) | (simp [upN_len]; omega) | (simp [idxBy_len]; omega) | (simp [marks_len]; omega) | (simp [upN_len]; done) | (simp [idxBy_len]; done) | (simp [marks_len]; done) | (simp at *; omega)) (fun ib40 ia40 => ?_)
            refine LJ.gT rfl ?_
            refine LJ.ldR 2 0 (fun u => vI u) (fun _ => rfl) rfl ia40 rfl rfl rfl (by first | rfl | omega | (simp; done) | (simp; omega) | (simp [upN_len]; omega) | (simp [idxBy_len]; omega) | (simp [marks_len]; omega) | (simp [upN_len]; done) | (simp [idxBy_len]; done) | (simp [marks_len]; done) | (simp at *; omega)) (fun u41 hu41 => ?_)
            try simp only [Int.toNat_natCast] at hu41
            refine LJ.gT rfl ?_
            refine LJ.callV rfl (fun k hk dk => placeIn_ok (Sts.lrm hk dk 3 (by first | rfl | omega | (simp; done) | (simp; omega) | (simp [upN_len]; omega) | (simp [idxBy_len]; omega) | (simp [marks_len]; omega) | (simp [upN_len]; done) | (simp [idxBy_len]; done) | (simp [marks_len]; done) | (simp at *; omega)) (by first | rfl | omega | (simp; done) | (simp; omega) | (simp [upN_len]; omega) | (simp [idxBy_len]; omega) | (simp [marks_len]; omega) | (simp [upN_len]; done) | (simp [idxBy_len]; done) | (simp [marks_len]; done) | (simp at *; omega)) rfl)) ?_
            refine LJ.gT rfl ?_
            refine LJ.splitD rfl (Yd.lss rfl rfl) (fun h43 => ?_) (fun h43 => ?_)
            · refine LJ.gT rfl ?_
              refine LJ.yd rfl (Yd.pickTB rfl rfl) ?_
              refine LJ.yd rfl (Yd.pickFB rfl rfl) ?_
              refine LJ.nil ?_
              refine CJ.condT rfl ?_
              refine CJ.skip ?_
              refine CJ.block ?_
              refine CJ.region ?_
              refine LJ.yd rfl (Yd.mvI rfl) ?_
              refine LJ.yd rfl (Yd.add rfl rfl (by unfold I64; omega)) ?_
              refine LJ.yd rfl (Yd.mvS rfl) ?_
              refine LJ.yd rfl (Yd.len rfl) ?_
              refine LJ.yd rfl (Yd.rem rfl rfl (by omega) (by omega)) ?_
              refine LJ.yd rfl (Yd.asI rfl) ?_
              refine LJ.nil ?_
              refine ⟨_, ?_, ⟨rfl, rfl, rfl, rfl, rfl, rfl, rfl, rfl, rfl, rfl, rfl, rfl, rfl, rfl, trivial⟩, ⟨rfl, trivial⟩, Ent.refl _, ?_⟩
              · have hr0 := Int.emod_nonneg (z + 1) (show ((K.map Prod.fst).length : Int) ≠ 0 by omega)
                have hr1 := Int.emod_lt_of_pos (z + 1) (show 0 < ((K.map Prod.fst).length : Int) by omega)
                exact ⟨by omega, by omega⟩
              · have hne : z.toNat ≠ jj := fun e => by
                  subst e
                  first
                    | (have h1 := plc_mem.2 hao
                       simp only [List.getElem?_map, haj, Option.map_some, Option.some.injEq] at hu27
                       subst hu27
                       omega)
                    | (simp only [List.getElem?_map, haj, Option.map_some, Option.some.injEq] at hu34 hu41
                       subst hu34
                       subst hu41
                       have h1 := plc_mem.1 h43
                       exact hav.elim (fun h => by omega) h1)
                obtain ⟨zn, rfl⟩ := Int.eq_ofNat_of_zero_le hz0
                have e1 : (((zn : Int) + 1) % ((K.map Prod.fst).length : Int)).toNat = (zn + 1) % K.length := by
                  rw [hm1]; exact congrArg Int.toNat (show ((zn : Int) + 1) % (K.length : Int) = (((zn + 1) % K.length : Nat) : Int) by simp)
                have e2 := ring (n := K.length) (k := zn) (j := jj) (by omega) (List.getElem?_eq_some_iff.1 haj).1 hne
                show (jj + K.length - (((zn : Int) + 1) % ((K.map Prod.fst).length : Int)).toNat) % K.length < (jj + K.length - (zn : Int).toNat) % K.length
                rw [e1]; exact e2
            · refine LJ.gT rfl ?_
              refine LJ.yd rfl (Yd.pickTB rfl rfl) ?_
              refine LJ.yd rfl (Yd.pickFB rfl rfl) ?_
              refine LJ.nil ?_
              refine CJ.condF rfl ?_
              refine CJ.exit ?_
              refine CJ.region ?_
              refine LJ.yd rfl (Yd.mvS rfl) ?_
              refine LJ.yd rfl (Yd.mvS rfl) ?_
              refine LJ.yd rfl (Yd.mvI rfl) ?_
              refine LJ.idxR 1 rfl rfl rfl rfl (by omega) (by first | rfl | omega | (simp; done) | (simp; omega) | (simp [upN_len]; omega) | (simp [idxBy_len]; omega) | (simp [marks_len]; omega) | (simp [upN_len]; done) | (simp [idxBy_len]; done) | (simp [marks_len]; done) | (simp at *; omega)) (by first | rfl | omega | (simp; done) | (simp; omega) | (simp [upN_len]; omega) | (simp [idxBy_len]; omega) | (simp [marks_len]; omega) | (simp [upN_len]; done) | (simp [idxBy_len]; done) | (simp [marks_len]; done) | (simp at *; omega)) (fun ib54 ia54 => ?_)
              refine LJ.ldR 1 0 (fun u => vI u) (fun _ => rfl) rfl ia54 rfl rfl rfl (by first | rfl | omega | (simp; done) | (simp; omega) | (simp [upN_len]; omega) | (simp [idxBy_len]; omega) | (simp [marks_len]; omega) | (simp [upN_len]; done) | (simp [idxBy_len]; done) | (simp [marks_len]; done) | (simp at *; omega)) (fun u55 hu55 => ?_)
              try simp only [Int.toNat_natCast] at hu55
              refine LJ.op rfl (OpR.buildSlice (cs := [_]) rfl rfl) ?_
              rintro _ _ ⟨b5, rfl, rfl⟩
              refine LJ.op rfl (OpR.apT (enc := encI) [_] 3 5 rfl rfl rfl (by first | rfl | omega | (simp; done) | (simp; omega) | (simp [upN_len]; omega) | (simp [idxBy_len]; omega) | (simp [marks_len]; omega) | (simp [upN_len]; done) | (simp [idxBy_len]; done) | (simp [marks_len]; done) | (simp at *; omega)) rfl rfl rfl rfl rfl (by first | rfl | omega | (simp; done) | (simp; omega) | (simp [upN_len]; omega) | (simp [idxBy_len]; omega) | (simp [marks_len]; omega) | (simp [upN_len]; done) | (simp [idxBy_len]; done) | (simp [marks_len]; done) | (simp at *; omega))) ?_
              rintro _ _ ⟨ra57, rc57, rfl, rfl⟩
              refine LJ.norm [_, _, _, _, _, _] rfl ?_
              refine LJ.yd rfl (Yd.asS rfl) ?_
              refine LJ.nil ?_
              refine ⟨(_, _, _, _, _), ?_, ⟨rfl, rfl, rfl, rfl, trivial⟩, ⟨rfl, trivial⟩, Ent.pick [0, 1, 2, 3, 4] [5] rfl, ?_⟩
              · refine ⟨(by first | rfl | omega | (simp; done) | (simp; omega) | (simp [upN_len]; omega) | (simp [idxBy_len]; omega) | (simp [marks_len]; omega) | (simp [upN_len]; done) | (simp [idxBy_len]; done) | (simp [marks_len]; done) | (simp at *; omega)), ?_⟩
                exact ⟨by simp; omega, by simp; omega⟩
              · simp; omega
          · refine LJ.gT rfl ?_
            refine LJ.yd rfl (Yd.mvB rfl) ?_
            refine LJ.gF rfl rfl ?_
            refine LJ.gF rfl rfl ?_
            refine LJ.gF rfl rfl ?_
            refine LJ.gF rfl rfl ?_
            refine LJ.gF rfl rfl ?_
            refine LJ.gF rfl rfl ?_
            refine LJ.gF rfl rfl ?_
            refine LJ.gT rfl ?_
            refine LJ.yd rfl (Yd.pickFB rfl rfl) ?_
            refine LJ.yd rfl (Yd.pickFB rfl rfl) ?_
            refine LJ.nil ?_
            refine CJ.condF rfl ?_
            refine CJ.exit ?_
            refine CJ.region ?_
            refine LJ.yd rfl (Yd.mvS rfl) ?_
            refine LJ.yd rfl (Yd.mvS rfl) ?_
            refine LJ.yd rfl (Yd.mvI rfl) ?_
            refine LJ.idxR 1 rfl rfl rfl rfl (by omega) (by first | rfl | omega | (simp; done) | (simp; omega) | (simp [upN_len]; omega) | (simp [idxBy_len]; omega) | (simp [marks_len]; omega) | (simp [upN_len]; done) | (simp [idxBy_len]; done) | (simp [marks_len]; done) | (simp at *; omega)) (by first | rfl | omega | (simp; done) | (simp; omega) | (simp [upN_len]; omega) | (simp [idxBy_len]; omega) | (simp [marks_len]; omega) | (simp [upN_len]; done) | (simp [idxBy_len]; done) | (simp [marks_len]; done) | (simp at *; omega)) (fun ib54 ia54 => ?_)
            refine LJ.ldR 1 0 (fun u => vI u) (fun _ => rfl) rfl ia54 rfl rfl rfl (by first | rfl | omega | (simp; done) | (simp; omega) | (simp [upN_len]; omega) | (simp [idxBy_len]; omega) | (simp [marks_len]; omega) | (simp [upN_len]; done) | (simp [idxBy_len]; done) | (simp [marks_len]; done) | (simp at *; omega)) (fun u55 hu55 => ?_)
            try simp only [Int.toNat_natCast] at hu55
            refine LJ.op rfl (OpR.buildSlice (cs := [_]) rfl rfl) ?_
            rintro _ _ ⟨b6, rfl, rfl⟩
            refine LJ.op rfl (OpR.apT (enc := encI) [_] 3 5 rfl rfl rfl (by first | rfl | omega | (simp; done) | (simp; omega) | (simp [upN_len]; omega) | (simp [idxBy_len]; omega) | (simp [marks_len]; omega) | (simp [upN_len]; done) | (simp [idxBy_len]; done) | (simp [marks_len]; done) | (simp at *; omega)) rfl rfl rfl rfl rfl (by first | rfl | omega | (simp; done) | (simp; omega) | (simp [upN_len]; omega) | (simp [idxBy_len]; omega) | (simp [marks_len]; omega) | (simp [upN_len]; done) | (simp [idxBy_len]; done) | (simp [marks_len]; done) | (simp at *; omega))) ?_
            rintro _ _ ⟨ra57, rc57, rfl, rfl⟩
            refine LJ.norm [_, _, _, _, _, _] rfl ?_
            refine LJ.yd rfl (Yd.asS rfl) ?_
            refine LJ.nil ?_
            refine ⟨(_, _, _, _, _), ?_, ⟨rfl, rfl, rfl, rfl, trivial⟩, ⟨rfl, trivial⟩, Ent.pick [0, 1, 2, 3, 4] [5] rfl, ?_⟩
            · refine ⟨(by first | rfl | omega | (simp; done) | (simp; omega) | (simp [upN_len]; omega) | (simp [idxBy_len]; omega) | (simp [marks_len]; omega) | (simp [upN_len]; done) | (simp [idxBy_len]; done) | (simp [marks_len]; done) | (simp at *; omega)), ?_⟩
              exact ⟨by simp; omega, by simp; omega⟩
            · simp; omega
    · refine LJ.nil ?_
      refine CJ.condF rfl ?_
      refine CJ.exit ?_
      refine CJ.seq ?_
      refine CJ.region ?_
      refine LJ.yd rfl (Yd.mvS rfl) ?_
      refine LJ.yd rfl (Yd.asS rfl) ?_
      refine LJ.nil ?_
      refine CJ.ret ?_
      exact Fin.R [_, _] (Res.one (ResV.tmp (v := .slice _ _ _) rfl)) ⟨_, _, _, _, rfl, rfl, by omega, by omega, by omega⟩ (Ent.pick [4, 3] [0, 1, 2] rfl)
end Go.Proofs.Ytfnnhekbgjofoaa
