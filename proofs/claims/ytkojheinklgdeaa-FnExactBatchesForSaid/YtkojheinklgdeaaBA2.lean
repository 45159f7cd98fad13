/-
  Batches of a furnace in the reference; the laws on them.
-/
import Derived.Test.YtkojheinklgdeaaBA1
import Derived.Test.YtkojheinklgdeaaEW
import Derived.Test.YtkojheinklgdeaaPD
namespace Go.Proofs.Ytkojheinklgdeaa
open Go
set_option maxRecDepth 20000
set_option maxHeartbeats 1000000

theorem kindBatches_ok {A : Amb} {v : Value} {L : List Pane} (hl : RdL Pane.enc 4 A.h v L) (hn : L.length ≤ 100) : Ctr Try.prog 49 #[v] A []
    (fun v gs => ∃ a c, ∃ X : List (Rw Int), v = .slice a X.length c ∧ gs = [LR encR 35 1 a c X, INN (rowOf encI 3 1) X] ∧ X.length = 10 ∧ ∀ (d : Nat) (u : Rw Int), X[d]? = some u → u.l = kw L d) := by
  obtain ⟨la, lc, rfl, hlb, hl⟩ := hl.un
  refine Ctr.body (args := [_]) Try.func49 rfl Try.ntmps49 Try.results49 (by simp) ?_
  refine CJ.seq ?_
  refine CJ.region ?_
  refine LJ.yd rfl (Yd.asS rfl) ?_
  refine LJ.nil ?_
  refine CJ.seq ?_
  refine CJ.region ?_
  refine LJ.op rfl (OpR.buildSlice (cs := []) rfl rfl) ?_
  rintro _ _ ⟨b1, rfl, rfl⟩
  refine LJ.yd rfl (Yd.asS rfl) ?_
  refine LJ.nil ?_
  refine CJ.seq ?_
  refine CJ.seq ?_
  refine CJ.region ?_
  refine LJ.yd rfl (Yd.asI rfl) ?_
  refine LJ.nil ?_
  refine CJ.block ?_
  refine CJ.imp1 0 rfl (fun _ h => Cel.lr (enc := (encR (α := Int))) (k := 1) (m := 0) [] rfl rfl rfl rfl h) ?_
  refine CJ.norm [_] rfl ?_
  refine CJ.ent (INN.ent (rowOf encI 3 1)) ?_
  refine CJ.norm [_, _] rfl ?_
  refine CJ.loopF [0, 2] (Nat × List (Rw Int) × Option Addr × Nat × Nat) (fun ⟨d, X, XA, XN, XC⟩ => (XN = X.length) ∧ d ≤ 10 ∧ X.length = d ∧ ∀ (e : Nat) (u : Rw Int), X[e]? = some u → u.l = kw L e) (fun ⟨d, X, XA, XN, XC⟩ => [(4, vI d), (3, .slice XA XN XC)]) (fun ⟨d, X, XA, XN, XC⟩ => [LR encR 35 1 XA XC X, INN (rowOf encI 3 1) X]) (fun ⟨d, X, XA, XN, XC⟩ => 10 - d) (0, [], _, _, _) [] [] [0, 1] rfl rfl rfl ?_ ⟨rfl, rfl, trivial⟩ ?_
  · exact ⟨(by first | rfl | omega | (simp; done) | (simp; omega) | (simp [upN_len]; omega) | (simp [idxBy_len]; omega) | (simp [marks_len]; omega) | (simp [upN_len]; done) | (simp [idxBy_len]; done) | (simp [marks_len]; done) | (simp at *; omega)), ⟨by omega, by simp, fun e u h => by simp at h⟩⟩
  · rintro ⟨d, X, XA, XN, XC⟩ σ ⟨hlNX, ⟨hd1, hXl, hX⟩⟩
    subst hlNX
    refine CJ.norm [_, _] rfl ?_
    refine CJ.seq ?_
    refine CJ.seq ?_
    refine CJ.region ?_
    refine LJ.yd rfl (Yd.mvI rfl) ?_
    refine LJ.splitD rfl (Yd.leq rfl rfl) (fun h9 => ?_) (fun h9 => ?_)
    · refine LJ.nil ?_
      refine CJ.condT rfl ?_
      refine CJ.skip ?_
      refine CJ.seq ?_
      refine CJ.block ?_
      refine CJ.seq ?_
      refine CJ.region ?_
      refine LJ.op rfl (OpR.buildSlice (cs := []) rfl rfl) ?_
      rintro _ _ ⟨b3, rfl, rfl⟩
      refine LJ.yd rfl (Yd.asS rfl) ?_
      refine LJ.nil ?_
      refine CJ.seq ?_
      refine CJ.seq ?_
      refine CJ.region ?_
      refine LJ.yd rfl (Yd.asI rfl) ?_
      refine LJ.nil ?_
      refine CJ.block ?_
      refine CJ.imp1 2 rfl (fun _ h => Cel.lr (enc := encI) (k := 1) (m := 0) [] rfl rfl rfl rfl h) ?_
      refine CJ.norm [_, _, _] rfl ?_
      refine CJ.loopF [0, 2, 3, 4, 8, 9, 12] (Nat × List Int × Option Addr × Nat × Nat) (fun ⟨k, r, rA, rN, rC⟩ => (rN = r.length) ∧ k ≤ L.length ∧ r.length ≤ k ∧ r = kw (L.take k) d) (fun ⟨k, r, rA, rN, rC⟩ => [(6, vI k), (5, .slice rA rN rC)]) (fun ⟨k, r, rA, rN, rC⟩ => [LR encI 3 1 rA rC r]) (fun ⟨k, r, rA, rN, rC⟩ => L.length - k) (0, [], _, _, _) [_, _] [0, 1] [2] rfl rfl rfl ?_ ⟨rfl, rfl, trivial⟩ ?_
      · exact ⟨(by first | rfl | omega | (simp; done) | (simp; omega) | (simp [upN_len]; omega) | (simp [idxBy_len]; omega) | (simp [marks_len]; omega) | (simp [upN_len]; done) | (simp [idxBy_len]; done) | (simp [marks_len]; done) | (simp at *; omega)), ⟨by omega, by simp, by simp [kw]⟩⟩
      · rintro ⟨k, r, rA, rN, rC⟩ σ ⟨hlNr, ⟨hk1, hrl, hr⟩⟩
        subst hlNr
        refine CJ.norm [_, _, _] rfl ?_
        refine CJ.seq ?_
        refine CJ.seq ?_
        refine CJ.region ?_
        refine LJ.yd rfl (Yd.mvI rfl) ?_
        refine LJ.yd rfl (Yd.mvS rfl) ?_
        refine LJ.yd rfl (Yd.len rfl) ?_
        refine LJ.splitD rfl (Yd.lss rfl rfl) (fun h16 => ?_) (fun h16 => ?_)
        · refine LJ.nil ?_
          refine CJ.condT rfl ?_
          refine CJ.skip ?_
          refine CJ.seq ?_
          refine CJ.block ?_
          refine CJ.seq ?_
          refine CJ.region ?_
          refine LJ.yd rfl (Yd.mvS rfl) ?_
          refine LJ.yd rfl (Yd.mvI rfl) ?_
          refine LJ.idxA rfl hl rfl rfl (by omega) (by first | rfl | omega | (simp; done) | (simp; omega) | (simp [upN_len]; omega) | (simp [idxBy_len]; omega) | (simp [marks_len]; omega) | (simp [upN_len]; done) | (simp [idxBy_len]; done) | (simp [marks_len]; done) | (simp at *; omega)) (fun ib21 io21 ia21 ir21 => ?_)
          refine LJ.yd rfl (Yd.fieldAddr rfl) ?_
          refine LJ.ldA 3 (fun u => vI u.Kind) (fun _ => rfl) ir21 rfl rfl rfl (by first | rfl | omega | (simp; done) | (simp; omega) | (simp [upN_len]; omega) | (simp [idxBy_len]; omega) | (simp [marks_len]; omega) | (simp [upN_len]; done) | (simp [idxBy_len]; done) | (simp [marks_len]; done) | (simp at *; omega)) (fun u23 hu23 => ?_)
          try simp only [Int.toNat_natCast] at hu23
          refine LJ.yd rfl (Yd.mvI rfl) ?_
          refine LJ.splitD rfl (Yd.eql rfl rfl) (fun h25 => ?_) (fun h25 => ?_)
          · refine LJ.nil ?_
            refine CJ.condT rfl ?_
            refine CJ.region ?_
            refine LJ.yd rfl (Yd.mvS rfl) ?_
            refine LJ.yd rfl (Yd.mvS rfl) ?_
            refine LJ.yd rfl (Yd.mvI rfl) ?_
            refine LJ.idxA rfl hl rfl rfl (by omega) (by first | rfl | omega | (simp; done) | (simp; omega) | (simp [upN_len]; omega) | (simp [idxBy_len]; omega) | (simp [marks_len]; omega) | (simp [upN_len]; done) | (simp [idxBy_len]; done) | (simp [marks_len]; done) | (simp at *; omega)) (fun ib29 io29 ia29 ir29 => ?_)
            refine LJ.yd rfl (Yd.fieldAddr rfl) ?_
            refine LJ.ldA 0 (fun u => vI u.W) (fun _ => rfl) ir29 rfl rfl rfl (by first | rfl | omega | (simp; done) | (simp; omega) | (simp [upN_len]; omega) | (simp [idxBy_len]; omega) | (simp [marks_len]; omega) | (simp [upN_len]; done) | (simp [idxBy_len]; done) | (simp [marks_len]; done) | (simp at *; omega)) (fun u31 hu31 => ?_)
            try simp only [Int.toNat_natCast] at hu31
            obtain rfl : u23 = u31 := by rw [hu23] at hu31; exact Option.some.inj hu31
            refine LJ.op rfl (OpR.buildSlice (cs := [_]) rfl rfl) ?_
            rintro _ _ ⟨b4, rfl, rfl⟩
            refine LJ.op rfl (OpR.apT (enc := encI) [_] 2 3 rfl rfl rfl (by first | rfl | omega | (simp; done) | (simp; omega) | (simp [upN_len]; omega) | (simp [idxBy_len]; omega) | (simp [marks_len]; omega) | (simp [upN_len]; done) | (simp [idxBy_len]; done) | (simp [marks_len]; done) | (simp at *; omega)) rfl rfl rfl rfl rfl (by first | rfl | omega | (simp; done) | (simp; omega) | (simp [upN_len]; omega) | (simp [idxBy_len]; omega) | (simp [marks_len]; omega) | (simp [upN_len]; done) | (simp [idxBy_len]; done) | (simp [marks_len]; done) | (simp at *; omega))) ?_
            rintro _ _ ⟨ra33, rc33, rfl, rfl⟩
            refine LJ.norm [_, _, _, _] rfl ?_
            refine LJ.yd rfl (Yd.asS rfl) ?_
            refine LJ.nil ?_
            refine CJ.region ?_
            refine LJ.yd rfl (Yd.mvI rfl) ?_
            refine LJ.yd rfl (Yd.add rfl rfl (by unfold I64; omega)) ?_
            refine LJ.yd rfl (Yd.asI rfl) ?_
            refine LJ.nil ?_
            refine ⟨(k + 1, _, _, _, _), ?_, ⟨rfl, rfl, rfl, rfl, rfl, rfl, rfl, trivial⟩, ⟨rfl, rfl, trivial⟩, Ent.pick [0, 1, 2] [3] rfl, ?_⟩
            · refine ⟨(by first | rfl | omega | (simp; done) | (simp; omega) | (simp [upN_len]; omega) | (simp [idxBy_len]; omega) | (simp [marks_len]; omega) | (simp [upN_len]; done) | (simp [idxBy_len]; done) | (simp [marks_len]; done) | (simp at *; omega)), ?_⟩
              refine ⟨by omega, ?_⟩
              rw [kw_take hu23]
              first
                | (rw [if_pos (by omega)]; exact ⟨by simp; omega, by rw [hr]⟩)
                | (rw [if_neg (by omega), List.append_nil]; exact ⟨by omega, hr⟩)
            · first | omega | (dsimp only; omega) | (simp only []; omega)
          · refine LJ.nil ?_
            refine CJ.condF rfl ?_
            refine CJ.skip ?_
            refine CJ.region ?_
            refine LJ.yd rfl (Yd.mvI rfl) ?_
            refine LJ.yd rfl (Yd.add rfl rfl (by unfold I64; omega)) ?_
            refine LJ.yd rfl (Yd.asI rfl) ?_
            refine LJ.nil ?_
            refine ⟨(k + 1, _, _, _, _), ?_, ⟨rfl, rfl, rfl, rfl, rfl, rfl, rfl, trivial⟩, ⟨rfl, rfl, trivial⟩, Ent.refl _, ?_⟩
            · refine ⟨(by first | rfl | omega | (simp; done) | (simp; omega) | (simp [upN_len]; omega) | (simp [idxBy_len]; omega) | (simp [marks_len]; omega) | (simp [upN_len]; done) | (simp [idxBy_len]; done) | (simp [marks_len]; done) | (simp at *; omega)), ?_⟩
              refine ⟨by omega, ?_⟩
              rw [kw_take hu23]
              first
                | (rw [if_pos (by omega)]; exact ⟨by simp; omega, by rw [hr]⟩)
                | (rw [if_neg (by omega), List.append_nil]; exact ⟨by omega, hr⟩)
            · first | omega | (dsimp only; omega) | (simp only []; omega)
        · refine LJ.nil ?_
          refine CJ.condF rfl ?_
          refine CJ.exit ?_
          refine CJ.region ?_
          refine LJ.yd rfl (Yd.mvS rfl) ?_
          refine LJ.yd rfl (Yd.mvS rfl) ?_
          refine LJ.op rfl (OpR.buildSlice (cs := [_]) rfl rfl) ?_
          rintro _ _ ⟨b5, rfl, rfl⟩
          refine LJ.op rfl (OpR.apT (enc := encR) [⟨_, _, _⟩] 0 3 rfl rfl rfl (by first | rfl | omega | (simp; done) | (simp; omega) | (simp [upN_len]; omega) | (simp [idxBy_len]; omega) | (simp [marks_len]; omega) | (simp [upN_len]; done) | (simp [idxBy_len]; done) | (simp [marks_len]; done) | (simp at *; omega)) rfl rfl rfl rfl rfl (by first | rfl | omega | (simp; done) | (simp; omega) | (simp [upN_len]; omega) | (simp [idxBy_len]; omega) | (simp [marks_len]; omega) | (simp [upN_len]; done) | (simp [idxBy_len]; done) | (simp [marks_len]; done) | (simp at *; omega))) ?_
          rintro _ _ ⟨ra37, rc37, rfl, rfl⟩
          refine LJ.norm [_, _, _, _] rfl ?_
          refine LJ.ent (Ent.pickFold [0, 3] [1, 2] [] rfl (fun _ s => INN.snoc (f := (rowOf encI 3 1)) (u := ⟨_, _, _⟩) s)) ?_
          refine LJ.norm [_, _, _] rfl ?_
          refine LJ.yd rfl (Yd.asS rfl) ?_
          refine LJ.nil ?_
          refine CJ.region ?_
          refine LJ.yd rfl (Yd.mvI rfl) ?_
          refine LJ.yd rfl (Yd.add rfl rfl (by unfold I64; omega)) ?_
          refine LJ.yd rfl (Yd.asI rfl) ?_
          refine LJ.nil ?_
          refine ⟨(d + 1, _, _, _, _), ?_, ⟨rfl, rfl, trivial⟩, ⟨rfl, rfl, trivial⟩, Ent.pick [0, 2] [1] rfl, ?_⟩
          · refine ⟨(by first | rfl | omega | (simp; done) | (simp; omega) | (simp [upN_len]; omega) | (simp [idxBy_len]; omega) | (simp [marks_len]; omega) | (simp [upN_len]; done) | (simp [idxBy_len]; done) | (simp [marks_len]; done) | (simp at *; omega)), ?_⟩
            refine ⟨by omega, ?_⟩
            refine ⟨by simp [hXl], fun e u h => ?_⟩
            rw [List.take_of_length_le (by omega)] at hr
            by_cases he : e < X.length
            · rw [List.getElem?_append_left he] at h; exact hX e u h
            · rw [List.getElem?_append_right (by omega)] at h
              have h0 : e - X.length = 0 := by
                have := ltC h; simp at this; omega
              rw [h0] at h
              simp at h
              rw [← h, show e = d by have := h0; omega]; exact hr
          · first | omega | (dsimp only; omega) | (simp only []; omega)
    · refine LJ.nil ?_
      refine CJ.condF rfl ?_
      refine CJ.exit ?_
      refine CJ.seq ?_
      refine CJ.region ?_
      refine LJ.yd rfl (Yd.mvS rfl) ?_
      refine LJ.yd rfl (Yd.asS rfl) ?_
      refine LJ.nil ?_
      refine CJ.ret ?_
      exact Fin.R [_, _] (Res.one (ResV.tmp (v := .slice _ _ _) rfl)) ⟨_, _, X, rfl, rfl, by omega, hX⟩ (Ent.pick [0, 1] [] rfl)
theorem mx_succ : ∀ (l : List Int) (a : Int), l.foldl (fun n x => max n (x + 1)) (a + 1) = l.foldl max a + 1
  | [], _ => rfl
  | x :: r, a => by
    rw [List.foldl_cons, List.foldl_cons, ← mx_succ r, show max (a + 1) (x + 1) = max a x + 1 by omega]
theorem stacksFor_ok {A : Amb} {v : Value} {l : List Int} (hl : RdL encI 1 A.h v l) (hb : ∀ u ∈ l, -1 ≤ u ∧ u ≤ 1000000) : Ctr Try.prog 51 #[v] A [] (Val (vI (l.foldl max (-1) + 1))) := by
  obtain ⟨la, lc, rfl, hlb, hl⟩ := hl.un
  refine Ctr.body (args := [_]) Try.func51 rfl Try.ntmps51 Try.results51 (by simp) ?_
  refine CJ.seq ?_
  refine CJ.region ?_
  refine LJ.yd rfl (Yd.asI rfl) ?_
  refine LJ.nil ?_
  refine CJ.seq ?_
  refine CJ.region ?_
  refine LJ.yd rfl (Yd.asI rfl) ?_
  refine LJ.nil ?_
  refine CJ.seq ?_
  refine CJ.seq ?_
  refine CJ.region ?_
  refine LJ.yd rfl (Yd.asI rfl) ?_
  refine LJ.nil ?_
  refine CJ.block ?_
  refine CJ.loopK [0, 2] (Nat × Int) (fun ⟨k, x⟩ => k ≤ l.length ∧ x = (l.take k).foldl (fun n x => max n (x + 1)) 0) (fun ⟨k, x⟩ => [(4, vI k), (3, vI x)]) (fun ⟨k, x⟩ => l.length - k) (0, 0) ?_ ⟨rfl, rfl, trivial⟩ ?_
  · exact ⟨by omega, rfl⟩
  · rintro ⟨k, x⟩ σ ⟨hk1, hx⟩
    refine CJ.seq ?_
    refine CJ.seq ?_
    refine CJ.region ?_
    refine LJ.yd rfl (Yd.mvI rfl) ?_
    refine LJ.yd rfl (Yd.mvS rfl) ?_
    refine LJ.yd rfl (Yd.len rfl) ?_
    refine LJ.splitD rfl (Yd.lss rfl rfl) (fun h8 => ?_) (fun h8 => ?_)
    · refine LJ.nil ?_
      refine CJ.condT rfl ?_
      refine CJ.skip ?_
      refine CJ.seq ?_
      refine CJ.block ?_
      refine CJ.region ?_
      refine LJ.yd rfl (Yd.mvI rfl) ?_
      refine LJ.yd rfl (Yd.mvS rfl) ?_
      refine LJ.yd rfl (Yd.mvI rfl) ?_
      refine LJ.idxA rfl hl rfl rfl (by omega) (by first | rfl | omega | (simp; done) | (simp; omega) | (simp [upN_len]; omega) | (simp [idxBy_len]; omega) | (simp [marks_len]; omega) | (simp [upN_len]; done) | (simp [idxBy_len]; done) | (simp [marks_len]; done) | (simp at *; omega)) (fun ib14 io14 ia14 ir14 => ?_)
      refine LJ.ldA 0 (fun u => vI u) (fun _ => rfl) ir14 rfl rfl rfl (by first | rfl | omega | (simp; done) | (simp; omega) | (simp [upN_len]; omega) | (simp [idxBy_len]; omega) | (simp [marks_len]; omega) | (simp [upN_len]; done) | (simp [idxBy_len]; done) | (simp [marks_len]; done) | (simp at *; omega)) (fun u15 hu15 => ?_)
      try simp only [Int.toNat_natCast] at hu15
      have hf15 := hb u15 (List.mem_of_getElem? hu15)
      refine LJ.yd rfl (Yd.add rfl rfl (by unfold I64; omega)) ?_
      refine LJ.yd rfl (Yd.max' rfl rfl) ?_
      refine LJ.yd rfl (Yd.asI rfl) ?_
      refine LJ.nil ?_
      refine CJ.region ?_
      refine LJ.yd rfl (Yd.mvI rfl) ?_
      refine LJ.yd rfl (Yd.add rfl rfl (by unfold I64; omega)) ?_
      refine LJ.yd rfl (Yd.asI rfl) ?_
      refine LJ.nil ?_
      refine ⟨(k + 1, _), ?_, ⟨rfl, rfl, trivial⟩, ⟨rfl, rfl, trivial⟩, Ent.refl _, ?_⟩
      · refine ⟨by omega, ?_⟩
        rw [takeC hu15, List.foldl_append, ← hx]; rfl
      · first | omega | (dsimp only; omega) | (simp only []; omega)
    · refine LJ.nil ?_
      refine CJ.condF rfl ?_
      refine CJ.exit ?_
      refine CJ.seq ?_
      refine CJ.region ?_
      refine LJ.yd rfl (Yd.mvI rfl) ?_
      refine LJ.yd rfl (Yd.asI rfl) ?_
      refine LJ.nil ?_
      refine CJ.ret ?_
      refine Fin.V (Res.one (ResV.tmp (v := .int _ _) rfl)) ?_
      have e := mx_succ l (-1)
      rw [show (-1 : Int) + 1 = 0 from rfl] at e
      rw [hx, List.take_of_length_le (by omega), e]
theorem BatchesForS_ok {A : Amb} {v : Value} {L : List Pane} {bed : Int} (hl : RdL Pane.enc 4 A.h v L) : Ctr Try.prog 14 #[v, vI bed] A [] (Val (vI (btR L bed))) := by
  obtain ⟨la, lc, rfl, hlb, hl⟩ := hl.un
  refine Ctr.body (args := [_, _]) Try.func14 rfl Try.ntmps14 Try.results14 (by simp) ?_
  refine CJ.seq ?_
  refine CJ.region ?_
  refine LJ.yd rfl (Yd.asI rfl) ?_
  refine LJ.nil ?_
  refine CJ.seq ?_
  refine CJ.seq ?_
  refine CJ.region ?_
  refine LJ.yd rfl (Yd.mvS rfl) ?_
  refine LJ.callB rfl (fun k hk dk => validPanesS_ok (RdRow.up hl)) (fun h9 => ?_) (fun h9 => ?_)
  · refine LJ.yd rfl (Yd.not rfl) ?_
    refine LJ.yd rfl (Yd.mvB rfl) ?_
    refine LJ.gT rfl ?_
    refine LJ.yd rfl (Yd.mvI rfl) ?_
    refine LJ.gT rfl ?_
    refine LJ.callB rfl (fun k hk dk => inRange_ok _ _ _ _) (fun h13 => ?_) (fun h13 => ?_)
    · refine LJ.gT rfl ?_
      refine LJ.yd rfl (Yd.not rfl) ?_
      refine LJ.yd rfl (Yd.pickFB rfl rfl) ?_
      refine LJ.nil ?_
      refine CJ.condF rfl ?_
      refine CJ.skip ?_
      refine CJ.seq ?_
      obtain ⟨hpn, hpk⟩ := pnOk_iff.1 h9
      have hbb : 1 ≤ bed ∧ bed ≤ 200 := by simpa using h13
      refine CJ.region ?_
      refine LJ.yd rfl (Yd.mvS rfl) ?_
      refine LJ.call0 rfl (fun k hk dk => kindBatches_ok (RdRow.up hl) (by omega)) ?_
      rintro _ _ ⟨xa, xc, X, rfl, rfl, hXl, hX⟩
      refine LJ.norm [_, _] rfl ?_
      refine LJ.yd rfl (Yd.asS rfl) ?_
      refine LJ.nil ?_
      refine CJ.seq ?_
      refine CJ.region ?_
      refine LJ.yd rfl (Yd.asI rfl) ?_
      refine LJ.nil ?_
      refine CJ.seq ?_
      refine CJ.seq ?_
      refine CJ.region ?_
      refine LJ.yd rfl (Yd.asI rfl) ?_
      refine LJ.nil ?_
      refine CJ.block ?_
      refine CJ.loopK [1, 5] (Nat × Int) (fun ⟨j, bt⟩ => j ≤ X.length ∧ bt = sumR (fun d => bnm (kw L d) bed) j ∧ ∀ d : Nat, d < j → barsOk 20 (kw L d) bed = true) (fun ⟨j, bt⟩ => [(7, vI j), (6, vI bt)]) (fun ⟨j, bt⟩ => X.length - j) (0, 0) ?_ ⟨rfl, rfl, trivial⟩ ?_
      · exact ⟨by omega, rfl, fun d hd => by omega⟩
      · rintro ⟨j, bt⟩ σ ⟨hj1, hbt, hkk⟩
        have hbs := sumR_le (n := j) (f := fun d => bnm (kw L d) bed) (fun d hd => bnm_le (hkk d hd))
        rw [← hbt] at hbs
        refine CJ.seq ?_
        refine CJ.seq ?_
        refine CJ.region ?_
        refine LJ.yd rfl (Yd.mvI rfl) ?_
        refine LJ.yd rfl (Yd.mvS rfl) ?_
        refine LJ.yd rfl (Yd.len rfl) ?_
        refine LJ.splitD rfl (Yd.lss rfl rfl) (fun h21 => ?_) (fun h21 => ?_)
        · refine LJ.nil ?_
          refine CJ.condT rfl ?_
          refine CJ.skip ?_
          refine CJ.seq ?_
          refine CJ.block ?_
          refine CJ.seq ?_
          refine CJ.seq ?_
          refine CJ.region ?_
          refine LJ.yd rfl (Yd.mvS rfl) ?_
          refine LJ.yd rfl (Yd.mvI rfl) ?_
          refine LJ.idxR 0 rfl rfl rfl rfl (by omega) (by first | rfl | omega | (simp; done) | (simp; omega) | (simp [upN_len]; omega) | (simp [idxBy_len]; omega) | (simp [marks_len]; omega) | (simp [upN_len]; done) | (simp [idxBy_len]; done) | (simp [marks_len]; done) | (simp at *; omega)) (by first | rfl | omega | (simp; done) | (simp; omega) | (simp [upN_len]; omega) | (simp [idxBy_len]; omega) | (simp [marks_len]; omega) | (simp [upN_len]; done) | (simp [idxBy_len]; done) | (simp [marks_len]; done) | (simp at *; omega)) (fun ib26 ia26 => ?_)
          refine LJ.ldR 0 0 (fun u => .slice u.a u.l.length u.c) (fun _ => rfl) rfl ia26 rfl rfl rfl (by first | rfl | omega | (simp; done) | (simp; omega) | (simp [upN_len]; omega) | (simp [idxBy_len]; omega) | (simp [marks_len]; omega) | (simp [upN_len]; done) | (simp [idxBy_len]; done) | (simp [marks_len]; done) | (simp at *; omega)) (fun u27 hu27 => ?_)
          try simp only [Int.toNat_natCast] at hu27
          have hl27 := hX j u27 hu27
          have hn27 : u27.l.length ≤ 24 := by rw [hl27]; exact Nat.le_trans (kw_len _ _) (by omega)
          refine LJ.yd rfl (Yd.mvI rfl) ?_
          refine LJ.callB rfl (fun k hk dk => validBars_ok (Sts.inn hk dk 1 hu27 (by first | omega | (rw [ffit_len]; omega) | (rw [idxBy_len]; omega)) rfl)) (fun h29 => ?_) (fun h29 => ?_)
          · refine LJ.yd rfl (Yd.not rfl) ?_
            refine LJ.nil ?_
            refine CJ.condF rfl ?_
            refine CJ.skip ?_
            refine CJ.regionD [0, 1] [] (by kernel_rfl) rfl ?_
            refine DJ.norm [_, _] [] rfl rfl ?_
            refine DJ.yd 0 rfl (by kernel_rfl) (by kernel_rfl) (by kernel_rfl) rfl rfl (Yd.mvI rfl) ?_
            refine DJ.yd 1 rfl (by kernel_rfl) (by kernel_rfl) (by kernel_rfl) rfl rfl (Yd.mvS rfl) ?_
            refine DJ.yd 2 rfl (by kernel_rfl) (by kernel_rfl) (by kernel_rfl) rfl rfl (Yd.mvI rfl) ?_
            refine DJ.idxF 0 rfl 3 rfl (by kernel_rfl) (by kernel_rfl) (by kernel_rfl) rfl rfl rfl rfl (by omega) (by first | rfl | omega | (simp; done) | (simp; omega) | (simp [upN_len]; omega) | (simp [idxBy_len]; omega) | (simp [marks_len]; omega) | (simp [upN_len]; done) | (simp [idxBy_len]; done) | (simp [marks_len]; done) | (simp at *; omega)) (by first | rfl | omega | (simp; done) | (simp; omega) | (simp [upN_len]; omega) | (simp [idxBy_len]; omega) | (simp [marks_len]; omega) | (simp [upN_len]; done) | (simp [idxBy_len]; done) | (simp [marks_len]; done) | (simp at *; omega)) (fun ib34 ia34 => ?_)
            refine DJ.ldF 4 rfl (by kernel_rfl) (by kernel_rfl) (by kernel_rfl) rfl rfl 0 0 (fun u => .slice u.a u.l.length u.c) (fun _ => rfl) rfl ia34 rfl rfl (by first | rfl | omega | (simp; done) | (simp; omega) | (simp [upN_len]; omega) | (simp [idxBy_len]; omega) | (simp [marks_len]; omega) | (simp [upN_len]; done) | (simp [idxBy_len]; done) | (simp [marks_len]; done) | (simp at *; omega)) (fun u35 hu35 => ?_)
            try simp only [Int.toNat_natCast] at hu35
            obtain rfl : u27 = u35 := by rw [hu27] at hu35; exact Option.some.inj hu35
            refine DJ.yd 5 rfl (by kernel_rfl) (by kernel_rfl) (by kernel_rfl) rfl rfl (Yd.mvI rfl) ?_
            refine DJ.yd 6 rfl (by kernel_rfl) (by kernel_rfl) (by kernel_rfl) rfl rfl (Yd.mvS rfl) ?_
            refine DJ.yd 7 rfl (by kernel_rfl) (by kernel_rfl) (by kernel_rfl) rfl rfl (Yd.mvI rfl) ?_
            refine DJ.idxF 0 rfl 8 rfl (by kernel_rfl) (by kernel_rfl) (by kernel_rfl) rfl rfl rfl rfl (by omega) (by first | rfl | omega | (simp; done) | (simp; omega) | (simp [upN_len]; omega) | (simp [idxBy_len]; omega) | (simp [marks_len]; omega) | (simp [upN_len]; done) | (simp [idxBy_len]; done) | (simp [marks_len]; done) | (simp at *; omega)) (by first | rfl | omega | (simp; done) | (simp; omega) | (simp [upN_len]; omega) | (simp [idxBy_len]; omega) | (simp [marks_len]; omega) | (simp [upN_len]; done) | (simp [idxBy_len]; done) | (simp [marks_len]; done) | (simp at *; omega)) (fun ib39 ia39 => ?_)
            refine DJ.ldF 9 rfl (by kernel_rfl) (by kernel_rfl) (by kernel_rfl) rfl rfl 0 0 (fun u => .slice u.a u.l.length u.c) (fun _ => rfl) rfl ia39 rfl rfl (by first | rfl | omega | (simp; done) | (simp; omega) | (simp [upN_len]; omega) | (simp [idxBy_len]; omega) | (simp [marks_len]; omega) | (simp [upN_len]; done) | (simp [idxBy_len]; done) | (simp [marks_len]; done) | (simp at *; omega)) (fun u40 hu40 => ?_)
            try simp only [Int.toNat_natCast] at hu40
            obtain rfl : u27 = u40 := by rw [hu27] at hu40; exact Option.some.inj hu40
            refine DJ.one (i := 10) (by kernel_rfl) ?_
            refine DO.call0 rfl rfl rfl (fun k0 hk0 dk0 k hk dk => fallingS_ok (RdRow.up (Sts.inn hk0 dk0 1 hu40 (by first | omega | (rw [ffit_len]; omega) | (rw [idxBy_len]; omega)) rfl)) (by omega)) ?_
            rintro _ _ ⟨ra41, rc41, rfl, rfl⟩
            refine DJ.norm [_, _] [_] rfl rfl ?_
            refine DJ.one (i := 11) (by kernel_rfl) ?_
            refine DO.call0 rfl rfl rfl (fun k0 hk0 dk0 k hk dk => firstFitS_ok (RdRow.up (Sts.inn hk0 dk0 1 hu35 (by first | omega | (rw [ffit_len]; omega) | (rw [idxBy_len]; omega)) rfl)) (Sts.lrm hk dk 0 (by first | omega | (rw [ffit_len]; omega) | (rw [idxBy_len]; omega)) (by first | rfl | omega | (simp; done) | (simp; omega) | (simp [upN_len]; omega) | (simp [idxBy_len]; omega) | (simp [marks_len]; omega) | (simp [upN_len]; done) | (simp [idxBy_len]; done) | (simp [marks_len]; done) | (simp at *; omega)) rfl) (by omega) (barsOk_iff.1 h29).2 (fun i hi => idxBy_mem.1 hi) (by omega) (by rw [idxBy_len]; omega)) ?_
            rintro _ _ ⟨ra42, rc42, rfl, rfl⟩
            refine DJ.norm [_, _] [_, _] rfl rfl ?_
            refine DJ.one (i := 12) (by kernel_rfl) ?_
            refine DO.callV rfl rfl rfl (fun k0 hk0 dk0 k hk dk => stacksFor_ok (Sts.lrm hk dk 1 (by first | omega | (rw [ffit_len]; omega) | (rw [idxBy_len]; omega)) (by first | rfl | omega | (simp; done) | (simp; omega) | (simp [upN_len]; omega) | (simp [idxBy_len]; omega) | (simp [marks_len]; omega) | (simp [upN_len]; done) | (simp [idxBy_len]; done) | (simp [marks_len]; done) | (simp at *; omega)) rfl) (fun x hx => by have := ffit_lt (barsOk_iff.1 h29).2 (idxBy_perm (ltF u27.l) u27.l.length) x hx; have := ffS_le u27.l bed (idxBy (ltF u27.l) u27.l.length); rw [idxBy_len] at this; omega)) ?_
            refine DJ.yd 13 rfl (by kernel_rfl) (by kernel_rfl) (by kernel_rfl) rfl rfl (Yd.add rfl rfl (by have := bnm_le h29; unfold bnm at this; unfold I64; omega)) ?_
            refine DJ.yd 14 rfl (by kernel_rfl) (by kernel_rfl) (by kernel_rfl) rfl rfl (Yd.asI rfl) ?_
            refine DJ.done (by kernel_rfl) ?_
            refine CJ.region ?_
            refine LJ.yd rfl (Yd.mvI rfl) ?_
            refine LJ.yd rfl (Yd.add rfl rfl (by unfold I64; omega)) ?_
            refine LJ.yd rfl (Yd.asI rfl) ?_
            refine LJ.nil ?_
            refine ⟨(j + 1, _), ?_, ⟨rfl, rfl, trivial⟩, ⟨rfl, rfl, trivial⟩, Ent.pick [0, 1] [2, 3] rfl, ?_⟩
            · refine ⟨by omega, ?_⟩
              refine ⟨by rw [sumR, ← hbt, ← hl27, bnm], fun d hd => ?_⟩
              by_cases e : d = j
              · subst e; rw [← hl27]; exact h29
              · exact hkk d (by omega)
            · first | omega | (dsimp only; omega) | (simp only []; omega)
          · refine LJ.yd rfl (Yd.not rfl) ?_
            refine LJ.nil ?_
            refine CJ.condT rfl ?_
            refine CJ.seq ?_
            refine CJ.region ?_
            refine LJ.yd rfl (Yd.asI rfl) ?_
            refine LJ.nil ?_
            refine CJ.ret ?_
            refine Fin.V (Res.one (ResV.tmp (v := .int _ _) rfl)) ?_
            first
              | (rw [btR, if_neg]; intro h; have := btG_iff.1 h; rw [pnOk_iff.2 this.1] at h9; cases h9; done)
              | (rw [btR, if_neg]; intro h; have := (btG_iff.1 h).2.1; simp at h13; omega)
              | (rw [btR, if_neg]; intro h; have := (btG_iff.1 h).2.2 j (by omega); rw [← hl27, h29] at this; cases this; done)
              | (rw [btR, if_pos (btG_iff.2 ⟨⟨hpn, hpk⟩, hbb, fun d hd => hkk d (by omega)⟩), hbt, show j = 10 by omega])
        · refine LJ.nil ?_
          refine CJ.condF rfl ?_
          refine CJ.exit ?_
          refine CJ.seq ?_
          refine CJ.region ?_
          refine LJ.yd rfl (Yd.mvI rfl) ?_
          refine LJ.yd rfl (Yd.asI rfl) ?_
          refine LJ.nil ?_
          refine CJ.ret ?_
          refine Fin.V (Res.one (ResV.tmp (v := .int _ _) rfl)) ?_
          first
            | (rw [btR, if_neg]; intro h; have := btG_iff.1 h; rw [pnOk_iff.2 this.1] at h9; cases h9; done)
            | (rw [btR, if_neg]; intro h; have := (btG_iff.1 h).2.1; simp at h13; omega)
            | (rw [btR, if_neg]; intro h; have := (btG_iff.1 h).2.2 j (by omega); rw [← hl27, h29] at this; cases this; done)
            | (rw [btR, if_pos (btG_iff.2 ⟨⟨hpn, hpk⟩, hbb, fun d hd => hkk d (by omega)⟩), hbt, show j = 10 by omega])
    · refine LJ.gT rfl ?_
      refine LJ.yd rfl (Yd.not rfl) ?_
      refine LJ.yd rfl (Yd.pickFB rfl rfl) ?_
      refine LJ.nil ?_
      refine CJ.condT rfl ?_
      refine CJ.seq ?_
      refine CJ.region ?_
      refine LJ.yd rfl (Yd.asI rfl) ?_
      refine LJ.nil ?_
      refine CJ.ret ?_
      refine Fin.V (Res.one (ResV.tmp (v := .int _ _) rfl)) ?_
      first
        | (rw [btR, if_neg]; intro h; have := btG_iff.1 h; rw [pnOk_iff.2 this.1] at h9; cases h9; done)
        | (rw [btR, if_neg]; intro h; have := (btG_iff.1 h).2.1; simp at h13; omega)
        | (rw [btR, if_neg]; intro h; have := (btG_iff.1 h).2.2 j (by omega); rw [← hl27, h29] at this; cases this; done)
        | (rw [btR, if_pos (btG_iff.2 ⟨⟨hpn, hpk⟩, hbb, fun d hd => hkk d (by omega)⟩), hbt, show j = 10 by omega])
  · refine LJ.yd rfl (Yd.not rfl) ?_
    refine LJ.yd rfl (Yd.mvB rfl) ?_
    refine LJ.gF rfl rfl ?_
    refine LJ.gF rfl rfl ?_
    refine LJ.gF rfl rfl ?_
    refine LJ.yd rfl (Yd.pickTB rfl rfl) ?_
    refine LJ.nil ?_
    refine CJ.condT rfl ?_
    refine CJ.seq ?_
    refine CJ.region ?_
    refine LJ.yd rfl (Yd.asI rfl) ?_
    refine LJ.nil ?_
    refine CJ.ret ?_
    refine Fin.V (Res.one (ResV.tmp (v := .int _ _) rfl)) ?_
    first
      | (rw [btR, if_neg]; intro h; have := btG_iff.1 h; rw [pnOk_iff.2 this.1] at h9; cases h9; done)
      | (rw [btR, if_neg]; intro h; have := (btG_iff.1 h).2.1; simp at h13; omega)
      | (rw [btR, if_neg]; intro h; have := (btG_iff.1 h).2.2 j (by omega); rw [← hl27, h29] at this; cases this; done)
      | (rw [btR, if_pos (btG_iff.2 ⟨⟨hpn, hpk⟩, hbb, fun d hd => hkk d (by omega)⟩), hbt, show j = 10 by omega])
theorem FnExactBatchesFor_ok {A : Amb} {a : Option Addr} {n c : Nat} {l : List Pane} {bed : Int} (hn : n ≤ 9223372036854775807) (hl : n ≤ 1048576 → RdL Pane.enc 4 A.h (.slice a n c) l ∧ n = l.length) : Ctr Try.prog 4 #[.slice a n c, vI bed] A [] (Val (.bool true)) := by
  refine Ctr.body (args := [_, _]) Try.func4 rfl Try.ntmps4 Try.results4 (by simp) ?_
  refine CJ.seq ?_
  refine CJ.region ?_
  refine LJ.yd rfl (Yd.asB rfl) ?_
  refine LJ.nil ?_
  refine CJ.seq ?_
  refine CJ.region ?_
  refine LJ.yd rfl (Yd.asI rfl) ?_
  refine LJ.nil ?_
  refine CJ.seq ?_
  refine CJ.region ?_
  refine LJ.yd rfl (Yd.mvS rfl) ?_
  refine LJ.yd rfl (Yd.mvI rfl) ?_
  refine LJ.callV rfl (fun k hk dk => szPaneS_ok hn (by omega) (by omega)) ?_
  refine LJ.yd rfl (Yd.asI rfl) ?_
  refine LJ.nil ?_
  refine CJ.seq ?_
  refine CJ.seq ?_
  refine CJ.region ?_
  refine LJ.yd rfl (Yd.mvI rfl) ?_
  refine LJ.splitD rfl (Yd.lss rfl rfl) (fun h13 => ?_) (fun h13 => ?_)
  · refine LJ.nil ?_
    refine CJ.condT rfl ?_
    refine CJ.seq ?_
    refine CJ.region ?_
    refine LJ.yd rfl (Yd.asB rfl) ?_
    refine LJ.nil ?_
    refine CJ.ret ?_
    refine Fin.V (Res.one (ResV.tmp (v := .bool true) rfl)) ?_
    rfl
  · refine LJ.nil ?_
    refine CJ.condF rfl ?_
    refine CJ.skip ?_
    refine CJ.seq ?_
    have hn1 : n ≤ 1048576 := by by_cases hz : (1048576 : Int) - n < 0 <;> simp_all <;> omega
    obtain ⟨hl, rfl⟩ := hl hn1
    refine CJ.region ?_
    refine LJ.yd rfl (Yd.mvS rfl) ?_
    refine LJ.call0 rfl (fun k hk dk => toPaneS_ok (RdRow.up hl) (by omega)) ?_
    rintro _ _ ⟨ra15, rc15, rfl, rfl⟩
    refine LJ.norm [_] rfl ?_
    refine LJ.yd rfl (Yd.mvI rfl) ?_
    refine LJ.callV rfl (fun k hk dk => BatchesForS_ok (Sts.lrm hk dk 0 (by first | rfl | omega | (simp; done) | (simp; omega) | (simp [upN_len]; omega) | (simp [idxBy_len]; omega) | (simp [marks_len]; omega) | (simp [upN_len]; done) | (simp [idxBy_len]; done) | (simp [marks_len]; done) | (simp at *; omega)) (by first | rfl | omega | (simp; done) | (simp; omega) | (simp [upN_len]; omega) | (simp [idxBy_len]; omega) | (simp [marks_len]; omega) | (simp [upN_len]; done) | (simp [idxBy_len]; done) | (simp [marks_len]; done) | (simp at *; omega)) rfl)) ?_
    refine LJ.yd rfl (Yd.asI rfl) ?_
    refine LJ.nil ?_
    refine CJ.seq ?_
    refine CJ.region ?_
    refine LJ.yd rfl (Yd.mvS rfl) ?_
    refine LJ.call0 rfl (fun k hk dk => toPaneS_ok (RdRow.up hl) (by omega)) ?_
    rintro _ _ ⟨ra19, rc19, rfl, rfl⟩
    refine LJ.norm [_, _] rfl ?_
    refine LJ.yd rfl (Yd.asS rfl) ?_
    refine LJ.nil ?_
    refine CJ.seq ?_
    refine CJ.region ?_
    refine LJ.yd rfl (Yd.mvS rfl) ?_
    refine LJ.yd rfl (Yd.mvI rfl) ?_
    refine LJ.callV rfl (fun k hk dk => BatchesForI_ok (Sts.lrm hk dk 1 (by first | rfl | omega | (simp; done) | (simp; omega) | (simp [upN_len]; omega) | (simp [idxBy_len]; omega) | (simp [marks_len]; omega) | (simp [upN_len]; done) | (simp [idxBy_len]; done) | (simp [marks_len]; done) | (simp at *; omega)) (by first | rfl | omega | (simp; done) | (simp; omega) | (simp [upN_len]; omega) | (simp [idxBy_len]; omega) | (simp [marks_len]; omega) | (simp [upN_len]; done) | (simp [idxBy_len]; done) | (simp [marks_len]; done) | (simp at *; omega)) rfl)) ?_
    refine LJ.yd rfl (Yd.asI rfl) ?_
    refine LJ.nil ?_
    refine CJ.seq ?_
    refine CJ.seq ?_
    refine CJ.region ?_
    refine LJ.yd rfl (Yd.mvI rfl) ?_
    refine LJ.yd rfl (Yd.mvI rfl) ?_
    refine LJ.yd rfl (Yd.cmpNF (Yd.neq rfl rfl) (by omega)) ?_
    refine LJ.nil ?_
    refine CJ.condF rfl ?_
    refine CJ.skip ?_
    refine CJ.seq ?_
    refine CJ.seq ?_
    refine CJ.region ?_
    refine LJ.yd rfl (Yd.mvS rfl) ?_
    refine LJ.yd rfl (Yd.mvS rfl) ?_
    refine LJ.call0 rfl (fun k hk dk => toPaneS_ok (RdRow.up hl) (by omega)) ?_
    rintro _ _ ⟨ra28, rc28, rfl, rfl⟩
    refine LJ.norm [_, _, _] rfl ?_
    refine LJ.callV rfl (fun k hk dk => eqPaneS_T (Sts.lrm hk dk 1 (by first | rfl | omega | (simp; done) | (simp; omega) | (simp [upN_len]; omega) | (simp [idxBy_len]; omega) | (simp [marks_len]; omega) | (simp [upN_len]; done) | (simp [idxBy_len]; done) | (simp [marks_len]; done) | (simp at *; omega)) (by first | rfl | omega | (simp; done) | (simp; omega) | (simp [upN_len]; omega) | (simp [idxBy_len]; omega) | (simp [marks_len]; omega) | (simp [upN_len]; done) | (simp [idxBy_len]; done) | (simp [marks_len]; done) | (simp at *; omega)) rfl) (Sts.lrm hk dk 2 (by first | rfl | omega | (simp; done) | (simp; omega) | (simp [upN_len]; omega) | (simp [idxBy_len]; omega) | (simp [marks_len]; omega) | (simp [upN_len]; done) | (simp [idxBy_len]; done) | (simp [marks_len]; done) | (simp at *; omega)) (by first | rfl | omega | (simp; done) | (simp; omega) | (simp [upN_len]; omega) | (simp [idxBy_len]; omega) | (simp [marks_len]; omega) | (simp [upN_len]; done) | (simp [idxBy_len]; done) | (simp [marks_len]; done) | (simp at *; omega)) rfl)) ?_
    refine LJ.yd rfl (Yd.not rfl) ?_
    refine LJ.nil ?_
    refine CJ.condF rfl ?_
    refine CJ.skip ?_
    refine CJ.seq ?_
    refine CJ.region ?_
    refine LJ.yd rfl (Yd.asB rfl) ?_
    refine LJ.nil ?_
    refine CJ.ret ?_
    refine Fin.V (Res.one (ResV.tmp (v := .bool true) rfl)) ?_
    rfl
theorem kw_filter (L : List Pane) (d e : Int) : kw (L.filter fun p => decide (p.Kind = d)) e = if e = d then kw L d else [] := by
  unfold kw
  rw [List.filter_filter]
  by_cases h : e = d
  · subst h; rw [if_pos rfl]; congr 2; funext p; simp
  · rw [if_neg h, List.filter_eq_nil_iff.2 fun p _ => by simp; omega]; rfl
theorem bnm_nil (bed : Int) : bnm [] bed = 0 := rfl
theorem sumR_one {f : Int → Int} {d : Nat} : ∀ {n : Nat}, (∀ e : Nat, e ≠ d → f e = 0) → sumR f n = if d < n then f d else 0
  | 0, _ => by simp [sumR]
  | n + 1, h => by
    rw [sumR, sumR_one (n := n) h]
    by_cases e : n = d
    · subst e; simp
    · rw [h n e]
      by_cases h2 : d < n
      · rw [if_pos h2, if_pos (by omega)]; omega
      · rw [if_neg h2, if_neg (by omega)]; omega
theorem bt_kind {L : List Pane} {bed : Int} (hG : btG L bed = true) {d : Nat} (hd : d < 10) : btR (L.filter fun p => decide (p.Kind = d)) bed = bnm (kw L d) bed := by
  obtain ⟨⟨h1, h2⟩, h3, h4⟩ := btG_iff.1 hG
  have hg : btG (L.filter fun p => decide (p.Kind = d)) bed = true := btG_iff.2 ⟨⟨Nat.le_trans (List.length_filter_le _ _) h1, fun p hp => h2 p (List.mem_filter.1 hp).1⟩, h3, fun e he => by
    rw [kw_filter]; split
    · exact h4 d hd
    · exact barsOk_iff.2 ⟨⟨h3.1, h3.2, by simp⟩, by simp⟩⟩
  rw [btR, if_pos hg, sumR_one (d := d) (fun e he => by rw [kw_filter, if_neg (by omega)]; exact bnm_nil bed), if_pos hd, kw_filter, if_pos rfl]
theorem bnm_perm {l l' : List Int} {bed : Int} (hb : barsOk 20 l bed = true) (hp : l'.Perm l) : bnm l' bed = bnm l bed := by
  have hm := (barsOk_iff.1 hb).2
  have hm' : ∀ u ∈ l', 1 ≤ u ∧ u ≤ bed := fun u hu => hm u (hp.mem_iff.1 hu)
  have key : ∀ {l : List Int}, (∀ u ∈ l, 1 ≤ u ∧ u ≤ bed) → 0 < l.length → bnm l bed = ((ffV bed ((idxBy (ltF l) l.length).map (gt l)) []).length : Int) := fun {l} hm h0 => by
    rw [bnm, ff_mx hm (idxBy_perm (ltF l) l.length) h0 (-1) (by omega), ffS, ffGo_V]; omega
  rcases Nat.eq_zero_or_pos l.length with h0 | h0
  · have e1 : l = [] := List.eq_nil_of_length_eq_zero h0
    have e2 : l' = [] := List.eq_nil_of_length_eq_zero (by rw [hp.length_eq]; exact h0)
    rw [e1, e2]
  · rw [key hm h0, key hm' (by rw [hp.length_eq]; exact h0)]
    have hv : ((idxBy (ltF l) l.length).map (gt l)).Perm l := by
      have := (idxBy_perm (ltF l) l.length).map (gt l)
      rwa [map_gt] at this
    rw [falling_eq (falling_dn l) (hv.trans hp.symm)]
theorem kw_rev (L : List Pane) (d : Int) : kw L.reverse d = (kw L d).reverse := by
  unfold kw; rw [List.filter_reverse, List.map_reverse]
theorem bt_rev {L : List Pane} {bed : Int} (hG : btG L bed = true) : btR L.reverse bed = btR L bed := by
  obtain ⟨⟨h1, h2⟩, h3, h4⟩ := btG_iff.1 hG
  have hb : ∀ d : Nat, d < 10 → barsOk 20 (kw L.reverse d) bed = true := fun d hd => by
    obtain ⟨⟨a1, a2, a3⟩, a4⟩ := barsOk_iff.1 (h4 d hd)
    rw [kw_rev]
    exact barsOk_iff.2 ⟨⟨a1, a2, by rw [List.length_reverse]; exact a3⟩, fun u hu => a4 u (List.mem_reverse.1 hu)⟩
  have hg : btG L.reverse bed = true := btG_iff.2 ⟨⟨by rw [List.length_reverse]; exact h1, fun p hp => h2 p (List.mem_reverse.1 hp)⟩, h3, hb⟩
  rw [btR, btR, if_pos hg, if_pos hG]
  have : ∀ n, n ≤ 10 → sumR (fun d => bnm (kw L.reverse d) bed) n = sumR (fun d => bnm (kw L d) bed) n := by
    intro n
    induction n with
    | zero => intro _; rfl
    | succ n ih =>
      intro hn
      rw [sumR, sumR, ih (by omega)]
      congr 1
      rw [kw_rev]
      exact bnm_perm (h4 n (by omega)) (List.reverse_perm _)
  exact this 10 (by omega)
theorem btR_G {L : List Pane} {bed : Int} (h : ¬ btR L bed < 0) : btG L bed = true := by
  refine Classical.byContradiction fun hn => h ?_
  rw [btR, if_neg hn]; omega
def PbD (v : Value) (gs : List HProp) : Prop := ∃ (l : List Pane) (bed : Int) (a : Option Addr) (c : Nat), v = .tuple #[.slice a l.length c, vI bed] ∧ gs = [LR Pane.enc 28 4 a c l] ∧ l.length ≤ 100
theorem DrawBatchesFor_ok {A : Amb} {a : Option Addr} {n c : Nat} (h : Code A.h a n c) : Ctr Try.prog 12 #[.slice a n c] A [] PbD := by
  obtain ⟨hcode, hn, ha, hs⟩ := h
  refine Ctr.body (args := [_]) Try.func12 rfl Try.ntmps12 Try.results12 (by simp) ?_
  refine CJ.seq ?_
  refine CJ.region ?_
  refine LJ.yd rfl (Yd.asS rfl) ?_
  refine LJ.yd rfl (Yd.asI rfl) ?_
  refine LJ.nil ?_
  refine CJ.seq ?_
  refine CJ.region ?_
  refine LJ.yd rfl (Yd.mvS rfl) ?_
  refine LJ.call0 rfl (fun k hk dk => newReader_ok hn hcode.up ha hs) ?_
  rintro _ _ ⟨rb, n2, rfl, hn1, hn2, rfl⟩
  have hcode2 := hcode.le hn2
  refine LJ.yd rfl (Yd.asP rfl) ?_
  refine LJ.nil ?_
  refine CJ.seq ?_
  refine CJ.region ?_
  refine LJ.op rfl (OpR.buildSlice (cs := []) rfl rfl) ?_
  rintro _ _ ⟨b1, rfl, rfl⟩
  refine LJ.yd rfl (Yd.asS rfl) ?_
  refine LJ.nil ?_
  refine CJ.seq ?_
  refine CJ.seq ?_
  refine CJ.region ?_
  refine LJ.yd rfl (Yd.mvP rfl) ?_
  refine LJ.op rfl (OpR.buildSlice (cs := [_, _, _, _, _]) rfl rfl) ?_
  rintro _ _ ⟨b2, rfl, rfl⟩
  refine LJ.call (pickF _ [1, 2]) (pickF _ [0]) rfl (perm_pickF _ [1, 2] [0] rfl) (fun k hk dk => one_ok (l := [5, 7, 3, 0, 12]) (hcode2.up) (LitAt.of (l := [5, 7, 3, 0, 12]) hk dk 1 rfl) (by simp) (by omega) (by omega)) ?_
  rintro _ _ ⟨x12, rfl, hx12, rfl⟩
  simp only [List.mem_cons, List.not_mem_nil, or_false] at hx12
  refine LJ.norm [_, _, _] rfl ?_
  refine LJ.yd rfl (Yd.asI rfl) ?_
  refine LJ.nil ?_
  refine CJ.block ?_
  refine CJ.imp1 0 rfl (fun _ h => Cel.lr (enc := Pane.enc) (k := 4) (m := 0) [] rfl rfl rfl rfl h) ?_
  refine CJ.norm [_, _, _] rfl ?_
  refine CJ.loopF [2, 3, 4] (Int × Int × List (Pane) × Option Addr × Nat × Nat) (fun ⟨m, q, X, XA, XN, XC⟩ => (XN = X.length) ∧ 0 ≤ m ∧ 0 ≤ q ∧ q + 20 * m ≤ 1000 ∧ X.length + m ≤ 20) (fun ⟨m, q, X, XA, XN, XC⟩ => [(6, vI m), (5, .slice XA XN XC)]) (fun ⟨m, q, X, XA, XN, XC⟩ => [LR Pane.enc 28 4 XA XC X, Rd rb a n2 c q]) (fun ⟨m, q, X, XA, XN, XC⟩ => m.toNat) (x12, 1, [], _, _, _) [_] [1] [0, 2] rfl rfl rfl ?_ ⟨rfl, rfl, trivial⟩ ?_
  · exact ⟨(by first | rfl | omega | (simp; done) | (simp; omega) | (simp [upN_len]; omega) | (simp [idxBy_len]; omega) | (simp [marks_len]; omega) | (simp [upN_len]; done) | (simp [idxBy_len]; done) | (simp [marks_len]; done) | (simp at *; omega)), ⟨by omega, by omega, by omega, by simp; omega⟩⟩
  · rintro ⟨m, q, X, XA, XN, XC⟩ σ ⟨hlNX, ⟨hm0, hq3, hq4, hXl⟩⟩
    subst hlNX
    refine CJ.norm [_, _, _] rfl ?_
    refine CJ.seq ?_
    refine CJ.seq ?_
    refine CJ.region ?_
    refine LJ.yd rfl (Yd.mvI rfl) ?_
    refine LJ.splitD rfl (Yd.gtr rfl rfl) (fun h14 => ?_) (fun h14 => ?_)
    · refine LJ.nil ?_
      refine CJ.condT rfl ?_
      refine CJ.skip ?_
      refine CJ.seq ?_
      refine CJ.block ?_
      refine CJ.region ?_
      refine LJ.yd rfl (Yd.mvS rfl) ?_
      refine LJ.yd rfl (Yd.mvP rfl) ?_
      refine LJ.call (pickF _ [0, 1]) (pickF _ [2]) rfl (perm_pickF _ [0, 1] [2] rfl) (fun k hk dk => somePane_ok hcode2.up (by omega) (by omega)) ?_
      rintro _ _ ⟨pW, pH, pK, q1, pT, rfl, rfl, hq1, hq2, hb1, hb2, hb3, hb4⟩
      refine LJ.norm [_, _, _] rfl ?_
      refine LJ.op rfl (OpR.buildSlice (cs := [_, _, _, _]) rfl rfl) ?_
      rintro _ _ ⟨b3, rfl, rfl⟩
      refine LJ.op rfl (OpR.apT (enc := Pane.enc) [⟨_, _, _, _⟩] 1 3 rfl rfl rfl (by first | rfl | omega | (simp; done) | (simp; omega) | (simp [upN_len]; omega) | (simp [idxBy_len]; omega) | (simp [marks_len]; omega) | (simp [upN_len]; done) | (simp [idxBy_len]; done) | (simp [marks_len]; done) | (simp at *; omega)) rfl rfl rfl rfl rfl (by first | rfl | omega | (simp; done) | (simp; omega) | (simp [upN_len]; omega) | (simp [idxBy_len]; omega) | (simp [marks_len]; omega) | (simp [upN_len]; done) | (simp [idxBy_len]; done) | (simp [marks_len]; done) | (simp at *; omega))) ?_
      rintro _ _ ⟨ra21, rc21, rfl, rfl⟩
      refine LJ.norm [_, _, _, _] rfl ?_
      refine LJ.yd rfl (Yd.asS rfl) ?_
      refine LJ.nil ?_
      refine CJ.region ?_
      refine LJ.yd rfl (Yd.mvI rfl) ?_
      refine LJ.yd rfl (Yd.sub rfl rfl (by unfold I64; omega)) ?_
      refine LJ.yd rfl (Yd.asI rfl) ?_
      refine LJ.nil ?_
      refine ⟨(_, _, _, _, _, _), ?_, ⟨rfl, rfl, rfl, trivial⟩, ⟨rfl, rfl, trivial⟩, Ent.pick [0, 1, 2] [3] rfl, ?_⟩
      · refine ⟨(by first | rfl | omega | (simp; done) | (simp; omega) | (simp [upN_len]; omega) | (simp [idxBy_len]; omega) | (simp [marks_len]; omega) | (simp [upN_len]; done) | (simp [idxBy_len]; done) | (simp [marks_len]; done) | (simp at *; omega)), ?_⟩
        exact ⟨by omega, by omega, by omega, by simp; omega⟩
      · dsimp only; omega
    · refine LJ.nil ?_
      refine CJ.condF rfl ?_
      refine CJ.exit ?_
      refine CJ.seq ?_
      refine CJ.seq ?_
      refine CJ.region ?_
      refine LJ.yd rfl (Yd.mvS rfl) ?_
      refine LJ.yd rfl (Yd.len rfl) ?_
      refine LJ.splitD rfl (Yd.gtr rfl rfl) (fun h24 => ?_) (fun h24 => ?_)
      · refine LJ.yd rfl (Yd.mvB rfl) ?_
        refine LJ.gT rfl ?_
        refine LJ.yd rfl (Yd.mvP rfl) ?_
        refine LJ.gT rfl ?_
        refine LJ.call (pickF _ [0, 1]) (pickF _ [2]) rfl (perm_pickF _ [0, 1] [2] rfl) (fun k hk dk => pick_ok (hcode2.up) (by omega) (by omega)) ?_
        rintro _ _ ⟨x27, rfl, hx27, hy27, rfl⟩
        refine LJ.norm [_, _, _] rfl ?_
        refine LJ.gT rfl ?_
        refine LJ.splitD rfl (Yd.eql rfl rfl) (fun h28 => ?_) (fun h28 => ?_)
        · refine LJ.yd rfl (Yd.pickTB rfl rfl) ?_
          refine LJ.nil ?_
          refine CJ.condT rfl ?_
          refine CJ.region ?_
          refine LJ.yd rfl (Yd.mvS rfl) ?_
          refine LJ.yd rfl (Yd.mvP rfl) ?_
          refine LJ.call (pickF _ [0, 1]) (pickF _ [2]) rfl (perm_pickF _ [0, 1] [2] rfl) (fun k hk dk => anyPane_ok hcode2.up (by omega) (by omega)) ?_
          rintro _ _ ⟨pW, pH, pK, q1, pT, rfl, rfl, hq1, hq2, hb1, hb2, hb3, hb4⟩
          refine LJ.norm [_, _, _] rfl ?_
          refine LJ.idxR 1 rfl rfl rfl rfl (by omega) (by first | rfl | omega | (simp; done) | (simp; omega) | (simp [upN_len]; omega) | (simp [idxBy_len]; omega) | (simp [marks_len]; omega) | (simp [upN_len]; done) | (simp [idxBy_len]; done) | (simp [marks_len]; done) | (simp at *; omega)) (by first | rfl | omega | (simp; done) | (simp; omega) | (simp [upN_len]; omega) | (simp [idxBy_len]; omega) | (simp [marks_len]; omega) | (simp [upN_len]; done) | (simp [idxBy_len]; done) | (simp [marks_len]; done) | (simp at *; omega)) (fun ib33 ia33 => ?_)
          refine LJ.op rfl (OpR.stG (enc := Pane.enc) (u' := (⟨pW, pH, pT, pK⟩ : Pane)) 1 rfl ia33 rfl rfl rfl (fun _ => rfl) rfl rfl (by first | rfl | omega | (simp; done) | (simp; omega) | (simp [upN_len]; omega) | (simp [idxBy_len]; omega) | (simp [marks_len]; omega) | (simp [upN_len]; done) | (simp [idxBy_len]; done) | (simp [marks_len]; done) | (simp at *; omega))) ?_
          rintro _ _ ⟨rfl, rfl⟩
          refine LJ.norm [_, _, _] rfl ?_
          refine LJ.nil ?_
          refine CJ.seq ?_
          refine CJ.region ?_
          refine LJ.yd rfl (Yd.mvS rfl) ?_
          refine LJ.yd rfl (Yd.mvP rfl) ?_
          refine LJ.op rfl (OpR.buildSlice (cs := [_, _, _, _, _, _]) rfl rfl) ?_
          rintro _ _ ⟨b4, rfl, rfl⟩
          refine LJ.call (pickF _ [0, 1, 3]) (pickF _ [2]) rfl (perm_pickF _ [0, 1, 3] [2] rfl) (fun k hk dk => one_ok (l := [10, 8, 12, 7, 0, 200]) (hcode2.up) (LitAt.of (l := [10, 8, 12, 7, 0, 200]) hk dk 2 rfl) (by simp) (by omega) (by omega)) ?_
          rintro _ _ ⟨x37, rfl, hx37, rfl⟩
          simp only [List.mem_cons, List.not_mem_nil, or_false] at hx37
          refine LJ.norm [_, _, _, _] rfl ?_
          refine LJ.yd rfl (Yd.asS rfl) ?_
          refine LJ.yd rfl (Yd.asI rfl) ?_
          refine LJ.nil ?_
          refine CJ.ret ?_
          exact Fin.R [_] (Res.two (ResV.tmp (v := .slice _ _ _) rfl) (ResV.tmp (v := .int _ _) rfl)) ⟨_, x37, _, _, by first | rfl | (simp; done), rfl, by first | omega | (simp; omega)⟩ (Ent.pick [1] [0, 2, 3] rfl)
        · refine LJ.yd rfl (Yd.pickTB rfl rfl) ?_
          refine LJ.nil ?_
          refine CJ.condF rfl ?_
          refine CJ.skip ?_
          refine CJ.seq ?_
          refine CJ.region ?_
          refine LJ.yd rfl (Yd.mvS rfl) ?_
          refine LJ.yd rfl (Yd.mvP rfl) ?_
          refine LJ.op rfl (OpR.buildSlice (cs := [_, _, _, _, _, _]) rfl rfl) ?_
          rintro _ _ ⟨b5, rfl, rfl⟩
          refine LJ.call (pickF _ [0, 1, 3]) (pickF _ [2]) rfl (perm_pickF _ [0, 1, 3] [2] rfl) (fun k hk dk => one_ok (l := [10, 8, 12, 7, 0, 200]) (hcode2.up) (LitAt.of (l := [10, 8, 12, 7, 0, 200]) hk dk 2 rfl) (by simp) (by omega) (by omega)) ?_
          rintro _ _ ⟨x37, rfl, hx37, rfl⟩
          simp only [List.mem_cons, List.not_mem_nil, or_false] at hx37
          refine LJ.norm [_, _, _, _] rfl ?_
          refine LJ.yd rfl (Yd.asS rfl) ?_
          refine LJ.yd rfl (Yd.asI rfl) ?_
          refine LJ.nil ?_
          refine CJ.ret ?_
          exact Fin.R [_] (Res.two (ResV.tmp (v := .slice _ _ _) rfl) (ResV.tmp (v := .int _ _) rfl)) ⟨_, x37, _, _, by first | rfl | (simp; done), rfl, by first | omega | (simp; omega)⟩ (Ent.pick [1] [0, 2, 3] rfl)
      · refine LJ.yd rfl (Yd.mvB rfl) ?_
        refine LJ.gF rfl rfl ?_
        refine LJ.gF rfl rfl ?_
        refine LJ.gF rfl rfl ?_
        refine LJ.yd rfl (Yd.pickFB rfl rfl) ?_
        refine LJ.nil ?_
        refine CJ.condF rfl ?_
        refine CJ.skip ?_
        refine CJ.seq ?_
        refine CJ.region ?_
        refine LJ.yd rfl (Yd.mvS rfl) ?_
        refine LJ.yd rfl (Yd.mvP rfl) ?_
        refine LJ.op rfl (OpR.buildSlice (cs := [_, _, _, _, _, _]) rfl rfl) ?_
        rintro _ _ ⟨b6, rfl, rfl⟩
        refine LJ.call (pickF _ [0, 1, 3]) (pickF _ [2]) rfl (perm_pickF _ [0, 1, 3] [2] rfl) (fun k hk dk => one_ok (l := [10, 8, 12, 7, 0, 200]) (hcode2.up) (LitAt.of (l := [10, 8, 12, 7, 0, 200]) hk dk 2 rfl) (by simp) (by omega) (by omega)) ?_
        rintro _ _ ⟨x37, rfl, hx37, rfl⟩
        simp only [List.mem_cons, List.not_mem_nil, or_false] at hx37
        refine LJ.norm [_, _, _, _] rfl ?_
        refine LJ.yd rfl (Yd.asS rfl) ?_
        refine LJ.yd rfl (Yd.asI rfl) ?_
        refine LJ.nil ?_
        refine CJ.ret ?_
        exact Fin.R [_] (Res.two (ResV.tmp (v := .slice _ _ _) rfl) (ResV.tmp (v := .int _ _) rfl)) ⟨_, x37, _, _, by first | rfl | (simp; done), rfl, by first | omega | (simp; omega)⟩ (Ent.pick [1] [0, 2, 3] rfl)
theorem FnBatchesFor_ok {A : Amb} {a : Option Addr} {n c : Nat} (h : Code A.h a n c) : Ctr Try.prog 3 #[.slice a n c] A [] (Val (.bool true)) := by
  refine Ctr.body (args := [_]) Try.func3 rfl Try.ntmps3 Try.results3 (by simp) ?_
  refine CJ.seq ?_
  refine CJ.region ?_
  refine LJ.yd rfl (Yd.asB rfl) ?_
  refine LJ.nil ?_
  refine CJ.seq ?_
  refine CJ.seq ?_
  refine CJ.region ?_
  refine LJ.yd rfl (Yd.mvS rfl) ?_
  refine LJ.yd rfl (Yd.len rfl) ?_
  refine LJ.splitD rfl (Yd.gtr rfl rfl) (fun h14 => ?_) (fun h14 => ?_)
  · refine LJ.nil ?_
    refine CJ.condT rfl ?_
    refine CJ.seq ?_
    refine CJ.region ?_
    refine LJ.yd rfl (Yd.asB rfl) ?_
    refine LJ.nil ?_
    refine CJ.ret ?_
    refine Fin.V (Res.one (ResV.tmp (v := .bool true) rfl)) ?_
    first
      | rfl
      | (refine congrArg Value.bool (decide_eq_true ?_); first | rfl | omega)
  · refine LJ.nil ?_
    refine CJ.condF rfl ?_
    refine CJ.skip ?_
    refine CJ.seq ?_
    refine CJ.region ?_
    refine LJ.yd rfl (Yd.mvS rfl) ?_
    refine LJ.call0 rfl (fun k hk dk => DrawBatchesFor_ok h.up) ?_
    rintro _ _ ⟨L, bed, xa, xc, rfl, rfl, hLl⟩
    refine LJ.norm [_] rfl ?_
    refine LJ.yd rfl (Yd.mvU rfl) ?_
    refine LJ.yd rfl (Yd.extract rfl rfl) ?_
    refine LJ.yd rfl (Yd.extract rfl rfl) ?_
    refine LJ.yd rfl (Yd.asS rfl) ?_
    refine LJ.yd rfl (Yd.asI rfl) ?_
    refine LJ.nil ?_
    refine CJ.seq ?_
    refine CJ.amb (perm_pickF _ [0] [] rfl) (fun mlx wlx dlx => ?_)
    refine CJ.norm [] rfl ?_
    have hlx := Row.toA (enc := Pane.enc) wlx dlx (by first | rfl | omega | (simp; done) | (simp; omega) | (simp [upN_len]; omega) | (simp [idxBy_len]; omega) | (simp [marks_len]; omega) | (simp [upN_len]; done) | (simp [idxBy_len]; done) | (simp [marks_len]; done) | (simp at *; omega))
    refine CJ.region ?_
    refine LJ.yd rfl (Yd.mvS rfl) ?_
    refine LJ.yd rfl (Yd.mvI rfl) ?_
    refine LJ.callV rfl (fun k hk dk => BatchesForI_ok (RdRow.up hlx)) ?_
    refine LJ.yd rfl (Yd.asI rfl) ?_
    refine LJ.nil ?_
    refine CJ.seq ?_
    refine CJ.seq ?_
    refine CJ.region ?_
    refine LJ.yd rfl (Yd.mvI rfl) ?_
    refine LJ.yd rfl (Yd.mvS rfl) ?_
    refine LJ.yd rfl (Yd.mvI rfl) ?_
    refine LJ.callV rfl (fun k hk dk => BatchesForS_ok (RdRow.up hlx)) ?_
    refine LJ.yd rfl (Yd.cmpNF (Yd.neq rfl rfl) (by omega)) ?_
    refine LJ.yd rfl (Yd.mvB rfl) ?_
    refine LJ.gT rfl ?_
    refine LJ.yd rfl (Yd.mvI rfl) ?_
    refine LJ.gT rfl ?_
    refine LJ.splitD rfl (Yd.lss rfl rfl) (fun h30 => ?_) (fun h30 => ?_)
    · refine LJ.yd rfl (Yd.pickFB rfl rfl) ?_
      refine LJ.nil ?_
      refine CJ.condT rfl ?_
      refine CJ.seq ?_
      refine CJ.region ?_
      refine LJ.yd rfl (Yd.mvI rfl) ?_
      refine LJ.yd rfl (Yd.mvS rfl) ?_
      refine LJ.yd rfl (Yd.mvI rfl) ?_
      refine LJ.callV rfl (fun k hk dk => BatchesForS_ok (RdRow.up hlx)) ?_
      refine LJ.yd rfl (Yd.eql rfl rfl) ?_
      refine LJ.yd rfl (Yd.asB rfl) ?_
      refine LJ.nil ?_
      refine CJ.ret ?_
      refine Fin.V (Res.one (ResV.tmp (v := .bool _) rfl)) ?_
      first
        | rfl
        | (refine congrArg Value.bool (decide_eq_true ?_); first | rfl | omega)
    · refine LJ.yd rfl (Yd.pickFB rfl rfl) ?_
      refine LJ.nil ?_
      refine CJ.condF rfl ?_
      refine CJ.skip ?_
      refine CJ.seq ?_
      have hG := btR_G h30
      obtain ⟨⟨hG1, _⟩, _, hG4⟩ := btG_iff.1 hG
      refine CJ.region ?_
      refine LJ.op rfl (OpR.buildSlice (cs := []) rfl rfl) ?_
      rintro _ _ ⟨b1, rfl, rfl⟩
      refine LJ.yd rfl (Yd.asS rfl) ?_
      refine LJ.nil ?_
      refine CJ.seq ?_
      refine CJ.seq ?_
      refine CJ.region ?_
      refine LJ.yd rfl (Yd.mvS rfl) ?_
      refine LJ.yd rfl (Yd.len rfl) ?_
      refine LJ.yd rfl (Yd.sub rfl rfl (by unfold I64; omega)) ?_
      refine LJ.yd rfl (Yd.asI rfl) ?_
      refine LJ.nil ?_
      refine CJ.block ?_
      refine CJ.imp1 0 rfl (fun _ h => Cel.lr (enc := Pane.enc) (k := 4) (m := 0) [] rfl rfl rfl rfl h) ?_
      refine CJ.norm [_] rfl ?_
      refine CJ.loopF [2, 3, 4, 5] (Int × List (Pane) × Option Addr × Nat × Nat) (fun ⟨z, B, BA, BN, BC⟩ => (BN = B.length) ∧ -1 ≤ z ∧ z < L.length ∧ B.length + z + 1 = L.length ∧ B = (L.drop (z + 1).toNat).reverse) (fun ⟨z, B, BA, BN, BC⟩ => [(7, vI z), (6, .slice BA BN BC)]) (fun ⟨z, B, BA, BN, BC⟩ => [LR Pane.enc 28 4 BA BC B]) (fun ⟨z, B, BA, BN, BC⟩ => (z + 1).toNat) (L.length - 1, [], _, _, _) [] [] [0] rfl rfl rfl ?_ ⟨rfl, rfl, trivial⟩ ?_
      · exact ⟨(by first | rfl | omega | (simp; done) | (simp; omega) | (simp [upN_len]; omega) | (simp [idxBy_len]; omega) | (simp [marks_len]; omega) | (simp [upN_len]; done) | (simp [idxBy_len]; done) | (simp [marks_len]; done) | (simp at *; omega)), ⟨by omega, by omega, by first | omega | (simp; done) | (simp; omega), by rw [show ((L.length : Int) - 1 + 1).toNat = L.length by omega, List.drop_length]; rfl⟩⟩
      · rintro ⟨z, B, BA, BN, BC⟩ σ ⟨hlNB, ⟨hz0, hz1, hBl, hB⟩⟩
        subst hlNB
        refine CJ.norm [_] rfl ?_
        refine CJ.seq ?_
        refine CJ.seq ?_
        refine CJ.region ?_
        refine LJ.yd rfl (Yd.mvI rfl) ?_
        refine LJ.splitD rfl (Yd.geq rfl rfl) (fun h42 => ?_) (fun h42 => ?_)
        · refine LJ.nil ?_
          refine CJ.condT rfl ?_
          refine CJ.skip ?_
          refine CJ.seq ?_
          refine CJ.block ?_
          refine CJ.region ?_
          refine LJ.yd rfl (Yd.mvS rfl) ?_
          refine LJ.yd rfl (Yd.mvS rfl) ?_
          refine LJ.yd rfl (Yd.mvI rfl) ?_
          refine LJ.idxA rfl hlx rfl rfl (by omega) (by first | rfl | omega | (simp; done) | (simp; omega) | (simp [upN_len]; omega) | (simp [idxBy_len]; omega) | (simp [marks_len]; omega) | (simp [upN_len]; done) | (simp [idxBy_len]; done) | (simp [marks_len]; done) | (simp at *; omega)) (fun ib48 io48 ia48 ir48 => ?_)
          refine LJ.lgA (enc := Pane.enc) (fun u => [vI u.W, vI u.H, .bool u.Turns, vI u.Kind]) (fun _ => rfl) (fun _ => rfl) ir48 rfl rfl rfl (by first | rfl | omega | (simp; done) | (simp; omega) | (simp [upN_len]; omega) | (simp [idxBy_len]; omega) | (simp [marks_len]; omega) | (simp [upN_len]; done) | (simp [idxBy_len]; done) | (simp [marks_len]; done) | (simp at *; omega)) (fun u49 hu49 => ?_)
          try simp only [Int.toNat_natCast] at hu49
          refine LJ.op rfl (OpR.buildSlice (cs := [_, _, _, _]) rfl rfl) ?_
          rintro _ _ ⟨b2, rfl, rfl⟩
          refine LJ.op rfl (OpR.apT (enc := Pane.enc) [⟨_, _, _, _⟩] 0 1 rfl rfl rfl (by first | rfl | omega | (simp; done) | (simp; omega) | (simp [upN_len]; omega) | (simp [idxBy_len]; omega) | (simp [marks_len]; omega) | (simp [upN_len]; done) | (simp [idxBy_len]; done) | (simp [marks_len]; done) | (simp at *; omega)) rfl rfl rfl rfl rfl (by first | rfl | omega | (simp; done) | (simp; omega) | (simp [upN_len]; omega) | (simp [idxBy_len]; omega) | (simp [marks_len]; omega) | (simp [upN_len]; done) | (simp [idxBy_len]; done) | (simp [marks_len]; done) | (simp at *; omega))) ?_
          rintro _ _ ⟨ra51, rc51, rfl, rfl⟩
          refine LJ.norm [_, _] rfl ?_
          refine LJ.yd rfl (Yd.asS rfl) ?_
          refine LJ.nil ?_
          refine CJ.region ?_
          refine LJ.yd rfl (Yd.mvI rfl) ?_
          refine LJ.yd rfl (Yd.sub rfl rfl (by unfold I64; omega)) ?_
          refine LJ.yd rfl (Yd.asI rfl) ?_
          refine LJ.nil ?_
          refine ⟨(_, _, _, _, _), ?_, ⟨rfl, rfl, rfl, rfl, trivial⟩, ⟨rfl, rfl, trivial⟩, Ent.pick [0] [1] rfl, ?_⟩
          · refine ⟨(by first | rfl | omega | (simp; done) | (simp; omega) | (simp [upN_len]; omega) | (simp [idxBy_len]; omega) | (simp [marks_len]; omega) | (simp [upN_len]; done) | (simp [idxBy_len]; done) | (simp [marks_len]; done) | (simp at *; omega)), ?_⟩
            refine ⟨by omega, by omega, by first | omega | (simp; omega), ?_⟩
            rw [show (z - 1 + 1).toNat = z.toNat by omega, dropC hu49, List.reverse_cons, hB, show (z + 1).toNat = z.toNat + 1 by omega]
          · first | omega | (dsimp only; omega) | (simp only []; omega)
        · refine LJ.nil ?_
          refine CJ.condF rfl ?_
          refine CJ.exit ?_
          refine CJ.seq ?_
          refine CJ.region ?_
          refine LJ.yd rfl (Yd.asI rfl) ?_
          refine LJ.nil ?_
          refine CJ.seq ?_
          refine CJ.seq ?_
          refine CJ.region ?_
          refine LJ.yd rfl (Yd.asI rfl) ?_
          refine LJ.nil ?_
          refine CJ.block ?_
          refine CJ.loopK [2, 3, 4, 5, 6] (Nat × Int) (fun ⟨d, sm⟩ => d ≤ 10 ∧ sm = sumR (fun d => bnm (kw L d) bed) d) (fun ⟨d, sm⟩ => [(9, vI d), (8, vI sm)]) (fun ⟨d, sm⟩ => 10 - d) (0, 0) ?_ ⟨rfl, rfl, trivial⟩ ?_
          · exact ⟨by omega, rfl⟩
          · rintro ⟨d, sm⟩ σ ⟨hd1, hsm⟩
            have hbs := sumR_le (n := d) (f := fun d => bnm (kw L d) bed) (fun e he => bnm_le (hG4 e (by omega)))
            rw [← hsm] at hbs
            refine CJ.seq ?_
            refine CJ.seq ?_
            refine CJ.region ?_
            refine LJ.yd rfl (Yd.mvI rfl) ?_
            refine LJ.splitD rfl (Yd.leq rfl rfl) (fun h53 => ?_) (fun h53 => ?_)
            · refine LJ.nil ?_
              refine CJ.condT rfl ?_
              refine CJ.skip ?_
              refine CJ.seq ?_
              refine CJ.block ?_
              refine CJ.seq ?_
              refine CJ.region ?_
              refine LJ.op rfl (OpR.buildSlice (cs := []) rfl rfl) ?_
              rintro _ _ ⟨b3, rfl, rfl⟩
              refine LJ.yd rfl (Yd.asS rfl) ?_
              refine LJ.nil ?_
              refine CJ.seq ?_
              refine CJ.seq ?_
              refine CJ.region ?_
              refine LJ.yd rfl (Yd.asI rfl) ?_
              refine LJ.nil ?_
              refine CJ.block ?_
              refine CJ.imp1 1 rfl (fun _ h => Cel.lr (enc := Pane.enc) (k := 4) (m := 0) [] rfl rfl rfl rfl h) ?_
              refine CJ.norm [_, _] rfl ?_
              refine CJ.loopF [2, 3, 4, 5, 6, 8, 9, 52, 53, 56] (Nat × List (Pane) × Option Addr × Nat × Nat) (fun ⟨k, Z, ZA, ZN, ZC⟩ => (ZN = Z.length) ∧ k ≤ L.length ∧ Z.length ≤ k ∧ Z = (L.take k).filter fun p : Pane => decide (p.Kind = (d : Int))) (fun ⟨k, Z, ZA, ZN, ZC⟩ => [(11, vI k), (10, .slice ZA ZN ZC)]) (fun ⟨k, Z, ZA, ZN, ZC⟩ => [LR Pane.enc 28 4 ZA ZC Z]) (fun ⟨k, Z, ZA, ZN, ZC⟩ => L.length - k) (0, [], _, _, _) [_] [0] [1] rfl rfl rfl ?_ ⟨rfl, rfl, trivial⟩ ?_
              · exact ⟨(by first | rfl | omega | (simp; done) | (simp; omega) | (simp [upN_len]; omega) | (simp [idxBy_len]; omega) | (simp [marks_len]; omega) | (simp [upN_len]; done) | (simp [idxBy_len]; done) | (simp [marks_len]; done) | (simp at *; omega)), ⟨by omega, by simp, by simp⟩⟩
              · rintro ⟨k, Z, ZA, ZN, ZC⟩ σ ⟨hlNZ, ⟨hk1, hZl, hZ⟩⟩
                subst hlNZ
                refine CJ.norm [_, _] rfl ?_
                refine CJ.seq ?_
                refine CJ.seq ?_
                refine CJ.region ?_
                refine LJ.yd rfl (Yd.mvI rfl) ?_
                refine LJ.yd rfl (Yd.mvS rfl) ?_
                refine LJ.yd rfl (Yd.len rfl) ?_
                refine LJ.splitD rfl (Yd.lss rfl rfl) (fun h60 => ?_) (fun h60 => ?_)
                · refine LJ.nil ?_
                  refine CJ.condT rfl ?_
                  refine CJ.skip ?_
                  refine CJ.seq ?_
                  refine CJ.block ?_
                  refine CJ.seq ?_
                  refine CJ.region ?_
                  refine LJ.yd rfl (Yd.mvS rfl) ?_
                  refine LJ.yd rfl (Yd.mvI rfl) ?_
                  refine LJ.idxA rfl hlx rfl rfl (by omega) (by first | rfl | omega | (simp; done) | (simp; omega) | (simp [upN_len]; omega) | (simp [idxBy_len]; omega) | (simp [marks_len]; omega) | (simp [upN_len]; done) | (simp [idxBy_len]; done) | (simp [marks_len]; done) | (simp at *; omega)) (fun ib65 io65 ia65 ir65 => ?_)
                  refine LJ.yd rfl (Yd.fieldAddr rfl) ?_
                  refine LJ.ldA 3 (fun u => vI u.Kind) (fun _ => rfl) ir65 rfl rfl rfl (by first | rfl | omega | (simp; done) | (simp; omega) | (simp [upN_len]; omega) | (simp [idxBy_len]; omega) | (simp [marks_len]; omega) | (simp [upN_len]; done) | (simp [idxBy_len]; done) | (simp [marks_len]; done) | (simp at *; omega)) (fun u67 hu67 => ?_)
                  try simp only [Int.toNat_natCast] at hu67
                  refine LJ.yd rfl (Yd.mvI rfl) ?_
                  refine LJ.splitD rfl (Yd.eql rfl rfl) (fun h69 => ?_) (fun h69 => ?_)
                  · refine LJ.nil ?_
                    refine CJ.condT rfl ?_
                    refine CJ.region ?_
                    refine LJ.yd rfl (Yd.mvS rfl) ?_
                    refine LJ.yd rfl (Yd.mvS rfl) ?_
                    refine LJ.yd rfl (Yd.mvI rfl) ?_
                    refine LJ.idxA rfl hlx rfl rfl (by omega) (by first | rfl | omega | (simp; done) | (simp; omega) | (simp [upN_len]; omega) | (simp [idxBy_len]; omega) | (simp [marks_len]; omega) | (simp [upN_len]; done) | (simp [idxBy_len]; done) | (simp [marks_len]; done) | (simp at *; omega)) (fun ib73 io73 ia73 ir73 => ?_)
                    refine LJ.lgA (enc := Pane.enc) (fun u => [vI u.W, vI u.H, .bool u.Turns, vI u.Kind]) (fun _ => rfl) (fun _ => rfl) ir73 rfl rfl rfl (by first | rfl | omega | (simp; done) | (simp; omega) | (simp [upN_len]; omega) | (simp [idxBy_len]; omega) | (simp [marks_len]; omega) | (simp [upN_len]; done) | (simp [idxBy_len]; done) | (simp [marks_len]; done) | (simp at *; omega)) (fun u74 hu74 => ?_)
                    try simp only [Int.toNat_natCast] at hu74
                    obtain rfl : u67 = u74 := by rw [hu67] at hu74; exact Option.some.inj hu74
                    refine LJ.op rfl (OpR.buildSlice (cs := [_, _, _, _]) rfl rfl) ?_
                    rintro _ _ ⟨b4, rfl, rfl⟩
                    refine LJ.op rfl (OpR.apT (enc := Pane.enc) [⟨_, _, _, _⟩] 1 2 rfl rfl rfl (by first | rfl | omega | (simp; done) | (simp; omega) | (simp [upN_len]; omega) | (simp [idxBy_len]; omega) | (simp [marks_len]; omega) | (simp [upN_len]; done) | (simp [idxBy_len]; done) | (simp [marks_len]; done) | (simp at *; omega)) rfl rfl rfl rfl rfl (by first | rfl | omega | (simp; done) | (simp; omega) | (simp [upN_len]; omega) | (simp [idxBy_len]; omega) | (simp [marks_len]; omega) | (simp [upN_len]; done) | (simp [idxBy_len]; done) | (simp [marks_len]; done) | (simp at *; omega))) ?_
                    rintro _ _ ⟨ra76, rc76, rfl, rfl⟩
                    refine LJ.norm [_, _, _] rfl ?_
                    refine LJ.yd rfl (Yd.asS rfl) ?_
                    refine LJ.nil ?_
                    refine CJ.region ?_
                    refine LJ.yd rfl (Yd.mvI rfl) ?_
                    refine LJ.yd rfl (Yd.add rfl rfl (by unfold I64; omega)) ?_
                    refine LJ.yd rfl (Yd.asI rfl) ?_
                    refine LJ.nil ?_
                    refine ⟨(k + 1, _, _, _, _), ?_, ⟨rfl, rfl, rfl, rfl, rfl, rfl, rfl, rfl, rfl, rfl, trivial⟩, ⟨rfl, rfl, trivial⟩, Ent.pick [0, 1] [2] rfl, ?_⟩
                    · refine ⟨(by first | rfl | omega | (simp; done) | (simp; omega) | (simp [upN_len]; omega) | (simp [idxBy_len]; omega) | (simp [marks_len]; omega) | (simp [upN_len]; done) | (simp [idxBy_len]; done) | (simp [marks_len]; done) | (simp at *; omega)), ?_⟩
                      refine ⟨by omega, ?_⟩
                      rw [takeC hu67, List.filter_append]
                      by_cases e69 : u67.Kind = (d : Int)
                      · rw [show [u67].filter (fun p : Pane => decide (p.Kind = (d : Int))) = [u67] by simp [e69], ← hZ]
                        first
                          | exact ⟨by rw [List.length_append]; exact Nat.add_le_add hZl (Nat.le_refl 1), rfl⟩
                          | omega
                      · rw [show [u67].filter (fun p : Pane => decide (p.Kind = (d : Int))) = [] by simp [e69], List.append_nil]
                        first
                          | exact ⟨Nat.le_succ_of_le hZl, hZ⟩
                          | omega
                    · first | omega | (dsimp only; omega) | (simp only []; omega)
                  · refine LJ.nil ?_
                    refine CJ.condF rfl ?_
                    refine CJ.skip ?_
                    refine CJ.region ?_
                    refine LJ.yd rfl (Yd.mvI rfl) ?_
                    refine LJ.yd rfl (Yd.add rfl rfl (by unfold I64; omega)) ?_
                    refine LJ.yd rfl (Yd.asI rfl) ?_
                    refine LJ.nil ?_
                    refine ⟨(k + 1, _, _, _, _), ?_, ⟨rfl, rfl, rfl, rfl, rfl, rfl, rfl, rfl, rfl, rfl, trivial⟩, ⟨rfl, rfl, trivial⟩, Ent.refl _, ?_⟩
                    · refine ⟨(by first | rfl | omega | (simp; done) | (simp; omega) | (simp [upN_len]; omega) | (simp [idxBy_len]; omega) | (simp [marks_len]; omega) | (simp [upN_len]; done) | (simp [idxBy_len]; done) | (simp [marks_len]; done) | (simp at *; omega)), ?_⟩
                      refine ⟨by omega, ?_⟩
                      rw [takeC hu67, List.filter_append]
                      by_cases e69 : u67.Kind = (d : Int)
                      · rw [show [u67].filter (fun p : Pane => decide (p.Kind = (d : Int))) = [u67] by simp [e69], ← hZ]
                        first
                          | exact ⟨by rw [List.length_append]; exact Nat.add_le_add hZl (Nat.le_refl 1), rfl⟩
                          | omega
                      · rw [show [u67].filter (fun p : Pane => decide (p.Kind = (d : Int))) = [] by simp [e69], List.append_nil]
                        first
                          | exact ⟨Nat.le_succ_of_le hZl, hZ⟩
                          | omega
                    · first | omega | (dsimp only; omega) | (simp only []; omega)
                · refine LJ.nil ?_
                  refine CJ.condF rfl ?_
                  refine CJ.exit ?_
                  rw [List.take_of_length_le (by omega)] at hZ
                  have hbz : btR Z bed = bnm (kw L d) bed := by rw [hZ]; exact bt_kind hG (by omega)
                  have hbb := bnm_le (hG4 d (by omega))
                  refine CJ.region ?_
                  refine LJ.yd rfl (Yd.mvI rfl) ?_
                  refine LJ.yd rfl (Yd.mvS rfl) ?_
                  refine LJ.yd rfl (Yd.mvI rfl) ?_
                  refine LJ.callV rfl (fun k hk dk => BatchesForI_ok (Sts.lrm hk dk 1 (by first | rfl | omega | (simp; done) | (simp; omega) | (simp [upN_len]; omega) | (simp [idxBy_len]; omega) | (simp [marks_len]; omega) | (simp [upN_len]; done) | (simp [idxBy_len]; done) | (simp [marks_len]; done) | (simp at *; omega)) (by first | rfl | omega | (simp; done) | (simp; omega) | (simp [upN_len]; omega) | (simp [idxBy_len]; omega) | (simp [marks_len]; omega) | (simp [upN_len]; done) | (simp [idxBy_len]; done) | (simp [marks_len]; done) | (simp at *; omega)) rfl)) ?_
                  refine LJ.yd rfl (Yd.add rfl rfl (by unfold I64; omega)) ?_
                  refine LJ.yd rfl (Yd.asI rfl) ?_
                  refine LJ.nil ?_
                  refine CJ.region ?_
                  refine LJ.yd rfl (Yd.mvI rfl) ?_
                  refine LJ.yd rfl (Yd.add rfl rfl (by unfold I64; omega)) ?_
                  refine LJ.yd rfl (Yd.asI rfl) ?_
                  refine LJ.nil ?_
                  refine ⟨(d + 1, _), ?_, ⟨rfl, rfl, rfl, rfl, rfl, trivial⟩, ⟨rfl, rfl, trivial⟩, Ent.pick [0] [1] rfl, ?_⟩
                  · refine ⟨by omega, ?_⟩
                    rw [sumR, ← hsm, ← hbz]
                  · first | omega | (dsimp only; omega) | (simp only []; omega)
            · refine LJ.nil ?_
              refine CJ.condF rfl ?_
              refine CJ.exit ?_
              refine CJ.seq ?_
              have hsum : sm = btR L bed := by rw [hsm, btR, if_pos hG, show d = 10 by omega]
              have hrev : btR B bed = btR L bed := by
                have : B = L.reverse := by rw [hB, show (z + 1).toNat = 0 by omega, List.drop_zero]
                rw [this, bt_rev hG]
              refine CJ.region ?_
              refine LJ.yd rfl (Yd.mvI rfl) ?_
              refine LJ.yd rfl (Yd.mvI rfl) ?_
              refine LJ.yd rfl (Yd.cmpT (Yd.eql rfl rfl) (by omega)) ?_
              refine LJ.yd rfl (Yd.mvB rfl) ?_
              refine LJ.gT rfl ?_
              refine LJ.yd rfl (Yd.mvS rfl) ?_
              refine LJ.gT rfl ?_
              refine LJ.yd rfl (Yd.mvI rfl) ?_
              refine LJ.gT rfl ?_
              refine LJ.callV rfl (fun k hk dk => BatchesForI_ok (Sts.lrm hk dk 0 (by first | rfl | omega | (simp; done) | (simp; omega) | (simp [upN_len]; omega) | (simp [idxBy_len]; omega) | (simp [marks_len]; omega) | (simp [upN_len]; done) | (simp [idxBy_len]; done) | (simp [marks_len]; done) | (simp at *; omega)) (by first | rfl | omega | (simp; done) | (simp; omega) | (simp [upN_len]; omega) | (simp [idxBy_len]; omega) | (simp [marks_len]; omega) | (simp [upN_len]; done) | (simp [idxBy_len]; done) | (simp [marks_len]; done) | (simp at *; omega)) rfl)) ?_
              refine LJ.gT rfl ?_
              refine LJ.yd rfl (Yd.mvI rfl) ?_
              refine LJ.gT rfl ?_
              refine LJ.yd rfl (Yd.eql rfl rfl) ?_
              refine LJ.yd rfl (Yd.pickTB rfl rfl) ?_
              refine LJ.yd rfl (Yd.asB rfl) ?_
              refine LJ.nil ?_
              refine CJ.ret ?_
              refine Fin.V (Res.one (ResV.tmp (v := .bool _) rfl)) ?_
              first
                | rfl
                | (refine congrArg Value.bool (decide_eq_true ?_); first | rfl | omega)
end Go.Proofs.Ytkojheinklgdeaa
