/-
  The exact law on the groups of a furnace: contract.
-/
import Derived.Test.YtlknglhldfpbdaaA8
import Derived.Test.YtlknglhldfpbdaaA7
namespace Go.Proofs.Ytlknglhldfpbdaa
open Go
set_option maxRecDepth 20000
set_option maxHeartbeats 1000000

theorem eqIntS_eq {A : Amb} {v w : Value} {l : List Int} (hl : RdL encI 1 A.h v l) (hl2 : RdL encI 1 A.h w l) : Ctr Try.prog 17 #[v, w] A [] (Val (.bool true)) := by
  have := eqIntS_ok hl hl2
  rwa [decide_eq_true rfl] at this
theorem FnExactGroupPanes_ok {A : Amb} {a : Option Addr} {n c : Nat} {l : List Int} {room : Int} (hl : n ≤ 1048576 → RdL encI 1 A.h (.slice a n c) l ∧ n = l.length) : Ctr Try.prog 4 #[.slice a n c, vI room] A [] (Val (.bool true)) := by
  have hR : 1048576 < l.length ∨ (gpR l room).length ≤ 1048576 := by
    unfold gpR
    split
    · rw [gpOf_len]; omega
    · simp
  refine Ctr.body (args := [_, _]) Try.func4 rfl Try.ntmps4 Try.results4 (by simp) ?_
  refine CJ.seq ?_
  refine CJ.region ?_
  refine LJ.yd rfl (Yd.asB rfl) ?_
  refine LJ.nil ?_
  refine CJ.seq ?_
  refine CJ.seq ?_
  refine CJ.region ?_
  refine LJ.yd rfl (Yd.mvS rfl) ?_
  refine LJ.yd rfl (Yd.len rfl) ?_
  refine LJ.splitD rfl (Yd.gtr rfl rfl) (fun h14 => ?_) (fun h14 => ?_)
  · refine LJ.nil ?_
    refine CJ.condT rfl ?_
    refine CJ.seq ?_
    refine CJ.region ?_
    refine LJ.yd rfl (Yd.asB rfl) ?_
    refine LJ.nil ?_
    refine CJ.ret ?_
    refine Fin.V (Res.one (ResV.tmp (v := .bool true) rfl)) ?_
    rfl
  · refine LJ.nil ?_
    refine CJ.condF rfl ?_
    refine CJ.skip ?_
    refine CJ.seq ?_
    obtain ⟨hl, rfl⟩ := hl (by omega)
    refine CJ.region ?_
    refine LJ.yd rfl (Yd.mvS rfl) ?_
    refine LJ.call0 rfl (fun k hk dk => toIntS_ok (RdRow.up hl) (by omega)) ?_
    rintro _ _ ⟨ra16, rc16, rfl, rfl⟩
    refine LJ.norm [_] rfl ?_
    refine LJ.yd rfl (Yd.mvI rfl) ?_
    refine LJ.call0 rfl (fun k hk dk => GroupPanesS_ok (Sts.lrm hk dk 0 (by first | rfl | omega | (simp; done) | (simp; omega) | (simp [upN_len, idxBy_len, marks_len]; done) | (simp [upN_len, idxBy_len, marks_len]; omega) | (simp at *; omega)) (by first | rfl | omega | (simp; done) | (simp; omega) | (simp [upN_len, idxBy_len, marks_len]; done) | (simp [upN_len, idxBy_len, marks_len]; omega) | (simp at *; omega)) rfl) (by omega)) ?_
    rintro _ _ ⟨ra18, rc18, rfl, rfl⟩
    refine LJ.norm [_, _] rfl ?_
    refine LJ.yd rfl (Yd.asS rfl) ?_
    refine LJ.nil ?_
    refine CJ.seq ?_
    refine CJ.region ?_
    refine LJ.yd rfl (Yd.mvS rfl) ?_
    refine LJ.call0 rfl (fun k hk dk => toIntS_ok (RdRow.up hl) (by omega)) ?_
    rintro _ _ ⟨ra20, rc20, rfl, rfl⟩
    refine LJ.norm [_, _, _] rfl ?_
    refine LJ.yd rfl (Yd.asS rfl) ?_
    refine LJ.nil ?_
    refine CJ.seq ?_
    refine CJ.region ?_
    refine LJ.yd rfl (Yd.mvS rfl) ?_
    refine LJ.yd rfl (Yd.mvI rfl) ?_
    refine LJ.call0 rfl (fun k hk dk => GroupPanesI_ok (Sts.lrm hk dk 2 (by first | rfl | omega | (simp; done) | (simp; omega) | (simp [upN_len, idxBy_len, marks_len]; done) | (simp [upN_len, idxBy_len, marks_len]; omega) | (simp at *; omega)) (by first | rfl | omega | (simp; done) | (simp; omega) | (simp [upN_len, idxBy_len, marks_len]; done) | (simp [upN_len, idxBy_len, marks_len]; omega) | (simp at *; omega)) rfl)) ?_
    rintro _ _ ⟨ra23, rc23, rfl, rfl⟩
    refine LJ.norm [_, _, _, _] rfl ?_
    refine LJ.yd rfl (Yd.asS rfl) ?_
    refine LJ.nil ?_
    refine CJ.seq ?_
    refine CJ.seq ?_
    refine CJ.region ?_
    refine LJ.yd rfl (Yd.mvS rfl) ?_
    refine LJ.yd rfl (Yd.mvS rfl) ?_
    refine LJ.callV rfl (fun k hk dk => eqIntS_eq (Sts.lrm hk dk 3 (by first | rfl | omega | (simp; done) | (simp; omega) | (simp [upN_len, idxBy_len, marks_len]; done) | (simp [upN_len, idxBy_len, marks_len]; omega) | (simp at *; omega)) (by first | rfl | omega | (simp; done) | (simp; omega) | (simp [upN_len, idxBy_len, marks_len]; done) | (simp [upN_len, idxBy_len, marks_len]; omega) | (simp at *; omega)) rfl) (Sts.lrm hk dk 1 (by first | rfl | omega | (simp; done) | (simp; omega) | (simp [upN_len, idxBy_len, marks_len]; done) | (simp [upN_len, idxBy_len, marks_len]; omega) | (simp at *; omega)) (by first | rfl | omega | (simp; done) | (simp; omega) | (simp [upN_len, idxBy_len, marks_len]; done) | (simp [upN_len, idxBy_len, marks_len]; omega) | (simp at *; omega)) rfl)) ?_
    refine LJ.yd rfl (Yd.not rfl) ?_
    refine LJ.nil ?_
    refine CJ.condF rfl ?_
    refine CJ.skip ?_
    refine CJ.seq ?_
    refine CJ.seq ?_
    refine CJ.region ?_
    refine LJ.yd rfl (Yd.mvS rfl) ?_
    refine LJ.yd rfl (Yd.mvS rfl) ?_
    refine LJ.call0 rfl (fun k hk dk => toIntS_ok (RdRow.up hl) (by omega)) ?_
    rintro _ _ ⟨ra30, rc30, rfl, rfl⟩
    refine LJ.norm [_, _, _, _, _] rfl ?_
    refine LJ.callV rfl (fun k hk dk => eqIntS_eq (Sts.lrm hk dk 2 (by first | rfl | omega | (simp; done) | (simp; omega) | (simp [upN_len, idxBy_len, marks_len]; done) | (simp [upN_len, idxBy_len, marks_len]; omega) | (simp at *; omega)) (by first | rfl | omega | (simp; done) | (simp; omega) | (simp [upN_len, idxBy_len, marks_len]; done) | (simp [upN_len, idxBy_len, marks_len]; omega) | (simp at *; omega)) rfl) (Sts.lrm hk dk 4 (by first | rfl | omega | (simp; done) | (simp; omega) | (simp [upN_len, idxBy_len, marks_len]; done) | (simp [upN_len, idxBy_len, marks_len]; omega) | (simp at *; omega)) (by first | rfl | omega | (simp; done) | (simp; omega) | (simp [upN_len, idxBy_len, marks_len]; done) | (simp [upN_len, idxBy_len, marks_len]; omega) | (simp at *; omega)) rfl)) ?_
    refine LJ.yd rfl (Yd.not rfl) ?_
    refine LJ.nil ?_
    refine CJ.condF rfl ?_
    refine CJ.skip ?_
    refine CJ.seq ?_
    refine CJ.region ?_
    refine LJ.yd rfl (Yd.asI rfl) ?_
    refine LJ.nil ?_
    refine CJ.seq ?_
    refine CJ.region ?_
    refine LJ.yd rfl (Yd.mvS rfl) ?_
    refine LJ.yd rfl (Yd.mvI rfl) ?_
    refine LJ.call (pickF _ [0, 1, 3, 4]) (pickF _ [2]) rfl (perm_pickF _ [0, 1, 3, 4] [2] rfl) (fun k hk dk => markIntS_ok rfl (by omega) (by omega) (by omega)) ?_
    rintro _ _ ⟨rfl, rfl⟩
    refine LJ.norm [_, _, _, _, _] rfl ?_
    refine LJ.yd rfl (Yd.asI rfl) ?_
    refine LJ.nil ?_
    refine CJ.seq ?_
    refine CJ.seq ?_
    refine CJ.region ?_
    refine LJ.yd rfl (Yd.mvI rfl) ?_
    refine LJ.splitD rfl (Yd.lss rfl rfl) (fun h37 => ?_) (fun h37 => ?_)
    · exfalso; omega
    · refine LJ.yd rfl (Yd.mvB rfl) ?_
      refine LJ.gT rfl ?_
      refine LJ.yd rfl (Yd.mvS rfl) ?_
      refine LJ.gT rfl ?_
      refine LJ.yd rfl (Yd.mvS rfl) ?_
      refine LJ.gT rfl ?_
      refine LJ.callV rfl (fun k hk dk => eqIntS_eq (Sts.lrm hk dk 2 (by first | rfl | omega | (simp; done) | (simp; omega) | (simp [upN_len, idxBy_len, marks_len]; done) | (simp [upN_len, idxBy_len, marks_len]; omega) | (simp at *; omega)) (by first | rfl | omega | (simp; done) | (simp; omega) | (simp [upN_len, idxBy_len, marks_len]; done) | (simp [upN_len, idxBy_len, marks_len]; omega) | (simp at *; omega)) rfl) (Sts.lrm hk dk 1 (by first | rfl | omega | (simp; done) | (simp; omega) | (simp [upN_len, idxBy_len, marks_len]; done) | (simp [upN_len, idxBy_len, marks_len]; omega) | (simp at *; omega)) (by first | rfl | omega | (simp; done) | (simp; omega) | (simp [upN_len, idxBy_len, marks_len]; done) | (simp [upN_len, idxBy_len, marks_len]; omega) | (simp at *; omega)) rfl)) ?_
      refine LJ.gT rfl ?_
      refine LJ.yd rfl (Yd.not rfl) ?_
      refine LJ.yd rfl (Yd.pickFB rfl rfl) ?_
      refine LJ.nil ?_
      refine CJ.condF rfl ?_
      refine CJ.skip ?_
      refine CJ.seq ?_
      refine CJ.region ?_
      refine LJ.yd rfl (Yd.asI rfl) ?_
      refine LJ.nil ?_
      refine CJ.seq ?_
      refine CJ.region ?_
      refine LJ.yd rfl (Yd.mvS rfl) ?_
      refine LJ.yd rfl (Yd.mvI rfl) ?_
      refine LJ.call (pickF _ [0, 1, 3, 4]) (pickF _ [2]) rfl (perm_pickF _ [0, 1, 3, 4] [2] rfl) (fun k hk dk => markIntS_ok rfl (by omega) (by omega) (by omega)) ?_
      rintro _ _ ⟨rfl, rfl⟩
      refine LJ.norm [_, _, _, _, _] rfl ?_
      refine LJ.yd rfl (Yd.asI rfl) ?_
      refine LJ.nil ?_
      refine CJ.seq ?_
      refine CJ.region ?_
      refine LJ.yd rfl (Yd.asI rfl) ?_
      refine LJ.nil ?_
      refine CJ.seq ?_
      refine CJ.region ?_
      refine LJ.yd rfl (Yd.mvS rfl) ?_
      refine LJ.yd rfl (Yd.mvI rfl) ?_
      refine LJ.callV rfl (fun k hk dk => heldIntS_ok (Sts.lrm hk dk 4 (by first | rfl | omega | (simp; done) | (simp; omega) | (simp [upN_len, idxBy_len, marks_len]; done) | (simp [upN_len, idxBy_len, marks_len]; omega) | (simp at *; omega)) (by first | rfl | omega | (simp; done) | (simp; omega) | (simp [upN_len, idxBy_len, marks_len]; done) | (simp [upN_len, idxBy_len, marks_len]; omega) | (simp at *; omega)) rfl) (by omega) (by omega) (by omega)) ?_
      refine LJ.yd rfl (Yd.asI rfl) ?_
      refine LJ.nil ?_
      refine CJ.seq ?_
      refine CJ.seq ?_
      refine CJ.region ?_
      refine LJ.yd rfl (Yd.mvI rfl) ?_
      refine LJ.splitD rfl (Yd.lss rfl rfl) (fun h51 => ?_) (fun h51 => ?_)
      · exfalso; omega
      · refine LJ.nil ?_
        refine CJ.condF rfl ?_
        refine CJ.skip ?_
        refine CJ.seq ?_
        refine CJ.seq ?_
        refine CJ.region ?_
        refine LJ.yd rfl (Yd.mvI rfl) ?_
        refine LJ.yd rfl (Yd.mvI rfl) ?_
        refine LJ.splitN rfl (Yd.neq rfl rfl) (fun h54 => ?_) (fun h54 => ?_)
        · exfalso; omega
        · refine LJ.nil ?_
          refine CJ.condF rfl ?_
          refine CJ.skip ?_
          refine CJ.seq ?_
          refine CJ.region ?_
          refine LJ.yd rfl (Yd.mvS rfl) ?_
          refine LJ.call0 rfl (fun k hk dk => toIntS_ok (RdRow.up hl) (by omega)) ?_
          rintro _ _ ⟨ra56, rc56, rfl, rfl⟩
          refine LJ.norm [_, _, _, _, _, _] rfl ?_
          refine LJ.yd rfl (Yd.mvI rfl) ?_
          refine LJ.call0 rfl (fun k hk dk => GroupPanesI_ok (Sts.lrm hk dk 5 (by first | rfl | omega | (simp; done) | (simp; omega) | (simp [upN_len, idxBy_len, marks_len]; done) | (simp [upN_len, idxBy_len, marks_len]; omega) | (simp at *; omega)) (by first | rfl | omega | (simp; done) | (simp; omega) | (simp [upN_len, idxBy_len, marks_len]; done) | (simp [upN_len, idxBy_len, marks_len]; omega) | (simp at *; omega)) rfl)) ?_
          rintro _ _ ⟨ra58, rc58, rfl, rfl⟩
          refine LJ.norm [_, _, _, _, _, _, _] rfl ?_
          refine LJ.yd rfl (Yd.asS rfl) ?_
          refine LJ.nil ?_
          refine CJ.seq ?_
          refine CJ.seq ?_
          refine CJ.region ?_
          refine LJ.yd rfl (Yd.mvS rfl) ?_
          refine LJ.yd rfl (Yd.mvS rfl) ?_
          refine LJ.callV rfl (fun k hk dk => eqIntS_eq (Sts.lrm hk dk 6 (by first | rfl | omega | (simp; done) | (simp; omega) | (simp [upN_len, idxBy_len, marks_len]; done) | (simp [upN_len, idxBy_len, marks_len]; omega) | (simp at *; omega)) (by first | rfl | omega | (simp; done) | (simp; omega) | (simp [upN_len, idxBy_len, marks_len]; done) | (simp [upN_len, idxBy_len, marks_len]; omega) | (simp at *; omega)) rfl) (Sts.lrm hk dk 1 (by first | rfl | omega | (simp; done) | (simp; omega) | (simp [upN_len, idxBy_len, marks_len]; done) | (simp [upN_len, idxBy_len, marks_len]; omega) | (simp at *; omega)) (by first | rfl | omega | (simp; done) | (simp; omega) | (simp [upN_len, idxBy_len, marks_len]; done) | (simp [upN_len, idxBy_len, marks_len]; omega) | (simp at *; omega)) rfl)) ?_
          refine LJ.yd rfl (Yd.not rfl) ?_
          refine LJ.nil ?_
          refine CJ.condF rfl ?_
          refine CJ.skip ?_
          refine CJ.seq ?_
          refine CJ.region ?_
          refine LJ.yd rfl (Yd.asI rfl) ?_
          refine LJ.nil ?_
          refine CJ.seq ?_
          refine CJ.region ?_
          refine LJ.yd rfl (Yd.mvS rfl) ?_
          refine LJ.yd rfl (Yd.mvI rfl) ?_
          refine LJ.callV rfl (fun k hk dk => heldIntS_ok (Sts.lrm hk dk 4 (by first | rfl | omega | (simp; done) | (simp; omega) | (simp [upN_len, idxBy_len, marks_len]; done) | (simp [upN_len, idxBy_len, marks_len]; omega) | (simp at *; omega)) (by first | rfl | omega | (simp; done) | (simp; omega) | (simp [upN_len, idxBy_len, marks_len]; done) | (simp [upN_len, idxBy_len, marks_len]; omega) | (simp at *; omega)) rfl) (by omega) (by omega) (by omega)) ?_
          refine LJ.yd rfl (Yd.asI rfl) ?_
          refine LJ.nil ?_
          refine CJ.seq ?_
          refine CJ.seq ?_
          refine CJ.region ?_
          refine LJ.yd rfl (Yd.mvI rfl) ?_
          refine LJ.splitD rfl (Yd.lss rfl rfl) (fun h67 => ?_) (fun h67 => ?_)
          · exfalso; omega
          · refine LJ.nil ?_
            refine CJ.condF rfl ?_
            refine CJ.skip ?_
            refine CJ.seq ?_
            refine CJ.seq ?_
            refine CJ.region ?_
            refine LJ.yd rfl (Yd.mvI rfl) ?_
            refine LJ.yd rfl (Yd.mvI rfl) ?_
            refine LJ.splitN rfl (Yd.neq rfl rfl) (fun h70 => ?_) (fun h70 => ?_)
            · exfalso; omega
            · refine LJ.nil ?_
              refine CJ.condF rfl ?_
              refine CJ.skip ?_
              refine CJ.seq ?_
              refine CJ.region ?_
              refine LJ.yd rfl (Yd.asB rfl) ?_
              refine LJ.nil ?_
              refine CJ.ret ?_
              refine Fin.V (Res.one (ResV.tmp (v := .bool true) rfl)) ?_
              rfl
end Go.Proofs.Ytlknglhldfpbdaa
