/-
  Exact laws on waiting pieces and on exchanged steps.
-/
import Derived.Test.YtfnnhekbgjofoaaEP2
import Derived.Test.YtfnnhekbgjofoaaK8
import Derived.Test.YtfnnhekbgjofoaaK14
import Derived.Laws.Cover3
namespace Go.Proofs.Ytfnnhekbgjofoaa
open Go
set_option maxRecDepth 20000
set_option maxHeartbeats 1000000

theorem wtP_len (q : Plan) (s : List Int) : (wtP q s).length ≤ 255 := by
  unfold wtP
  split
  · rename_i h
    rw [waitI_len, (vsOk_iff.1 h).2.1]
    exact (knP_ok q).len
  · simp
theorem FnExactWaitingOf_ok {A : Amb} {u : PE} {a : Option Addr} {n c : Nat} {l : List Int} (hu : PlF A.h u) (hl : n ≤ 1048576 → RdL encI 1 A.h (.slice a n c) l ∧ n = l.length) :
    Ctr Try.prog 9 #[.agg (encP u).toArray, .slice a n c] A [] (Val (.bool true)) := by
  refine Ctr.body (args := [_, _]) Try.func9 rfl Try.ntmps9 Try.results9 (by simp) ?_
  refine CJ.seq ?_
  refine CJ.region ?_
  refine LJ.boxG (vs := [_, _, _, _, _]) rfl rfl (fun b1 => ?_)
  refine LJ.yd rfl (Yd.asB rfl) ?_
  refine LJ.nil ?_
  refine CJ.seq ?_
  refine CJ.seq ?_
  refine CJ.region ?_
  refine LJ.yd rfl (Yd.mvS rfl) ?_
  refine LJ.yd rfl (Yd.len rfl) ?_
  refine LJ.splitD rfl (Yd.gtr rfl rfl) (fun h16 => ?_) (fun h16 => ?_)
  · refine LJ.nil ?_
    refine CJ.condT rfl ?_
    refine CJ.seq ?_
    refine CJ.region ?_
    refine LJ.yd rfl (Yd.asB rfl) ?_
    refine LJ.nil ?_
    refine CJ.ret ?_
    refine Fin.V (Res.one (ResV.tmp (v := .bool true) rfl)) ?_
    rfl
  · refine LJ.nil ?_
    refine CJ.condF rfl ?_
    refine CJ.skip ?_
    refine CJ.seq ?_
    obtain ⟨hl, rfl⟩ := hl (by omega)
    refine CJ.region ?_
    refine LJ.yd rfl (Yd.asI rfl) ?_
    refine LJ.nil ?_
    refine CJ.seq ?_
    refine CJ.region ?_
    refine LJ.yd rfl (Yd.loadG (us := [_, _, _, _, _]) 0 rfl rfl rfl rfl) ?_
    refine LJ.yd rfl (Yd.mvI rfl) ?_
    refine LJ.call0 rfl (fun k hk dk => szPlan_ok hu _ _ up (by omega) (by omega)) ?_
    rintro _ _ ⟨r19, rfl, rfl, hr19⟩
    refine LJ.yd rfl (Yd.asI rfl) ?_
    refine LJ.nil ?_
    refine CJ.seq ?_
    refine CJ.seq ?_
    refine CJ.region ?_
    refine LJ.yd rfl (Yd.mvI rfl) ?_
    refine LJ.splitD rfl (Yd.lss rfl rfl) (fun h21 => ?_) (fun h21 => ?_)
    · refine LJ.nil ?_
      refine CJ.condT rfl ?_
      refine CJ.seq ?_
      refine CJ.region ?_
      refine LJ.yd rfl (Yd.asB rfl) ?_
      refine LJ.nil ?_
      refine CJ.ret ?_
      refine Fin.V (Res.one (ResV.tmp (v := .bool true) rfl)) ?_
      rfl
    · refine LJ.nil ?_
      refine CJ.condF rfl ?_
      refine CJ.skip ?_
      refine CJ.seq ?_
      obtain ⟨hr1, hr2, pq, hpq, hnq⟩ := hr19.resolve_left (by omega)
      have hwl := wtP_len pq l
      have hnn := nds_nonneg pq
      refine CJ.region ?_
      refine LJ.yd rfl (Yd.loadG (us := [_, _, _, _, _]) 0 rfl rfl rfl rfl) ?_
      refine LJ.call0 rfl (fun k hk dk => toPlan_ok hpq.up (by omega)) ?_
      rintro _ _ ⟨w23, rfl, rfl⟩
      refine LJ.norm [_, _] rfl ?_
      refine LJ.yd rfl (Yd.mvS rfl) ?_
      refine LJ.call0 rfl (fun k hk dk => toIntS_ok (RdRow.up hl) (by omega)) ?_
      rintro _ _ ⟨ra25, rc25, rfl, rfl⟩
      refine LJ.norm [_, _, _] rfl ?_
      refine LJ.call0 rfl (fun k hk dk => WaitingOfS_ok (Sts.plO hk dk 1 rfl) (Sts.lrm hk dk 2 (by first | rfl | omega | (simp; done) | (simp; omega) | (simp [upN_len]; omega) | (simp [idxBy_len]; omega) | (simp [marks_len]; omega) | (simp [upN_len]; done) | (simp [idxBy_len]; done) | (simp [marks_len]; done) | (simp at *; omega)) (by first | rfl | omega | (simp; done) | (simp; omega) | (simp [upN_len]; omega) | (simp [idxBy_len]; omega) | (simp [marks_len]; omega) | (simp [upN_len]; done) | (simp [idxBy_len]; done) | (simp [marks_len]; done) | (simp at *; omega)) rfl)) ?_
      rintro _ _ ⟨ra26, rc26, rfl, rfl⟩
      refine LJ.norm [_, _, _, _] rfl ?_
      refine LJ.yd rfl (Yd.asS rfl) ?_
      refine LJ.nil ?_
      refine CJ.seq ?_
      refine CJ.region ?_
      refine LJ.yd rfl (Yd.loadG (us := [_, _, _, _, _]) 0 rfl rfl rfl rfl) ?_
      refine LJ.call0 rfl (fun k hk dk => toPlan_ok hpq.up (by omega)) ?_
      rintro _ _ ⟨w28, rfl, rfl⟩
      refine LJ.norm [_, _, _, _, _] rfl ?_
      refine LJ.alloc ([_, _, _, _, _] : List Value) rfl rfl (fun b4 => ?_)
      refine LJ.store (v := .agg #[_, _, _, _, _]) (us := [_, _, _, _, _]) 5 rfl rfl rfl rfl rfl rfl rfl rfl ?_
      refine LJ.nil ?_
      refine CJ.seq ?_
      refine CJ.region ?_
      refine LJ.yd rfl (Yd.mvS rfl) ?_
      refine LJ.call0 rfl (fun k hk dk => toIntS_ok (RdRow.up hl) (by omega)) ?_
      rintro _ _ ⟨ra30, rc30, rfl, rfl⟩
      refine LJ.norm [_, _, _, _, _, _, _] rfl ?_
      refine LJ.yd rfl (Yd.asS rfl) ?_
      refine LJ.nil ?_
      refine CJ.seq ?_
      refine CJ.region ?_
      refine LJ.yd rfl (Yd.loadG (us := [_, _, _, _, _]) 5 rfl rfl rfl rfl) ?_
      refine LJ.yd rfl (Yd.mvS rfl) ?_
      refine LJ.call0 rfl (fun k hk dk => WaitingOfI_ok (Sts.plO hk dk 4 rfl) (Sts.lrm hk dk 6 (by first | rfl | omega | (simp; done) | (simp; omega) | (simp [upN_len]; omega) | (simp [idxBy_len]; omega) | (simp [marks_len]; omega) | (simp [upN_len]; done) | (simp [idxBy_len]; done) | (simp [marks_len]; done) | (simp at *; omega)) (by first | rfl | omega | (simp; done) | (simp; omega) | (simp [upN_len]; omega) | (simp [idxBy_len]; omega) | (simp [marks_len]; omega) | (simp [upN_len]; done) | (simp [idxBy_len]; done) | (simp [marks_len]; done) | (simp at *; omega)) rfl)) ?_
      rintro _ _ ⟨ra33, rc33, rfl, rfl⟩
      refine LJ.norm [_, _, _, _, _, _, _, _] rfl ?_
      refine LJ.yd rfl (Yd.asS rfl) ?_
      refine LJ.nil ?_
      refine CJ.seq ?_
      refine CJ.seq ?_
      refine CJ.region ?_
      refine LJ.yd rfl (Yd.mvS rfl) ?_
      refine LJ.yd rfl (Yd.mvS rfl) ?_
      refine LJ.callV rfl (fun k hk dk => eqIntS_T (Sts.lrm hk dk 7 (by first | rfl | omega | (simp; done) | (simp; omega) | (simp [upN_len]; omega) | (simp [idxBy_len]; omega) | (simp [marks_len]; omega) | (simp [upN_len]; done) | (simp [idxBy_len]; done) | (simp [marks_len]; done) | (simp at *; omega)) (by first | rfl | omega | (simp; done) | (simp; omega) | (simp [upN_len]; omega) | (simp [idxBy_len]; omega) | (simp [marks_len]; omega) | (simp [upN_len]; done) | (simp [idxBy_len]; done) | (simp [marks_len]; done) | (simp at *; omega)) rfl) (Sts.lrm hk dk 3 (by first | rfl | omega | (simp; done) | (simp; omega) | (simp [upN_len]; omega) | (simp [idxBy_len]; omega) | (simp [marks_len]; omega) | (simp [upN_len]; done) | (simp [idxBy_len]; done) | (simp [marks_len]; done) | (simp at *; omega)) (by first | rfl | omega | (simp; done) | (simp; omega) | (simp [upN_len]; omega) | (simp [idxBy_len]; omega) | (simp [marks_len]; omega) | (simp [upN_len]; done) | (simp [idxBy_len]; done) | (simp [marks_len]; done) | (simp at *; omega)) rfl)) ?_
      refine LJ.yd rfl (Yd.not rfl) ?_
      refine LJ.nil ?_
      refine CJ.condF rfl ?_
      refine CJ.skip ?_
      refine CJ.seq ?_
      refine CJ.seq ?_
      refine CJ.regionD [0, 1, 2, 3, 4, 5, 6, 7] [] (by kernel_rfl) rfl ?_
      refine DJ.norm [_, _, _, _, _, _, _, _] [] rfl rfl ?_
      refine DJ.yd 0 rfl (by kernel_rfl) (by kernel_rfl) (by kernel_rfl) rfl rfl (Yd.loadG (us := [_, _, _, _, _]) 5 rfl rfl rfl rfl) ?_
      refine DJ.yd 1 rfl (by kernel_rfl) (by kernel_rfl) (by kernel_rfl) rfl rfl (Yd.loadG (us := [_, _, _, _, _]) 0 rfl rfl rfl rfl) ?_
      refine DJ.one (i := 2) (by kernel_rfl) ?_
      refine DO.call0 rfl rfl rfl (fun k0 hk0 dk0 k hk dk => toPlan_ok hpq.up (by omega)) ?_
      rintro _ _ ⟨w40, rfl, rfl⟩
      refine DJ.norm [_, _, _, _, _, _, _, _] [_] rfl rfl ?_
      refine DJ.one (i := 3) (by kernel_rfl) ?_
      refine DO.callV rfl rfl rfl (fun k0 hk0 dk0 k hk dk => eqPlan_T ((Sts.plO hk0 dk0 4 rfl).up) (Sts.plO hk dk 0 rfl)) ?_
      refine DJ.yd 4 rfl (by kernel_rfl) (by kernel_rfl) (by kernel_rfl) rfl rfl (Yd.not rfl) ?_
      refine DJ.done (by kernel_rfl) ?_
      refine CJ.condF rfl ?_
      refine CJ.skip ?_
      refine CJ.seq ?_
      refine CJ.seq ?_
      refine CJ.region ?_
      refine LJ.yd rfl (Yd.mvS rfl) ?_
      refine LJ.yd rfl (Yd.mvS rfl) ?_
      refine LJ.call0 rfl (fun k hk dk => toIntS_ok (RdRow.up hl) (by omega)) ?_
      rintro _ _ ⟨ra45, rc45, rfl, rfl⟩
      refine LJ.norm [_, _, _, _, _, _, _, _, _, _] rfl ?_
      refine LJ.callV rfl (fun k hk dk => eqIntS_T (Sts.lrm hk dk 6 (by first | rfl | omega | (simp; done) | (simp; omega) | (simp [upN_len]; omega) | (simp [idxBy_len]; omega) | (simp [marks_len]; omega) | (simp [upN_len]; done) | (simp [idxBy_len]; done) | (simp [marks_len]; done) | (simp at *; omega)) (by first | rfl | omega | (simp; done) | (simp; omega) | (simp [upN_len]; omega) | (simp [idxBy_len]; omega) | (simp [marks_len]; omega) | (simp [upN_len]; done) | (simp [idxBy_len]; done) | (simp [marks_len]; done) | (simp at *; omega)) rfl) (Sts.lrm hk dk 9 (by first | rfl | omega | (simp; done) | (simp; omega) | (simp [upN_len]; omega) | (simp [idxBy_len]; omega) | (simp [marks_len]; omega) | (simp [upN_len]; done) | (simp [idxBy_len]; done) | (simp [marks_len]; done) | (simp at *; omega)) (by first | rfl | omega | (simp; done) | (simp; omega) | (simp [upN_len]; omega) | (simp [idxBy_len]; omega) | (simp [marks_len]; omega) | (simp [upN_len]; done) | (simp [idxBy_len]; done) | (simp [marks_len]; done) | (simp at *; omega)) rfl)) ?_
      refine LJ.yd rfl (Yd.not rfl) ?_
      refine LJ.nil ?_
      refine CJ.condF rfl ?_
      refine CJ.skip ?_
      refine CJ.seq ?_
      refine CJ.region ?_
      refine LJ.yd rfl (Yd.asI rfl) ?_
      refine LJ.nil ?_
      refine CJ.seq ?_
      refine CJ.region ?_
      refine LJ.yd rfl (Yd.loadG (us := [_, _, _, _, _]) 5 rfl rfl rfl rfl) ?_
      refine LJ.yd rfl (Yd.mvI rfl) ?_
      refine LJ.call (pickF _ [0, 1, 2, 3, 5, 6, 7, 8, 9]) (pickF _ [4]) rfl (perm_pickF _ [0, 1, 2, 3, 5, 6, 7, 8, 9] [4] rfl) (fun k hk dk => markPlan_ok (by omega) (by omega) (by omega)) ?_
      rintro _ _ ⟨rfl, rfl⟩
      refine LJ.norm [_, _, _, _, _, _, _, _, _] rfl ?_
      refine LJ.yd rfl (Yd.asI rfl) ?_
      refine LJ.nil ?_
      refine CJ.seq ?_
      refine CJ.region ?_
      refine LJ.yd rfl (Yd.mvS rfl) ?_
      refine LJ.yd rfl (Yd.mvI rfl) ?_
      refine LJ.call (pickF _ [0, 1, 2, 3, 4, 6, 7, 8]) (pickF _ [5]) rfl (perm_pickF _ [0, 1, 2, 3, 4, 6, 7, 8] [5] rfl) (fun k hk dk => markIntS_ok rfl (by omega) (by omega) (by omega)) ?_
      rintro _ _ ⟨rfl, rfl⟩
      refine LJ.norm [_, _, _, _, _, _, _, _, _] rfl ?_
      refine LJ.yd rfl (Yd.asI rfl) ?_
      refine LJ.nil ?_
      refine CJ.seq ?_
      refine CJ.seq ?_
      refine CJ.region ?_
      refine LJ.yd rfl (Yd.mvI rfl) ?_
      refine LJ.splitD rfl (Yd.lss rfl rfl) (fun h55 => ?_) (fun h55 => ?_)
      · exfalso; omega
      · refine LJ.yd rfl (Yd.mvB rfl) ?_
        refine LJ.gT rfl ?_
        refine LJ.yd rfl (Yd.mvS rfl) ?_
        refine LJ.gT rfl ?_
        refine LJ.yd rfl (Yd.mvS rfl) ?_
        refine LJ.gT rfl ?_
        refine LJ.callV rfl (fun k hk dk => eqIntS_T (Sts.lrm hk dk 5 (by first | rfl | omega | (simp; done) | (simp; omega) | (simp [upN_len]; omega) | (simp [idxBy_len]; omega) | (simp [marks_len]; omega) | (simp [upN_len]; done) | (simp [idxBy_len]; done) | (simp [marks_len]; done) | (simp at *; omega)) (by first | rfl | omega | (simp; done) | (simp; omega) | (simp [upN_len]; omega) | (simp [idxBy_len]; omega) | (simp [marks_len]; omega) | (simp [upN_len]; done) | (simp [idxBy_len]; done) | (simp [marks_len]; done) | (simp at *; omega)) rfl) (Sts.lrm hk dk 3 (by first | rfl | omega | (simp; done) | (simp; omega) | (simp [upN_len]; omega) | (simp [idxBy_len]; omega) | (simp [marks_len]; omega) | (simp [upN_len]; done) | (simp [idxBy_len]; done) | (simp [marks_len]; done) | (simp at *; omega)) (by first | rfl | omega | (simp; done) | (simp; omega) | (simp [upN_len]; omega) | (simp [idxBy_len]; omega) | (simp [marks_len]; omega) | (simp [upN_len]; done) | (simp [idxBy_len]; done) | (simp [marks_len]; done) | (simp at *; omega)) rfl)) ?_
        refine LJ.gT rfl ?_
        refine LJ.yd rfl (Yd.not rfl) ?_
        refine LJ.yd rfl (Yd.pickFB rfl rfl) ?_
        refine LJ.nil ?_
        refine CJ.condF rfl ?_
        refine CJ.skip ?_
        refine CJ.seq ?_
        refine CJ.region ?_
        refine LJ.yd rfl (Yd.asI rfl) ?_
        refine LJ.nil ?_
        refine CJ.seq ?_
        refine CJ.region ?_
        refine LJ.yd rfl (Yd.mvS rfl) ?_
        refine LJ.yd rfl (Yd.mvI rfl) ?_
        refine LJ.call (pickF _ [0, 1, 2, 3, 4, 6, 7, 8]) (pickF _ [5]) rfl (perm_pickF _ [0, 1, 2, 3, 4, 6, 7, 8] [5] rfl) (fun k hk dk => markIntS_ok rfl (by omega) (by omega) (by omega)) ?_
        rintro _ _ ⟨rfl, rfl⟩
        refine LJ.norm [_, _, _, _, _, _, _, _, _] rfl ?_
        refine LJ.yd rfl (Yd.asI rfl) ?_
        refine LJ.nil ?_
        refine CJ.seq ?_
        refine CJ.region ?_
        refine LJ.yd rfl (Yd.asI rfl) ?_
        refine LJ.nil ?_
        refine CJ.seq ?_
        refine CJ.region ?_
        refine LJ.yd rfl (Yd.mvS rfl) ?_
        refine LJ.yd rfl (Yd.mvI rfl) ?_
        refine LJ.callV rfl (fun k hk dk => heldIntS_ok (Sts.lrm hk dk 8 (by first | rfl | omega | (simp; done) | (simp; omega) | (simp [upN_len]; omega) | (simp [idxBy_len]; omega) | (simp [marks_len]; omega) | (simp [upN_len]; done) | (simp [idxBy_len]; done) | (simp [marks_len]; done) | (simp at *; omega)) (by first | rfl | omega | (simp; done) | (simp; omega) | (simp [upN_len]; omega) | (simp [idxBy_len]; omega) | (simp [marks_len]; omega) | (simp [upN_len]; done) | (simp [idxBy_len]; done) | (simp [marks_len]; done) | (simp at *; omega)) rfl) (by omega) (by omega) (by omega)) ?_
        refine LJ.yd rfl (Yd.asI rfl) ?_
        refine LJ.nil ?_
        refine CJ.seq ?_
        refine CJ.seq ?_
        refine CJ.region ?_
        refine LJ.yd rfl (Yd.mvI rfl) ?_
        refine LJ.splitD rfl (Yd.lss rfl rfl) (fun h69 => ?_) (fun h69 => ?_)
        · exfalso; omega
        · refine LJ.nil ?_
          refine CJ.condF rfl ?_
          refine CJ.skip ?_
          refine CJ.seq ?_
          refine CJ.seq ?_
          refine CJ.region ?_
          refine LJ.yd rfl (Yd.mvI rfl) ?_
          refine LJ.yd rfl (Yd.mvI rfl) ?_
          refine LJ.splitN rfl (Yd.neq rfl rfl) (fun h72 => ?_) (fun h72 => ?_)
          · exfalso; omega
          · refine LJ.nil ?_
            refine CJ.condF rfl ?_
            refine CJ.skip ?_
            refine CJ.seq ?_
            refine CJ.region ?_
            refine LJ.yd rfl (Yd.loadG (us := [_, _, _, _, _]) 0 rfl rfl rfl rfl) ?_
            refine LJ.call0 rfl (fun k hk dk => toPlan_ok hpq.up (by omega)) ?_
            rintro _ _ ⟨w74, rfl, rfl⟩
            refine LJ.norm [_, _, _, _, _, _, _, _, _, _] rfl ?_
            refine LJ.yd rfl (Yd.mvS rfl) ?_
            refine LJ.call0 rfl (fun k hk dk => toIntS_ok (RdRow.up hl) (by omega)) ?_
            rintro _ _ ⟨ra76, rc76, rfl, rfl⟩
            refine LJ.norm [_, _, _, _, _, _, _, _, _, _, _] rfl ?_
            refine LJ.call0 rfl (fun k hk dk => WaitingOfI_ok (Sts.plO hk dk 9 rfl) (Sts.lrm hk dk 10 (by first | rfl | omega | (simp; done) | (simp; omega) | (simp [upN_len]; omega) | (simp [idxBy_len]; omega) | (simp [marks_len]; omega) | (simp [upN_len]; done) | (simp [idxBy_len]; done) | (simp [marks_len]; done) | (simp at *; omega)) (by first | rfl | omega | (simp; done) | (simp; omega) | (simp [upN_len]; omega) | (simp [idxBy_len]; omega) | (simp [marks_len]; omega) | (simp [upN_len]; done) | (simp [idxBy_len]; done) | (simp [marks_len]; done) | (simp at *; omega)) rfl)) ?_
            rintro _ _ ⟨ra77, rc77, rfl, rfl⟩
            refine LJ.norm [_, _, _, _, _, _, _, _, _, _, _, _] rfl ?_
            refine LJ.yd rfl (Yd.asS rfl) ?_
            refine LJ.nil ?_
            refine CJ.seq ?_
            refine CJ.seq ?_
            refine CJ.region ?_
            refine LJ.yd rfl (Yd.mvS rfl) ?_
            refine LJ.yd rfl (Yd.mvS rfl) ?_
            refine LJ.callV rfl (fun k hk dk => eqIntS_T (Sts.lrm hk dk 11 (by first | rfl | omega | (simp; done) | (simp; omega) | (simp [upN_len]; omega) | (simp [idxBy_len]; omega) | (simp [marks_len]; omega) | (simp [upN_len]; done) | (simp [idxBy_len]; done) | (simp [marks_len]; done) | (simp at *; omega)) (by first | rfl | omega | (simp; done) | (simp; omega) | (simp [upN_len]; omega) | (simp [idxBy_len]; omega) | (simp [marks_len]; omega) | (simp [upN_len]; done) | (simp [idxBy_len]; done) | (simp [marks_len]; done) | (simp at *; omega)) rfl) (Sts.lrm hk dk 3 (by first | rfl | omega | (simp; done) | (simp; omega) | (simp [upN_len]; omega) | (simp [idxBy_len]; omega) | (simp [marks_len]; omega) | (simp [upN_len]; done) | (simp [idxBy_len]; done) | (simp [marks_len]; done) | (simp at *; omega)) (by first | rfl | omega | (simp; done) | (simp; omega) | (simp [upN_len]; omega) | (simp [idxBy_len]; omega) | (simp [marks_len]; omega) | (simp [upN_len]; done) | (simp [idxBy_len]; done) | (simp [marks_len]; done) | (simp at *; omega)) rfl)) ?_
            refine LJ.yd rfl (Yd.not rfl) ?_
            refine LJ.nil ?_
            refine CJ.condF rfl ?_
            refine CJ.skip ?_
            refine CJ.seq ?_
            refine CJ.region ?_
            refine LJ.yd rfl (Yd.asI rfl) ?_
            refine LJ.nil ?_
            refine CJ.seq ?_
            refine CJ.region ?_
            refine LJ.yd rfl (Yd.mvS rfl) ?_
            refine LJ.yd rfl (Yd.mvI rfl) ?_
            refine LJ.callV rfl (fun k hk dk => heldIntS_ok (Sts.lrm hk dk 8 (by first | rfl | omega | (simp; done) | (simp; omega) | (simp [upN_len]; omega) | (simp [idxBy_len]; omega) | (simp [marks_len]; omega) | (simp [upN_len]; done) | (simp [idxBy_len]; done) | (simp [marks_len]; done) | (simp at *; omega)) (by first | rfl | omega | (simp; done) | (simp; omega) | (simp [upN_len]; omega) | (simp [idxBy_len]; omega) | (simp [marks_len]; omega) | (simp [upN_len]; done) | (simp [idxBy_len]; done) | (simp [marks_len]; done) | (simp at *; omega)) rfl) (by omega) (by omega) (by omega)) ?_
            refine LJ.yd rfl (Yd.asI rfl) ?_
            refine LJ.nil ?_
            refine CJ.seq ?_
            refine CJ.seq ?_
            refine CJ.region ?_
            refine LJ.yd rfl (Yd.mvI rfl) ?_
            refine LJ.splitD rfl (Yd.lss rfl rfl) (fun h86 => ?_) (fun h86 => ?_)
            · exfalso; omega
            · refine LJ.nil ?_
              refine CJ.condF rfl ?_
              refine CJ.skip ?_
              refine CJ.seq ?_
              refine CJ.seq ?_
              refine CJ.region ?_
              refine LJ.yd rfl (Yd.mvI rfl) ?_
              refine LJ.yd rfl (Yd.mvI rfl) ?_
              refine LJ.splitN rfl (Yd.neq rfl rfl) (fun h89 => ?_) (fun h89 => ?_)
              · exfalso; omega
              · refine LJ.nil ?_
                refine CJ.condF rfl ?_
                refine CJ.skip ?_
                refine CJ.seq ?_
                refine CJ.region ?_
                refine LJ.yd rfl (Yd.asB rfl) ?_
                refine LJ.nil ?_
                refine CJ.ret ?_
                refine Fin.V (Res.one (ResV.tmp (v := .bool true) rfl)) ?_
                rfl
theorem Yd.eqlNil {T X Y E : TypeId} {ρ : Env} {A : Amb} {fs : List HProp} {x y : Operand} {a : Option Addr} {m c : Nat} [h : TyUnd Try.prog X (.slice E)] (hx : ev ρ x = .slice a m c) (hy : ev ρ y = .slice none 0 0) :
    Yd Try.prog (.binOp .eql X x y Y) T ρ A fs (.bool a.isNone) := fun w _ => by
  have e1 : (eqGuard .eql X x y (.slice a m c) (.slice none 0 0)).run Try.prog w = .ok () w := rfl
  have e2 : (binOp .eql X (.slice a m c) (.slice none 0 0)).run Try.prog w = .ok (.bool a.isNone) w := by
    simp only [binOp]
    simp [run_equal_slice_nil w X E a m c h.und]
  simp only [dummy, execOp, hx, hy, Sem.run_bind, Result.andThen_ok, e1, e2]
  rfl
theorem Clone_ok {A : Amb} {v : Value} {l : List Int} (hl : RdL encI 1 A.h v l) (hb : l.length ≤ 2000000) : Ctr Try.prog 77 #[v] A [] (RLP encI 3 1 l) := by
  obtain ⟨la, lc, rfl, hlb, hl⟩ := hl.un
  refine Ctr.body (args := [_]) Try.func77 rfl Try.ntmps77 Try.results77 (by simp) ?_
  refine CJ.seq ?_
  refine CJ.region ?_
  refine LJ.yd rfl (Yd.asS rfl) ?_
  refine LJ.nil ?_
  refine CJ.seq ?_
  refine CJ.seq ?_
  refine CJ.region ?_
  refine LJ.yd rfl (Yd.mvS rfl) ?_
  refine LJ.split rfl (Yd.eqlNil rfl rfl) (fun h4 => ?_) (fun h4 => ?_)
  · refine LJ.nil ?_
    refine CJ.condT rfl ?_
    refine CJ.seq ?_
    refine CJ.region ?_
    refine LJ.yd rfl (Yd.asS rfl) ?_
    refine LJ.nil ?_
    refine CJ.ret ?_
    refine Fin.RN (Res.one (ResV.tmp (v := .slice _ _ _) rfl)) ?_
    first
      | rfl
      | (refine (List.eq_nil_of_length_eq_zero ?_).symm
         refine Classical.byContradiction fun hn => ?_
         obtain ⟨b, o, e, _⟩ := hl.row (by omega)
         rw [e] at h4; cases h4)
  · refine LJ.nil ?_
    refine CJ.condF rfl ?_
    refine CJ.skip ?_
    refine CJ.seq ?_
    refine CJ.region ?_
    refine LJ.op rfl (OpR.buildSlice (cs := []) rfl rfl) ?_
    rintro _ _ ⟨b1, rfl, rfl⟩
    refine LJ.yd rfl (Yd.mvS rfl) ?_
    refine LJ.imp1 0 rfl (fun _ h => Cel.lr (enc := encI) (k := 1) (m := 0) [] rfl rfl rfl rfl h) ?_
    refine LJ.norm [_] rfl ?_
    refine LJ.op rfl (OpR.apA (enc := encI) 0 rfl hl rfl (by first | rfl | omega | (simp; done) | (simp; omega) | (simp [upN_len]; omega) | (simp [idxBy_len]; omega) | (simp [marks_len]; omega) | (simp [upN_len]; done) | (simp [idxBy_len]; done) | (simp [marks_len]; done) | (simp at *; omega)) rfl (fun _ => rfl) (by first | rfl | omega | (simp; done) | (simp; omega) | (simp [upN_len]; omega) | (simp [idxBy_len]; omega) | (simp [marks_len]; omega) | (simp [upN_len]; done) | (simp [idxBy_len]; done) | (simp [marks_len]; done) | (simp at *; omega))) ?_
    rintro _ _ ⟨ra7, rc7, rfl, rfl⟩
    refine LJ.norm [_] rfl ?_
    refine LJ.yd rfl (Yd.asS rfl) ?_
    refine LJ.nil ?_
    refine CJ.ret ?_
    refine Fin.RL 0 (Res.one (ResV.tmp (v := .slice _ _ _) rfl)) rfl (by first | rfl | omega | (simp; done) | (simp; omega) | (simp [upN_len]; omega) | (simp [idxBy_len]; omega) | (simp [marks_len]; omega) | (simp [upN_len]; done) | (simp [idxBy_len]; done) | (simp [marks_len]; done) | (simp at *; omega)) ?_
    first
      | rfl
      | (refine (List.eq_nil_of_length_eq_zero ?_).symm
         refine Classical.byContradiction fun hn => ?_
         obtain ⟨b, o, e, _⟩ := hl.row (by omega)
         rw [e] at h4; cases h4)
def swp (s : List Int) (k : Nat) : List Int := (s.set k (s.getD (k + 1) 0)).set (k + 1) (s.getD k 0)
def swG (q : Plan) (s : List Int) (k : Int) : Bool := vsOk q s && (decide (0 ≤ k) && decide (k < s.length - 1))
def swR (q : Plan) (s : List Int) (k : Int) : List Int := if swG q s k = true then (if vsOk q (swp s k.toNat) = true then swp s k.toNat else s) else []
def swB (q : Plan) (s : List Int) (k : Int) : Bool := swG q s k && vsOk q (swp s k.toNat)
theorem sw_no {q : Plan} {s : List Int} {k : Int} (h : swG q s k = false) : swR q s k = [] ∧ swB q s k = false := by simp [swR, swB, h]
theorem sw_F {q : Plan} {s : List Int} {k : Int} (h : swG q s k = true) (h2 : vsOk q (swp s k.toNat) = false) : swR q s k = s ∧ swB q s k = false := by simp [swR, swB, h, h2]
theorem sw_T {q : Plan} {s : List Int} {k : Int} (h : swG q s k = true) (h2 : vsOk q (swp s k.toNat) = true) : swR q s k = swp s k.toNat ∧ swB q s k = true := by simp [swR, swB, h, h2]
theorem swR_len {q : Plan} {s : List Int} {k : Int} : (swR q s k).length ≤ s.length := by
  unfold swR swp; split
  · split <;> simp
  · simp
def SwO (q : Plan) (s : List Int) (k : Int) (v : Value) (gs : List HProp) : Prop := ∃ a c, v = .tuple #[.slice a (swR q s k).length c, .bool (swB q s k)] ∧ gs = [LR encI 3 1 a c (swR q s k)]
theorem getDC {s : List Int} {k : Nat} {u : Int} (h : s[k]? = some u) : s.getD k 0 = u := by simp [List.getD_eq_getElem?_getD, h]
theorem SwapStepsI_ok {A : Amb} {cs : List Value} {q : Plan} {w : Value} {s : List Int} {k : Int} (h : RdPlan A.h cs q) (hs : RdL encI 1 A.h w s) (hb : s.length ≤ 2000000) : Ctr Try.prog 40 #[.agg cs.toArray, w, vI k] A [] (SwO q s k) := by
  have hs0 := hs
  obtain ⟨wa, wc, rfl, hsb, hs⟩ := hs.un
  obtain ⟨o, a, p, t, kids, v, css, e, hcs, ho, ha, hp, ⟨⟨sa, sc, rfl, hm, hrow⟩, hlen⟩, hk⟩ := h.inv
  subst hcs
  refine Ctr.body (args := [_, _, _]) Try.func40 rfl Try.ntmps40 Try.results40 (by simp) ?_
  refine CJ.seq ?_
  refine CJ.region ?_
  refine LJ.boxG (vs := [_, _, _, _, _]) rfl rfl (fun b1 => ?_)
  refine LJ.yd rfl (Yd.asS rfl) ?_
  refine LJ.yd rfl (Yd.asB rfl) ?_
  refine LJ.nil ?_
  refine CJ.seq ?_
  refine CJ.seq ?_
  refine CJ.region ?_
  refine LJ.yd rfl (Yd.loadG (us := [_, _, _, _, _]) 0 rfl rfl rfl rfl) ?_
  refine LJ.yd rfl (Yd.mvS rfl) ?_
  refine LJ.callB rfl (fun k hk dk => ValidStepsI_ok h.up (RdRow.up hs)) (fun h11 => ?_) (fun h11 => ?_)
  · refine LJ.yd rfl (Yd.not rfl) ?_
    refine LJ.yd rfl (Yd.mvB rfl) ?_
    refine LJ.gT rfl ?_
    refine LJ.yd rfl (Yd.mvI rfl) ?_
    refine LJ.gT rfl ?_
    refine LJ.splitD rfl (Yd.lss rfl rfl) (fun h15 => ?_) (fun h15 => ?_)
    · refine LJ.yd rfl (Yd.pickFB rfl rfl) ?_
      refine LJ.yd rfl (Yd.mvB rfl) ?_
      refine LJ.gF rfl rfl ?_
      refine LJ.gF rfl rfl ?_
      refine LJ.gF rfl rfl ?_
      refine LJ.gF rfl rfl ?_
      refine LJ.gF rfl rfl ?_
      refine LJ.yd rfl (Yd.pickTB rfl rfl) ?_
      refine LJ.nil ?_
      refine CJ.condT rfl ?_
      refine CJ.seq ?_
      refine CJ.region ?_
      refine LJ.yd rfl (Yd.asS rfl) ?_
      refine LJ.yd rfl (Yd.asB rfl) ?_
      refine LJ.nil ?_
      refine CJ.ret ?_
      obtain ⟨e1, e2⟩ := sw_no (q := q) (s := s) (k := k) (by rw [swG]; first | (rw [h11]; rfl) | (rw [show (decide (0 ≤ k) && decide (k < (s.length : Int) - 1)) = false by rw [Bool.and_eq_false_iff, decide_eq_false_iff_not, decide_eq_false_iff_not]; omega, Bool.and_false]))
      unfold SwO
      rw [e1, e2]
      exact Fin.R [_] (Res.two (ResV.tmp (v := .slice _ _ _) rfl) (ResV.tmp (v := .bool false) rfl)) ⟨_, _, rfl, rfl⟩ (Ent.thn (Ent.addLR encI 3 1) (Ent.pick [1] [0] rfl))
    · refine LJ.yd rfl (Yd.pickFB rfl rfl) ?_
      refine LJ.yd rfl (Yd.mvB rfl) ?_
      refine LJ.gT rfl ?_
      refine LJ.yd rfl (Yd.mvI rfl) ?_
      refine LJ.gT rfl ?_
      refine LJ.yd rfl (Yd.mvS rfl) ?_
      refine LJ.gT rfl ?_
      refine LJ.yd rfl (Yd.len rfl) ?_
      refine LJ.gT rfl ?_
      refine LJ.yd rfl (Yd.sub rfl rfl (by unfold I64; omega)) ?_
      refine LJ.gT rfl ?_
      refine LJ.splitD rfl (Yd.geq rfl rfl) (fun h22 => ?_) (fun h22 => ?_)
      · refine LJ.yd rfl (Yd.pickFB rfl rfl) ?_
        refine LJ.nil ?_
        refine CJ.condT rfl ?_
        refine CJ.seq ?_
        refine CJ.region ?_
        refine LJ.yd rfl (Yd.asS rfl) ?_
        refine LJ.yd rfl (Yd.asB rfl) ?_
        refine LJ.nil ?_
        refine CJ.ret ?_
        obtain ⟨e1, e2⟩ := sw_no (q := q) (s := s) (k := k) (by rw [swG]; first | (rw [h11]; rfl) | (rw [show (decide (0 ≤ k) && decide (k < (s.length : Int) - 1)) = false by rw [Bool.and_eq_false_iff, decide_eq_false_iff_not, decide_eq_false_iff_not]; omega, Bool.and_false]))
        unfold SwO
        rw [e1, e2]
        exact Fin.R [_] (Res.two (ResV.tmp (v := .slice _ _ _) rfl) (ResV.tmp (v := .bool false) rfl)) ⟨_, _, rfl, rfl⟩ (Ent.thn (Ent.addLR encI 3 1) (Ent.pick [1] [0] rfl))
      · refine LJ.yd rfl (Yd.pickFB rfl rfl) ?_
        refine LJ.nil ?_
        refine CJ.condF rfl ?_
        refine CJ.skip ?_
        refine CJ.seq ?_
        refine CJ.region ?_
        refine LJ.yd rfl (Yd.mvS rfl) ?_
        refine LJ.call0 rfl (fun k hk dk => Clone_ok (RdRow.up hs) hb) ?_
        rintro _ _ ⟨ra25, rc25, rfl, rfl⟩
        refine LJ.norm [_, _] rfl ?_
        refine LJ.yd rfl (Yd.asS rfl) ?_
        refine LJ.nil ?_
        refine CJ.seq ?_
        refine CJ.regionD [0] [1] (by kernel_rfl) rfl ?_
        refine DJ.norm [_] [_] rfl rfl ?_
        refine DJ.yd 0 rfl (by kernel_rfl) (by kernel_rfl) (by kernel_rfl) rfl rfl (Yd.mvS rfl) ?_
        refine DJ.yd 1 rfl (by kernel_rfl) (by kernel_rfl) (by kernel_rfl) rfl rfl (Yd.mvI rfl) ?_
        refine DJ.yd 2 rfl (by kernel_rfl) (by kernel_rfl) (by kernel_rfl) rfl rfl (Yd.mvS rfl) ?_
        refine DJ.yd 3 rfl (by kernel_rfl) (by kernel_rfl) (by kernel_rfl) rfl rfl (Yd.mvI rfl) ?_
        refine DJ.yd 4 rfl (by kernel_rfl) (by kernel_rfl) (by kernel_rfl) rfl rfl (Yd.add rfl rfl (by unfold I64; omega)) ?_
        refine DJ.yd 5 rfl (by kernel_rfl) (by kernel_rfl) (by kernel_rfl) rfl rfl (Yd.mvS rfl) ?_
        refine DJ.yd 6 rfl (by kernel_rfl) (by kernel_rfl) (by kernel_rfl) rfl rfl (Yd.mvI rfl) ?_
        refine DJ.yd 7 rfl (by kernel_rfl) (by kernel_rfl) (by kernel_rfl) rfl rfl (Yd.add rfl rfl (by unfold I64; omega)) ?_
        refine DJ.idxR 0 rfl 8 rfl (by kernel_rfl) (by kernel_rfl) (by kernel_rfl) rfl rfl rfl rfl (by omega) (by first | rfl | omega | (simp; done) | (simp; omega) | (simp [upN_len]; omega) | (simp [idxBy_len]; omega) | (simp [marks_len]; omega) | (simp [upN_len]; done) | (simp [idxBy_len]; done) | (simp [marks_len]; done) | (simp at *; omega)) (by first | rfl | omega | (simp; done) | (simp; omega) | (simp [upN_len]; omega) | (simp [idxBy_len]; omega) | (simp [marks_len]; omega) | (simp [upN_len]; done) | (simp [idxBy_len]; done) | (simp [marks_len]; done) | (simp at *; omega)) (fun ib34 ia34 => ?_)
        refine DJ.yd 10 rfl (by kernel_rfl) (by kernel_rfl) (by kernel_rfl) rfl rfl (Yd.mvS rfl) ?_
        refine DJ.yd 11 rfl (by kernel_rfl) (by kernel_rfl) (by kernel_rfl) rfl rfl (Yd.mvI rfl) ?_
        refine DJ.idxR 0 rfl 12 rfl (by kernel_rfl) (by kernel_rfl) (by kernel_rfl) rfl rfl rfl rfl (by omega) (by first | rfl | omega | (simp; done) | (simp; omega) | (simp [upN_len]; omega) | (simp [idxBy_len]; omega) | (simp [marks_len]; omega) | (simp [upN_len]; done) | (simp [idxBy_len]; done) | (simp [marks_len]; done) | (simp at *; omega)) (by first | rfl | omega | (simp; done) | (simp; omega) | (simp [upN_len]; omega) | (simp [idxBy_len]; omega) | (simp [marks_len]; omega) | (simp [upN_len]; done) | (simp [idxBy_len]; done) | (simp [marks_len]; done) | (simp at *; omega)) (fun ib38 ia38 => ?_)
        refine DJ.two (i := 9) (j := 13) (by kernel_rfl) ?_ ?_
        · refine DO.ldR rfl rfl rfl 0 0 (fun u => vI u) (fun _ => rfl) rfl ia34 rfl rfl (by first | rfl | omega | (simp; done) | (simp; omega) | (simp [upN_len]; omega) | (simp [idxBy_len]; omega) | (simp [marks_len]; omega) | (simp [upN_len]; done) | (simp [idxBy_len]; done) | (simp [marks_len]; done) | (simp at *; omega)) (fun u35 hu35 => ?_)
          try simp only [Int.toNat_natCast] at hu35
          refine DJ.one (i := 13) (by kernel_rfl) ?_
          refine DO.ldR rfl rfl rfl 0 0 (fun u => vI u) (fun _ => rfl) rfl ia38 rfl rfl (by first | rfl | omega | (simp; done) | (simp; omega) | (simp [upN_len]; omega) | (simp [idxBy_len]; omega) | (simp [marks_len]; omega) | (simp [upN_len]; done) | (simp [idxBy_len]; done) | (simp [marks_len]; done) | (simp at *; omega)) (fun u39 hu39 => ?_)
          try simp only [Int.toNat_natCast] at hu39
          refine DJ.idxR 0 rfl 14 rfl (by kernel_rfl) (by kernel_rfl) (by kernel_rfl) rfl rfl rfl rfl (by omega) (by first | rfl | omega | (simp; done) | (simp; omega) | (simp [upN_len]; omega) | (simp [idxBy_len]; omega) | (simp [marks_len]; omega) | (simp [upN_len]; done) | (simp [idxBy_len]; done) | (simp [marks_len]; done) | (simp at *; omega)) (by first | rfl | omega | (simp; done) | (simp; omega) | (simp [upN_len]; omega) | (simp [idxBy_len]; omega) | (simp [marks_len]; omega) | (simp [upN_len]; done) | (simp [idxBy_len]; done) | (simp [marks_len]; done) | (simp at *; omega)) (fun ib40 ia40 => ?_)
          refine DJ.one (i := 15) (by kernel_rfl) ?_
          refine DO.op rfl rfl rfl (fun k0 hk0 dk0 => OpR.st1 (enc := encI) (e1 := fun u => vI u) 0 (fun _ => rfl) (fun _ => rfl) (fun _ => rfl) rfl ia40 rfl rfl rfl (by first | rfl | omega | (simp; done) | (simp; omega) | (simp [upN_len]; omega) | (simp [idxBy_len]; omega) | (simp [marks_len]; omega) | (simp [upN_len]; done) | (simp [idxBy_len]; done) | (simp [marks_len]; done) | (simp at *; omega))) ?_
          rintro _ _ ⟨rfl, rfl⟩
          refine DJ.norm [_] [_] rfl rfl ?_
          refine DJ.idxR 0 rfl 16 rfl (by kernel_rfl) (by kernel_rfl) (by kernel_rfl) rfl rfl rfl rfl (by omega) (by first | rfl | omega | (simp; done) | (simp; omega) | (simp [upN_len]; omega) | (simp [idxBy_len]; omega) | (simp [marks_len]; omega) | (simp [upN_len]; done) | (simp [idxBy_len]; done) | (simp [marks_len]; done) | (simp at *; omega)) (by first | rfl | omega | (simp; done) | (simp; omega) | (simp [upN_len]; omega) | (simp [idxBy_len]; omega) | (simp [marks_len]; omega) | (simp [upN_len]; done) | (simp [idxBy_len]; done) | (simp [marks_len]; done) | (simp at *; omega)) (fun ib41 ia41 => ?_)
          refine DJ.one (i := 17) (by kernel_rfl) ?_
          refine DO.op rfl rfl rfl (fun k0 hk0 dk0 => OpR.st1 (enc := encI) (e1 := fun u => vI u) 0 (fun _ => rfl) (fun _ => rfl) (fun _ => rfl) rfl ia41 rfl rfl rfl (by first | rfl | omega | (simp; done) | (simp; omega) | (simp [upN_len]; omega) | (simp [idxBy_len]; omega) | (simp [marks_len]; omega) | (simp [upN_len]; done) | (simp [idxBy_len]; done) | (simp [marks_len]; done) | (simp at *; omega))) ?_
          rintro _ _ ⟨rfl, rfl⟩
          refine DJ.norm [_] [_] rfl rfl ?_
          refine DJ.done (by kernel_rfl) ?_
          refine CJ.seq ?_
          refine CJ.seq ?_
          rw [show (s.set k.toNat u35).set (k + 1).toNat u39 = swp s k.toNat by rw [swp, show (k + 1).toNat = k.toNat + 1 by omega, getDC (by rw [← show (k + 1).toNat = k.toNat + 1 by omega]; exact hu35), getDC hu39]]
          have hg : swG q s k = true := by rw [swG, h11, decide_eq_true (by omega), decide_eq_true (by omega)]; rfl
          have hsl : (swp s k.toNat).length = s.length := by simp [swp]
          refine CJ.region ?_
          refine LJ.yd rfl (Yd.loadG (us := [_, _, _, _, _]) 0 rfl rfl rfl rfl) ?_
          refine LJ.yd rfl (Yd.mvS rfl) ?_
          refine LJ.callB rfl (fun k hk dk => ValidStepsI_ok h.up (Sts.lrm hk dk 1 (by first | rfl | omega | (simp; done) | (simp; omega) | (simp [upN_len]; omega) | (simp [idxBy_len]; omega) | (simp [marks_len]; omega) | (simp [upN_len]; done) | (simp [idxBy_len]; done) | (simp [marks_len]; done) | (simp at *; omega)) (by first | rfl | omega | (simp; done) | (simp; omega) | (simp [upN_len]; omega) | (simp [idxBy_len]; omega) | (simp [marks_len]; omega) | (simp [upN_len]; done) | (simp [idxBy_len]; done) | (simp [marks_len]; done) | (simp at *; omega)) rfl)) (fun h44 => ?_) (fun h44 => ?_)
          · refine LJ.yd rfl (Yd.not rfl) ?_
            refine LJ.nil ?_
            refine CJ.condF rfl ?_
            refine CJ.skip ?_
            refine CJ.seq ?_
            refine CJ.region ?_
            refine LJ.yd rfl (Yd.mvS rfl) ?_
            refine LJ.yd rfl (Yd.asS rfl) ?_
            refine LJ.yd rfl (Yd.asB rfl) ?_
            refine LJ.nil ?_
            refine CJ.ret ?_
            obtain ⟨e1, e2⟩ := sw_T hg h44
            unfold SwO
            rw [e1, e2]
            exact Fin.R [_] (Res.two (ResV.tmp (v := .slice _ _ _) rfl) (ResV.tmp (v := .bool true) rfl)) ⟨_, _, by simp [swp], rfl⟩ (Ent.pick [1] [0] rfl)
          · refine LJ.yd rfl (Yd.not rfl) ?_
            refine LJ.nil ?_
            refine CJ.condT rfl ?_
            refine CJ.seq ?_
            refine CJ.region ?_
            refine LJ.yd rfl (Yd.mvS rfl) ?_
            refine LJ.call0 rfl (fun k hk dk => Clone_ok (RdRow.up hs) hb) ?_
            rintro _ _ ⟨ra47, rc47, rfl, rfl⟩
            refine LJ.norm [_, _, _] rfl ?_
            refine LJ.yd rfl (Yd.asS rfl) ?_
            refine LJ.yd rfl (Yd.asB rfl) ?_
            refine LJ.nil ?_
            refine CJ.ret ?_
            obtain ⟨e1, e2⟩ := sw_F hg h44
            unfold SwO
            rw [e1, e2]
            exact Fin.R [_] (Res.two (ResV.tmp (v := .slice _ _ _) rfl) (ResV.tmp (v := .bool false) rfl)) ⟨_, _, rfl, rfl⟩ (Ent.pick [2] [0, 1] rfl)
        · refine DO.ldR rfl rfl rfl 0 0 (fun u => vI u) (fun _ => rfl) rfl ia38 rfl rfl (by first | rfl | omega | (simp; done) | (simp; omega) | (simp [upN_len]; omega) | (simp [idxBy_len]; omega) | (simp [marks_len]; omega) | (simp [upN_len]; done) | (simp [idxBy_len]; done) | (simp [marks_len]; done) | (simp at *; omega)) (fun u39 hu39 => ?_)
          try simp only [Int.toNat_natCast] at hu39
          refine DJ.one (i := 9) (by kernel_rfl) ?_
          refine DO.ldR rfl rfl rfl 0 0 (fun u => vI u) (fun _ => rfl) rfl ia34 rfl rfl (by first | rfl | omega | (simp; done) | (simp; omega) | (simp [upN_len]; omega) | (simp [idxBy_len]; omega) | (simp [marks_len]; omega) | (simp [upN_len]; done) | (simp [idxBy_len]; done) | (simp [marks_len]; done) | (simp at *; omega)) (fun u35 hu35 => ?_)
          try simp only [Int.toNat_natCast] at hu35
          refine DJ.idxR 0 rfl 14 rfl (by kernel_rfl) (by kernel_rfl) (by kernel_rfl) rfl rfl rfl rfl (by omega) (by first | rfl | omega | (simp; done) | (simp; omega) | (simp [upN_len]; omega) | (simp [idxBy_len]; omega) | (simp [marks_len]; omega) | (simp [upN_len]; done) | (simp [idxBy_len]; done) | (simp [marks_len]; done) | (simp at *; omega)) (by first | rfl | omega | (simp; done) | (simp; omega) | (simp [upN_len]; omega) | (simp [idxBy_len]; omega) | (simp [marks_len]; omega) | (simp [upN_len]; done) | (simp [idxBy_len]; done) | (simp [marks_len]; done) | (simp at *; omega)) (fun ib40 ia40 => ?_)
          refine DJ.one (i := 15) (by kernel_rfl) ?_
          refine DO.op rfl rfl rfl (fun k0 hk0 dk0 => OpR.st1 (enc := encI) (e1 := fun u => vI u) 0 (fun _ => rfl) (fun _ => rfl) (fun _ => rfl) rfl ia40 rfl rfl rfl (by first | rfl | omega | (simp; done) | (simp; omega) | (simp [upN_len]; omega) | (simp [idxBy_len]; omega) | (simp [marks_len]; omega) | (simp [upN_len]; done) | (simp [idxBy_len]; done) | (simp [marks_len]; done) | (simp at *; omega))) ?_
          rintro _ _ ⟨rfl, rfl⟩
          refine DJ.norm [_] [_] rfl rfl ?_
          refine DJ.idxR 0 rfl 16 rfl (by kernel_rfl) (by kernel_rfl) (by kernel_rfl) rfl rfl rfl rfl (by omega) (by first | rfl | omega | (simp; done) | (simp; omega) | (simp [upN_len]; omega) | (simp [idxBy_len]; omega) | (simp [marks_len]; omega) | (simp [upN_len]; done) | (simp [idxBy_len]; done) | (simp [marks_len]; done) | (simp at *; omega)) (by first | rfl | omega | (simp; done) | (simp; omega) | (simp [upN_len]; omega) | (simp [idxBy_len]; omega) | (simp [marks_len]; omega) | (simp [upN_len]; done) | (simp [idxBy_len]; done) | (simp [marks_len]; done) | (simp at *; omega)) (fun ib41 ia41 => ?_)
          refine DJ.one (i := 17) (by kernel_rfl) ?_
          refine DO.op rfl rfl rfl (fun k0 hk0 dk0 => OpR.st1 (enc := encI) (e1 := fun u => vI u) 0 (fun _ => rfl) (fun _ => rfl) (fun _ => rfl) rfl ia41 rfl rfl rfl (by first | rfl | omega | (simp; done) | (simp; omega) | (simp [upN_len]; omega) | (simp [idxBy_len]; omega) | (simp [marks_len]; omega) | (simp [upN_len]; done) | (simp [idxBy_len]; done) | (simp [marks_len]; done) | (simp at *; omega))) ?_
          rintro _ _ ⟨rfl, rfl⟩
          refine DJ.norm [_] [_] rfl rfl ?_
          refine DJ.done (by kernel_rfl) ?_
          refine CJ.seq ?_
          refine CJ.seq ?_
          rw [show (s.set k.toNat u35).set (k + 1).toNat u39 = swp s k.toNat by rw [swp, show (k + 1).toNat = k.toNat + 1 by omega, getDC (by rw [← show (k + 1).toNat = k.toNat + 1 by omega]; exact hu35), getDC hu39]]
          have hg : swG q s k = true := by rw [swG, h11, decide_eq_true (by omega), decide_eq_true (by omega)]; rfl
          have hsl : (swp s k.toNat).length = s.length := by simp [swp]
          refine CJ.region ?_
          refine LJ.yd rfl (Yd.loadG (us := [_, _, _, _, _]) 0 rfl rfl rfl rfl) ?_
          refine LJ.yd rfl (Yd.mvS rfl) ?_
          refine LJ.callB rfl (fun k hk dk => ValidStepsI_ok h.up (Sts.lrm hk dk 1 (by first | rfl | omega | (simp; done) | (simp; omega) | (simp [upN_len]; omega) | (simp [idxBy_len]; omega) | (simp [marks_len]; omega) | (simp [upN_len]; done) | (simp [idxBy_len]; done) | (simp [marks_len]; done) | (simp at *; omega)) (by first | rfl | omega | (simp; done) | (simp; omega) | (simp [upN_len]; omega) | (simp [idxBy_len]; omega) | (simp [marks_len]; omega) | (simp [upN_len]; done) | (simp [idxBy_len]; done) | (simp [marks_len]; done) | (simp at *; omega)) rfl)) (fun h44 => ?_) (fun h44 => ?_)
          · refine LJ.yd rfl (Yd.not rfl) ?_
            refine LJ.nil ?_
            refine CJ.condF rfl ?_
            refine CJ.skip ?_
            refine CJ.seq ?_
            refine CJ.region ?_
            refine LJ.yd rfl (Yd.mvS rfl) ?_
            refine LJ.yd rfl (Yd.asS rfl) ?_
            refine LJ.yd rfl (Yd.asB rfl) ?_
            refine LJ.nil ?_
            refine CJ.ret ?_
            obtain ⟨e1, e2⟩ := sw_T hg h44
            unfold SwO
            rw [e1, e2]
            exact Fin.R [_] (Res.two (ResV.tmp (v := .slice _ _ _) rfl) (ResV.tmp (v := .bool true) rfl)) ⟨_, _, by simp [swp], rfl⟩ (Ent.pick [1] [0] rfl)
          · refine LJ.yd rfl (Yd.not rfl) ?_
            refine LJ.nil ?_
            refine CJ.condT rfl ?_
            refine CJ.seq ?_
            refine CJ.region ?_
            refine LJ.yd rfl (Yd.mvS rfl) ?_
            refine LJ.call0 rfl (fun k hk dk => Clone_ok (RdRow.up hs) hb) ?_
            rintro _ _ ⟨ra47, rc47, rfl, rfl⟩
            refine LJ.norm [_, _, _] rfl ?_
            refine LJ.yd rfl (Yd.asS rfl) ?_
            refine LJ.yd rfl (Yd.asB rfl) ?_
            refine LJ.nil ?_
            refine CJ.ret ?_
            obtain ⟨e1, e2⟩ := sw_F hg h44
            unfold SwO
            rw [e1, e2]
            exact Fin.R [_] (Res.two (ResV.tmp (v := .slice _ _ _) rfl) (ResV.tmp (v := .bool false) rfl)) ⟨_, _, rfl, rfl⟩ (Ent.pick [2] [0, 1] rfl)
  · refine LJ.yd rfl (Yd.not rfl) ?_
    refine LJ.yd rfl (Yd.mvB rfl) ?_
    refine LJ.gF rfl rfl ?_
    refine LJ.gF rfl rfl ?_
    refine LJ.yd rfl (Yd.pickTB rfl rfl) ?_
    refine LJ.yd rfl (Yd.mvB rfl) ?_
    refine LJ.gF rfl rfl ?_
    refine LJ.gF rfl rfl ?_
    refine LJ.gF rfl rfl ?_
    refine LJ.gF rfl rfl ?_
    refine LJ.gF rfl rfl ?_
    refine LJ.yd rfl (Yd.pickTB rfl rfl) ?_
    refine LJ.nil ?_
    refine CJ.condT rfl ?_
    refine CJ.seq ?_
    refine CJ.region ?_
    refine LJ.yd rfl (Yd.asS rfl) ?_
    refine LJ.yd rfl (Yd.asB rfl) ?_
    refine LJ.nil ?_
    refine CJ.ret ?_
    obtain ⟨e1, e2⟩ := sw_no (q := q) (s := s) (k := k) (by rw [swG]; first | (rw [h11]; rfl) | (rw [show (decide (0 ≤ k) && decide (k < (s.length : Int) - 1)) = false by rw [Bool.and_eq_false_iff, decide_eq_false_iff_not, decide_eq_false_iff_not]; omega, Bool.and_false]))
    unfold SwO
    rw [e1, e2]
    exact Fin.R [_] (Res.two (ResV.tmp (v := .slice _ _ _) rfl) (ResV.tmp (v := .bool false) rfl)) ⟨_, _, rfl, rfl⟩ (Ent.thn (Ent.addLR encI 3 1) (Ent.pick [1] [0] rfl))
theorem SwapStepsS_ok {A : Amb} {cs : List Value} {q : Plan} {w : Value} {s : List Int} {k : Int} (h : RdPlan A.h cs q) (hs : RdL encI 1 A.h w s) (hb : s.length ≤ 2000000) : Ctr Try.prog 37 #[.agg cs.toArray, w, vI k] A [] (SwO q s k) := by
  have hs0 := hs
  obtain ⟨wa, wc, rfl, hsb, hs⟩ := hs.un
  obtain ⟨o, a, p, t, kids, v, css, e, hcs, ho, ha, hp, ⟨⟨sa, sc, rfl, hm, hrow⟩, hlen⟩, hk⟩ := h.inv
  by_cases hq : psz q < 0
  · have hn : swG q s k = false := by
      rw [swG, Bool.eq_false_iff.2 (fun h => (vsOk_iff.1 h).1 hq)]; rfl
    obtain ⟨e1, e2⟩ := sw_no hn
    subst hcs
    unfold SwO
    rw [e1, e2]
    refine Ctr.body (args := [_, _, _]) Try.func37 rfl Try.ntmps37 Try.results37 (by simp) ?_
    refine CJ.seq ?_
    refine CJ.region ?_
    refine LJ.boxG (vs := [_, _, _, _, _]) rfl rfl (fun b1 => ?_)
    refine LJ.yd rfl (Yd.asS rfl) ?_
    refine LJ.yd rfl (Yd.asB rfl) ?_
    refine LJ.nil ?_
    refine CJ.seq ?_
    refine CJ.seq ?_
    refine CJ.region ?_
    refine LJ.yd rfl (Yd.loadG (us := [_, _, _, _, _]) 0 rfl rfl rfl rfl) ?_
    refine LJ.callV rfl (fun k hk dk => planSizeS_ok h.up) ?_
    refine LJ.yd rfl (Yd.cmpT (Yd.lss rfl rfl) (by omega)) ?_
    refine LJ.yd rfl (Yd.mvB rfl) ?_
    refine LJ.gF rfl rfl ?_
    refine LJ.gF rfl rfl ?_
    refine LJ.gF rfl rfl ?_
    refine LJ.gF rfl rfl ?_
    refine LJ.yd rfl (Yd.pickTB rfl rfl) ?_
    refine LJ.yd rfl (Yd.mvB rfl) ?_
    refine LJ.gF rfl rfl ?_
    refine LJ.gF rfl rfl ?_
    refine LJ.gF rfl rfl ?_
    refine LJ.gF rfl rfl ?_
    refine LJ.gF rfl rfl ?_
    refine LJ.gF rfl rfl ?_
    refine LJ.yd rfl (Yd.pickTB rfl rfl) ?_
    refine LJ.nil ?_
    refine CJ.condT rfl ?_
    refine CJ.seq ?_
    refine CJ.region ?_
    refine LJ.yd rfl (Yd.asS rfl) ?_
    refine LJ.yd rfl (Yd.asB rfl) ?_
    refine LJ.nil ?_
    refine CJ.ret ?_
    exact Fin.R [_] (Res.two (ResV.tmp (v := .slice _ _ _) rfl) (ResV.tmp (v := .bool false) rfl)) ⟨_, _, rfl, rfl⟩ (Ent.thn (Ent.addLR encI 3 1) (Ent.pick [1] [0] rfl))
  · obtain ⟨b, hb2, hz, hkn⟩ := knP_S hq
    have hT : RdT A.h cs b := RdT.of b (hb2 ▸ h)
    have hvs : ∀ z : List Int, (decide ((z.length : Int) = (b.knots 0 (-1)).length) && begOk (b.knots 0 (-1)) [] z) = vsOk q z := fun z => by
      rw [vsOk, hkn, decide_eq_false hq]; rfl
    have hvw := hvs (swp s k.toNat)
    subst hcs
    refine Ctr.body (args := [_, _, _]) Try.func37 rfl Try.ntmps37 Try.results37 (by simp) ?_
    refine CJ.seq ?_
    refine CJ.region ?_
    refine LJ.boxG (vs := [_, _, _, _, _]) rfl rfl (fun b1 => ?_)
    refine LJ.yd rfl (Yd.asS rfl) ?_
    refine LJ.yd rfl (Yd.asB rfl) ?_
    refine LJ.nil ?_
    refine CJ.seq ?_
    refine CJ.seq ?_
    refine CJ.region ?_
    refine LJ.yd rfl (Yd.loadG (us := [_, _, _, _, _]) 0 rfl rfl rfl rfl) ?_
    refine LJ.callV rfl (fun k hk dk => planSizeS_ok h.up) ?_
    refine LJ.yd rfl (Yd.cmpF (Yd.lss rfl rfl) (by omega)) ?_
    refine LJ.yd rfl (Yd.mvB rfl) ?_
    refine LJ.gT rfl ?_
    refine LJ.yd rfl (Yd.loadG (us := [_, _, _, _, _]) 0 rfl rfl rfl rfl) ?_
    refine LJ.gT rfl ?_
    refine LJ.yd rfl (Yd.mvS rfl) ?_
    refine LJ.gT rfl ?_
    refine LJ.callB rfl (fun k hk dk => (hvs s ▸ validSteps_ok hz hT.up (RdRow.up hs))) (fun h15 => ?_) (fun h15 => ?_)
    · refine LJ.gT rfl ?_
      refine LJ.yd rfl (Yd.not rfl) ?_
      refine LJ.yd rfl (Yd.pickFB rfl rfl) ?_
      refine LJ.yd rfl (Yd.mvB rfl) ?_
      refine LJ.gT rfl ?_
      refine LJ.yd rfl (Yd.mvI rfl) ?_
      refine LJ.gT rfl ?_
      refine LJ.yd rfl (Yd.mvS rfl) ?_
      refine LJ.gT rfl ?_
      refine LJ.yd rfl (Yd.len rfl) ?_
      refine LJ.gT rfl ?_
      refine LJ.yd rfl (Yd.sub rfl rfl (by unfold I64; omega)) ?_
      refine LJ.gT rfl ?_
      refine LJ.callB rfl (fun k hk dk => inRange_ok _ _ _ _) (fun h23 => ?_) (fun h23 => ?_)
      · refine LJ.gT rfl ?_
        refine LJ.yd rfl (Yd.not rfl) ?_
        refine LJ.yd rfl (Yd.pickFB rfl rfl) ?_
        refine LJ.nil ?_
        refine CJ.condF rfl ?_
        refine CJ.skip ?_
        refine CJ.seq ?_
        refine CJ.region ?_
        refine LJ.yd rfl (Yd.mvS rfl) ?_
        refine LJ.call0 rfl (fun k hk dk => copyInts_ok (RdRow.up hs) hb) ?_
        rintro _ _ ⟨ra27, rc27, rfl, rfl⟩
        refine LJ.norm [_, _] rfl ?_
        refine LJ.yd rfl (Yd.asS rfl) ?_
        refine LJ.nil ?_
        refine CJ.seq ?_
        have hin : 0 ≤ k ∧ k ≤ (s.length : Int) - 2 := by simpa using h23
        refine CJ.region ?_
        refine LJ.yd rfl (Yd.mvS rfl) ?_
        refine LJ.yd rfl (Yd.mvI rfl) ?_
        refine LJ.yd rfl (Yd.mvS rfl) ?_
        refine LJ.yd rfl (Yd.mvI rfl) ?_
        refine LJ.yd rfl (Yd.add rfl rfl (by simp at h23; unfold I64; omega)) ?_
        refine LJ.idxA rfl hs rfl rfl (by omega) (by first | rfl | omega | (simp; done) | (simp; omega) | (simp [upN_len]; omega) | (simp [idxBy_len]; omega) | (simp [marks_len]; omega) | (simp [upN_len]; done) | (simp [idxBy_len]; done) | (simp [marks_len]; done) | (simp at *; omega)) (fun ib33 io33 ia33 ir33 => ?_)
        refine LJ.ldA 0 (fun u => vI u) (fun _ => rfl) ir33 rfl rfl rfl (by first | rfl | omega | (simp; done) | (simp; omega) | (simp [upN_len]; omega) | (simp [idxBy_len]; omega) | (simp [marks_len]; omega) | (simp [upN_len]; done) | (simp [idxBy_len]; done) | (simp [marks_len]; done) | (simp at *; omega)) (fun u34 hu34 => ?_)
        try simp only [Int.toNat_natCast] at hu34
        refine LJ.idxR 1 rfl rfl rfl rfl (by omega) (by first | rfl | omega | (simp; done) | (simp; omega) | (simp [upN_len]; omega) | (simp [idxBy_len]; omega) | (simp [marks_len]; omega) | (simp [upN_len]; done) | (simp [idxBy_len]; done) | (simp [marks_len]; done) | (simp at *; omega)) (by first | rfl | omega | (simp; done) | (simp; omega) | (simp [upN_len]; omega) | (simp [idxBy_len]; omega) | (simp [marks_len]; omega) | (simp [upN_len]; done) | (simp [idxBy_len]; done) | (simp [marks_len]; done) | (simp at *; omega)) (fun ib35 ia35 => ?_)
        refine LJ.op rfl (OpR.st1 (enc := encI) (e1 := fun u => vI u) 1 (fun _ => rfl) (fun _ => rfl) (fun _ => rfl) rfl ia35 rfl rfl rfl (by first | rfl | omega | (simp; done) | (simp; omega) | (simp [upN_len]; omega) | (simp [idxBy_len]; omega) | (simp [marks_len]; omega) | (simp [upN_len]; done) | (simp [idxBy_len]; done) | (simp [marks_len]; done) | (simp at *; omega))) ?_
        rintro _ _ ⟨rfl, rfl⟩
        refine LJ.norm [_, _] rfl ?_
        refine LJ.nil ?_
        refine CJ.seq ?_
        refine CJ.region ?_
        refine LJ.yd rfl (Yd.mvS rfl) ?_
        refine LJ.yd rfl (Yd.mvI rfl) ?_
        refine LJ.yd rfl (Yd.add rfl rfl (by simp at h23; unfold I64; omega)) ?_
        refine LJ.yd rfl (Yd.mvS rfl) ?_
        refine LJ.yd rfl (Yd.mvI rfl) ?_
        refine LJ.idxA rfl hs rfl rfl (by omega) (by first | rfl | omega | (simp; done) | (simp; omega) | (simp [upN_len]; omega) | (simp [idxBy_len]; omega) | (simp [marks_len]; omega) | (simp [upN_len]; done) | (simp [idxBy_len]; done) | (simp [marks_len]; done) | (simp at *; omega)) (fun ib41 io41 ia41 ir41 => ?_)
        refine LJ.ldA 0 (fun u => vI u) (fun _ => rfl) ir41 rfl rfl rfl (by first | rfl | omega | (simp; done) | (simp; omega) | (simp [upN_len]; omega) | (simp [idxBy_len]; omega) | (simp [marks_len]; omega) | (simp [upN_len]; done) | (simp [idxBy_len]; done) | (simp [marks_len]; done) | (simp at *; omega)) (fun u42 hu42 => ?_)
        try simp only [Int.toNat_natCast] at hu42
        refine LJ.idxR 1 rfl rfl rfl rfl (by omega) (by first | rfl | omega | (simp; done) | (simp; omega) | (simp [upN_len]; omega) | (simp [idxBy_len]; omega) | (simp [marks_len]; omega) | (simp [upN_len]; done) | (simp [idxBy_len]; done) | (simp [marks_len]; done) | (simp at *; omega)) (by first | rfl | omega | (simp; done) | (simp; omega) | (simp [upN_len]; omega) | (simp [idxBy_len]; omega) | (simp [marks_len]; omega) | (simp [upN_len]; done) | (simp [idxBy_len]; done) | (simp [marks_len]; done) | (simp at *; omega)) (fun ib43 ia43 => ?_)
        refine LJ.op rfl (OpR.st1 (enc := encI) (e1 := fun u => vI u) 1 (fun _ => rfl) (fun _ => rfl) (fun _ => rfl) rfl ia43 rfl rfl rfl (by first | rfl | omega | (simp; done) | (simp; omega) | (simp [upN_len]; omega) | (simp [idxBy_len]; omega) | (simp [marks_len]; omega) | (simp [upN_len]; done) | (simp [idxBy_len]; done) | (simp [marks_len]; done) | (simp at *; omega))) ?_
        rintro _ _ ⟨rfl, rfl⟩
        refine LJ.norm [_, _] rfl ?_
        refine LJ.nil ?_
        refine CJ.seq ?_
        refine CJ.seq ?_
        rw [show (s.set k.toNat u34).set (k + 1).toNat u42 = swp s k.toNat by rw [swp, show (k + 1).toNat = k.toNat + 1 by omega, getDC (by rw [← show (k + 1).toNat = k.toNat + 1 by omega]; exact hu34), getDC hu42]]
        have hg : swG q s k = true := by rw [swG, h15, decide_eq_true (by omega), decide_eq_true (by omega)]; rfl
        have hsl : (swp s k.toNat).length = s.length := by simp [swp]
        refine CJ.region ?_
        refine LJ.yd rfl (Yd.loadG (us := [_, _, _, _, _]) 0 rfl rfl rfl rfl) ?_
        refine LJ.yd rfl (Yd.mvS rfl) ?_
        refine LJ.callB rfl (fun k hk dk => (hvw ▸ validSteps_ok hz hT.up (Sts.lrm hk dk 1 (by first | rfl | omega | (simp; done) | (simp; omega) | (simp [upN_len]; omega) | (simp [idxBy_len]; omega) | (simp [marks_len]; omega) | (simp [upN_len]; done) | (simp [idxBy_len]; done) | (simp [marks_len]; done) | (simp at *; omega)) (by first | rfl | omega | (simp; done) | (simp; omega) | (simp [upN_len]; omega) | (simp [idxBy_len]; omega) | (simp [marks_len]; omega) | (simp [upN_len]; done) | (simp [idxBy_len]; done) | (simp [marks_len]; done) | (simp at *; omega)) rfl))) (fun h46 => ?_) (fun h46 => ?_)
        · refine LJ.yd rfl (Yd.not rfl) ?_
          refine LJ.nil ?_
          refine CJ.condF rfl ?_
          refine CJ.skip ?_
          refine CJ.seq ?_
          refine CJ.region ?_
          refine LJ.yd rfl (Yd.mvS rfl) ?_
          refine LJ.yd rfl (Yd.asS rfl) ?_
          refine LJ.yd rfl (Yd.asB rfl) ?_
          refine LJ.nil ?_
          refine CJ.ret ?_
          obtain ⟨e1, e2⟩ := sw_T hg h46
          unfold SwO
          rw [e1, e2]
          exact Fin.R [_] (Res.two (ResV.tmp (v := .slice _ _ _) rfl) (ResV.tmp (v := .bool true) rfl)) ⟨_, _, by simp [swp], rfl⟩ (Ent.pick [1] [0] rfl)
        · refine LJ.yd rfl (Yd.not rfl) ?_
          refine LJ.nil ?_
          refine CJ.condT rfl ?_
          refine CJ.seq ?_
          refine CJ.region ?_
          refine LJ.yd rfl (Yd.mvS rfl) ?_
          refine LJ.call0 rfl (fun k hk dk => copyInts_ok (RdRow.up hs) hb) ?_
          rintro _ _ ⟨ra49, rc49, rfl, rfl⟩
          refine LJ.norm [_, _, _] rfl ?_
          refine LJ.yd rfl (Yd.asS rfl) ?_
          refine LJ.yd rfl (Yd.asB rfl) ?_
          refine LJ.nil ?_
          refine CJ.ret ?_
          obtain ⟨e1, e2⟩ := sw_F hg h46
          unfold SwO
          rw [e1, e2]
          exact Fin.R [_] (Res.two (ResV.tmp (v := .slice _ _ _) rfl) (ResV.tmp (v := .bool false) rfl)) ⟨_, _, rfl, rfl⟩ (Ent.pick [2] [0, 1] rfl)
      · refine LJ.gT rfl ?_
        refine LJ.yd rfl (Yd.not rfl) ?_
        refine LJ.yd rfl (Yd.pickFB rfl rfl) ?_
        refine LJ.nil ?_
        refine CJ.condT rfl ?_
        refine CJ.seq ?_
        refine CJ.region ?_
        refine LJ.yd rfl (Yd.asS rfl) ?_
        refine LJ.yd rfl (Yd.asB rfl) ?_
        refine LJ.nil ?_
        refine CJ.ret ?_
        obtain ⟨e1, e2⟩ := sw_no (q := q) (s := s) (k := k) (by rw [swG]; first | (rw [h15]; rfl) | (rw [show (decide (0 ≤ k) && decide (k < (s.length : Int) - 1)) = false by rw [Bool.and_eq_false_iff, decide_eq_false_iff_not, decide_eq_false_iff_not]; simp at h23; omega, Bool.and_false]))
        unfold SwO
        rw [e1, e2]
        exact Fin.R [_] (Res.two (ResV.tmp (v := .slice _ _ _) rfl) (ResV.tmp (v := .bool false) rfl)) ⟨_, _, rfl, rfl⟩ (Ent.thn (Ent.addLR encI 3 1) (Ent.pick [1] [0] rfl))
    · refine LJ.gT rfl ?_
      refine LJ.yd rfl (Yd.not rfl) ?_
      refine LJ.yd rfl (Yd.pickFB rfl rfl) ?_
      refine LJ.yd rfl (Yd.mvB rfl) ?_
      refine LJ.gF rfl rfl ?_
      refine LJ.gF rfl rfl ?_
      refine LJ.gF rfl rfl ?_
      refine LJ.gF rfl rfl ?_
      refine LJ.gF rfl rfl ?_
      refine LJ.gF rfl rfl ?_
      refine LJ.yd rfl (Yd.pickTB rfl rfl) ?_
      refine LJ.nil ?_
      refine CJ.condT rfl ?_
      refine CJ.seq ?_
      refine CJ.region ?_
      refine LJ.yd rfl (Yd.asS rfl) ?_
      refine LJ.yd rfl (Yd.asB rfl) ?_
      refine LJ.nil ?_
      refine CJ.ret ?_
      obtain ⟨e1, e2⟩ := sw_no (q := q) (s := s) (k := k) (by rw [swG]; first | (rw [h15]; rfl) | (rw [show (decide (0 ≤ k) && decide (k < (s.length : Int) - 1)) = false by rw [Bool.and_eq_false_iff, decide_eq_false_iff_not, decide_eq_false_iff_not]; simp at h23; omega, Bool.and_false]))
      unfold SwO
      rw [e1, e2]
      exact Fin.R [_] (Res.two (ResV.tmp (v := .slice _ _ _) rfl) (ResV.tmp (v := .bool false) rfl)) ⟨_, _, rfl, rfl⟩ (Ent.thn (Ent.addLR encI 3 1) (Ent.pick [1] [0] rfl))
theorem FnExactSwapSteps_ok {A : Amb} {u : PE} {a : Option Addr} {n c : Nat} {l : List Int} {x : Int} (hu : PlF A.h u) (hl : n ≤ 1048576 → RdL encI 1 A.h (.slice a n c) l ∧ n = l.length) :
    Ctr Try.prog 8 #[.agg (encP u).toArray, .slice a n c, vI x] A [] (Val (.bool true)) := by
  refine Ctr.body (args := [_, _, _]) Try.func8 rfl Try.ntmps8 Try.results8 (by simp) ?_
  refine CJ.seq ?_
  refine CJ.region ?_
  refine LJ.boxG (vs := [_, _, _, _, _]) rfl rfl (fun b1 => ?_)
  refine LJ.yd rfl (Yd.asB rfl) ?_
  refine LJ.nil ?_
  refine CJ.seq ?_
  refine CJ.seq ?_
  refine CJ.region ?_
  refine LJ.yd rfl (Yd.mvS rfl) ?_
  refine LJ.yd rfl (Yd.len rfl) ?_
  refine LJ.splitD rfl (Yd.gtr rfl rfl) (fun h21 => ?_) (fun h21 => ?_)
  · refine LJ.nil ?_
    refine CJ.condT rfl ?_
    refine CJ.seq ?_
    refine CJ.region ?_
    refine LJ.yd rfl (Yd.asB rfl) ?_
    refine LJ.nil ?_
    refine CJ.ret ?_
    refine Fin.V (Res.one (ResV.tmp (v := .bool true) rfl)) ?_
    rfl
  · refine LJ.nil ?_
    refine CJ.condF rfl ?_
    refine CJ.skip ?_
    refine CJ.seq ?_
    obtain ⟨hl, rfl⟩ := hl (by omega)
    refine CJ.region ?_
    refine LJ.yd rfl (Yd.asI rfl) ?_
    refine LJ.nil ?_
    refine CJ.seq ?_
    refine CJ.region ?_
    refine LJ.yd rfl (Yd.loadG (us := [_, _, _, _, _]) 0 rfl rfl rfl rfl) ?_
    refine LJ.yd rfl (Yd.mvI rfl) ?_
    refine LJ.call0 rfl (fun k hk dk => szPlan_ok hu _ _ up (by omega) (by omega)) ?_
    rintro _ _ ⟨r24, rfl, rfl, hr24⟩
    refine LJ.yd rfl (Yd.asI rfl) ?_
    refine LJ.nil ?_
    refine CJ.seq ?_
    refine CJ.seq ?_
    refine CJ.region ?_
    refine LJ.yd rfl (Yd.mvI rfl) ?_
    refine LJ.splitD rfl (Yd.lss rfl rfl) (fun h26 => ?_) (fun h26 => ?_)
    · refine LJ.nil ?_
      refine CJ.condT rfl ?_
      refine CJ.seq ?_
      refine CJ.region ?_
      refine LJ.yd rfl (Yd.asB rfl) ?_
      refine LJ.nil ?_
      refine CJ.ret ?_
      refine Fin.V (Res.one (ResV.tmp (v := .bool true) rfl)) ?_
      rfl
    · refine LJ.nil ?_
      refine CJ.condF rfl ?_
      refine CJ.skip ?_
      refine CJ.seq ?_
      obtain ⟨hr1, hr2, pq, hpq, hnq⟩ := hr24.resolve_left (by omega)
      have hwl := swR_len (q := pq) (s := l) (k := x)
      have hnn := nds_nonneg pq
      refine CJ.region ?_
      refine LJ.yd rfl (Yd.loadG (us := [_, _, _, _, _]) 0 rfl rfl rfl rfl) ?_
      refine LJ.call0 rfl (fun k hk dk => toPlan_ok hpq.up (by omega)) ?_
      rintro _ _ ⟨w29, rfl, rfl⟩
      refine LJ.norm [_, _] rfl ?_
      refine LJ.yd rfl (Yd.mvS rfl) ?_
      refine LJ.call0 rfl (fun k hk dk => toIntS_ok (RdRow.up hl) (by omega)) ?_
      rintro _ _ ⟨ra31, rc31, rfl, rfl⟩
      refine LJ.norm [_, _, _] rfl ?_
      refine LJ.yd rfl (Yd.mvI rfl) ?_
      refine LJ.call0 rfl (fun k hk dk => SwapStepsS_ok (Sts.plO hk dk 1 rfl) (Sts.lrm hk dk 2 (by first | rfl | omega | (simp; done) | (simp; omega) | (simp [upN_len]; omega) | (simp [idxBy_len]; omega) | (simp [marks_len]; omega) | (simp [upN_len]; done) | (simp [idxBy_len]; done) | (simp [marks_len]; done) | (simp at *; omega)) (by first | rfl | omega | (simp; done) | (simp; omega) | (simp [upN_len]; omega) | (simp [idxBy_len]; omega) | (simp [marks_len]; omega) | (simp [upN_len]; done) | (simp [idxBy_len]; done) | (simp [marks_len]; done) | (simp at *; omega)) rfl) (by omega)) ?_
      rintro _ _ ⟨wa, wc, rfl, rfl⟩
      refine LJ.norm [_, _, _, _] rfl ?_
      refine LJ.yd rfl (Yd.mvU rfl) ?_
      refine LJ.yd rfl (Yd.extract rfl rfl) ?_
      refine LJ.yd rfl (Yd.extract rfl rfl) ?_
      refine LJ.yd rfl (Yd.asS rfl) ?_
      refine LJ.yd rfl (Yd.asB rfl) ?_
      refine LJ.nil ?_
      refine CJ.seq ?_
      refine CJ.region ?_
      refine LJ.yd rfl (Yd.loadG (us := [_, _, _, _, _]) 0 rfl rfl rfl rfl) ?_
      refine LJ.call0 rfl (fun k hk dk => toPlan_ok hpq.up (by omega)) ?_
      rintro _ _ ⟨w37, rfl, rfl⟩
      refine LJ.norm [_, _, _, _, _] rfl ?_
      refine LJ.alloc ([_, _, _, _, _] : List Value) rfl rfl (fun b3 => ?_)
      refine LJ.store (v := .agg #[_, _, _, _, _]) (us := [_, _, _, _, _]) 5 rfl rfl rfl rfl rfl rfl rfl rfl ?_
      refine LJ.nil ?_
      refine CJ.seq ?_
      refine CJ.region ?_
      refine LJ.yd rfl (Yd.mvS rfl) ?_
      refine LJ.call0 rfl (fun k hk dk => toIntS_ok (RdRow.up hl) (by omega)) ?_
      rintro _ _ ⟨ra39, rc39, rfl, rfl⟩
      refine LJ.norm [_, _, _, _, _, _, _] rfl ?_
      refine LJ.yd rfl (Yd.asS rfl) ?_
      refine LJ.nil ?_
      refine CJ.seq ?_
      refine CJ.region ?_
      refine LJ.yd rfl (Yd.loadG (us := [_, _, _, _, _]) 5 rfl rfl rfl rfl) ?_
      refine LJ.yd rfl (Yd.mvS rfl) ?_
      refine LJ.yd rfl (Yd.mvI rfl) ?_
      refine LJ.call0 rfl (fun k hk dk => SwapStepsI_ok (Sts.plO hk dk 4 rfl) (Sts.lrm hk dk 6 (by first | rfl | omega | (simp; done) | (simp; omega) | (simp [upN_len]; omega) | (simp [idxBy_len]; omega) | (simp [marks_len]; omega) | (simp [upN_len]; done) | (simp [idxBy_len]; done) | (simp [marks_len]; done) | (simp at *; omega)) (by first | rfl | omega | (simp; done) | (simp; omega) | (simp [upN_len]; omega) | (simp [idxBy_len]; omega) | (simp [marks_len]; omega) | (simp [upN_len]; done) | (simp [idxBy_len]; done) | (simp [marks_len]; done) | (simp at *; omega)) rfl) (by omega)) ?_
      rintro _ _ ⟨ga, gc, rfl, rfl⟩
      refine LJ.norm [_, _, _, _, _, _, _, _] rfl ?_
      refine LJ.yd rfl (Yd.mvU rfl) ?_
      refine LJ.yd rfl (Yd.extract rfl rfl) ?_
      refine LJ.yd rfl (Yd.extract rfl rfl) ?_
      refine LJ.yd rfl (Yd.asS rfl) ?_
      refine LJ.yd rfl (Yd.asB rfl) ?_
      refine LJ.nil ?_
      refine CJ.seq ?_
      refine CJ.seq ?_
      refine CJ.region ?_
      refine LJ.yd rfl (Yd.mvS rfl) ?_
      refine LJ.yd rfl (Yd.mvS rfl) ?_
      refine LJ.callV rfl (fun k hk dk => eqIntS_T (Sts.lrm hk dk 7 (by first | rfl | omega | (simp; done) | (simp; omega) | (simp [upN_len]; omega) | (simp [idxBy_len]; omega) | (simp [marks_len]; omega) | (simp [upN_len]; done) | (simp [idxBy_len]; done) | (simp [marks_len]; done) | (simp at *; omega)) (by first | rfl | omega | (simp; done) | (simp; omega) | (simp [upN_len]; omega) | (simp [idxBy_len]; omega) | (simp [marks_len]; omega) | (simp [upN_len]; done) | (simp [idxBy_len]; done) | (simp [marks_len]; done) | (simp at *; omega)) rfl) (Sts.lrm hk dk 3 (by first | rfl | omega | (simp; done) | (simp; omega) | (simp [upN_len]; omega) | (simp [idxBy_len]; omega) | (simp [marks_len]; omega) | (simp [upN_len]; done) | (simp [idxBy_len]; done) | (simp [marks_len]; done) | (simp at *; omega)) (by first | rfl | omega | (simp; done) | (simp; omega) | (simp [upN_len]; omega) | (simp [idxBy_len]; omega) | (simp [marks_len]; omega) | (simp [upN_len]; done) | (simp [idxBy_len]; done) | (simp [marks_len]; done) | (simp at *; omega)) rfl)) ?_
      refine LJ.yd rfl (Yd.not rfl) ?_
      refine LJ.yd rfl (Yd.mvB rfl) ?_
      refine LJ.gT rfl ?_
      refine LJ.yd rfl (Yd.mvB rfl) ?_
      refine LJ.gT rfl ?_
      refine LJ.yd rfl (Yd.mvB rfl) ?_
      refine LJ.gT rfl ?_
      refine LJ.yd rfl (Yd.cmpNF (Yd.neqB rfl rfl) (by simp)) ?_
      refine LJ.yd rfl (Yd.pickFB rfl rfl) ?_
      refine LJ.nil ?_
      refine CJ.condF rfl ?_
      refine CJ.skip ?_
      refine CJ.seq ?_
      refine CJ.seq ?_
      refine CJ.regionD [0, 1, 2, 3, 4, 5, 6, 7] [] (by kernel_rfl) rfl ?_
      refine DJ.norm [_, _, _, _, _, _, _, _] [] rfl rfl ?_
      refine DJ.yd 0 rfl (by kernel_rfl) (by kernel_rfl) (by kernel_rfl) rfl rfl (Yd.loadG (us := [_, _, _, _, _]) 5 rfl rfl rfl rfl) ?_
      refine DJ.yd 1 rfl (by kernel_rfl) (by kernel_rfl) (by kernel_rfl) rfl rfl (Yd.loadG (us := [_, _, _, _, _]) 0 rfl rfl rfl rfl) ?_
      refine DJ.one (i := 2) (by kernel_rfl) ?_
      refine DO.call0 rfl rfl rfl (fun k0 hk0 dk0 k hk dk => toPlan_ok hpq.up (by omega)) ?_
      rintro _ _ ⟨w58, rfl, rfl⟩
      refine DJ.norm [_, _, _, _, _, _, _, _] [_] rfl rfl ?_
      refine DJ.one (i := 3) (by kernel_rfl) ?_
      refine DO.callV rfl rfl rfl (fun k0 hk0 dk0 k hk dk => eqPlan_T ((Sts.plO hk0 dk0 4 rfl).up) (Sts.plO hk dk 0 rfl)) ?_
      refine DJ.yd 4 rfl (by kernel_rfl) (by kernel_rfl) (by kernel_rfl) rfl rfl (Yd.not rfl) ?_
      refine DJ.done (by kernel_rfl) ?_
      refine CJ.condF rfl ?_
      refine CJ.skip ?_
      refine CJ.seq ?_
      refine CJ.seq ?_
      refine CJ.region ?_
      refine LJ.yd rfl (Yd.mvS rfl) ?_
      refine LJ.yd rfl (Yd.mvS rfl) ?_
      refine LJ.call0 rfl (fun k hk dk => toIntS_ok (RdRow.up hl) (by omega)) ?_
      rintro _ _ ⟨ra63, rc63, rfl, rfl⟩
      refine LJ.norm [_, _, _, _, _, _, _, _, _, _] rfl ?_
      refine LJ.callV rfl (fun k hk dk => eqIntS_T (Sts.lrm hk dk 6 (by first | rfl | omega | (simp; done) | (simp; omega) | (simp [upN_len]; omega) | (simp [idxBy_len]; omega) | (simp [marks_len]; omega) | (simp [upN_len]; done) | (simp [idxBy_len]; done) | (simp [marks_len]; done) | (simp at *; omega)) (by first | rfl | omega | (simp; done) | (simp; omega) | (simp [upN_len]; omega) | (simp [idxBy_len]; omega) | (simp [marks_len]; omega) | (simp [upN_len]; done) | (simp [idxBy_len]; done) | (simp [marks_len]; done) | (simp at *; omega)) rfl) (Sts.lrm hk dk 9 (by first | rfl | omega | (simp; done) | (simp; omega) | (simp [upN_len]; omega) | (simp [idxBy_len]; omega) | (simp [marks_len]; omega) | (simp [upN_len]; done) | (simp [idxBy_len]; done) | (simp [marks_len]; done) | (simp at *; omega)) (by first | rfl | omega | (simp; done) | (simp; omega) | (simp [upN_len]; omega) | (simp [idxBy_len]; omega) | (simp [marks_len]; omega) | (simp [upN_len]; done) | (simp [idxBy_len]; done) | (simp [marks_len]; done) | (simp at *; omega)) rfl)) ?_
      refine LJ.yd rfl (Yd.not rfl) ?_
      refine LJ.nil ?_
      refine CJ.condF rfl ?_
      refine CJ.skip ?_
      refine CJ.seq ?_
      refine CJ.region ?_
      refine LJ.yd rfl (Yd.asI rfl) ?_
      refine LJ.nil ?_
      refine CJ.seq ?_
      refine CJ.region ?_
      refine LJ.yd rfl (Yd.loadG (us := [_, _, _, _, _]) 5 rfl rfl rfl rfl) ?_
      refine LJ.yd rfl (Yd.mvI rfl) ?_
      refine LJ.call (pickF _ [0, 1, 2, 3, 5, 6, 7, 8, 9]) (pickF _ [4]) rfl (perm_pickF _ [0, 1, 2, 3, 5, 6, 7, 8, 9] [4] rfl) (fun k hk dk => markPlan_ok (by omega) (by omega) (by omega)) ?_
      rintro _ _ ⟨rfl, rfl⟩
      refine LJ.norm [_, _, _, _, _, _, _, _, _] rfl ?_
      refine LJ.yd rfl (Yd.asI rfl) ?_
      refine LJ.nil ?_
      refine CJ.seq ?_
      refine CJ.region ?_
      refine LJ.yd rfl (Yd.mvS rfl) ?_
      refine LJ.yd rfl (Yd.mvI rfl) ?_
      refine LJ.call (pickF _ [0, 1, 2, 3, 4, 6, 7, 8]) (pickF _ [5]) rfl (perm_pickF _ [0, 1, 2, 3, 4, 6, 7, 8] [5] rfl) (fun k hk dk => markIntS_ok rfl (by omega) (by omega) (by omega)) ?_
      rintro _ _ ⟨rfl, rfl⟩
      refine LJ.norm [_, _, _, _, _, _, _, _, _] rfl ?_
      refine LJ.yd rfl (Yd.asI rfl) ?_
      refine LJ.nil ?_
      refine CJ.seq ?_
      refine CJ.seq ?_
      refine CJ.region ?_
      refine LJ.yd rfl (Yd.mvI rfl) ?_
      refine LJ.splitD rfl (Yd.lss rfl rfl) (fun h73 => ?_) (fun h73 => ?_)
      · exfalso; omega
      · refine LJ.yd rfl (Yd.mvB rfl) ?_
        refine LJ.gT rfl ?_
        refine LJ.yd rfl (Yd.mvS rfl) ?_
        refine LJ.gT rfl ?_
        refine LJ.yd rfl (Yd.mvS rfl) ?_
        refine LJ.gT rfl ?_
        refine LJ.callV rfl (fun k hk dk => eqIntS_T (Sts.lrm hk dk 5 (by first | rfl | omega | (simp; done) | (simp; omega) | (simp [upN_len]; omega) | (simp [idxBy_len]; omega) | (simp [marks_len]; omega) | (simp [upN_len]; done) | (simp [idxBy_len]; done) | (simp [marks_len]; done) | (simp at *; omega)) (by first | rfl | omega | (simp; done) | (simp; omega) | (simp [upN_len]; omega) | (simp [idxBy_len]; omega) | (simp [marks_len]; omega) | (simp [upN_len]; done) | (simp [idxBy_len]; done) | (simp [marks_len]; done) | (simp at *; omega)) rfl) (Sts.lrm hk dk 3 (by first | rfl | omega | (simp; done) | (simp; omega) | (simp [upN_len]; omega) | (simp [idxBy_len]; omega) | (simp [marks_len]; omega) | (simp [upN_len]; done) | (simp [idxBy_len]; done) | (simp [marks_len]; done) | (simp at *; omega)) (by first | rfl | omega | (simp; done) | (simp; omega) | (simp [upN_len]; omega) | (simp [idxBy_len]; omega) | (simp [marks_len]; omega) | (simp [upN_len]; done) | (simp [idxBy_len]; done) | (simp [marks_len]; done) | (simp at *; omega)) rfl)) ?_
        refine LJ.gT rfl ?_
        refine LJ.yd rfl (Yd.not rfl) ?_
        refine LJ.yd rfl (Yd.pickFB rfl rfl) ?_
        refine LJ.yd rfl (Yd.mvB rfl) ?_
        refine LJ.gT rfl ?_
        refine LJ.yd rfl (Yd.mvB rfl) ?_
        refine LJ.gT rfl ?_
        refine LJ.yd rfl (Yd.mvB rfl) ?_
        refine LJ.gT rfl ?_
        refine LJ.yd rfl (Yd.cmpNF (Yd.neqB rfl rfl) (by simp)) ?_
        refine LJ.yd rfl (Yd.pickFB rfl rfl) ?_
        refine LJ.nil ?_
        refine CJ.condF rfl ?_
        refine CJ.skip ?_
        refine CJ.seq ?_
        refine CJ.region ?_
        refine LJ.yd rfl (Yd.asI rfl) ?_
        refine LJ.nil ?_
        refine CJ.seq ?_
        refine CJ.region ?_
        refine LJ.yd rfl (Yd.mvS rfl) ?_
        refine LJ.yd rfl (Yd.mvI rfl) ?_
        refine LJ.call (pickF _ [0, 1, 2, 3, 4, 6, 7, 8]) (pickF _ [5]) rfl (perm_pickF _ [0, 1, 2, 3, 4, 6, 7, 8] [5] rfl) (fun k hk dk => markIntS_ok rfl (by omega) (by omega) (by omega)) ?_
        rintro _ _ ⟨rfl, rfl⟩
        refine LJ.norm [_, _, _, _, _, _, _, _, _] rfl ?_
        refine LJ.yd rfl (Yd.asI rfl) ?_
        refine LJ.nil ?_
        refine CJ.seq ?_
        refine CJ.region ?_
        refine LJ.yd rfl (Yd.asI rfl) ?_
        refine LJ.nil ?_
        refine CJ.seq ?_
        refine CJ.region ?_
        refine LJ.yd rfl (Yd.mvS rfl) ?_
        refine LJ.yd rfl (Yd.mvI rfl) ?_
        refine LJ.callV rfl (fun k hk dk => heldIntS_ok (Sts.lrm hk dk 8 (by first | rfl | omega | (simp; done) | (simp; omega) | (simp [upN_len]; omega) | (simp [idxBy_len]; omega) | (simp [marks_len]; omega) | (simp [upN_len]; done) | (simp [idxBy_len]; done) | (simp [marks_len]; done) | (simp at *; omega)) (by first | rfl | omega | (simp; done) | (simp; omega) | (simp [upN_len]; omega) | (simp [idxBy_len]; omega) | (simp [marks_len]; omega) | (simp [upN_len]; done) | (simp [idxBy_len]; done) | (simp [marks_len]; done) | (simp at *; omega)) rfl) (by omega) (by omega) (by omega)) ?_
        refine LJ.yd rfl (Yd.asI rfl) ?_
        refine LJ.nil ?_
        refine CJ.seq ?_
        refine CJ.seq ?_
        refine CJ.region ?_
        refine LJ.yd rfl (Yd.mvI rfl) ?_
        refine LJ.splitD rfl (Yd.lss rfl rfl) (fun h92 => ?_) (fun h92 => ?_)
        · exfalso; omega
        · refine LJ.nil ?_
          refine CJ.condF rfl ?_
          refine CJ.skip ?_
          refine CJ.seq ?_
          refine CJ.seq ?_
          refine CJ.region ?_
          refine LJ.yd rfl (Yd.mvI rfl) ?_
          refine LJ.yd rfl (Yd.mvI rfl) ?_
          refine LJ.splitN rfl (Yd.neq rfl rfl) (fun h95 => ?_) (fun h95 => ?_)
          · exfalso; omega
          · refine LJ.nil ?_
            refine CJ.condF rfl ?_
            refine CJ.skip ?_
            refine CJ.seq ?_
            refine CJ.region ?_
            refine LJ.yd rfl (Yd.loadG (us := [_, _, _, _, _]) 0 rfl rfl rfl rfl) ?_
            refine LJ.call0 rfl (fun k hk dk => toPlan_ok hpq.up (by omega)) ?_
            rintro _ _ ⟨w98, rfl, rfl⟩
            refine LJ.norm [_, _, _, _, _, _, _, _, _, _] rfl ?_
            refine LJ.yd rfl (Yd.mvS rfl) ?_
            refine LJ.call0 rfl (fun k hk dk => toIntS_ok (RdRow.up hl) (by omega)) ?_
            rintro _ _ ⟨ra100, rc100, rfl, rfl⟩
            refine LJ.norm [_, _, _, _, _, _, _, _, _, _, _] rfl ?_
            refine LJ.yd rfl (Yd.mvI rfl) ?_
            refine LJ.call0 rfl (fun k hk dk => SwapStepsI_ok (Sts.plO hk dk 9 rfl) (Sts.lrm hk dk 10 (by first | rfl | omega | (simp; done) | (simp; omega) | (simp [upN_len]; omega) | (simp [idxBy_len]; omega) | (simp [marks_len]; omega) | (simp [upN_len]; done) | (simp [idxBy_len]; done) | (simp [marks_len]; done) | (simp at *; omega)) (by first | rfl | omega | (simp; done) | (simp; omega) | (simp [upN_len]; omega) | (simp [idxBy_len]; omega) | (simp [marks_len]; omega) | (simp [upN_len]; done) | (simp [idxBy_len]; done) | (simp [marks_len]; done) | (simp at *; omega)) rfl) (by omega)) ?_
            rintro _ _ ⟨ha2, hc2, rfl, rfl⟩
            refine LJ.norm [_, _, _, _, _, _, _, _, _, _, _, _] rfl ?_
            refine LJ.yd rfl (Yd.mvU rfl) ?_
            refine LJ.yd rfl (Yd.extract rfl rfl) ?_
            refine LJ.yd rfl (Yd.extract rfl rfl) ?_
            refine LJ.yd rfl (Yd.asS rfl) ?_
            refine LJ.yd rfl (Yd.asB rfl) ?_
            refine LJ.nil ?_
            refine CJ.seq ?_
            refine CJ.seq ?_
            refine CJ.region ?_
            refine LJ.yd rfl (Yd.mvS rfl) ?_
            refine LJ.yd rfl (Yd.mvS rfl) ?_
            refine LJ.callV rfl (fun k hk dk => eqIntS_T (Sts.lrm hk dk 11 (by first | rfl | omega | (simp; done) | (simp; omega) | (simp [upN_len]; omega) | (simp [idxBy_len]; omega) | (simp [marks_len]; omega) | (simp [upN_len]; done) | (simp [idxBy_len]; done) | (simp [marks_len]; done) | (simp at *; omega)) (by first | rfl | omega | (simp; done) | (simp; omega) | (simp [upN_len]; omega) | (simp [idxBy_len]; omega) | (simp [marks_len]; omega) | (simp [upN_len]; done) | (simp [idxBy_len]; done) | (simp [marks_len]; done) | (simp at *; omega)) rfl) (Sts.lrm hk dk 3 (by first | rfl | omega | (simp; done) | (simp; omega) | (simp [upN_len]; omega) | (simp [idxBy_len]; omega) | (simp [marks_len]; omega) | (simp [upN_len]; done) | (simp [idxBy_len]; done) | (simp [marks_len]; done) | (simp at *; omega)) (by first | rfl | omega | (simp; done) | (simp; omega) | (simp [upN_len]; omega) | (simp [idxBy_len]; omega) | (simp [marks_len]; omega) | (simp [upN_len]; done) | (simp [idxBy_len]; done) | (simp [marks_len]; done) | (simp at *; omega)) rfl)) ?_
            refine LJ.yd rfl (Yd.not rfl) ?_
            refine LJ.yd rfl (Yd.mvB rfl) ?_
            refine LJ.gT rfl ?_
            refine LJ.yd rfl (Yd.mvB rfl) ?_
            refine LJ.gT rfl ?_
            refine LJ.yd rfl (Yd.mvB rfl) ?_
            refine LJ.gT rfl ?_
            refine LJ.yd rfl (Yd.cmpNF (Yd.neqB rfl rfl) (by simp)) ?_
            refine LJ.yd rfl (Yd.pickFB rfl rfl) ?_
            refine LJ.nil ?_
            refine CJ.condF rfl ?_
            refine CJ.skip ?_
            refine CJ.seq ?_
            refine CJ.region ?_
            refine LJ.yd rfl (Yd.asI rfl) ?_
            refine LJ.nil ?_
            refine CJ.seq ?_
            refine CJ.region ?_
            refine LJ.yd rfl (Yd.mvS rfl) ?_
            refine LJ.yd rfl (Yd.mvI rfl) ?_
            refine LJ.callV rfl (fun k hk dk => heldIntS_ok (Sts.lrm hk dk 8 (by first | rfl | omega | (simp; done) | (simp; omega) | (simp [upN_len]; omega) | (simp [idxBy_len]; omega) | (simp [marks_len]; omega) | (simp [upN_len]; done) | (simp [idxBy_len]; done) | (simp [marks_len]; done) | (simp at *; omega)) (by first | rfl | omega | (simp; done) | (simp; omega) | (simp [upN_len]; omega) | (simp [idxBy_len]; omega) | (simp [marks_len]; omega) | (simp [upN_len]; done) | (simp [idxBy_len]; done) | (simp [marks_len]; done) | (simp at *; omega)) rfl) (by omega) (by omega) (by omega)) ?_
            refine LJ.yd rfl (Yd.asI rfl) ?_
            refine LJ.nil ?_
            refine CJ.seq ?_
            refine CJ.seq ?_
            refine CJ.region ?_
            refine LJ.yd rfl (Yd.mvI rfl) ?_
            refine LJ.splitD rfl (Yd.lss rfl rfl) (fun h118 => ?_) (fun h118 => ?_)
            · exfalso; omega
            · refine LJ.nil ?_
              refine CJ.condF rfl ?_
              refine CJ.skip ?_
              refine CJ.seq ?_
              refine CJ.seq ?_
              refine CJ.region ?_
              refine LJ.yd rfl (Yd.mvI rfl) ?_
              refine LJ.yd rfl (Yd.mvI rfl) ?_
              refine LJ.splitN rfl (Yd.neq rfl rfl) (fun h121 => ?_) (fun h121 => ?_)
              · exfalso; omega
              · refine LJ.nil ?_
                refine CJ.condF rfl ?_
                refine CJ.skip ?_
                refine CJ.seq ?_
                refine CJ.region ?_
                refine LJ.yd rfl (Yd.asB rfl) ?_
                refine LJ.nil ?_
                refine CJ.ret ?_
                refine Fin.V (Res.one (ResV.tmp (v := .bool true) rfl)) ?_
                rfl
end Go.Proofs.Ytfnnhekbgjofoaa
