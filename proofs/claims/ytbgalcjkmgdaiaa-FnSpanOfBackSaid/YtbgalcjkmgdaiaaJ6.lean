/-
  The laws on best orders and on time turned round.
-/
import Derived.Test.YtbgalcjkmgdaiaaJ5
namespace Go.Proofs.Ytbgalcjkmgdaiaa
open Go
set_option maxRecDepth 20000
set_option maxHeartbeats 1000000

theorem set_swap {l : List Int} {k : Nat} {a b : Int} (ha : l[k]? = some a) (hb : l[k + 1]? = some b) : ((l.set k b).set (k + 1) a).Perm l := by
  have e : l = l.take k ++ a :: b :: l.drop (k + 2) := by
    conv => lhs; rw [← List.take_append_drop k l, dropC ha, dropC hb]
  have hk : (l.take k).length = k := by rw [List.length_take]; have := ltC ha; omega
  have e2 : (l.set k b).set (k + 1) a = l.take k ++ b :: a :: l.drop (k + 2) := by
    conv => lhs; rw [e]
    rw [List.set_append_right _ _ (by omega), hk, Nat.sub_self, List.set_cons_zero, List.set_append_right _ _ (by omega), hk, show k + 1 - k = 0 + 1 by omega, List.set_cons_succ, List.set_cons_zero]
  rw [e2]
  conv => rhs; rw [e]
  exact (List.Perm.swap _ _ _).append_left _
theorem equalInts_eq {A : Amb} {v w : Value} {l : List Int} (hl : RdL encI 1 A.h v l) (hl2 : RdL encI 1 A.h w l) : Ctr Try.prog 22 #[v, w] A [] (Val (.bool true)) := by
  have := equalInts_ok hl hl2
  rwa [decide_eq_true rfl] at this
theorem ValidTurn_t {A : Amb} {v : Value} {l : List Int} (hl : RdL encI 1 A.h v l) (h : OrdP l l.length) (hn : l.length ≤ 24) : Ctr Try.prog 38 #[v] A [] (Val (.bool true)) := by
  obtain ⟨la, lc, rfl, hlb, hl⟩ := hl.un
  refine Ctr.body (args := [_]) Try.func38 rfl Try.ntmps38 Try.results38 (by simp) ?_
  refine CJ.seq ?_
  refine CJ.region ?_
  refine LJ.yd rfl (Yd.asB rfl) ?_
  refine LJ.nil ?_
  refine CJ.seq ?_
  refine CJ.region ?_
  refine LJ.yd rfl (Yd.mvS rfl) ?_
  refine LJ.yd rfl (Yd.len rfl) ?_
  refine LJ.splitD rfl (Yd.leq rfl rfl) (fun h5 => ?_) (fun h5 => ?_)
  · refine LJ.yd rfl (Yd.mvB rfl) ?_
    refine LJ.gT rfl ?_
    refine LJ.yd rfl (Yd.mvS rfl) ?_
    refine LJ.gT rfl ?_
    refine LJ.yd rfl (Yd.mvS rfl) ?_
    refine LJ.gT rfl ?_
    refine LJ.yd rfl (Yd.len rfl) ?_
    refine LJ.gT rfl ?_
    refine LJ.callV rfl (fun k hk dk => decide_eq_true h ▸ isOrder_ok (RdRow.up hl) (by omega)) ?_
    refine LJ.yd rfl (Yd.pickTB rfl rfl) ?_
    refine LJ.yd rfl (Yd.asB rfl) ?_
    refine LJ.nil ?_
    refine CJ.ret ?_
    refine Fin.V (Res.one (ResV.tmp (v := .bool true) rfl)) ?_
    rfl
  · exfalso; omega
theorem boR_len (l : List Job) : (boR l).length ≤ l.length := by
  unfold boR
  split
  · rw [idxBy_len]; exact Nat.le_refl _
  · simp
theorem ordP_perm {o p : List Int} {n : Nat} (h : OrdP o n) (hp : p.Perm o) : OrdP p n := ⟨hp.length_eq.trans h.1, hp.nodup_iff.2 h.2.1, fun x hx => h.2.2 x (hp.mem_iff.1 hx)⟩
theorem FnBestOrder_ok {A : Amb} {a : Option Addr} {n c : Nat} (hc : Code A.h a n c) : Ctr Try.prog 11 #[.slice a n c] A [] (Val (.bool true)) := by
  refine Ctr.body (args := [_]) Try.func11 rfl Try.ntmps11 Try.results11 (by simp) ?_
  refine CJ.seq ?_
  refine CJ.region ?_
  refine LJ.yd rfl (Yd.asB rfl) ?_
  refine LJ.nil ?_
  refine CJ.seq ?_
  refine CJ.seq ?_
  refine CJ.region ?_
  refine LJ.yd rfl (Yd.mvS rfl) ?_
  refine LJ.yd rfl (Yd.len rfl) ?_
  refine LJ.splitD rfl (Yd.gtr rfl rfl) (fun h10 => ?_) (fun h10 => ?_)
  · refine LJ.nil ?_
    refine CJ.condT rfl ?_
    refine CJ.seq ?_
    refine CJ.region ?_
    refine LJ.yd rfl (Yd.asB rfl) ?_
    refine LJ.nil ?_
    refine CJ.ret ?_
    refine Fin.V (Res.one (ResV.tmp (v := .bool true) rfl)) ?_
    rfl
  · refine LJ.nil ?_
    refine CJ.condF rfl ?_
    refine CJ.skip ?_
    refine CJ.seq ?_
    refine CJ.region ?_
    refine LJ.yd rfl (Yd.mvS rfl) ?_
    refine LJ.call0 rfl (fun k hk dk => DrawBestOrder_ok hc.up) ?_
    rintro _ _ ⟨l, aa, m, cc, rfl, rfl, rfl, hl1⟩
    refine LJ.norm [_] rfl ?_
    refine LJ.yd rfl (Yd.asS rfl) ?_
    refine LJ.nil ?_
    refine CJ.seq ?_
    refine CJ.amb (perm_pickF _ [0] [] rfl) (fun ml wl dl => ?_)
    refine CJ.norm [] rfl ?_
    have hl := Row.toA (enc := Job.enc) wl dl (by first | rfl | omega | (simp; done) | (simp; omega) | (simp [upN_len]; omega) | (simp [idxBy_len]; omega) | (simp [marks_len]; omega) | (simp [upN_len]; done) | (simp [idxBy_len]; done) | (simp [marks_len]; done) | (simp at *; omega))
    have hbl0 := boR_len l
    refine CJ.region ?_
    refine LJ.yd rfl (Yd.mvS rfl) ?_
    refine LJ.call0 rfl (fun k hk dk => BestOrderI_ok (RdRow.up hl)) ?_
    rintro _ _ ⟨ra14, rc14, rfl, rfl⟩
    refine LJ.norm [_] rfl ?_
    refine LJ.yd rfl (Yd.asS rfl) ?_
    refine LJ.nil ?_
    refine CJ.seq ?_
    refine CJ.seq ?_
    refine CJ.region ?_
    refine LJ.yd rfl (Yd.mvS rfl) ?_
    refine LJ.yd rfl (Yd.mvS rfl) ?_
    refine LJ.call0 rfl (fun k hk dk => BestOrderS_ok (RdRow.up hl)) ?_
    rintro _ _ ⟨ra17, rc17, rfl, rfl⟩
    refine LJ.norm [_, _] rfl ?_
    refine LJ.callV rfl (fun k hk dk => equalInts_eq (Sts.lrm hk dk 0 (by first | omega | (simp; omega)) (by first | rfl | omega | (simp; done) | (simp; omega) | (simp [upN_len]; omega) | (simp [idxBy_len]; omega) | (simp [marks_len]; omega) | (simp [upN_len]; done) | (simp [idxBy_len]; done) | (simp [marks_len]; done) | (simp at *; omega)) rfl) (Sts.lrm hk dk 1 (by first | omega | (simp; omega)) (by first | rfl | omega | (simp; done) | (simp; omega) | (simp [upN_len]; omega) | (simp [idxBy_len]; omega) | (simp [marks_len]; omega) | (simp [upN_len]; done) | (simp [idxBy_len]; done) | (simp [marks_len]; done) | (simp at *; omega)) rfl)) ?_
    refine LJ.yd rfl (Yd.not rfl) ?_
    refine LJ.yd rfl (Yd.mvB rfl) ?_
    refine LJ.gT rfl ?_
    refine LJ.yd rfl (Yd.mvS rfl) ?_
    refine LJ.gT rfl ?_
    refine LJ.callB rfl (fun k hk dk => ValidJobs_ok (RdRow.up hl)) (fun h22 => ?_) (fun h22 => ?_)
    · refine LJ.gT rfl ?_
      refine LJ.yd rfl (Yd.not rfl) ?_
      refine LJ.yd rfl (Yd.pickFB rfl rfl) ?_
      refine LJ.nil ?_
      refine CJ.condF rfl ?_
      refine CJ.skip ?_
      refine CJ.seq ?_
      have hbl : (boR l).length = l.length := by rw [boR_t h22, idxBy_len]
      refine CJ.region ?_
      refine LJ.yd rfl (Yd.mvS rfl) ?_
      refine LJ.yd rfl (Yd.mvS rfl) ?_
      refine LJ.callV rfl (fun k hk dk => SpanOf_v (RdRow.up hl) (Sts.lrm hk dk 0 (by first | omega | (simp; omega)) (by first | rfl | omega | (simp; done) | (simp; omega) | (simp [upN_len]; omega) | (simp [idxBy_len]; omega) | (simp [marks_len]; omega) | (simp [upN_len]; done) | (simp [idxBy_len]; done) | (simp [marks_len]; done) | (simp at *; omega)) rfl) (by omega) (spR_bo h22)) ?_
      refine LJ.yd rfl (Yd.asI rfl) ?_
      refine LJ.nil ?_
      refine CJ.seq ?_
      refine CJ.seq ?_
      refine CJ.region ?_
      refine LJ.yd rfl (Yd.asI rfl) ?_
      refine LJ.nil ?_
      refine CJ.block ?_
      refine CJ.loopK [3, 4, 5] Nat (fun k => (k < (boR l).length ∨ k = 0)) (fun k => [(6, vI k)]) (fun k => (boR l).length - k) (0) ?_ ⟨rfl, trivial⟩ ?_
      · exact by omega
      · rintro k σ hk1
        refine CJ.seq ?_
        refine CJ.seq ?_
        refine CJ.region ?_
        refine LJ.yd rfl (Yd.mvI rfl) ?_
        refine LJ.yd rfl (Yd.add rfl rfl (by unfold I64; omega)) ?_
        refine LJ.yd rfl (Yd.mvS rfl) ?_
        refine LJ.yd rfl (Yd.len rfl) ?_
        refine LJ.splitD rfl (Yd.lss rfl rfl) (fun h36 => ?_) (fun h36 => ?_)
        · refine LJ.nil ?_
          refine CJ.condT rfl ?_
          refine CJ.skip ?_
          refine CJ.seq ?_
          refine CJ.block ?_
          refine CJ.seq ?_
          refine CJ.region ?_
          refine LJ.op rfl (OpR.buildSlice (cs := []) rfl rfl) ?_
          rintro _ _ ⟨b3, rfl, rfl⟩
          refine LJ.yd rfl (Yd.mvS rfl) ?_
          refine LJ.imp1 2 rfl (fun _ h => Cel.lr (enc := encI) (k := 1) (m := 0) [] rfl rfl rfl rfl h) ?_
          refine LJ.norm [_, _, _] rfl ?_
          refine LJ.op rfl (OpR.apR (enc := encI) 2 0 rfl rfl rfl (by first | rfl | omega | (simp; done) | (simp; omega) | (simp [upN_len]; omega) | (simp [idxBy_len]; omega) | (simp [marks_len]; omega) | (simp [upN_len]; done) | (simp [idxBy_len]; done) | (simp [marks_len]; done) | (simp at *; omega)) rfl (by first | rfl | omega | (simp; done) | (simp; omega) | (simp [upN_len]; omega) | (simp [idxBy_len]; omega) | (simp [marks_len]; omega) | (simp [upN_len]; done) | (simp [idxBy_len]; done) | (simp [marks_len]; done) | (simp at *; omega)) (fun _ => rfl) (by first | rfl | omega | (simp; done) | (simp; omega) | (simp [upN_len]; omega) | (simp [idxBy_len]; omega) | (simp [marks_len]; omega) | (simp [upN_len]; done) | (simp [idxBy_len]; done) | (simp [marks_len]; done) | (simp at *; omega))) ?_
          rintro _ _ ⟨ra41, rc41, rfl, rfl⟩
          refine LJ.norm [_, _, _] rfl ?_
          refine LJ.yd rfl (Yd.asS rfl) ?_
          refine LJ.nil ?_
          refine CJ.seq ?_
          refine CJ.region ?_
          refine LJ.yd rfl (Yd.mvS rfl) ?_
          refine LJ.yd rfl (Yd.mvI rfl) ?_
          refine LJ.yd rfl (Yd.mvS rfl) ?_
          refine LJ.yd rfl (Yd.mvI rfl) ?_
          refine LJ.yd rfl (Yd.add rfl rfl (by unfold I64; omega)) ?_
          refine LJ.idxR 0 rfl rfl rfl rfl (by omega) (by first | rfl | omega | (simp; done) | (simp; omega) | (simp [upN_len]; omega) | (simp [idxBy_len]; omega) | (simp [marks_len]; omega) | (simp [upN_len]; done) | (simp [idxBy_len]; done) | (simp [marks_len]; done) | (simp at *; omega)) (by first | rfl | omega | (simp; done) | (simp; omega) | (simp [upN_len]; omega) | (simp [idxBy_len]; omega) | (simp [marks_len]; omega) | (simp [upN_len]; done) | (simp [idxBy_len]; done) | (simp [marks_len]; done) | (simp at *; omega)) (fun ib47 ia47 => ?_)
          refine LJ.ldR (j := k + 1) 0 0 (fun u => vI u) (fun _ => rfl) rfl ia47 rfl rfl rfl (by first | rfl | omega | (simp; done) | (simp; omega) | (simp [upN_len]; omega) | (simp [idxBy_len]; omega) | (simp [marks_len]; omega) | (simp [upN_len]; done) | (simp [idxBy_len]; done) | (simp [marks_len]; done) | (simp at *; omega)) (fun u48 hu48 => ?_)
          try simp only [Int.toNat_natCast] at hu48
          refine LJ.idxR 2 rfl rfl rfl rfl (by omega) (by first | rfl | omega | (simp; done) | (simp; omega) | (simp [upN_len]; omega) | (simp [idxBy_len]; omega) | (simp [marks_len]; omega) | (simp [upN_len]; done) | (simp [idxBy_len]; done) | (simp [marks_len]; done) | (simp at *; omega)) (by first | rfl | omega | (simp; done) | (simp; omega) | (simp [upN_len]; omega) | (simp [idxBy_len]; omega) | (simp [marks_len]; omega) | (simp [upN_len]; done) | (simp [idxBy_len]; done) | (simp [marks_len]; done) | (simp at *; omega)) (fun ib49 ia49 => ?_)
          refine LJ.op rfl (OpR.st1 (enc := encI) (e1 := fun u => vI u) 2 (fun _ => rfl) (fun _ => rfl) (fun _ => rfl) rfl ia49 rfl rfl rfl (by first | rfl | omega | (simp; done) | (simp; omega) | (simp [upN_len]; omega) | (simp [idxBy_len]; omega) | (simp [marks_len]; omega) | (simp [upN_len]; done) | (simp [idxBy_len]; done) | (simp [marks_len]; done) | (simp at *; omega))) ?_
          rintro _ _ ⟨rfl, rfl⟩
          refine LJ.norm [_, _, _] rfl ?_
          refine LJ.nil ?_
          refine CJ.seq ?_
          refine CJ.region ?_
          refine LJ.yd rfl (Yd.mvS rfl) ?_
          refine LJ.yd rfl (Yd.mvI rfl) ?_
          refine LJ.yd rfl (Yd.add rfl rfl (by unfold I64; omega)) ?_
          refine LJ.yd rfl (Yd.mvS rfl) ?_
          refine LJ.yd rfl (Yd.mvI rfl) ?_
          refine LJ.idxR 0 rfl rfl rfl rfl (by omega) (by first | rfl | omega | (simp; done) | (simp; omega) | (simp [upN_len]; omega) | (simp [idxBy_len]; omega) | (simp [marks_len]; omega) | (simp [upN_len]; done) | (simp [idxBy_len]; done) | (simp [marks_len]; done) | (simp at *; omega)) (by first | rfl | omega | (simp; done) | (simp; omega) | (simp [upN_len]; omega) | (simp [idxBy_len]; omega) | (simp [marks_len]; omega) | (simp [upN_len]; done) | (simp [idxBy_len]; done) | (simp [marks_len]; done) | (simp at *; omega)) (fun ib55 ia55 => ?_)
          refine LJ.ldR 0 0 (fun u => vI u) (fun _ => rfl) rfl ia55 rfl rfl rfl (by first | rfl | omega | (simp; done) | (simp; omega) | (simp [upN_len]; omega) | (simp [idxBy_len]; omega) | (simp [marks_len]; omega) | (simp [upN_len]; done) | (simp [idxBy_len]; done) | (simp [marks_len]; done) | (simp at *; omega)) (fun u56 hu56 => ?_)
          try simp only [Int.toNat_natCast] at hu56
          refine LJ.idxR 2 rfl rfl rfl rfl (by omega) (by first | rfl | omega | (simp; done) | (simp; omega) | (simp [upN_len]; omega) | (simp [idxBy_len]; omega) | (simp [marks_len]; omega) | (simp [upN_len]; done) | (simp [idxBy_len]; done) | (simp [marks_len]; done) | (simp at *; omega)) (by first | rfl | omega | (simp; done) | (simp; omega) | (simp [upN_len]; omega) | (simp [idxBy_len]; omega) | (simp [marks_len]; omega) | (simp [upN_len]; done) | (simp [idxBy_len]; done) | (simp [marks_len]; done) | (simp at *; omega)) (fun ib57 ia57 => ?_)
          refine LJ.op rfl (OpR.st1 (j := k + 1) (enc := encI) (e1 := fun u => vI u) 2 (fun _ => rfl) (fun _ => rfl) (fun _ => rfl) rfl ia57 rfl rfl rfl (by first | rfl | omega | (simp; done) | (simp; omega) | (simp [upN_len]; omega) | (simp [idxBy_len]; omega) | (simp [marks_len]; omega) | (simp [upN_len]; done) | (simp [idxBy_len]; done) | (simp [marks_len]; done) | (simp at *; omega))) ?_
          rintro _ _ ⟨rfl, rfl⟩
          refine LJ.norm [_, _, _] rfl ?_
          refine LJ.nil ?_
          refine CJ.seq ?_
          have hperm : (((boR l).set k u48).set (k + 1) u56).Perm (boR l) := set_swap hu56 hu48
          have hge : spn 0 0 (bj l) ≤ spR l ((([] ++ boR l).set (k : Int).toNat u48).set (k + 1) u56) := by
            have e : (([] ++ boR l).set (k : Int).toNat u48).set (k + 1) u56 = ((boR l).set k u48).set (k + 1) u56 := rfl
            rw [boR_t h22] at hperm e
            have ho := ordP_perm (ordP_bo l) hperm
            rw [boR_t h22, e, spR, if_pos ⟨h22, ho⟩]
            exact bj_le ((hperm.map (gj l)).trans (bj_perm l)) (jn_of h22)
          refine CJ.region ?_
          refine LJ.yd rfl (Yd.mvS rfl) ?_
          refine LJ.yd rfl (Yd.mvS rfl) ?_
          refine LJ.callV rfl (fun k hk dk => SpanOfI_ok (RdRow.up hl) (Sts.lrm hk dk 2 (by first | omega | (simp; omega)) (by first | rfl | omega | (simp; done) | (simp; omega) | (simp [upN_len]; omega) | (simp [idxBy_len]; omega) | (simp [marks_len]; omega) | (simp [upN_len]; done) | (simp [idxBy_len]; done) | (simp [marks_len]; done) | (simp at *; omega)) rfl) (by omega)) ?_
          refine LJ.yd rfl (Yd.mvI rfl) ?_
          refine LJ.splitD rfl (Yd.lss rfl rfl) (fun h62 => ?_) (fun h62 => ?_)
          · exfalso; omega
          · refine LJ.nil ?_
            refine CJ.condF rfl ?_
            refine CJ.skip ?_
            refine CJ.region ?_
            refine LJ.yd rfl (Yd.mvI rfl) ?_
            refine LJ.yd rfl (Yd.add rfl rfl (by unfold I64; omega)) ?_
            refine LJ.yd rfl (Yd.asI rfl) ?_
            refine LJ.nil ?_
            refine ⟨(k + 1), ?_, ⟨rfl, rfl, rfl, trivial⟩, ⟨rfl, trivial⟩, Ent.pick [0, 1] [2] rfl, ?_⟩
            · omega
            · first | omega | (dsimp only; omega) | (simp only []; omega)
        · refine LJ.nil ?_
          refine CJ.condF rfl ?_
          refine CJ.exit ?_
          refine CJ.seq ?_
          refine CJ.region ?_
          refine LJ.yd rfl (Yd.mvS rfl) ?_
          refine LJ.callV rfl (fun k hk dk => ValidTurn_t (Sts.lrm hk dk 0 (by first | omega | (simp; omega)) (by first | rfl | omega | (simp; done) | (simp; omega) | (simp [upN_len]; omega) | (simp [idxBy_len]; omega) | (simp [marks_len]; omega) | (simp [upN_len]; done) | (simp [idxBy_len]; done) | (simp [marks_len]; done) | (simp at *; omega)) rfl) (by rw [hbl, boR_t h22]; exact ordP_bo l) (by omega)) ?_
          refine LJ.yd rfl (Yd.mvB rfl) ?_
          refine LJ.gT rfl ?_
          refine LJ.yd rfl (Yd.mvS rfl) ?_
          refine LJ.gT rfl ?_
          refine LJ.yd rfl (Yd.len rfl) ?_
          refine LJ.gT rfl ?_
          refine LJ.yd rfl (Yd.mvS rfl) ?_
          refine LJ.gT rfl ?_
          refine LJ.yd rfl (Yd.len rfl) ?_
          refine LJ.gT rfl ?_
          refine LJ.splitD rfl (Yd.eql rfl rfl) (fun h70 => ?_) (fun h70 => ?_)
          · refine LJ.yd rfl (Yd.pickTB rfl rfl) ?_
            refine LJ.yd rfl (Yd.asB rfl) ?_
            refine LJ.nil ?_
            refine CJ.ret ?_
            refine Fin.V (Res.one (ResV.tmp (v := .bool true) rfl)) ?_
            rfl
          · exfalso; omega
    · refine LJ.gT rfl ?_
      refine LJ.yd rfl (Yd.not rfl) ?_
      refine LJ.yd rfl (Yd.pickFB rfl rfl) ?_
      refine LJ.nil ?_
      refine CJ.condT rfl ?_
      refine CJ.seq ?_
      refine CJ.region ?_
      refine LJ.yd rfl (Yd.mvS rfl) ?_
      refine LJ.yd rfl (Yd.mvS rfl) ?_
      refine LJ.call0 rfl (fun k hk dk => BestOrderS_ok (RdRow.up hl)) ?_
      rintro _ _ ⟨ra27, rc27, rfl, rfl⟩
      refine LJ.norm [_, _, _] rfl ?_
      refine LJ.callV rfl (fun k hk dk => equalInts_eq (Sts.lrm hk dk 0 (by first | omega | (simp; omega)) (by first | rfl | omega | (simp; done) | (simp; omega) | (simp [upN_len]; omega) | (simp [idxBy_len]; omega) | (simp [marks_len]; omega) | (simp [upN_len]; done) | (simp [idxBy_len]; done) | (simp [marks_len]; done) | (simp at *; omega)) rfl) (Sts.lrm hk dk 2 (by first | omega | (simp; omega)) (by first | rfl | omega | (simp; done) | (simp; omega) | (simp [upN_len]; omega) | (simp [idxBy_len]; omega) | (simp [marks_len]; omega) | (simp [upN_len]; done) | (simp [idxBy_len]; done) | (simp [marks_len]; done) | (simp at *; omega)) rfl)) ?_
      refine LJ.yd rfl (Yd.asB rfl) ?_
      refine LJ.nil ?_
      refine CJ.ret ?_
      refine Fin.V (Res.one (ResV.tmp (v := .bool true) rfl)) ?_
      rfl
end Go.Proofs.Ytbgalcjkmgdaiaa
