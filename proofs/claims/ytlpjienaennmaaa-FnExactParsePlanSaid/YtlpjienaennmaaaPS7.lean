/-
  The given answer to a text of a plan.
-/
import Derived.Test.YtlpjienaennmaaaPS6
namespace Go.Proofs.Ytlpjienaennmaaa
open Go
set_option maxRecDepth 20000
set_option maxHeartbeats 1000000

theorem countable_ok' (N : Nat) : ∀ (q : Plan), SizeOf.sizeOf q < N → ∀ (u : PE) (B : Amb), RdPlan B.h (encP u) q → Ctr Try.prog 98 #[.agg (encP u).toArray] B [] (Val (.bool (cnP q))) := by
  induction N with
  | zero => intro q h; omega
  | succ N ih =>
  intro q hN u B hq
  obtain ⟨es, kids, e, hl, hkk, hn, ho, ha, hp⟩ := hq.kidsL
  obtain ⟨uo, ua, up2, ut, ux, un, uc⟩ := u
  dsimp only at e hl hn ho ha hp
  subst e
  have hkl := hkk.length
  rw [List.length_map] at hkl
  have hmem : ∀ q ∈ kids, SizeOf.sizeOf q < N := fun q hm => by
    have h1 := List.sizeOf_lt_of_mem hm
    simp only [Plan.mk.sizeOf_spec] at hN
    omega
  have hll := hl.len
  subst hn
  show Ctr _ _ #[.agg #[vI uo, vI ua, vI up2, .bool ut, .slice ux es.length uc]] B [] _
  refine Ctr.body (args := [_]) Try.func98 rfl Try.ntmps98 Try.results98 (by simp) ?_
  refine CJ.seq ?_
  refine CJ.region ?_
  refine LJ.boxG (vs := [_, _, _, _, _]) rfl rfl (fun b1 => ?_)
  refine LJ.yd rfl (Yd.asB rfl) ?_
  refine LJ.nil ?_
  refine CJ.seq ?_
  refine CJ.seq ?_
  refine CJ.region ?_
  refine LJ.yd rfl (Yd.asI rfl) ?_
  refine LJ.nil ?_
  refine CJ.block ?_
  refine CJ.loopK [1] Nat (fun k => k ≤ es.length ∧ cnPs (kids.take k) = true) (fun k => [(3, vI k)]) (fun k => es.length - k) (0) ?_ ⟨rfl, trivial⟩ ?_
  · exact ⟨by omega, rfl⟩
  · rintro k σ ⟨hk1, hc⟩
    refine CJ.seq ?_
    refine CJ.seq ?_
    refine CJ.region ?_
    refine LJ.yd rfl (Yd.mvI rfl) ?_
    refine LJ.yd rfl (Yd.fieldAddr rfl) ?_
    refine LJ.yd rfl (Yd.loadC 0 rfl rfl rfl) ?_
    refine LJ.yd rfl (Yd.len rfl) ?_
    refine LJ.splitD rfl (Yd.lss rfl rfl) (fun h8 => ?_) (fun h8 => ?_)
    · refine LJ.nil ?_
      refine CJ.condT rfl ?_
      refine CJ.skip ?_
      refine CJ.seq ?_
      refine CJ.block ?_
      refine CJ.seq ?_
      refine CJ.region ?_
      refine LJ.yd rfl (Yd.fieldAddr rfl) ?_
      refine LJ.yd rfl (Yd.loadC 0 rfl rfl rfl) ?_
      refine LJ.yd rfl (Yd.mvI rfl) ?_
      refine LJ.idxA rfl hl rfl rfl (by omega) (by first | rfl | omega | (simp; done) | (simp; omega) | (simp [upN_len]; omega) | (simp [idxBy_len]; omega) | (simp [marks_len]; omega) | (simp [upN_len]; done) | (simp [idxBy_len]; done) | (simp [marks_len]; done) | (simp at *; omega)) (fun ib14 io14 ia14 ir14 => ?_)
      refine LJ.lgA (enc := encP) (fun u => [vI u.o, vI u.a, vI u.p, .bool u.t, .slice u.x u.n u.c]) (fun _ => rfl) (fun _ => rfl) ir14 rfl rfl rfl (by first | rfl | omega | (simp; done) | (simp; omega) | (simp [upN_len]; omega) | (simp [idxBy_len]; omega) | (simp [marks_len]; omega) | (simp [upN_len]; done) | (simp [idxBy_len]; done) | (simp [marks_len]; done) | (simp at *; omega)) (fun u15 hu15 => ?_)
      try simp only [Int.toNat_natCast] at hu15
      obtain ⟨q1, hq1, hqr1, hqm1⟩ := hkk.pick hu15
      refine LJ.callB rfl (fun k hk dk => ih q1 (hmem q1 hqm1) _ _ hqr1.up) (fun h16 => ?_) (fun h16 => ?_)
      · refine LJ.yd rfl (Yd.not rfl) ?_
        refine LJ.nil ?_
        refine CJ.condF rfl ?_
        refine CJ.skip ?_
        refine CJ.region ?_
        refine LJ.yd rfl (Yd.mvI rfl) ?_
        refine LJ.yd rfl (Yd.add rfl rfl (by unfold I64; omega)) ?_
        refine LJ.yd rfl (Yd.asI rfl) ?_
        refine LJ.nil ?_
        refine ⟨(k + 1), ?_, ⟨rfl, trivial⟩, ⟨rfl, trivial⟩, Ent.refl _, ?_⟩
        · refine ⟨by omega, ?_⟩
          rw [takeC hq1, cnPs_snoc, hc, h16]; rfl
        · first | omega | (dsimp only; omega) | (simp only []; omega)
      · refine LJ.yd rfl (Yd.not rfl) ?_
        refine LJ.nil ?_
        refine CJ.condT rfl ?_
        refine CJ.seq ?_
        refine CJ.region ?_
        refine LJ.yd rfl (Yd.asB rfl) ?_
        refine LJ.nil ?_
        refine CJ.ret ?_
        refine Fin.V (Res.one (ResV.tmp (v := .bool false) rfl)) ?_
        first
          | (refine congrArg Value.bool (Eq.symm ?_)
             rw [cnP, cnPs_mem hqm1 h16, Bool.and_false]; done)
          | (refine congrArg Value.bool (Eq.symm ?_)
             rw [cnP, hc, h20, h24]; rfl)
          | (refine congrArg Value.bool (Eq.symm ?_)
             rw [cnP, hc, h20, h24]; rfl)
          | (refine congrArg Value.bool (Eq.symm ?_)
             rw [cnP, hc, h20]; rfl)
    · refine LJ.nil ?_
      refine CJ.condF rfl ?_
      refine CJ.exit ?_
      refine CJ.seq ?_
      rw [List.take_of_length_le (by omega)] at hc
      refine CJ.region ?_
      refine LJ.yd rfl (Yd.fieldAddr rfl) ?_
      refine LJ.yd rfl (Yd.loadC 0 rfl rfl rfl) ?_
      refine LJ.callB rfl (fun k hk dk => inRange_ok _ _ _ _) (fun h20 => ?_) (fun h20 => ?_)
      · refine LJ.yd rfl (Yd.mvB rfl) ?_
        refine LJ.gT rfl ?_
        refine LJ.yd rfl (Yd.fieldAddr rfl) ?_
        refine LJ.gT rfl ?_
        refine LJ.yd rfl (Yd.loadC 0 rfl rfl rfl) ?_
        refine LJ.gT rfl ?_
        refine LJ.callB rfl (fun k hk dk => inRange_ok _ _ _ _) (fun h24 => ?_) (fun h24 => ?_)
        · refine LJ.yd rfl (Yd.pickTB rfl rfl) ?_
          refine LJ.yd rfl (Yd.asB rfl) ?_
          refine LJ.nil ?_
          refine CJ.ret ?_
          refine Fin.V (Res.one (ResV.tmp (v := .bool true) rfl)) ?_
          first
            | (refine congrArg Value.bool (Eq.symm ?_)
               rw [cnP, cnPs_mem hqm1 h16, Bool.and_false]; done)
            | (refine congrArg Value.bool (Eq.symm ?_)
               rw [cnP, hc, h20, h24]; rfl)
            | (refine congrArg Value.bool (Eq.symm ?_)
               rw [cnP, hc, h20, h24]; rfl)
            | (refine congrArg Value.bool (Eq.symm ?_)
               rw [cnP, hc, h20]; rfl)
        · refine LJ.yd rfl (Yd.pickTB rfl rfl) ?_
          refine LJ.yd rfl (Yd.asB rfl) ?_
          refine LJ.nil ?_
          refine CJ.ret ?_
          refine Fin.V (Res.one (ResV.tmp (v := .bool false) rfl)) ?_
          first
            | (refine congrArg Value.bool (Eq.symm ?_)
               rw [cnP, cnPs_mem hqm1 h16, Bool.and_false]; done)
            | (refine congrArg Value.bool (Eq.symm ?_)
               rw [cnP, hc, h20, h24]; rfl)
            | (refine congrArg Value.bool (Eq.symm ?_)
               rw [cnP, hc, h20, h24]; rfl)
            | (refine congrArg Value.bool (Eq.symm ?_)
               rw [cnP, hc, h20]; rfl)
      · refine LJ.yd rfl (Yd.mvB rfl) ?_
        refine LJ.gF rfl rfl ?_
        refine LJ.gF rfl rfl ?_
        refine LJ.gF rfl rfl ?_
        refine LJ.yd rfl (Yd.pickFB rfl rfl) ?_
        refine LJ.yd rfl (Yd.asB rfl) ?_
        refine LJ.nil ?_
        refine CJ.ret ?_
        refine Fin.V (Res.one (ResV.tmp (v := .bool false) rfl)) ?_
        first
          | (refine congrArg Value.bool (Eq.symm ?_)
             rw [cnP, cnPs_mem hqm1 h16, Bool.and_false]; done)
          | (refine congrArg Value.bool (Eq.symm ?_)
             rw [cnP, hc, h20, h24]; rfl)
          | (refine congrArg Value.bool (Eq.symm ?_)
             rw [cnP, hc, h20, h24]; rfl)
          | (refine congrArg Value.bool (Eq.symm ?_)
             rw [cnP, hc, h20]; rfl)
theorem countable_ok {A : Amb} {u : PE} {q : Plan} (h : RdPlan A.h (encP u) q) : Ctr Try.prog 98 #[.agg (encP u).toArray] A [] (Val (.bool (cnP q))) := countable_ok' _ q (Nat.lt_succ_self _) u A h
theorem num3 {n : Int} (h1 : n ≤ 200) : (numL n.toNat).length ≤ 3 := numL_len 2 _ (by omega)
theorem shw_len : ∀ b : BT, b.cntb = true → ((b.shw).length : Int) ≤ 10 * b.sz
  | .w, _ => by simp [BT.shw, BT.sz]
  | .p i t, h => by
    simp only [BT.cntb, Bool.and_eq_true, decide_eq_true_eq] at h
    have := num3 (n := i) (by omega)
    simp only [BT.shw, List.length_cons, BT.sz]; omega
  | .c d a l r, h => by
    simp only [BT.cntb, Bool.and_eq_true, decide_eq_true_eq] at h
    have h1 := shw_len l h.2.1
    have h2 := shw_len r h.2.2
    have := num3 (n := a) (by omega)
    simp only [BT.shw, List.length_cons, List.length_append, List.length_nil, BT.sz]; omega
theorem number_i {A : Amb} {n : Int} (h0 : 0 ≤ n) (h1 : n ≤ 200) : Ctr Try.prog 114 #[vI n] A [] (Val (vT (numL n.toNat))) := by
  obtain ⟨m, rfl⟩ := Int.eq_ofNat_of_zero_le h0
  exact number_ok _ A m (Nat.lt_succ_self _) (by omega)
theorem showPlan_ok (b : BT) : ∀ (A : Amb) (cs : List Value), b.cntb = true → b.sz ≤ 1000 → RdT A.h cs b → Ctr Try.prog 99 #[.agg cs.toArray] A [] (Val (vT b.shw)) := by
  induction b with
  | w =>
    intro A cs hc hz hr
    cases hr
    refine Ctr.body (args := [_]) Try.func99 rfl Try.ntmps99 Try.results99 (by simp) ?_
    refine CJ.seq ?_
    refine CJ.region ?_
    refine LJ.boxG (vs := [_, _, _, _, _]) rfl rfl (fun b1 => ?_)
    refine LJ.yd rfl (Yd.asT rfl) ?_
    refine LJ.nil ?_
    refine CJ.seq ?_
    refine CJ.seq ?_
    refine CJ.region ?_
    refine LJ.yd rfl (Yd.fieldAddr rfl) ?_
    refine LJ.yd rfl (Yd.loadC 0 rfl rfl rfl) ?_
    refine LJ.nil ?_
    refine CJ.block ?_
    refine CJ.seq ?_
    refine CJ.seq ?_
    refine CJ.region ?_
    refine LJ.yd rfl (Yd.cmpF (Yd.eql rfl rfl) (by decide)) ?_
    refine LJ.yd rfl (Yd.asB rfl) ?_
    refine LJ.nil ?_
    refine CJ.condF rfl ?_
    refine CJ.region ?_
    refine LJ.yd rfl (Yd.cmpF (Yd.eql rfl rfl) (by decide)) ?_
    refine LJ.yd rfl (Yd.asB rfl) ?_
    refine LJ.nil ?_
    refine CJ.condF rfl ?_
    refine CJ.seq ?_
    refine CJ.region ?_
    refine LJ.yd rfl (Yd.cmpF (Yd.eql rfl rfl) (by decide)) ?_
    refine LJ.yd rfl (Yd.asB rfl) ?_
    refine LJ.nil ?_
    refine CJ.condF rfl ?_
    refine CJ.skip ?_
    refine CJ.seq ?_
    refine CJ.region ?_
    refine LJ.yd rfl (Yd.asT rfl) ?_
    refine LJ.nil ?_
    refine CJ.ret ?_
    refine Fin.V (Res.one (ResV.tmp (v := .string _) rfl)) ?_
    rfl
  | p i t =>
    intro A cs hc hz hr
    obtain _ | hi := hr
    simp only [BT.cntb, Bool.and_eq_true, decide_eq_true_eq] at hc
    have hnl := num3 (n := i) (by omega)
    refine Ctr.body (args := [_]) Try.func99 rfl Try.ntmps99 Try.results99 (by simp) ?_
    refine CJ.seq ?_
    refine CJ.region ?_
    refine LJ.boxG (vs := [_, _, _, _, _]) rfl rfl (fun b1 => ?_)
    refine LJ.yd rfl (Yd.asT rfl) ?_
    refine LJ.nil ?_
    refine CJ.seq ?_
    refine CJ.seq ?_
    refine CJ.region ?_
    refine LJ.yd rfl (Yd.fieldAddr rfl) ?_
    refine LJ.yd rfl (Yd.loadC 0 rfl rfl rfl) ?_
    refine LJ.nil ?_
    refine CJ.block ?_
    refine CJ.seq ?_
    refine CJ.seq ?_
    refine CJ.region ?_
    refine LJ.yd rfl (Yd.cmpF (Yd.eql rfl rfl) (by decide)) ?_
    refine LJ.yd rfl (Yd.asB rfl) ?_
    refine LJ.nil ?_
    refine CJ.condF rfl ?_
    refine CJ.region ?_
    refine LJ.yd rfl (Yd.cmpF (Yd.eql rfl rfl) (by decide)) ?_
    refine LJ.yd rfl (Yd.asB rfl) ?_
    refine LJ.nil ?_
    refine CJ.condF rfl ?_
    refine CJ.seq ?_
    refine CJ.region ?_
    refine LJ.yd rfl (Yd.cmpT (Yd.eql rfl rfl) (by decide)) ?_
    refine LJ.yd rfl (Yd.asB rfl) ?_
    refine LJ.nil ?_
    refine CJ.condT rfl ?_
    refine CJ.seq ?_
    refine CJ.seq ?_
    refine CJ.region ?_
    refine LJ.yd rfl (Yd.fieldAddr rfl) ?_
    refine LJ.split rfl (Yd.loadC 0 rfl rfl rfl) (fun h35 => ?_) (fun h35 => ?_)
    · refine LJ.nil ?_
      refine CJ.condT rfl ?_
      refine CJ.seq ?_
      refine CJ.region ?_
      refine LJ.yd rfl (Yd.fieldAddr rfl) ?_
      refine LJ.yd rfl (Yd.loadC 0 rfl rfl rfl) ?_
      refine LJ.callV rfl (fun k hk dk => number_i (by omega) (by omega)) ?_
      refine LJ.yd rfl (Yd.addT rfl rfl (by first | omega | (simp; done) | (simp; omega)) (by first | omega | (simp; done) | (simp; omega))) ?_
      refine LJ.yd rfl (Yd.asT rfl) ?_
      refine LJ.nil ?_
      refine CJ.ret ?_
      refine Fin.V (Res.one (ResV.tmp (v := .string _) rfl)) ?_
      simp [BT.shw, *]
    · refine LJ.nil ?_
      refine CJ.condF rfl ?_
      refine CJ.skip ?_
      refine CJ.seq ?_
      refine CJ.region ?_
      refine LJ.yd rfl (Yd.fieldAddr rfl) ?_
      refine LJ.yd rfl (Yd.loadC 0 rfl rfl rfl) ?_
      refine LJ.callV rfl (fun k hk dk => number_i (by omega) (by omega)) ?_
      refine LJ.yd rfl (Yd.addT rfl rfl (by first | omega | (simp; done) | (simp; omega)) (by first | omega | (simp; done) | (simp; omega))) ?_
      refine LJ.yd rfl (Yd.asT rfl) ?_
      refine LJ.nil ?_
      refine CJ.ret ?_
      refine Fin.V (Res.one (ResV.tmp (v := .string _) rfl)) ?_
      simp [BT.shw, *]
  | c d a l r ihl ihr =>
    intro A cs hc hz hr
    obtain _ | _ | ⟨ha, hcap, hrow, hl, hr⟩ := hr
    simp only [BT.cntb, Bool.and_eq_true, decide_eq_true_eq] at hc
    simp only [BT.sz] at hz
    have p1 := l.sz_pos
    have p2 := r.sz_pos
    have hl1 := shw_len l hc.2.1
    have hl2 := shw_len r hc.2.2
    have hnl := num3 (n := a) (by omega)
    cases d
    · refine Ctr.body (args := [_]) Try.func99 rfl Try.ntmps99 Try.results99 (by simp) ?_
      refine CJ.seq ?_
      refine CJ.region ?_
      refine LJ.boxG (vs := [_, _, _, _, _]) rfl rfl (fun b1 => ?_)
      refine LJ.yd rfl (Yd.asT rfl) ?_
      refine LJ.nil ?_
      refine CJ.seq ?_
      refine CJ.seq ?_
      refine CJ.region ?_
      refine LJ.yd rfl (Yd.fieldAddr rfl) ?_
      refine LJ.yd rfl (Yd.loadC 0 rfl rfl rfl) ?_
      refine LJ.nil ?_
      refine CJ.block ?_
      refine CJ.seq ?_
      refine CJ.seq ?_
      refine CJ.region ?_
      refine LJ.yd rfl (Yd.cmpF (Yd.eql rfl rfl) (by decide)) ?_
      refine LJ.yd rfl (Yd.asB rfl) ?_
      refine LJ.nil ?_
      refine CJ.condF rfl ?_
      refine CJ.region ?_
      refine LJ.yd rfl (Yd.cmpT (Yd.eql rfl rfl) (by decide)) ?_
      refine LJ.yd rfl (Yd.asB rfl) ?_
      refine LJ.nil ?_
      refine CJ.condT rfl ?_
      refine CJ.seq ?_
      refine CJ.region ?_
      refine LJ.yd rfl (Yd.asT rfl) ?_
      refine LJ.nil ?_
      refine CJ.seq ?_
      refine CJ.seq ?_
      refine CJ.region ?_
      refine LJ.yd rfl (Yd.fieldAddr rfl) ?_
      refine LJ.yd rfl (Yd.loadC 0 rfl rfl rfl) ?_
      refine LJ.yd rfl (Yd.cmpT (Yd.eql rfl rfl) (by decide)) ?_
      refine LJ.nil ?_
      refine CJ.condT rfl ?_
      refine CJ.region ?_
      refine LJ.yd rfl (Yd.asT rfl) ?_
      refine LJ.nil ?_
      refine CJ.seq ?_
      refine CJ.regionD [0] [] (by kernel_rfl) rfl ?_
      refine DJ.norm [_] [] rfl rfl ?_
      refine DJ.yd 0 rfl (by kernel_rfl) (by kernel_rfl) (by kernel_rfl) rfl rfl (Yd.mvT rfl) ?_
      refine DJ.yd 1 rfl (by kernel_rfl) (by kernel_rfl) (by kernel_rfl) rfl rfl (Yd.fieldAddr rfl) ?_
      refine DJ.yd 2 rfl (by kernel_rfl) (by kernel_rfl) (by kernel_rfl) rfl rfl (Yd.loadC 0 rfl rfl rfl) ?_
      refine DJ.yd 6 rfl (by kernel_rfl) (by kernel_rfl) (by kernel_rfl) rfl rfl (Yd.fieldAddr rfl) ?_
      refine DJ.yd 7 rfl (by kernel_rfl) (by kernel_rfl) (by kernel_rfl) rfl rfl (Yd.loadC 0 rfl rfl rfl) ?_
      refine DJ.yd 8 rfl (by kernel_rfl) (by kernel_rfl) (by kernel_rfl) rfl rfl (Yd.indexAddr rfl rfl (by omega) (by simp)) ?_
      refine DJ.yd 9 rfl (by kernel_rfl) (by kernel_rfl) (by kernel_rfl) rfl rfl (Yd.loadRow (i := 0) hrow.up rfl (by simp) rfl hl.len) ?_
      refine DJ.yd 13 rfl (by kernel_rfl) (by kernel_rfl) (by kernel_rfl) rfl rfl (Yd.fieldAddr rfl) ?_
      refine DJ.yd 14 rfl (by kernel_rfl) (by kernel_rfl) (by kernel_rfl) rfl rfl (Yd.loadC 0 rfl rfl rfl) ?_
      refine DJ.yd 15 rfl (by kernel_rfl) (by kernel_rfl) (by kernel_rfl) rfl rfl (Yd.indexAddr rfl rfl (by omega) (by simp)) ?_
      refine DJ.yd 16 rfl (by kernel_rfl) (by kernel_rfl) (by kernel_rfl) rfl rfl (Yd.loadRow (i := 1) hrow.up rfl (by simp) rfl hr.len) ?_
      refine DJ.one (i := 3) (by kernel_rfl) ?_
      refine DO.callV rfl rfl rfl (fun k0 hk0 dk0 k hk dk => number_i (by omega) (by omega)) ?_
      refine DJ.yd 4 rfl (by kernel_rfl) (by kernel_rfl) (by kernel_rfl) rfl rfl (Yd.addT rfl rfl (by first | omega | (simp; done) | (simp; omega)) (by first | omega | (simp; done) | (simp; omega))) ?_
      refine DJ.yd 5 rfl (by kernel_rfl) (by kernel_rfl) (by kernel_rfl) rfl rfl (Yd.addT rfl rfl (by first | omega | (simp; done) | (simp; omega)) (by first | omega | (simp; done) | (simp; omega))) ?_
      refine DJ.one (i := 10) (by kernel_rfl) ?_
      refine DO.callV rfl rfl rfl (fun k0 hk0 dk0 k hk dk => ihl _ _ hc.2.1 (by omega) hl.up) ?_
      refine DJ.yd 11 rfl (by kernel_rfl) (by kernel_rfl) (by kernel_rfl) rfl rfl (Yd.addT rfl rfl (by first | omega | (simp; done) | (simp; omega)) (by first | omega | (simp; done) | (simp; omega))) ?_
      refine DJ.yd 12 rfl (by kernel_rfl) (by kernel_rfl) (by kernel_rfl) rfl rfl (Yd.addT rfl rfl (by first | omega | (simp; done) | (simp; omega)) (by first | omega | (simp; done) | (simp; omega))) ?_
      refine DJ.one (i := 17) (by kernel_rfl) ?_
      refine DO.callV rfl rfl rfl (fun k0 hk0 dk0 k hk dk => ihr _ _ hc.2.2 (by omega) hr.up) ?_
      refine DJ.yd 18 rfl (by kernel_rfl) (by kernel_rfl) (by kernel_rfl) rfl rfl (Yd.addT rfl rfl (by first | omega | (simp; done) | (simp; omega)) (by first | omega | (simp; done) | (simp; omega))) ?_
      refine DJ.yd 19 rfl (by kernel_rfl) (by kernel_rfl) (by kernel_rfl) rfl rfl (Yd.addT rfl rfl (by first | omega | (simp; done) | (simp; omega)) (by first | omega | (simp; done) | (simp; omega))) ?_
      refine DJ.yd 20 rfl (by kernel_rfl) (by kernel_rfl) (by kernel_rfl) rfl rfl (Yd.asT rfl) ?_
      refine DJ.done (by kernel_rfl) ?_
      refine CJ.ret ?_
      refine Fin.V (Res.one (ResV.tmp (v := .string _) rfl)) ?_
      simp [BT.shw]
    · refine Ctr.body (args := [_]) Try.func99 rfl Try.ntmps99 Try.results99 (by simp) ?_
      refine CJ.seq ?_
      refine CJ.region ?_
      refine LJ.boxG (vs := [_, _, _, _, _]) rfl rfl (fun b1 => ?_)
      refine LJ.yd rfl (Yd.asT rfl) ?_
      refine LJ.nil ?_
      refine CJ.seq ?_
      refine CJ.seq ?_
      refine CJ.region ?_
      refine LJ.yd rfl (Yd.fieldAddr rfl) ?_
      refine LJ.yd rfl (Yd.loadC 0 rfl rfl rfl) ?_
      refine LJ.nil ?_
      refine CJ.block ?_
      refine CJ.seq ?_
      refine CJ.seq ?_
      refine CJ.region ?_
      refine LJ.yd rfl (Yd.cmpT (Yd.eql rfl rfl) (by decide)) ?_
      refine LJ.yd rfl (Yd.asB rfl) ?_
      refine LJ.nil ?_
      refine CJ.condT rfl ?_
      refine CJ.skip ?_
      refine CJ.condT rfl ?_
      refine CJ.seq ?_
      refine CJ.region ?_
      refine LJ.yd rfl (Yd.asT rfl) ?_
      refine LJ.nil ?_
      refine CJ.seq ?_
      refine CJ.seq ?_
      refine CJ.region ?_
      refine LJ.yd rfl (Yd.fieldAddr rfl) ?_
      refine LJ.yd rfl (Yd.loadC 0 rfl rfl rfl) ?_
      refine LJ.yd rfl (Yd.cmpF (Yd.eql rfl rfl) (by decide)) ?_
      refine LJ.nil ?_
      refine CJ.condF rfl ?_
      refine CJ.skip ?_
      refine CJ.seq ?_
      refine CJ.regionD [0] [] (by kernel_rfl) rfl ?_
      refine DJ.norm [_] [] rfl rfl ?_
      refine DJ.yd 0 rfl (by kernel_rfl) (by kernel_rfl) (by kernel_rfl) rfl rfl (Yd.mvT rfl) ?_
      refine DJ.yd 1 rfl (by kernel_rfl) (by kernel_rfl) (by kernel_rfl) rfl rfl (Yd.fieldAddr rfl) ?_
      refine DJ.yd 2 rfl (by kernel_rfl) (by kernel_rfl) (by kernel_rfl) rfl rfl (Yd.loadC 0 rfl rfl rfl) ?_
      refine DJ.yd 6 rfl (by kernel_rfl) (by kernel_rfl) (by kernel_rfl) rfl rfl (Yd.fieldAddr rfl) ?_
      refine DJ.yd 7 rfl (by kernel_rfl) (by kernel_rfl) (by kernel_rfl) rfl rfl (Yd.loadC 0 rfl rfl rfl) ?_
      refine DJ.yd 8 rfl (by kernel_rfl) (by kernel_rfl) (by kernel_rfl) rfl rfl (Yd.indexAddr rfl rfl (by omega) (by simp)) ?_
      refine DJ.yd 9 rfl (by kernel_rfl) (by kernel_rfl) (by kernel_rfl) rfl rfl (Yd.loadRow (i := 0) hrow.up rfl (by simp) rfl hl.len) ?_
      refine DJ.yd 13 rfl (by kernel_rfl) (by kernel_rfl) (by kernel_rfl) rfl rfl (Yd.fieldAddr rfl) ?_
      refine DJ.yd 14 rfl (by kernel_rfl) (by kernel_rfl) (by kernel_rfl) rfl rfl (Yd.loadC 0 rfl rfl rfl) ?_
      refine DJ.yd 15 rfl (by kernel_rfl) (by kernel_rfl) (by kernel_rfl) rfl rfl (Yd.indexAddr rfl rfl (by omega) (by simp)) ?_
      refine DJ.yd 16 rfl (by kernel_rfl) (by kernel_rfl) (by kernel_rfl) rfl rfl (Yd.loadRow (i := 1) hrow.up rfl (by simp) rfl hr.len) ?_
      refine DJ.one (i := 3) (by kernel_rfl) ?_
      refine DO.callV rfl rfl rfl (fun k0 hk0 dk0 k hk dk => number_i (by omega) (by omega)) ?_
      refine DJ.yd 4 rfl (by kernel_rfl) (by kernel_rfl) (by kernel_rfl) rfl rfl (Yd.addT rfl rfl (by first | omega | (simp; done) | (simp; omega)) (by first | omega | (simp; done) | (simp; omega))) ?_
      refine DJ.yd 5 rfl (by kernel_rfl) (by kernel_rfl) (by kernel_rfl) rfl rfl (Yd.addT rfl rfl (by first | omega | (simp; done) | (simp; omega)) (by first | omega | (simp; done) | (simp; omega))) ?_
      refine DJ.one (i := 10) (by kernel_rfl) ?_
      refine DO.callV rfl rfl rfl (fun k0 hk0 dk0 k hk dk => ihl _ _ hc.2.1 (by omega) hl.up) ?_
      refine DJ.yd 11 rfl (by kernel_rfl) (by kernel_rfl) (by kernel_rfl) rfl rfl (Yd.addT rfl rfl (by first | omega | (simp; done) | (simp; omega)) (by first | omega | (simp; done) | (simp; omega))) ?_
      refine DJ.yd 12 rfl (by kernel_rfl) (by kernel_rfl) (by kernel_rfl) rfl rfl (Yd.addT rfl rfl (by first | omega | (simp; done) | (simp; omega)) (by first | omega | (simp; done) | (simp; omega))) ?_
      refine DJ.one (i := 17) (by kernel_rfl) ?_
      refine DO.callV rfl rfl rfl (fun k0 hk0 dk0 k hk dk => ihr _ _ hc.2.2 (by omega) hr.up) ?_
      refine DJ.yd 18 rfl (by kernel_rfl) (by kernel_rfl) (by kernel_rfl) rfl rfl (Yd.addT rfl rfl (by first | omega | (simp; done) | (simp; omega)) (by first | omega | (simp; done) | (simp; omega))) ?_
      refine DJ.yd 19 rfl (by kernel_rfl) (by kernel_rfl) (by kernel_rfl) rfl rfl (Yd.addT rfl rfl (by first | omega | (simp; done) | (simp; omega)) (by first | omega | (simp; done) | (simp; omega))) ?_
      refine DJ.yd 20 rfl (by kernel_rfl) (by kernel_rfl) (by kernel_rfl) rfl rfl (Yd.asT rfl) ?_
      refine DJ.done (by kernel_rfl) ?_
      refine CJ.ret ?_
      refine Fin.V (Res.one (ResV.tmp (v := .string _) rfl)) ?_
      simp [BT.shw]
theorem Sts.rdC {A : Amb} {fr : List HProp} {k : Hp} {cs : List Value} {b : BT} {φ : Prop} (hk : Sts fr k) (dk : A.h.Dj k) (i : Nat) (hφ : φ) (hi : fr[i]? = some (fun h => φ → RdT h cs b)) : RdT (A.ext k).h cs b := by
  obtain ⟨m, hm, lm⟩ := hk.get hi
  exact (hm hφ).mono (lm.trans (Amb.ext_own dk))
def SppR (s : List UInt8) (v : Value) (gs : List HProp) : Prop := ∃ u : PE, v = .tuple #[.agg (encP u).toArray, .bool (ppB s).isSome] ∧ gs = [fun h => RdT h (encP u) (ppP s)]
theorem psz_sz {b : BT} (h : ¬ psz b.plan < 0) : b.sz ≤ 255 := (sz_of_psz h).1
end Go.Proofs.Ytlpjienaennmaaa
