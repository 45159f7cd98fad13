/-
  The law FnValidPlan: its walk, and the plain law.
-/
import Derived.Test.YtolhdpjhibgfiaaG6
namespace Go.Proofs.Ytolhdpjhibgfiaa
open Go
set_option maxRecDepth 20000
set_option maxHeartbeats 2000000

theorem ValidPlanI_as {A : Amb} {W H : Int} {v : Value} {ps : List Pane} {cs : List Value} {q : Plan} {r : Bool} (hp : RdPanes A.h v ps) (hq : RdPlan A.h cs q) (e : vpOk W H ps q = r) : Ctr Try.prog 22 #[.agg #[vI W, vI H, v], .agg cs.toArray] A [] (Val (.bool r)) := e ▸ ValidPlanI_ok hp hq
theorem ValidPlanS_as {A : Amb} {W H : Int} {v : Value} {ps : List Pane} {cs : List Value} {q : Plan} {r : Bool} (hp : RdPanes A.h v ps) (hq : RdPlan A.h cs q) (e : vpOk W H ps q = r) : Ctr Try.prog 23 #[.agg #[vI W, vI H, v], .agg cs.toArray] A [] (Val (.bool r)) := e ▸ ValidPlanS_ok hp hq
theorem psz_c {d : Bool} {a : Int} {l r : BT} (h : 0 < psz (BT.c d a l r).plan) : psz (BT.c d a l r).plan = 1 + psz l.plan + psz r.plan ∧ 0 < psz l.plan ∧ 0 < psz r.plan ∧ psz l.plan ≤ 255 ∧ psz r.plan ≤ 255 := by
  have h1 := l.sz_pos
  have h2 := r.sz_pos
  have es : (BT.c d a l r).sz = 1 + l.sz + r.sz := rfl
  rw [psz_BT] at *
  split at h
  · rw [psz_BT, psz_BT, if_pos (by omega), if_pos (by omega), if_pos (by omega)]; omega
  · omega
theorem vpOk_c {W H a : Int} {ps : List Pane} {d : Bool} {l r : BT} (h : vpOk W H ps (BT.c d a l r).plan = true) : 0 < psz (BT.c d a l r).plan ∧ 1 ≤ a ∧ a ≤ 200 ∧ 1 ≤ W ∧ W ≤ 200 ∧ 1 ≤ H ∧ H ≤ 200 ∧
    (d = true → vpOk a H ps l.plan = true ∧ vpOk (W - a) H ps r.plan = true) ∧ (d = false → vpOk W a ps l.plan = true ∧ vpOk W (H - a) ps r.plan = true) := by
  simp only [vpOk, Bool.and_eq_true, decide_eq_true_eq, toBT_plan] at h ⊢
  obtain ⟨hw, hz, hf⟩ := h
  obtain ⟨w1, w2, w3, w4, w5, w6⟩ := workOk_iff hw
  obtain ⟨z1, z2, z3, _, _⟩ := psz_c hz
  have wk : ∀ x y : Int, 1 ≤ x → x ≤ 200 → 1 ≤ y → y ≤ 200 → workOk x y ps = true := fun x y a b c d => by
    simp only [workOk, Bool.and_eq_true, decide_eq_true_eq, List.all_eq_true]; exact ⟨a, b, c, d, w5, w6⟩
  cases d
  · simp only [BT.fits, Bool.false_eq_true, if_false, Bool.and_eq_true, decide_eq_true_eq] at hf
    refine ⟨hz, by omega, by omega, w1, w2, w3, w4, fun e => (by cases e), fun _ => ⟨⟨wk _ _ w1 w2 (by omega) (by omega), z2, hf.2.2.1⟩, ⟨wk _ _ w1 w2 (by omega) (by omega), z3, hf.2.2.2⟩⟩⟩
  · simp only [BT.fits, if_true, Bool.and_eq_true, decide_eq_true_eq] at hf
    refine ⟨hz, by omega, by omega, w1, w2, w3, w4, fun _ => ⟨⟨wk _ _ (by omega) (by omega) w3 w4, z2, hf.2.2.1⟩, ⟨wk _ _ (by omega) (by omega) w3 w4, z3, hf.2.2.2⟩⟩, fun e => (by cases e)⟩
theorem FnValidPlan_ok {A : Amb} {a : Option Addr} {n c : Nat} (h : Code A.h a n c) : Ctr Try.prog 4 #[.slice a n c] A [] (Val (.bool true)) := by
  refine Ctr.body (args := [_]) Try.func4 rfl Try.ntmps4 Try.results4 (by simp) ?_
  refine CJ.seq ?_
  refine CJ.region ?_
  refine LJ.yd rfl (Yd.asB rfl) ?_
  refine LJ.nil ?_
  refine CJ.seq ?_
  refine CJ.seq ?_
  refine CJ.region ?_
  refine LJ.yd rfl (Yd.mvS rfl) ?_
  refine LJ.yd rfl (Yd.len rfl) ?_
  refine LJ.splitD rfl (Yd.gtr rfl rfl) (fun h10 => ?_) (fun h10 => ?_)
  · refine LJ.nil ?_
    refine CJ.condT rfl ?_
    refine CJ.seq ?_
    refine CJ.region ?_
    refine LJ.yd rfl (Yd.asB rfl) ?_
    refine LJ.nil ?_
    refine CJ.ret ?_
    refine Fin.V (Res.one (ResV.tmp (v := .bool true) rfl)) ?_
    rfl
  · refine LJ.nil ?_
    refine CJ.condF rfl ?_
    refine CJ.skip ?_
    refine CJ.seq ?_
    refine CJ.region ?_
    refine LJ.yd rfl (Yd.mvS rfl) ?_
    refine LJ.call0 rfl (fun k hk dk => DrawValidPlan_ok h.up) ?_
    rintro _ _ ⟨W, H, ka, km, kc, o, e, i, t, x, m, l, pl, ps, rfl, rfl, hW1, hW2, hH1, hH2, hl1, hw1⟩
    refine LJ.yd rfl (Yd.mvU rfl) ?_
    refine LJ.yd rfl (Yd.extract rfl rfl) ?_
    refine LJ.yd rfl (Yd.extract rfl rfl) ?_
    refine LJ.alloc ([_, _, _] : List Value) rfl rfl (fun b1 => ?_)
    refine LJ.alloc ([_, _, _, _, _] : List Value) rfl rfl (fun b2 => ?_)
    refine LJ.store (v := .agg #[_, _, _]) (us := [_, _, _]) 2 rfl rfl rfl rfl rfl rfl rfl rfl ?_
    refine LJ.store (v := .agg #[_, _, _, _, _]) (us := [_, _, _, _, _]) 3 rfl rfl rfl rfl rfl rfl rfl rfl ?_
    refine LJ.nil ?_
    refine CJ.seq ?_
    refine CJ.amb (perm_pickF _ [0] [1, 2, 3] rfl) (fun m8 h8 d8 => ?_)
    refine CJ.norm [_, _, _] rfl ?_
    refine CJ.amb (perm_pickF _ [0] [1, 2] rfl) (fun m9 h9 d9 => ?_)
    refine CJ.norm [_, _] rfl ?_
    have hps : RdPanes ((A.ext m8).ext m9).h (.slice ka km kc) ps := RdRow.mono (RdRow.mono h8 (Amb.ext_own d8)) Amb.ext_up
    have hpl : RdPlan ((A.ext m8).ext m9).h [vI o, vI e, vI i, .bool t, .slice x m l] pl := RdPlan.mono (Amb.ext_own d9) h9
    refine CJ.region ?_
    refine LJ.yd rfl (Yd.loadG (us := [_, _, _]) 0 rfl rfl rfl rfl) ?_
    refine LJ.yd rfl (Yd.loadG (us := [_, _, _, _, _]) 1 rfl rfl rfl rfl) ?_
    refine LJ.callB rfl (fun k hk dk => ValidPlanI_ok hps.up hpl.up) (fun h18 => ?_) (fun h18 => ?_)
    · refine LJ.yd rfl (Yd.asB rfl) ?_
      refine LJ.nil ?_
      refine CJ.seq ?_
      refine CJ.seq ?_
      refine CJ.region ?_
      refine LJ.yd rfl (Yd.mvB rfl) ?_
      refine LJ.yd rfl (Yd.loadG (us := [_, _, _]) 0 rfl rfl rfl rfl) ?_
      refine LJ.yd rfl (Yd.loadG (us := [_, _, _, _, _]) 1 rfl rfl rfl rfl) ?_
      refine LJ.callV rfl (fun k hk dk => ValidPlanS_as hps.up hpl.up h18) ?_
      refine LJ.yd rfl (Yd.cmpNF (Yd.neqB rfl rfl) (by decide)) ?_
      refine LJ.yd rfl (Yd.mvB rfl) ?_
      refine LJ.gT rfl ?_
      refine LJ.yd rfl (Yd.mvB rfl) ?_
      refine LJ.gT rfl ?_
      refine LJ.yd rfl (Yd.not rfl) ?_
      refine LJ.yd rfl (Yd.pickFB rfl rfl) ?_
      refine LJ.yd rfl (Yd.mvB rfl) ?_
      refine LJ.gT rfl ?_
      refine LJ.yd rfl (Yd.fieldAddr rfl) ?_
      refine LJ.gT rfl ?_
      refine LJ.yd rfl (Yd.loadC 1 rfl rfl rfl) ?_
      refine LJ.gT rfl ?_
      refine LJ.yd rfl (Yd.len rfl) ?_
      refine LJ.gT rfl ?_
      refine LJ.splitN rfl (Yd.neq rfl rfl) (fun h32 => ?_) (fun h32 => ?_)
      · refine LJ.yd rfl (Yd.pickFB rfl rfl) ?_
        refine LJ.nil ?_
        refine CJ.condT rfl ?_
        refine CJ.seq ?_
        refine CJ.region ?_
        refine LJ.yd rfl (Yd.mvB rfl) ?_
        refine LJ.yd rfl (Yd.loadG (us := [_, _, _]) 0 rfl rfl rfl rfl) ?_
        refine LJ.yd rfl (Yd.loadG (us := [_, _, _, _, _]) 1 rfl rfl rfl rfl) ?_
        refine LJ.callV rfl (fun k hk dk => ValidPlanS_as hps.up hpl.up h18) ?_
        refine LJ.yd rfl (Yd.cmpT (Yd.eqlB rfl rfl) (by decide)) ?_
        refine LJ.yd rfl (Yd.asB rfl) ?_
        refine LJ.nil ?_
        refine CJ.ret ?_
        refine Fin.V (Res.one (ResV.tmp (v := .bool true) rfl)) ?_
        rfl
      · refine LJ.yd rfl (Yd.pickFB rfl rfl) ?_
        refine LJ.nil ?_
        refine CJ.condF rfl ?_
        refine CJ.skip ?_
        refine CJ.seq ?_
        obtain ⟨b, rfl⟩ := BT.of_psz pl (by simp only [vpOk, Bool.and_eq_true, decide_eq_true_eq] at h18; omega)
        have hb := RdT.of b hpl
        rcases b with _ | ⟨j, u⟩ | ⟨d, e3, l, r⟩
        · cases hb; exact absurd h32 (by simp)
        · cases hb; exact absurd h32 (by simp)
        obtain _ | _ | ⟨ha, hcap, hrow, hl, hr⟩ := hb
        obtain ⟨hz, e1, e2, w1, w2, w3, w4, k1, k2⟩ := vpOk_c h18
        have hz2 := psz_c hz
        refine CJ.region ?_
        refine LJ.yd rfl (Yd.fieldAddr rfl) ?_
        refine LJ.yd rfl (Yd.loadC 1 rfl rfl rfl) ?_
        refine LJ.yd rfl (Yd.fieldAddr rfl) ?_
        refine LJ.yd rfl (Yd.loadC 0 rfl rfl rfl) ?_
        refine LJ.yd rfl (Yd.fieldAddr rfl) ?_
        refine LJ.yd rfl (Yd.loadC 0 rfl rfl rfl) ?_
        refine LJ.yd rfl (Yd.build (cs := [_, _, _]) rfl) ?_
        refine LJ.alloc ([_, _, _] : List Value) rfl rfl (fun b3 => ?_)
        refine LJ.store (v := .agg #[_, _, _]) (us := [_, _, _]) 2 rfl rfl rfl rfl rfl rfl rfl rfl ?_
        refine LJ.nil ?_
        refine CJ.seq ?_
        refine CJ.region ?_
        refine LJ.yd rfl (Yd.fieldAddr rfl) ?_
        refine LJ.yd rfl (Yd.loadC 0 rfl rfl rfl) ?_
        refine LJ.yd rfl (Yd.fieldAddr rfl) ?_
        refine LJ.yd rfl (Yd.loadC 1 rfl rfl rfl) ?_
        refine LJ.yd rfl (Yd.sub rfl rfl (by unfold I64; omega)) ?_
        refine LJ.yd rfl (Yd.fieldAddr rfl) ?_
        refine LJ.yd rfl (Yd.loadC 0 rfl rfl rfl) ?_
        refine LJ.yd rfl (Yd.fieldAddr rfl) ?_
        refine LJ.yd rfl (Yd.loadC 0 rfl rfl rfl) ?_
        refine LJ.yd rfl (Yd.build (cs := [_, _, _]) rfl) ?_
        refine LJ.alloc ([_, _, _] : List Value) rfl rfl (fun b4 => ?_)
        refine LJ.store (v := .agg #[_, _, _]) (us := [_, _, _]) 3 rfl rfl rfl rfl rfl rfl rfl rfl ?_
        refine LJ.nil ?_
        refine CJ.seq ?_
        refine CJ.seq ?_
        refine CJ.region ?_
        refine LJ.yd rfl (Yd.fieldAddr rfl) ?_
        refine LJ.yd rfl (Yd.loadC 1 rfl rfl rfl) ?_
        refine LJ.splitD rfl (Yd.eql rfl rfl) (fun h58 => ?_) (fun h58 => ?_)
        · refine LJ.nil ?_
          refine CJ.condT rfl ?_
          refine CJ.seq ?_
          refine CJ.region ?_
          refine LJ.yd rfl (Yd.fieldAddr rfl) ?_
          refine LJ.yd rfl (Yd.loadC 0 rfl rfl rfl) ?_
          refine LJ.yd rfl (Yd.fieldAddr rfl) ?_
          refine LJ.yd rfl (Yd.loadC 1 rfl rfl rfl) ?_
          refine LJ.yd rfl (Yd.fieldAddr rfl) ?_
          refine LJ.yd rfl (Yd.loadC 0 rfl rfl rfl) ?_
          refine LJ.yd rfl (Yd.build (cs := [_, _, _]) rfl) ?_
          refine LJ.store (v := .agg #[_, _, _]) (us := [_, _, _]) 2 rfl rfl rfl rfl rfl rfl rfl rfl ?_
          refine LJ.nil ?_
          refine CJ.region ?_
          refine LJ.yd rfl (Yd.fieldAddr rfl) ?_
          refine LJ.yd rfl (Yd.loadC 0 rfl rfl rfl) ?_
          refine LJ.yd rfl (Yd.fieldAddr rfl) ?_
          refine LJ.yd rfl (Yd.loadC 0 rfl rfl rfl) ?_
          refine LJ.yd rfl (Yd.fieldAddr rfl) ?_
          refine LJ.yd rfl (Yd.loadC 1 rfl rfl rfl) ?_
          refine LJ.yd rfl (Yd.sub rfl rfl (by unfold I64; omega)) ?_
          refine LJ.yd rfl (Yd.fieldAddr rfl) ?_
          refine LJ.yd rfl (Yd.loadC 0 rfl rfl rfl) ?_
          refine LJ.yd rfl (Yd.build (cs := [_, _, _]) rfl) ?_
          refine LJ.store (v := .agg #[_, _, _]) (us := [_, _, _]) 3 rfl rfl rfl rfl rfl rfl rfl rfl ?_
          refine LJ.nil ?_
          refine CJ.seq ?_
          obtain rfl : d = false := by
            cases d
            · rfl
            · exact absurd h58 (by simp [opOf])
          have hkk := k2 rfl
          refine CJ.regionD [0, 1, 2, 3] [] (by kernel_rfl) rfl ?_
          refine DJ.norm [_, _, _, _] [] rfl rfl ?_
          refine DJ.yd 0 rfl (by kernel_rfl) (by kernel_rfl) (by kernel_rfl) rfl rfl (Yd.loadG (us := [_, _, _]) 2 rfl rfl rfl rfl) ?_
          refine DJ.yd 1 rfl (by kernel_rfl) (by kernel_rfl) (by kernel_rfl) rfl rfl (Yd.fieldAddr rfl) ?_
          refine DJ.yd 2 rfl (by kernel_rfl) (by kernel_rfl) (by kernel_rfl) rfl rfl (Yd.loadC 1 rfl rfl rfl) ?_
          refine DJ.yd 3 rfl (by kernel_rfl) (by kernel_rfl) (by kernel_rfl) rfl rfl (Yd.indexAddr rfl rfl (by omega) (by simp)) ?_
          refine DJ.yd 4 rfl (by kernel_rfl) (by kernel_rfl) (by kernel_rfl) rfl rfl (Yd.loadRow (i := 0) hrow.up rfl (by simp) rfl hl.len) ?_
          refine DJ.one (i := 5) (by kernel_rfl) ?_
          refine DO.callV rfl rfl rfl (fun k0 hk0 dk0 k hk dk => ValidPlanI_as hps.up (RdPlan.of_BT hl).up hkk.1) ?_
          refine DJ.yd 6 rfl (by kernel_rfl) (by kernel_rfl) (by kernel_rfl) rfl rfl (Yd.mvB rfl) ?_
          refine DJ.yd 7 rfl (by kernel_rfl) (by kernel_rfl) (by kernel_rfl) rfl rfl (Yd.loadG (us := [_, _, _]) 3 rfl rfl rfl rfl) ?_
          refine DJ.yd 8 rfl (by kernel_rfl) (by kernel_rfl) (by kernel_rfl) rfl rfl (Yd.fieldAddr rfl) ?_
          refine DJ.yd 9 rfl (by kernel_rfl) (by kernel_rfl) (by kernel_rfl) rfl rfl (Yd.loadC 1 rfl rfl rfl) ?_
          refine DJ.yd 10 rfl (by kernel_rfl) (by kernel_rfl) (by kernel_rfl) rfl rfl (Yd.indexAddr rfl rfl (by omega) (by simp)) ?_
          refine DJ.yd 11 rfl (by kernel_rfl) (by kernel_rfl) (by kernel_rfl) rfl rfl (Yd.loadRow (i := 1) hrow.up rfl (by simp) rfl hr.len) ?_
          refine DJ.one (i := 12) (by kernel_rfl) ?_
          refine DO.callV rfl rfl rfl (fun k0 hk0 dk0 k hk dk => ValidPlanI_as hps.up (RdPlan.of_BT hr).up hkk.2) ?_
          refine DJ.yd 13 rfl (by kernel_rfl) (by kernel_rfl) (by kernel_rfl) rfl rfl (Yd.pickTB rfl rfl) ?_
          refine DJ.yd 14 rfl (by kernel_rfl) (by kernel_rfl) (by kernel_rfl) rfl rfl (Yd.mvB rfl) ?_
          refine DJ.yd 15 rfl (by kernel_rfl) (by kernel_rfl) (by kernel_rfl) rfl rfl (Yd.loadG (us := [_, _, _, _, _]) 1 rfl rfl rfl rfl) ?_
          refine DJ.yd 17 rfl (by kernel_rfl) (by kernel_rfl) (by kernel_rfl) rfl rfl (Yd.fieldAddr rfl) ?_
          refine DJ.yd 18 rfl (by kernel_rfl) (by kernel_rfl) (by kernel_rfl) rfl rfl (Yd.loadC 1 rfl rfl rfl) ?_
          refine DJ.yd 19 rfl (by kernel_rfl) (by kernel_rfl) (by kernel_rfl) rfl rfl (Yd.indexAddr rfl rfl (by omega) (by simp)) ?_
          refine DJ.yd 20 rfl (by kernel_rfl) (by kernel_rfl) (by kernel_rfl) rfl rfl (Yd.loadRow (i := 0) hrow.up rfl (by simp) rfl hl.len) ?_
          refine DJ.yd 23 rfl (by kernel_rfl) (by kernel_rfl) (by kernel_rfl) rfl rfl (Yd.fieldAddr rfl) ?_
          refine DJ.yd 24 rfl (by kernel_rfl) (by kernel_rfl) (by kernel_rfl) rfl rfl (Yd.loadC 1 rfl rfl rfl) ?_
          refine DJ.yd 25 rfl (by kernel_rfl) (by kernel_rfl) (by kernel_rfl) rfl rfl (Yd.indexAddr rfl rfl (by omega) (by simp)) ?_
          refine DJ.yd 26 rfl (by kernel_rfl) (by kernel_rfl) (by kernel_rfl) rfl rfl (Yd.loadRow (i := 1) hrow.up rfl (by simp) rfl hr.len) ?_
          refine DJ.one (i := 16) (by kernel_rfl) ?_
          refine DO.callV rfl rfl rfl (fun k0 hk0 dk0 k hk dk => PlanSizeI_ok hpl.up) ?_
          refine DJ.one (i := 21) (by kernel_rfl) ?_
          refine DO.callV rfl rfl rfl (fun k0 hk0 dk0 k hk dk => PlanSizeI_ok (RdPlan.of_BT hl).up) ?_
          refine DJ.yd 22 rfl (by kernel_rfl) (by kernel_rfl) (by kernel_rfl) rfl rfl (Yd.add rfl rfl (by unfold I64; omega)) ?_
          refine DJ.one (i := 27) (by kernel_rfl) ?_
          refine DO.callV rfl rfl rfl (fun k0 hk0 dk0 k hk dk => PlanSizeI_ok (RdPlan.of_BT hr).up) ?_
          refine DJ.yd 28 rfl (by kernel_rfl) (by kernel_rfl) (by kernel_rfl) rfl rfl (Yd.add rfl rfl (by unfold I64; omega)) ?_
          refine DJ.yd 29 rfl (by kernel_rfl) (by kernel_rfl) (by kernel_rfl) rfl rfl (Yd.cmpT (Yd.eql rfl rfl) (by omega)) ?_
          refine DJ.yd 30 rfl (by kernel_rfl) (by kernel_rfl) (by kernel_rfl) rfl rfl (Yd.pickTB rfl rfl) ?_
          refine DJ.yd 31 rfl (by kernel_rfl) (by kernel_rfl) (by kernel_rfl) rfl rfl (Yd.asB rfl) ?_
          refine DJ.done (by kernel_rfl) ?_
          refine CJ.ret ?_
          refine Fin.V (Res.one (ResV.tmp (v := .bool true) rfl)) ?_
          rfl
        · refine LJ.nil ?_
          refine CJ.condF rfl ?_
          refine CJ.skip ?_
          refine CJ.seq ?_
          obtain rfl : d = true := by
            cases d
            · exact absurd (by rfl) h58
            · rfl
          have hkk := k1 rfl
          refine CJ.regionD [0, 1, 2, 3] [] (by kernel_rfl) rfl ?_
          refine DJ.norm [_, _, _, _] [] rfl rfl ?_
          refine DJ.yd 0 rfl (by kernel_rfl) (by kernel_rfl) (by kernel_rfl) rfl rfl (Yd.loadG (us := [_, _, _]) 2 rfl rfl rfl rfl) ?_
          refine DJ.yd 1 rfl (by kernel_rfl) (by kernel_rfl) (by kernel_rfl) rfl rfl (Yd.fieldAddr rfl) ?_
          refine DJ.yd 2 rfl (by kernel_rfl) (by kernel_rfl) (by kernel_rfl) rfl rfl (Yd.loadC 1 rfl rfl rfl) ?_
          refine DJ.yd 3 rfl (by kernel_rfl) (by kernel_rfl) (by kernel_rfl) rfl rfl (Yd.indexAddr rfl rfl (by omega) (by simp)) ?_
          refine DJ.yd 4 rfl (by kernel_rfl) (by kernel_rfl) (by kernel_rfl) rfl rfl (Yd.loadRow (i := 0) hrow.up rfl (by simp) rfl hl.len) ?_
          refine DJ.one (i := 5) (by kernel_rfl) ?_
          refine DO.callV rfl rfl rfl (fun k0 hk0 dk0 k hk dk => ValidPlanI_as hps.up (RdPlan.of_BT hl).up hkk.1) ?_
          refine DJ.yd 6 rfl (by kernel_rfl) (by kernel_rfl) (by kernel_rfl) rfl rfl (Yd.mvB rfl) ?_
          refine DJ.yd 7 rfl (by kernel_rfl) (by kernel_rfl) (by kernel_rfl) rfl rfl (Yd.loadG (us := [_, _, _]) 3 rfl rfl rfl rfl) ?_
          refine DJ.yd 8 rfl (by kernel_rfl) (by kernel_rfl) (by kernel_rfl) rfl rfl (Yd.fieldAddr rfl) ?_
          refine DJ.yd 9 rfl (by kernel_rfl) (by kernel_rfl) (by kernel_rfl) rfl rfl (Yd.loadC 1 rfl rfl rfl) ?_
          refine DJ.yd 10 rfl (by kernel_rfl) (by kernel_rfl) (by kernel_rfl) rfl rfl (Yd.indexAddr rfl rfl (by omega) (by simp)) ?_
          refine DJ.yd 11 rfl (by kernel_rfl) (by kernel_rfl) (by kernel_rfl) rfl rfl (Yd.loadRow (i := 1) hrow.up rfl (by simp) rfl hr.len) ?_
          refine DJ.one (i := 12) (by kernel_rfl) ?_
          refine DO.callV rfl rfl rfl (fun k0 hk0 dk0 k hk dk => ValidPlanI_as hps.up (RdPlan.of_BT hr).up hkk.2) ?_
          refine DJ.yd 13 rfl (by kernel_rfl) (by kernel_rfl) (by kernel_rfl) rfl rfl (Yd.pickTB rfl rfl) ?_
          refine DJ.yd 14 rfl (by kernel_rfl) (by kernel_rfl) (by kernel_rfl) rfl rfl (Yd.mvB rfl) ?_
          refine DJ.yd 15 rfl (by kernel_rfl) (by kernel_rfl) (by kernel_rfl) rfl rfl (Yd.loadG (us := [_, _, _, _, _]) 1 rfl rfl rfl rfl) ?_
          refine DJ.yd 17 rfl (by kernel_rfl) (by kernel_rfl) (by kernel_rfl) rfl rfl (Yd.fieldAddr rfl) ?_
          refine DJ.yd 18 rfl (by kernel_rfl) (by kernel_rfl) (by kernel_rfl) rfl rfl (Yd.loadC 1 rfl rfl rfl) ?_
          refine DJ.yd 19 rfl (by kernel_rfl) (by kernel_rfl) (by kernel_rfl) rfl rfl (Yd.indexAddr rfl rfl (by omega) (by simp)) ?_
          refine DJ.yd 20 rfl (by kernel_rfl) (by kernel_rfl) (by kernel_rfl) rfl rfl (Yd.loadRow (i := 0) hrow.up rfl (by simp) rfl hl.len) ?_
          refine DJ.yd 23 rfl (by kernel_rfl) (by kernel_rfl) (by kernel_rfl) rfl rfl (Yd.fieldAddr rfl) ?_
          refine DJ.yd 24 rfl (by kernel_rfl) (by kernel_rfl) (by kernel_rfl) rfl rfl (Yd.loadC 1 rfl rfl rfl) ?_
          refine DJ.yd 25 rfl (by kernel_rfl) (by kernel_rfl) (by kernel_rfl) rfl rfl (Yd.indexAddr rfl rfl (by omega) (by simp)) ?_
          refine DJ.yd 26 rfl (by kernel_rfl) (by kernel_rfl) (by kernel_rfl) rfl rfl (Yd.loadRow (i := 1) hrow.up rfl (by simp) rfl hr.len) ?_
          refine DJ.one (i := 16) (by kernel_rfl) ?_
          refine DO.callV rfl rfl rfl (fun k0 hk0 dk0 k hk dk => PlanSizeI_ok hpl.up) ?_
          refine DJ.one (i := 21) (by kernel_rfl) ?_
          refine DO.callV rfl rfl rfl (fun k0 hk0 dk0 k hk dk => PlanSizeI_ok (RdPlan.of_BT hl).up) ?_
          refine DJ.yd 22 rfl (by kernel_rfl) (by kernel_rfl) (by kernel_rfl) rfl rfl (Yd.add rfl rfl (by unfold I64; omega)) ?_
          refine DJ.one (i := 27) (by kernel_rfl) ?_
          refine DO.callV rfl rfl rfl (fun k0 hk0 dk0 k hk dk => PlanSizeI_ok (RdPlan.of_BT hr).up) ?_
          refine DJ.yd 28 rfl (by kernel_rfl) (by kernel_rfl) (by kernel_rfl) rfl rfl (Yd.add rfl rfl (by unfold I64; omega)) ?_
          refine DJ.yd 29 rfl (by kernel_rfl) (by kernel_rfl) (by kernel_rfl) rfl rfl (Yd.cmpT (Yd.eql rfl rfl) (by omega)) ?_
          refine DJ.yd 30 rfl (by kernel_rfl) (by kernel_rfl) (by kernel_rfl) rfl rfl (Yd.pickTB rfl rfl) ?_
          refine DJ.yd 31 rfl (by kernel_rfl) (by kernel_rfl) (by kernel_rfl) rfl rfl (Yd.asB rfl) ?_
          refine DJ.done (by kernel_rfl) ?_
          refine CJ.ret ?_
          refine Fin.V (Res.one (ResV.tmp (v := .bool true) rfl)) ?_
          rfl
    · refine LJ.yd rfl (Yd.asB rfl) ?_
      refine LJ.nil ?_
      refine CJ.seq ?_
      refine CJ.seq ?_
      refine CJ.region ?_
      refine LJ.yd rfl (Yd.mvB rfl) ?_
      refine LJ.yd rfl (Yd.loadG (us := [_, _, _]) 0 rfl rfl rfl rfl) ?_
      refine LJ.yd rfl (Yd.loadG (us := [_, _, _, _, _]) 1 rfl rfl rfl rfl) ?_
      refine LJ.callV rfl (fun k hk dk => ValidPlanS_as hps.up hpl.up h18) ?_
      refine LJ.yd rfl (Yd.cmpNF (Yd.neqB rfl rfl) (by decide)) ?_
      refine LJ.yd rfl (Yd.mvB rfl) ?_
      refine LJ.gT rfl ?_
      refine LJ.yd rfl (Yd.mvB rfl) ?_
      refine LJ.gT rfl ?_
      refine LJ.yd rfl (Yd.not rfl) ?_
      refine LJ.yd rfl (Yd.pickFB rfl rfl) ?_
      refine LJ.yd rfl (Yd.mvB rfl) ?_
      refine LJ.gF rfl rfl ?_
      refine LJ.gF rfl rfl ?_
      refine LJ.gF rfl rfl ?_
      refine LJ.gF rfl rfl ?_
      refine LJ.yd rfl (Yd.pickTB rfl rfl) ?_
      refine LJ.nil ?_
      refine CJ.condT rfl ?_
      refine CJ.seq ?_
      refine CJ.region ?_
      refine LJ.yd rfl (Yd.mvB rfl) ?_
      refine LJ.yd rfl (Yd.loadG (us := [_, _, _]) 0 rfl rfl rfl rfl) ?_
      refine LJ.yd rfl (Yd.loadG (us := [_, _, _, _, _]) 1 rfl rfl rfl rfl) ?_
      refine LJ.callV rfl (fun k hk dk => ValidPlanS_as hps.up hpl.up h18) ?_
      refine LJ.yd rfl (Yd.cmpT (Yd.eqlB rfl rfl) (by decide)) ?_
      refine LJ.yd rfl (Yd.asB rfl) ?_
      refine LJ.nil ?_
      refine CJ.ret ?_
      refine Fin.V (Res.one (ResV.tmp (v := .bool true) rfl)) ?_
      rfl
end Go.Proofs.Ytolhdpjhibgfiaa
