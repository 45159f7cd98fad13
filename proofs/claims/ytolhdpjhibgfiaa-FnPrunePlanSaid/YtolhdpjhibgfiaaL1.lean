/-
  The law FnPrunePlan: its walk, and the plain law.
-/
import Derived.Test.YtolhdpjhibgfiaaG5
namespace Go.Proofs.Ytolhdpjhibgfiaa
open Go
set_option maxRecDepth 20000
set_option maxHeartbeats 4000000

/-- a plan as a tree -/
def toBT : Plan → BT
  | .mk o a p t kids => if o = 1 then .p p t else match kids with
    | [k0, k1] => .c (decide (o = 2)) a (toBT k0) (toBT k1)
    | _ => .w
theorem toBT_plan : ∀ b : BT, toBT b.plan = b
  | .w => by simp [BT.plan, toBT]
  | .p i t => by simp [BT.plan, toBT]
  | .c d a l r => by
    have h1 := toBT_plan l
    have h2 := toBT_plan r
    cases d <;> simp [BT.plan, toBT, opOf, h1, h2]
def prP (q : Plan) : BT := if psz q < 0 then .w else (toBT q).prune
theorem sz_of_psz {b : BT} (h : ¬ psz b.plan < 0) : b.sz ≤ 255 ∧ psz b.plan = b.sz := by
  rw [psz_BT] at *; split at h <;> simp_all
theorem prP_bad {q : Plan} (h : psz q < 0) : prP q = .w := if_pos h
theorem prP_BT {b : BT} (h : ¬ psz b.plan < 0) : prP b.plan = b.prune := by unfold prP; rw [if_neg h, toBT_plan]
theorem PrunePlanI_all {A : Amb} {cs : List Value} {q : Plan} (h : RdPlan A.h cs q) : Ctr Try.prog 15 #[.agg cs.toArray] A [] (PlanV (prP q)) := by
  by_cases hq : psz q < 0
  · rw [prP_bad hq]; exact PrunePlanI_bad h hq
  · obtain ⟨b, rfl⟩ := BT.of_psz q (by omega)
    rw [prP_BT hq]
    exact PrunePlanI_ok (RdT.of b h) (sz_of_psz hq).1
theorem PrunePlanS_all {A0 A : Amb} [AmbLe A0 A] {cs : List Value} {q : Plan} (h : RdPlan A0.h cs q) : Ctr Try.prog 17 #[.agg cs.toArray] A [] (PlanW A0 (prP q)) := by
  by_cases hq : psz q < 0
  · rw [prP_bad hq]; exact PrunePlanS_bad A0 h.up hq
  · obtain ⟨b, rfl⟩ := BT.of_psz q (by omega)
    rw [prP_BT hq]
    exact PrunePlanS_ok (RdT.of b h) (sz_of_psz hq).1
theorem BT.has_prune : ∀ b : BT, b.prune.has = b.has
  | .w => rfl
  | .p _ _ => rfl
  | .c d a l r => by
    by_cases h : (l.has || r.has) = true
    · simp only [BT.prune, h, if_true, BT.has, BT.has_prune l, BT.has_prune r]
    · simp only [BT.prune, h, if_false, BT.has, Bool.false_eq_true]
theorem BT.prune_prune : ∀ b : BT, b.prune.prune = b.prune
  | .w => rfl
  | .p _ _ => rfl
  | .c d a l r => by
    by_cases h : (l.has || r.has) = true
    · simp only [BT.prune, h, if_true, BT.has_prune l, BT.has_prune r, BT.prune_prune l, BT.prune_prune r]
    · simp only [BT.prune, h, if_false, Bool.false_eq_true]
theorem BT.prune_sz : ∀ b : BT, b.prune.sz ≤ b.sz
  | .w => Int.le_refl _
  | .p _ _ => Int.le_refl _
  | .c d a l r => by
    have h1 := BT.prune_sz l
    have h2 := BT.prune_sz r
    have h3 := l.sz_pos
    have h4 := r.sz_pos
    simp only [BT.prune]
    split <;> simp only [BT.sz] <;> omega
theorem BT.prune_stages : ∀ (b : BT) (ab : Int), b.prune.stages ab ≤ b.stages ab
  | .w, _ => Int.le_refl _
  | .p _ _, _ => Int.le_refl _
  | .c d a l r, ab => by
    have h1 := BT.prune_stages l (opOf d)
    have h2 := BT.prune_stages r (opOf d)
    have h3 := (l.stages_le (opOf d)).1
    simp only [BT.prune]
    split
    · simp only [BT.stages]; omega
    · have : (BT.c d a l r).stages ab ≥ 0 := ((BT.c d a l r).stages_le ab).1
      simp only [BT.stages] at *; omega
theorem Sts.planW {A0 B : Amb} [AmbLe A0 B] {fr : List HProp} {k : Hp} {cs : List Value} {b : BT} (hk : Sts fr k) (dk : B.h.Dj k) (i : Nat) (hi : fr[i]? = some (fun h => RdT (A0.ext h).h cs b)) : RdT (B.ext k).h cs b := by
  obtain ⟨m, hm, lm⟩ := hk.get hi
  exact hm.mono (Hp.un_le (up.trans (Hp.le_un_l _ _)) (lm.trans (Amb.ext_own dk)))
theorem Sts.planV {B : Amb} {fr : List HProp} {k : Hp} {cs : List Value} {b : BT} (hk : Sts fr k) (dk : B.h.Dj k) (i : Nat) (hi : fr[i]? = some (fun h => RdT h cs b)) : RdT (B.ext k).h cs b := by
  obtain ⟨m, hm, lm⟩ := hk.get hi
  exact hm.mono (lm.trans (Amb.ext_own dk))
theorem equalPlan_same {A : Amb} {cs cs2 : List Value} {b b2 : BT} (h : RdT A.h cs b) (h2 : RdT A.h cs2 b2) (e : b = b2) : Ctr Try.prog 16 #[.agg cs.toArray, .agg cs2.toArray] A [] (Val (.bool true)) := by
  have := equalPlan_ok h h2
  rwa [decide_eq_true e] at this
theorem FnPrunePlan_ok {A : Amb} {a : Option Addr} {n c : Nat} (h : Code A.h a n c) : Ctr Try.prog 3 #[.slice a n c] A [] (Val (.bool true)) := by
  refine Ctr.body (args := [_]) Try.func3 rfl Try.ntmps3 Try.results3 (by simp) ?_
  refine CJ.seq ?_
  refine CJ.region ?_
  refine LJ.yd rfl (Yd.asB rfl) ?_
  refine LJ.nil ?_
  refine CJ.seq ?_
  refine CJ.seq ?_
  refine CJ.region ?_
  refine LJ.yd rfl (Yd.mvS rfl) ?_
  refine LJ.yd rfl (Yd.len rfl) ?_
  refine LJ.splitD rfl (Yd.gtr rfl rfl) (fun h7 => ?_) (fun h7 => ?_)
  · refine LJ.nil ?_
    refine CJ.condT rfl ?_
    refine CJ.seq ?_
    refine CJ.region ?_
    refine LJ.yd rfl (Yd.asB rfl) ?_
    refine LJ.nil ?_
    refine CJ.ret ?_
    refine Fin.V (Res.one (ResV.tmp (v := .bool true) rfl)) ?_
    first | rfl | exact congrArg Value.bool (decide_eq_true hstg)
  · refine LJ.nil ?_
    refine CJ.condF rfl ?_
    refine CJ.skip ?_
    refine CJ.seq ?_
    refine CJ.region ?_
    refine LJ.yd rfl (Yd.mvS rfl) ?_
    refine LJ.call0 rfl (fun k hk dk => DrawPrunePlan_ok h.up) ?_
    rintro _ _ ⟨o, e, i, t, x, m, l, pl, rfl, rfl⟩
    refine LJ.alloc ([_, _, _, _, _] : List Value) rfl rfl (fun b1 => ?_)
    refine LJ.store (v := .agg #[_, _, _, _, _]) (us := [_, _, _, _, _]) 1 rfl rfl rfl rfl rfl rfl rfl rfl ?_
    refine LJ.nil ?_
    refine CJ.seq ?_
    refine CJ.amb (perm_pickF _ [0] [1] rfl) (fun m9 h9 d9 => ?_)
    refine CJ.norm [_] rfl ?_
    have hpl : RdPlan (A.ext m9).h [vI o, vI e, vI i, .bool t, .slice x m l] pl := RdPlan.mono (Amb.ext_own d9) h9
    refine CJ.region ?_
    refine LJ.yd rfl (Yd.loadG (us := [_, _, _, _, _]) 0 rfl rfl rfl rfl) ?_
    refine LJ.call0 rfl (fun k hk dk => PrunePlanI_all hpl.up) ?_
    rintro _ _ ⟨o2, e2, i2, t2, x2, m2, l2, rfl, rfl⟩
    refine LJ.alloc ([_, _, _, _, _] : List Value) rfl rfl (fun b2 => ?_)
    refine LJ.store (v := .agg #[_, _, _, _, _]) (us := [_, _, _, _, _]) 2 rfl rfl rfl rfl rfl rfl rfl rfl ?_
    refine LJ.nil ?_
    refine CJ.seq ?_
    refine CJ.seq ?_
    refine CJ.amb (perm_pickF _ [1] [0, 2] rfl) (fun m8 h8 d8 => ?_)
    refine CJ.norm [_, _] rfl ?_
    have hout : RdT ((A.ext m9).ext m8).h [vI o2, vI e2, vI i2, .bool t2, .slice x2 m2 l2] (prP pl) := RdT.mono (Amb.ext_own d8) h8
    refine CJ.regionD [0, 1] [] (by kernel_rfl) rfl ?_
    refine DJ.norm [_, _] [] rfl rfl ?_
    refine DJ.yd 0 rfl (by kernel_rfl) (by kernel_rfl) (by kernel_rfl) rfl rfl (Yd.loadG (us := [_, _, _, _, _]) 1 rfl rfl rfl rfl) ?_
    refine DJ.yd 1 rfl (by kernel_rfl) (by kernel_rfl) (by kernel_rfl) rfl rfl (Yd.loadG (us := [_, _, _, _, _]) 0 rfl rfl rfl rfl) ?_
    refine DJ.one (i := 2) (by kernel_rfl) ?_
    refine DO.call0 rfl rfl rfl (fun k0 hk0 dk0 k hk dk => PrunePlanS_all hpl) ?_
    rintro _ _ ⟨o3, e3, i3, t3, x3, m3, l3, rfl, rfl⟩
    refine DJ.one (i := 3) (by kernel_rfl) ?_
    refine DO.callV rfl rfl rfl (fun k0 hk0 dk0 k hk dk => equalPlan_same hout.up (Sts.planW hk dk 0 rfl) rfl) ?_
    refine DJ.yd 4 rfl (by kernel_rfl) (by kernel_rfl) (by kernel_rfl) rfl rfl (Yd.not rfl) ?_
    refine DJ.yd 5 rfl (by kernel_rfl) (by kernel_rfl) (by kernel_rfl) rfl rfl (Yd.mvB rfl) ?_
    refine DJ.yd 6 rfl (by kernel_rfl) (by kernel_rfl) (by kernel_rfl) rfl rfl (Yd.loadG (us := [_, _, _, _, _]) 0 rfl rfl rfl rfl) ?_
    refine DJ.one (i := 7) (by kernel_rfl) ?_
    refine DO.callV rfl rfl rfl (fun k0 hk0 dk0 k hk dk => PlanSizeI_ok hpl.up) ?_
    refine DJ.splitD 8 rfl (by kernel_rfl) (by kernel_rfl) (by kernel_rfl) rfl rfl (Yd.lss rfl rfl) (fun h20 => ?_) (fun h20 => ?_)
    · refine DJ.yd 9 rfl (by kernel_rfl) (by kernel_rfl) (by kernel_rfl) rfl rfl (Yd.pickFB rfl rfl) ?_
      refine DJ.done (by kernel_rfl) ?_
      refine CJ.condT rfl ?_
      refine CJ.seq ?_
      refine CJ.regionD [0, 1, 2] [] (by kernel_rfl) rfl ?_
      refine DJ.norm [_, _, _] [] rfl rfl ?_
      refine DJ.yd 0 rfl (by kernel_rfl) (by kernel_rfl) (by kernel_rfl) rfl rfl (Yd.loadG (us := [_, _, _, _, _]) 1 rfl rfl rfl rfl) ?_
      refine DJ.yd 1 rfl (by kernel_rfl) (by kernel_rfl) (by kernel_rfl) rfl rfl (Yd.loadG (us := [_, _, _, _, _]) 0 rfl rfl rfl rfl) ?_
      refine DJ.one (i := 2) (by kernel_rfl) ?_
      refine DO.call0 rfl rfl rfl (fun k0 hk0 dk0 k hk dk => PrunePlanS_all hpl) ?_
      rintro _ _ ⟨o3, e3, i3, t3, x3, m3, l3, rfl, rfl⟩
      refine DJ.one (i := 3) (by kernel_rfl) ?_
      refine DO.callV rfl rfl rfl (fun k0 hk0 dk0 k hk dk => equalPlan_same hout.up (Sts.planW hk dk 0 rfl) rfl) ?_
      refine DJ.yd 4 rfl (by kernel_rfl) (by kernel_rfl) (by kernel_rfl) rfl rfl (Yd.asB rfl) ?_
      refine DJ.done (by kernel_rfl) ?_
      refine CJ.ret ?_
      refine Fin.V (Res.one (ResV.tmp (v := .bool true) rfl)) ?_
      first | rfl | exact congrArg Value.bool (decide_eq_true hstg)
    · refine DJ.yd 9 rfl (by kernel_rfl) (by kernel_rfl) (by kernel_rfl) rfl rfl (Yd.pickFB rfl rfl) ?_
      refine DJ.done (by kernel_rfl) ?_
      refine CJ.condF rfl ?_
      refine CJ.skip ?_
      refine CJ.seq ?_
      obtain ⟨b, rfl⟩ := BT.of_psz pl (by omega)
      rw [prP_BT h20] at hout
      obtain ⟨hz, hpz⟩ := sz_of_psz h20
      have hb : RdT (A.ext m9).h [vI o, vI e, vI i, .bool t, .slice x m l] b := RdT.of b hpl
      have hpr := b.prune_sz
      have hz2 : b.prune.sz ≤ 255 := by omega
      have hpz2 : psz b.prune.plan = b.prune.sz := by rw [psz_BT, if_pos hz2]
      have hpos := b.prune.sz_pos
      have hstg := b.prune_stages 0
      refine CJ.regionD [0, 1, 2] [] (by kernel_rfl) rfl ?_
      refine DJ.norm [_, _, _] [] rfl rfl ?_
      refine DJ.yd 0 rfl (by kernel_rfl) (by kernel_rfl) (by kernel_rfl) rfl rfl (Yd.loadG (us := [_, _, _, _, _]) 1 rfl rfl rfl rfl) ?_
      refine DJ.yd 2 rfl (by kernel_rfl) (by kernel_rfl) (by kernel_rfl) rfl rfl (Yd.loadG (us := [_, _, _, _, _]) 1 rfl rfl rfl rfl) ?_
      refine DJ.one (i := 1) (by kernel_rfl) ?_
      refine DO.call0 rfl rfl rfl (fun k0 hk0 dk0 k hk dk => PrunePlanI_ok hout.up hz2) ?_
      rintro _ _ ⟨o4, e4, i4, t4, x4, m4, l4, rfl, rfl⟩
      refine DJ.one (i := 3) (by kernel_rfl) ?_
      refine DO.callV rfl rfl rfl (fun k0 hk0 dk0 k hk dk => equalPlan_same (Sts.planV hk dk 0 rfl) hout.up b.prune_prune) ?_
      refine DJ.yd 4 rfl (by kernel_rfl) (by kernel_rfl) (by kernel_rfl) rfl rfl (Yd.mvB rfl) ?_
      refine DJ.yd 5 rfl (by kernel_rfl) (by kernel_rfl) (by kernel_rfl) rfl rfl (Yd.loadG (us := [_, _, _, _, _]) 1 rfl rfl rfl rfl) ?_
      refine DJ.yd 7 rfl (by kernel_rfl) (by kernel_rfl) (by kernel_rfl) rfl rfl (Yd.loadG (us := [_, _, _, _, _]) 0 rfl rfl rfl rfl) ?_
      refine DJ.one (i := 6) (by kernel_rfl) ?_
      refine DO.callV rfl rfl rfl (fun k0 hk0 dk0 k hk dk => CutsOf_ok (RdPlan.of_BT hout).up) ?_
      refine DJ.one (i := 8) (by kernel_rfl) ?_
      refine DO.callV rfl rfl rfl (fun k0 hk0 dk0 k hk dk => CutsOf_ok hpl.up) ?_
      refine DJ.yd 9 rfl (by kernel_rfl) (by kernel_rfl) (by kernel_rfl) rfl rfl (Yd.cmpT (Yd.leq rfl rfl) (by rw [hpz, hpz2, if_neg (by omega), if_neg (by omega)]; omega)) ?_
      refine DJ.yd 10 rfl (by kernel_rfl) (by kernel_rfl) (by kernel_rfl) rfl rfl (Yd.pickTB rfl rfl) ?_
      refine DJ.yd 11 rfl (by kernel_rfl) (by kernel_rfl) (by kernel_rfl) rfl rfl (Yd.mvB rfl) ?_
      refine DJ.yd 12 rfl (by kernel_rfl) (by kernel_rfl) (by kernel_rfl) rfl rfl (Yd.loadG (us := [_, _, _, _, _]) 1 rfl rfl rfl rfl) ?_
      refine DJ.yd 14 rfl (by kernel_rfl) (by kernel_rfl) (by kernel_rfl) rfl rfl (Yd.loadG (us := [_, _, _, _, _]) 0 rfl rfl rfl rfl) ?_
      refine DJ.one (i := 13) (by kernel_rfl) ?_
      refine DO.callV rfl rfl rfl (fun k0 hk0 dk0 k hk dk => StagesOf_ok hz2 hout.up) ?_
      refine DJ.one (i := 15) (by kernel_rfl) ?_
      refine DO.callV rfl rfl rfl (fun k0 hk0 dk0 k hk dk => StagesOf_ok hz hb.up) ?_
      refine DJ.yd 16 rfl (by kernel_rfl) (by kernel_rfl) (by kernel_rfl) rfl rfl (Yd.leq rfl rfl) ?_
      refine DJ.yd 17 rfl (by kernel_rfl) (by kernel_rfl) (by kernel_rfl) rfl rfl (Yd.pickTB rfl rfl) ?_
      refine DJ.yd 18 rfl (by kernel_rfl) (by kernel_rfl) (by kernel_rfl) rfl rfl (Yd.asB rfl) ?_
      refine DJ.done (by kernel_rfl) ?_
      refine CJ.ret ?_
      refine Fin.V (Res.one (ResV.tmp (v := .bool _) rfl)) ?_
      first | rfl | exact congrArg Value.bool (decide_eq_true hstg)
end Go.Proofs.Ytolhdpjhibgfiaa
