/-
  Plans with some cuts, drawn: contracts.
-/
import Derived.Test.YtfnnhekbgjofoaaK2
import Derived.Test.YtfnnhekbgjofoaaG5
namespace Go.Proofs.Ytfnnhekbgjofoaa
open Go
set_option maxRecDepth 20000
set_option maxHeartbeats 4000000

theorem Sts.planV {B : Amb} {fr : List HProp} {k : Hp} {cs : List Value} {b : BT} (hk : Sts fr k) (dk : B.h.Dj k) (i : Nat) (hi : fr[i]? = some (fun h => RdT h cs b)) : RdT (B.ext k).h cs b := by
  obtain ⟨m, hm, lm⟩ := hk.get hi
  exact hm.mono (lm.trans (Amb.ext_own dk))
theorem cutsOf_ok (b : BT) : ∀ (A : Amb) (cs : List Value), b.cuts ≤ 1000 → RdT A.h cs b → Ctr Try.prog 65 #[.agg cs.toArray] A [] (Val (vI b.cuts)) := by
  induction b with
  | w =>
    intro A cs hz hr
    cases hr
    refine Ctr.body (args := [_]) Try.func65 rfl Try.ntmps65 Try.results65 (by simp) ?_
    refine CJ.seq ?_
    refine CJ.region ?_
    refine LJ.boxG (vs := [_, _, _, _, _]) rfl rfl (fun b1 => ?_)
    refine LJ.yd rfl (Yd.asI rfl) ?_
    refine LJ.nil ?_
    refine CJ.seq ?_
    refine CJ.seq ?_
    refine CJ.region ?_
    refine LJ.yd rfl (Yd.loadG (us := [_, _, _, _, _]) 0 rfl rfl rfl rfl) ?_
    refine LJ.callV rfl (fun k hk dk => isCutS_ok _ _ _ _ _ _) ?_
    refine LJ.yd rfl (Yd.not rfl) ?_
    refine LJ.nil ?_
    refine CJ.condT rfl ?_
    refine CJ.seq ?_
    refine CJ.region ?_
    refine LJ.yd rfl (Yd.asI rfl) ?_
    refine LJ.nil ?_
    refine CJ.ret ?_
    refine Fin.V (Res.one (ResV.tmp (v := .int _ _) rfl)) ?_
    rfl
  | p i t =>
    intro A cs hz hr
    cases hr
    refine Ctr.body (args := [_]) Try.func65 rfl Try.ntmps65 Try.results65 (by simp) ?_
    refine CJ.seq ?_
    refine CJ.region ?_
    refine LJ.boxG (vs := [_, _, _, _, _]) rfl rfl (fun b1 => ?_)
    refine LJ.yd rfl (Yd.asI rfl) ?_
    refine LJ.nil ?_
    refine CJ.seq ?_
    refine CJ.seq ?_
    refine CJ.region ?_
    refine LJ.yd rfl (Yd.loadG (us := [_, _, _, _, _]) 0 rfl rfl rfl rfl) ?_
    refine LJ.callV rfl (fun k hk dk => isCutS_ok _ _ _ _ _ _) ?_
    refine LJ.yd rfl (Yd.not rfl) ?_
    refine LJ.nil ?_
    refine CJ.condT rfl ?_
    refine CJ.seq ?_
    refine CJ.region ?_
    refine LJ.yd rfl (Yd.asI rfl) ?_
    refine LJ.nil ?_
    refine CJ.ret ?_
    refine Fin.V (Res.one (ResV.tmp (v := .int _ _) rfl)) ?_
    rfl
  | c d a l r ihl ihr =>
    intro A cs hz hr
    obtain _ | _ | ⟨ha, hcap, hrow, hl, hr⟩ := hr
    have h1 := l.cuts_nonneg
    have h2 := r.cuts_nonneg
    simp only [BT.cuts] at hz
    refine Ctr.body (args := [_]) Try.func65 rfl Try.ntmps65 Try.results65 (by simp) ?_
    refine CJ.seq ?_
    refine CJ.region ?_
    refine LJ.boxG (vs := [_, _, _, _, _]) rfl rfl (fun b1 => ?_)
    refine LJ.yd rfl (Yd.asI rfl) ?_
    refine LJ.nil ?_
    refine CJ.seq ?_
    refine CJ.seq ?_
    refine CJ.region ?_
    refine LJ.yd rfl (Yd.loadG (us := [_, _, _, _, _]) 0 rfl rfl rfl rfl) ?_
    refine LJ.callV rfl (fun k hk dk => isCutS_c _ _ _ _ _ _) ?_
    refine LJ.yd rfl (Yd.not rfl) ?_
    refine LJ.nil ?_
    refine CJ.condF rfl ?_
    refine CJ.skip ?_
    refine CJ.seq ?_
    refine CJ.regionD [0] [] (by kernel_rfl) rfl ?_
    refine DJ.norm [_] [] rfl rfl ?_
    refine DJ.yd 0 rfl (by kernel_rfl) (by kernel_rfl) (by kernel_rfl) rfl rfl (Yd.fieldAddr rfl) ?_
    refine DJ.yd 1 rfl (by kernel_rfl) (by kernel_rfl) (by kernel_rfl) rfl rfl (Yd.loadC 0 rfl rfl rfl) ?_
    refine DJ.yd 2 rfl (by kernel_rfl) (by kernel_rfl) (by kernel_rfl) rfl rfl (Yd.indexAddr rfl rfl (by omega) (by simp)) ?_
    refine DJ.yd 3 rfl (by kernel_rfl) (by kernel_rfl) (by kernel_rfl) rfl rfl (Yd.loadRow (i := 0) hrow.up rfl (by simp) rfl hl.len) ?_
    refine DJ.yd 6 rfl (by kernel_rfl) (by kernel_rfl) (by kernel_rfl) rfl rfl (Yd.fieldAddr rfl) ?_
    refine DJ.yd 7 rfl (by kernel_rfl) (by kernel_rfl) (by kernel_rfl) rfl rfl (Yd.loadC 0 rfl rfl rfl) ?_
    refine DJ.yd 8 rfl (by kernel_rfl) (by kernel_rfl) (by kernel_rfl) rfl rfl (Yd.indexAddr rfl rfl (by omega) (by simp)) ?_
    refine DJ.yd 9 rfl (by kernel_rfl) (by kernel_rfl) (by kernel_rfl) rfl rfl (Yd.loadRow (i := 1) hrow.up rfl (by simp) rfl hr.len) ?_
    refine DJ.one (i := 4) (by kernel_rfl) ?_
    refine DO.callV rfl rfl rfl (fun k0 hk0 dk0 k hk dk => ihl _ _ (by omega) hl.up) ?_
    refine DJ.yd 5 rfl (by kernel_rfl) (by kernel_rfl) (by kernel_rfl) rfl rfl (Yd.add rfl rfl (by unfold I64; omega)) ?_
    refine DJ.one (i := 10) (by kernel_rfl) ?_
    refine DO.callV rfl rfl rfl (fun k0 hk0 dk0 k hk dk => ihr _ _ (by omega) hr.up) ?_
    refine DJ.yd 11 rfl (by kernel_rfl) (by kernel_rfl) (by kernel_rfl) rfl rfl (Yd.add rfl rfl (by unfold I64; omega)) ?_
    refine DJ.yd 12 rfl (by kernel_rfl) (by kernel_rfl) (by kernel_rfl) rfl rfl (Yd.asI rfl) ?_
    refine DJ.done (by kernel_rfl) ?_
    refine CJ.ret ?_
    refine Fin.V (Res.one (ResV.tmp (v := .int _ _) rfl)) ?_
    simp [BT.cuts]
def CutsPlanR (rb : Nat) (a : Option Addr) (n c : Nat) (p : Int) (v : Value) (fs : List HProp) : Prop :=
  ∃ (W H : Int) (ka : Option Addr) (km kc : Nat) (o e i : Int) (t : Bool) (x : Option Addr) (m l : Nat) (pl : Plan) (q : Int) (ps : List Pane), v = .tuple #[.agg #[vI W, vI H, .slice ka km kc], .agg #[vI o, vI e, vI i, .bool t, .slice x m l]] ∧
    fs = [Rd rb a n c q, fun h => RdPanes h (.slice ka km kc) ps, fun h => RdPlan h [vI o, vI e, vI i, .bool t, .slice x m l] pl] ∧ p ≤ q ∧ q ≤ p + 1100
theorem cutsPlan_ok {A : Amb} {rb n c : Nat} {a : Option Addr} {p most : Int} (hcode : RdCode A.h a n) (hp0 : 0 ≤ p) (hp1 : p ≤ 1000) :
    Ctr Try.prog 63 #[.pointer (some ⟨rb, 0, none⟩), vI most] A [Rd rb a n c p] (CutsPlanR rb a n c p) := by
  refine Ctr.body (args := [_, _]) Try.func63 rfl Try.ntmps63 Try.results63 (by simp) ?_
  refine CJ.seq ?_
  refine CJ.region ?_
  refine LJ.alloc ([_, _, _] : List Value) rfl rfl (fun b1 => ?_)
  refine LJ.alloc ([_, _, _, _, _] : List Value) rfl rfl (fun b2 => ?_)
  refine LJ.nil ?_
  refine CJ.seq ?_
  refine CJ.seq ?_
  refine CJ.region ?_
  refine LJ.yd rfl (Yd.asI rfl) ?_
  refine LJ.nil ?_
  refine CJ.block ?_
  refine CJ.loopF [0, 1, 4, 5] (Nat × Int) (fun ⟨j, q⟩ => j ≤ 4 ∧ p ≤ q ∧ q ≤ p + 200 * j) (fun ⟨j, q⟩ => [(6, vI j)]) (fun ⟨j, q⟩ => [Rd rb a n c q]) (fun ⟨j, q⟩ => 4 - j) (0, p) [_, _] [1, 2] [0] rfl rfl rfl ?_ ⟨rfl, trivial⟩ ?_
  · exact ⟨by omega, by omega, by omega⟩
  · rintro ⟨j, q⟩ σ ⟨hj1, hq0, hq9⟩
    refine CJ.norm [_, _, _] rfl ?_
    refine CJ.seq ?_
    refine CJ.seq ?_
    refine CJ.region ?_
    refine LJ.yd rfl (Yd.mvI rfl) ?_
    refine LJ.splitD rfl (Yd.lss rfl rfl) (fun h10 => ?_) (fun h10 => ?_)
    · refine LJ.nil ?_
      refine CJ.condT rfl ?_
      refine CJ.skip ?_
      refine CJ.seq ?_
      refine CJ.block ?_
      refine CJ.seq ?_
      refine CJ.region ?_
      refine LJ.yd rfl (Yd.mvP rfl) ?_
      refine LJ.call (pickF _ [0, 1]) (pickF _ [2]) rfl (perm_pickF _ [0, 1] [2] rfl) (fun k hk dk => workPlan_ok hcode.up (by omega) (by omega)) ?_
      rintro _ _ ⟨W, H, ka, km, kc, o, e, i, t, x, m, l, b, q2, ps, rfl, rfl, hq1, hq2, hW1, hW2, hH1, hH2, hl1, hw1, hz1⟩
      have hsc := b.sz_cuts
      refine LJ.norm [_, _, _, _, _] rfl ?_
      refine LJ.yd rfl (Yd.mvU rfl) ?_
      refine LJ.yd rfl (Yd.extract rfl rfl) ?_
      refine LJ.yd rfl (Yd.extract rfl rfl) ?_
      refine LJ.alloc ([_, _, _] : List Value) rfl rfl (fun b3 => ?_)
      refine LJ.alloc ([_, _, _, _, _] : List Value) rfl rfl (fun b4 => ?_)
      refine LJ.store (v := .agg #[_, _, _]) (us := [_, _, _]) 5 rfl rfl rfl rfl rfl rfl rfl rfl ?_
      refine LJ.store (v := .agg #[_, _, _, _, _]) (us := [_, _, _, _, _]) 6 rfl rfl rfl rfl rfl rfl rfl rfl ?_
      refine LJ.nil ?_
      refine CJ.seq ?_
      refine CJ.region ?_
      refine LJ.yd rfl (Yd.loadG (us := [_, _, _, _, _]) 6 rfl rfl rfl rfl) ?_
      refine LJ.callV rfl (fun k hk dk => cutsOf_ok b _ _ (by omega) (Sts.planV hk dk 4 rfl)) ?_
      refine LJ.yd rfl (Yd.mvI rfl) ?_
      refine LJ.splitD rfl (Yd.leq rfl rfl) (fun h21 => ?_) (fun h21 => ?_)
      · refine LJ.yd rfl (Yd.mvB rfl) ?_
        refine LJ.gT rfl ?_
        refine LJ.yd rfl (Yd.loadG (us := [_, _, _, _, _]) 6 rfl rfl rfl rfl) ?_
        refine LJ.gT rfl ?_
        refine LJ.callV rfl (fun k hk dk => cutsOf_ok b _ _ (by omega) (Sts.planV hk dk 4 rfl)) ?_
        refine LJ.gT rfl ?_
        refine LJ.splitD rfl (Yd.gtr rfl rfl) (fun h25 => ?_) (fun h25 => ?_)
        · refine LJ.yd rfl (Yd.pickTB rfl rfl) ?_
          refine LJ.nil ?_
          refine CJ.condT rfl ?_
          refine CJ.seq ?_
          refine CJ.imp1 4 rfl (fun _ r => RdPlan.of_BT r) ?_
          refine CJ.norm [_, _, _, _, _, _, _] rfl ?_
          refine CJ.regionD [2, 3, 4, 5, 6] [0, 1] (by kernel_rfl) rfl ?_
          refine DJ.norm [_, _, _, _, _] [_, _] rfl rfl ?_
          refine DJ.yd 0 rfl (by kernel_rfl) (by kernel_rfl) (by kernel_rfl) rfl rfl (Yd.loadG (us := [_, _, _]) 3 rfl rfl rfl rfl) ?_
          refine DJ.yd 1 rfl (by kernel_rfl) (by kernel_rfl) (by kernel_rfl) rfl rfl (Yd.loadG (us := [_, _, _, _, _]) 4 rfl rfl rfl rfl) ?_
          refine DJ.one (i := 2) (by kernel_rfl) ?_
          refine DO.store (v := .agg #[_, _, _]) (us := [_, _, _]) 0 rfl rfl rfl rfl rfl rfl rfl rfl rfl rfl ?_
          refine DJ.one (i := 3) (by kernel_rfl) ?_
          refine DO.store (v := .agg #[_, _, _, _, _]) (us := [_, _, _, _, _]) 1 rfl rfl rfl rfl rfl rfl rfl rfl rfl rfl ?_
          refine DJ.done (by kernel_rfl) ?_
          refine CJ.ret ?_
          exact Fin.R [_, _, _] (Res.two (ResV.cell (us := [_, _, _]) 5 rfl rfl rfl rfl) (ResV.cell (us := [_, _, _, _, _]) 6 rfl rfl rfl rfl)) ⟨_, _, _, _, _, _, _, _, _, _, _, _, _, _, _, rfl, rfl, by omega, by omega⟩ (Ent.pick [0, 1, 2] [3, 4, 5, 6] rfl)
        · refine LJ.yd rfl (Yd.pickTB rfl rfl) ?_
          refine LJ.nil ?_
          refine CJ.condF rfl ?_
          refine CJ.skip ?_
          refine CJ.region ?_
          refine LJ.yd rfl (Yd.mvI rfl) ?_
          refine LJ.yd rfl (Yd.add rfl rfl (by unfold I64; omega)) ?_
          refine LJ.yd rfl (Yd.asI rfl) ?_
          refine LJ.nil ?_
          refine ⟨(j + 1, _), ?_, ⟨rfl, rfl, rfl, rfl, trivial⟩, ⟨rfl, trivial⟩, Ent.pick [0, 1, 2] [3, 4, 5, 6] rfl, ?_⟩
          · refine ⟨by omega, ?_⟩
            exact ⟨by omega, by omega⟩
          · first | omega | (dsimp only; omega) | (simp only []; omega)
      · refine LJ.yd rfl (Yd.mvB rfl) ?_
        refine LJ.gF rfl rfl ?_
        refine LJ.gF rfl rfl ?_
        refine LJ.gF rfl rfl ?_
        refine LJ.yd rfl (Yd.pickFB rfl rfl) ?_
        refine LJ.nil ?_
        refine CJ.condF rfl ?_
        refine CJ.skip ?_
        refine CJ.region ?_
        refine LJ.yd rfl (Yd.mvI rfl) ?_
        refine LJ.yd rfl (Yd.add rfl rfl (by unfold I64; omega)) ?_
        refine LJ.yd rfl (Yd.asI rfl) ?_
        refine LJ.nil ?_
        refine ⟨(j + 1, _), ?_, ⟨rfl, rfl, rfl, rfl, trivial⟩, ⟨rfl, trivial⟩, Ent.pick [0, 1, 2] [3, 4, 5, 6] rfl, ?_⟩
        · refine ⟨by omega, ?_⟩
          exact ⟨by omega, by omega⟩
        · first | omega | (dsimp only; omega) | (simp only []; omega)
    · refine LJ.nil ?_
      refine CJ.condF rfl ?_
      refine CJ.exit ?_
      refine CJ.seq ?_
      refine CJ.region ?_
      refine LJ.yd rfl (Yd.mvP rfl) ?_
      refine LJ.call (pickF _ [0, 1]) (pickF _ [2]) rfl (perm_pickF _ [0, 1] [2] rfl) (fun k hk dk => anyPlan_ok hcode.up (by omega) (by omega)) ?_
      rintro _ _ ⟨W, H, ka, km, kc, o, e, i, t, x, m, l, pl, q2, ps, rfl, rfl, hq1, hq2, hW1, hW2, hH1, hH2, hl1, hw1⟩
      refine LJ.norm [_, _, _, _, _] rfl ?_
      refine LJ.yd rfl (Yd.extract rfl rfl) ?_
      refine LJ.yd rfl (Yd.extract rfl rfl) ?_
      refine LJ.store (v := .agg #[_, _, _]) (us := [_, _, _]) 0 rfl rfl rfl rfl rfl rfl rfl rfl ?_
      refine LJ.store (v := .agg #[_, _, _, _, _]) (us := [_, _, _, _, _]) 1 rfl rfl rfl rfl rfl rfl rfl rfl ?_
      refine LJ.nil ?_
      refine CJ.ret ?_
      exact Fin.R [_, _, _] (Res.two (ResV.cell (us := [_, _, _]) 0 rfl rfl rfl rfl) (ResV.cell (us := [_, _, _, _, _]) 1 rfl rfl rfl rfl)) ⟨_, _, _, _, _, _, _, _, _, _, _, _, _, _, _, rfl, rfl, by omega, by omega⟩ (Ent.pick [2, 3, 4] [0, 1] rfl)
theorem DrawAllSteps_ok {A : Amb} {a : Option Addr} {n c : Nat} (h : Code A.h a n c) : Ctr Try.prog 23 #[.slice a n c] A [] AnyR := by
  obtain ⟨hcode, hn, ha, hs⟩ := h
  refine Ctr.body (args := [_]) Try.func23 rfl Try.ntmps23 Try.results23 (by simp) ?_
  refine CJ.seq ?_
  refine CJ.region ?_
  refine LJ.alloc ([_, _, _, _, _] : List Value) rfl rfl (fun b1 => ?_)
  refine LJ.nil ?_
  refine CJ.seq ?_
  refine CJ.region ?_
  refine LJ.yd rfl (Yd.mvS rfl) ?_
  refine LJ.call0 rfl (fun k hk dk => newReader_ok hn hcode.up ha hs) ?_
  rintro _ _ ⟨rb, n2, rfl, hn1, hn2, rfl⟩
  have hcode2 := hcode.le hn2
  refine LJ.call (pickF _ [0]) (pickF _ [1]) rfl (perm_pickF _ [0] [1] rfl) (fun k hk dk => cutsPlan_ok hcode2.up (by omega) (by omega)) ?_
  rintro _ _ ⟨W, H, ka, km, kc, o, e, i, t, x, m, l, pl, q, ps, rfl, rfl, hq1, hq2⟩
  refine LJ.norm [_, _, _, _] rfl ?_
  refine LJ.yd rfl (Yd.mvU rfl) ?_
  refine LJ.yd rfl (Yd.extract rfl rfl) ?_
  refine LJ.yd rfl (Yd.extract rfl rfl) ?_
  refine LJ.alloc ([_, _, _] : List Value) rfl rfl (fun b2 => ?_)
  refine LJ.alloc ([_, _, _, _, _] : List Value) rfl rfl (fun b3 => ?_)
  refine LJ.store (v := .agg #[_, _, _]) (us := [_, _, _]) 4 rfl rfl rfl rfl rfl rfl rfl rfl ?_
  refine LJ.store (v := .agg #[_, _, _, _, _]) (us := [_, _, _, _, _]) 5 rfl rfl rfl rfl rfl rfl rfl rfl ?_
  refine LJ.nil ?_
  refine CJ.seq ?_
  refine CJ.region ?_
  refine LJ.yd rfl (Yd.loadG (us := [_, _, _, _, _]) 5 rfl rfl rfl rfl) ?_
  refine LJ.store (v := .agg #[_, _, _, _, _]) (us := [_, _, _, _, _]) 0 rfl rfl rfl rfl rfl rfl rfl rfl ?_
  refine LJ.nil ?_
  refine CJ.ret ?_
  exact Fin.R [_] (Res.one (ResV.cell (us := [_, _, _, _, _]) 0 rfl rfl rfl rfl)) ⟨_, _, _, _, _, _, _, _, rfl, rfl⟩ (Ent.pick [3] [0, 1, 2, 4, 5] rfl)
end Go.Proofs.Ytfnnhekbgjofoaa
