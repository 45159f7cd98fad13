/-
  Contracts: plans that fit, valid plans.
-/
import Derived.Test.YtlpjienaennmaaaP3
import Derived.Test.YtlpjienaennmaaaPB
namespace Go.Proofs.Ytlpjienaennmaaa
open Go
set_option maxRecDepth 20000
set_option maxHeartbeats 800000

theorem sheetOf_ok (A : Amb) (W H : Int) (a : Option Addr) (n c : Nat) : Ctr Try.prog 54 #[.agg #[vI W, vI H, .slice a n c]] A [] (Val (.agg #[vI 0, vI 0, vI W, vI H])) := by
  refine Ctr.body (args := [_]) Try.func54 rfl Try.ntmps54 Try.results54 (by simp) ?_
  refine CJ.seq ?_
  refine CJ.region ?_
  refine LJ.boxG (vs := [_, _, _]) rfl rfl (fun b1 => ?_)
  refine LJ.alloc ([_, _, _, _] : List Value) rfl rfl (fun b2 => ?_)
  refine LJ.nil ?_
  refine CJ.seq ?_
  refine CJ.region ?_
  refine LJ.yd rfl (Yd.fieldAddr rfl) ?_
  refine LJ.yd rfl (Yd.loadC 0 rfl rfl rfl) ?_
  refine LJ.yd rfl (Yd.fieldAddr rfl) ?_
  refine LJ.yd rfl (Yd.loadC 0 rfl rfl rfl) ?_
  refine LJ.yd rfl (Yd.build (cs := [_, _, _, _]) rfl) ?_
  refine LJ.store (v := .agg #[_, _, _, _]) (us := [_, _, _, _]) 1 rfl rfl rfl rfl rfl rfl rfl rfl ?_
  refine LJ.nil ?_
  refine CJ.ret ?_
  refine Fin.V (Res.one (ResV.cell (us := [_, _, _, _]) 1 rfl rfl rfl rfl)) ?_
  rfl
theorem splitBox_ok {A : Amb} {o e i X Y W H : Int} {t : Bool} {a : Option Addr} {n c : Nat} (hX0 : 0 ≤ X) (hX1 : X ≤ 1000) (hY0 : 0 ≤ Y) (hY1 : Y ≤ 1000) (hW0 : 0 ≤ W) (hW1 : W ≤ 1000) (hH0 : 0 ≤ H) (hH1 : H ≤ 1000) (he0 : 0 ≤ e) (he1 : e ≤ 1000) :
    Ctr Try.prog 89 #[.agg #[vI o, vI e, vI i, .bool t, .slice a n c], .agg #[vI X, vI Y, vI W, vI H]] A [] (Val (if o = 2 then .tuple #[.agg #[vI X, vI Y, vI e, vI H], .agg #[vI (X + e), vI Y, vI (W - e), vI H]] else .tuple #[.agg #[vI X, vI Y, vI W, vI e], .agg #[vI X, vI (Y + e), vI W, vI (H - e)]])) := by
  refine Ctr.body (args := [_, _]) Try.func89 rfl Try.ntmps89 Try.results89 (by simp) ?_
  refine CJ.seq ?_
  refine CJ.region ?_
  refine LJ.boxG (vs := [_, _, _, _, _]) rfl rfl (fun b1 => ?_)
  refine LJ.boxG (vs := [_, _, _, _]) rfl rfl (fun b2 => ?_)
  refine LJ.alloc ([_, _, _, _] : List Value) rfl rfl (fun b3 => ?_)
  refine LJ.alloc ([_, _, _, _] : List Value) rfl rfl (fun b4 => ?_)
  refine LJ.nil ?_
  refine CJ.seqH [2, 4, 5] (Nat × Nat) (fun ⟨bx, bz⟩ => True) (fun ⟨bx, bz⟩ => [(6, .pointer (some ⟨bx, 0, none⟩)), (7, .pointer (some ⟨bz, 0, none⟩))]) (fun ⟨bx, bz⟩ => [Cel b1 28 [vI o, vI e, vI i, .bool t, .slice a n c], Cel b2 41 [vI X, vI Y, vI W, vI H], Cel b3 41 [vI 0, vI 0, vI 0, vI 0], Cel b4 41 [vI 0, vI 0, vI 0, vI 0], Cel bx 41 [vI X, vI Y, vI W, vI H], Cel bz 41 [vI X, vI Y, vI W, vI H]]) ?_ ?_
  · refine CJ.regionD [0, 1, 2, 3] [] (by kernel_rfl) rfl ?_
    refine DJ.norm [_, _, _, _] [] rfl rfl ?_
    refine DJ.yd 0 rfl (by kernel_rfl) (by kernel_rfl) (by kernel_rfl) rfl rfl (Yd.loadG (us := [_, _, _, _]) 1 rfl rfl rfl rfl) ?_
    refine DJ.yd 1 rfl (by kernel_rfl) (by kernel_rfl) (by kernel_rfl) rfl rfl (Yd.loadG (us := [_, _, _, _]) 1 rfl rfl rfl rfl) ?_
    refine DJ.two (i := 2) (j := 3) (by kernel_rfl) ?_ ?_
    · refine DO.alloc ([_, _, _, _] : List Value) rfl rfl rfl rfl (fun b5 => ?_)
      refine DJ.one (i := 3) (by kernel_rfl) ?_
      refine DO.alloc ([_, _, _, _] : List Value) rfl rfl rfl rfl (fun b6 => ?_)
      refine DJ.one (i := 4) (by kernel_rfl) ?_
      refine DO.store (v := .agg #[_, _, _, _]) (us := [_, _, _, _]) 0 rfl rfl rfl rfl rfl rfl rfl rfl rfl rfl ?_
      refine DJ.one (i := 5) (by kernel_rfl) ?_
      refine DO.store (v := .agg #[_, _, _, _]) (us := [_, _, _, _]) 1 rfl rfl rfl rfl rfl rfl rfl rfl rfl rfl ?_
      refine DJ.done (by kernel_rfl) ?_
      refine ⟨(b5, b6), ?_, ?_, ?_, Ent.refl _⟩
      · trivial
      · exact ⟨rfl, rfl, rfl, trivial⟩
      · exact ⟨rfl, rfl, trivial⟩
    · refine DO.alloc ([_, _, _, _] : List Value) rfl rfl rfl rfl (fun b7 => ?_)
      refine DJ.one (i := 2) (by kernel_rfl) ?_
      refine DO.alloc ([_, _, _, _] : List Value) rfl rfl rfl rfl (fun b8 => ?_)
      refine DJ.one (i := 4) (by kernel_rfl) ?_
      refine DO.store (v := .agg #[_, _, _, _]) (us := [_, _, _, _]) 1 rfl rfl rfl rfl rfl rfl rfl rfl rfl rfl ?_
      refine DJ.one (i := 5) (by kernel_rfl) ?_
      refine DO.store (v := .agg #[_, _, _, _]) (us := [_, _, _, _]) 0 rfl rfl rfl rfl rfl rfl rfl rfl rfl rfl ?_
      refine DJ.done (by kernel_rfl) ?_
      refine ⟨(b8, b7), ?_, ?_, ?_, Ent.pick [0, 1, 2, 3, 5, 4] [] rfl⟩
      · trivial
      · exact ⟨rfl, rfl, rfl, trivial⟩
      · exact ⟨rfl, rfl, trivial⟩
  · rintro ⟨bx, bz⟩ σ hp
    refine CJ.seq ?_
    refine CJ.seq ?_
    refine CJ.region ?_
    refine LJ.yd rfl (Yd.fieldAddr rfl) ?_
    refine LJ.yd rfl (Yd.loadC 0 rfl rfl rfl) ?_
    refine LJ.splitD rfl (Yd.eql rfl rfl) (fun h12 => ?_) (fun h12 => ?_)
    · refine LJ.nil ?_
      refine CJ.condT rfl ?_
      refine CJ.seq ?_
      refine CJ.region ?_
      refine LJ.yd rfl (Yd.fieldAddr rfl) ?_
      refine LJ.yd rfl (Yd.loadC 0 rfl rfl rfl) ?_
      refine LJ.yd rfl (Yd.fieldAddr rfl) ?_
      refine LJ.store (v := .int _ _) (us := [_, _, _, _]) 4 rfl rfl rfl rfl rfl rfl rfl rfl ?_
      refine LJ.nil ?_
      refine CJ.seq ?_
      refine CJ.region ?_
      refine LJ.yd rfl (Yd.fieldAddr rfl) ?_
      refine LJ.yd rfl (Yd.loadC 5 rfl rfl rfl) ?_
      refine LJ.yd rfl (Yd.fieldAddr rfl) ?_
      refine LJ.yd rfl (Yd.loadC 0 rfl rfl rfl) ?_
      refine LJ.yd rfl (Yd.add rfl rfl (by unfold I64; omega)) ?_
      refine LJ.yd rfl (Yd.fieldAddr rfl) ?_
      refine LJ.store (v := .int _ _) (us := [_, _, _, _]) 5 rfl rfl rfl rfl rfl rfl rfl rfl ?_
      refine LJ.nil ?_
      refine CJ.region ?_
      refine LJ.yd rfl (Yd.fieldAddr rfl) ?_
      refine LJ.yd rfl (Yd.loadC 5 rfl rfl rfl) ?_
      refine LJ.yd rfl (Yd.fieldAddr rfl) ?_
      refine LJ.yd rfl (Yd.loadC 0 rfl rfl rfl) ?_
      refine LJ.yd rfl (Yd.sub rfl rfl (by unfold I64; omega)) ?_
      refine LJ.yd rfl (Yd.fieldAddr rfl) ?_
      refine LJ.store (v := .int _ _) (us := [_, _, _, _]) 5 rfl rfl rfl rfl rfl rfl rfl rfl ?_
      refine LJ.nil ?_
      refine CJ.seq ?_
      refine CJ.regionD [0, 1, 4, 5] [2, 3] (by kernel_rfl) rfl ?_
      refine DJ.norm [_, _, _, _] [_, _] rfl rfl ?_
      refine DJ.yd 0 rfl (by kernel_rfl) (by kernel_rfl) (by kernel_rfl) rfl rfl (Yd.loadG (us := [_, _, _, _]) 2 rfl rfl rfl rfl) ?_
      refine DJ.yd 1 rfl (by kernel_rfl) (by kernel_rfl) (by kernel_rfl) rfl rfl (Yd.loadG (us := [_, _, _, _]) 3 rfl rfl rfl rfl) ?_
      refine DJ.one (i := 2) (by kernel_rfl) ?_
      refine DO.store (v := .agg #[_, _, _, _]) (us := [_, _, _, _]) 0 rfl rfl rfl rfl rfl rfl rfl rfl rfl rfl ?_
      refine DJ.one (i := 3) (by kernel_rfl) ?_
      refine DO.store (v := .agg #[_, _, _, _]) (us := [_, _, _, _]) 1 rfl rfl rfl rfl rfl rfl rfl rfl rfl rfl ?_
      refine DJ.done (by kernel_rfl) ?_
      refine CJ.ret ?_
      refine Fin.V (Res.two (ResV.cell (us := [_, _, _, _]) 4 rfl rfl rfl rfl) (ResV.cell (us := [_, _, _, _]) 5 rfl rfl rfl rfl)) ?_
      first | rw [if_pos h12] | rw [if_neg h12]
    · refine LJ.nil ?_
      refine CJ.condF rfl ?_
      refine CJ.seq ?_
      refine CJ.region ?_
      refine LJ.yd rfl (Yd.fieldAddr rfl) ?_
      refine LJ.yd rfl (Yd.loadC 0 rfl rfl rfl) ?_
      refine LJ.yd rfl (Yd.fieldAddr rfl) ?_
      refine LJ.store (v := .int _ _) (us := [_, _, _, _]) 4 rfl rfl rfl rfl rfl rfl rfl rfl ?_
      refine LJ.nil ?_
      refine CJ.seq ?_
      refine CJ.region ?_
      refine LJ.yd rfl (Yd.fieldAddr rfl) ?_
      refine LJ.yd rfl (Yd.loadC 5 rfl rfl rfl) ?_
      refine LJ.yd rfl (Yd.fieldAddr rfl) ?_
      refine LJ.yd rfl (Yd.loadC 0 rfl rfl rfl) ?_
      refine LJ.yd rfl (Yd.add rfl rfl (by unfold I64; omega)) ?_
      refine LJ.yd rfl (Yd.fieldAddr rfl) ?_
      refine LJ.store (v := .int _ _) (us := [_, _, _, _]) 5 rfl rfl rfl rfl rfl rfl rfl rfl ?_
      refine LJ.nil ?_
      refine CJ.region ?_
      refine LJ.yd rfl (Yd.fieldAddr rfl) ?_
      refine LJ.yd rfl (Yd.loadC 5 rfl rfl rfl) ?_
      refine LJ.yd rfl (Yd.fieldAddr rfl) ?_
      refine LJ.yd rfl (Yd.loadC 0 rfl rfl rfl) ?_
      refine LJ.yd rfl (Yd.sub rfl rfl (by unfold I64; omega)) ?_
      refine LJ.yd rfl (Yd.fieldAddr rfl) ?_
      refine LJ.store (v := .int _ _) (us := [_, _, _, _]) 5 rfl rfl rfl rfl rfl rfl rfl rfl ?_
      refine LJ.nil ?_
      refine CJ.seq ?_
      refine CJ.regionD [0, 1, 4, 5] [2, 3] (by kernel_rfl) rfl ?_
      refine DJ.norm [_, _, _, _] [_, _] rfl rfl ?_
      refine DJ.yd 0 rfl (by kernel_rfl) (by kernel_rfl) (by kernel_rfl) rfl rfl (Yd.loadG (us := [_, _, _, _]) 2 rfl rfl rfl rfl) ?_
      refine DJ.yd 1 rfl (by kernel_rfl) (by kernel_rfl) (by kernel_rfl) rfl rfl (Yd.loadG (us := [_, _, _, _]) 3 rfl rfl rfl rfl) ?_
      refine DJ.one (i := 2) (by kernel_rfl) ?_
      refine DO.store (v := .agg #[_, _, _, _]) (us := [_, _, _, _]) 0 rfl rfl rfl rfl rfl rfl rfl rfl rfl rfl ?_
      refine DJ.one (i := 3) (by kernel_rfl) ?_
      refine DO.store (v := .agg #[_, _, _, _]) (us := [_, _, _, _]) 1 rfl rfl rfl rfl rfl rfl rfl rfl rfl rfl ?_
      refine DJ.done (by kernel_rfl) ?_
      refine CJ.ret ?_
      refine Fin.V (Res.two (ResV.cell (us := [_, _, _, _]) 4 rfl rfl rfl rfl) (ResV.cell (us := [_, _, _, _]) 5 rfl rfl rfl rfl)) ?_
      first | rw [if_pos h12] | rw [if_neg h12]
theorem planFits_ok (b : BT) : ∀ (A : Amb) (cs : List Value) (W H X Y x y : Int) (v : Value) (ps : List Pane), 0 ≤ X → X + x ≤ 1000 → 0 ≤ Y → Y + y ≤ 1000 → 0 ≤ x → 0 ≤ y → RdPanes A.h v ps → RdT A.h cs b →
    Ctr Try.prog 53 #[.agg #[vI W, vI H, v], .agg cs.toArray, .agg #[vI X, vI Y, vI x, vI y]] A [] (Val (.bool (b.fits ps x y))) := by
  induction b with
  | w =>
    intro A cs W H X Y x y v ps hX0 hX1 hY0 hY1 hx hy hp hr
    cases hr
    obtain ⟨⟨sa, sc, rfl, hm, hrow⟩, hlen⟩ := hp
    refine Ctr.body (args := [_, _, _]) Try.func53 rfl Try.ntmps53 Try.results53 (by simp) ?_
    refine CJ.seq ?_
    refine CJ.region ?_
    refine LJ.boxG (vs := [_, _, _]) rfl rfl (fun b1 => ?_)
    refine LJ.boxG (vs := [_, _, _, _, _]) rfl rfl (fun b2 => ?_)
    refine LJ.boxG (vs := [_, _, _, _]) rfl rfl (fun b3 => ?_)
    refine LJ.yd rfl (Yd.asB rfl) ?_
    refine LJ.nil ?_
    refine CJ.seq ?_
    refine CJ.seq ?_
    refine CJ.region ?_
    refine LJ.yd rfl (Yd.fieldAddr rfl) ?_
    refine LJ.yd rfl (Yd.loadC 1 rfl rfl rfl) ?_
    refine LJ.nil ?_
    refine CJ.block ?_
    refine CJ.seq ?_
    refine CJ.region ?_
    refine LJ.yd rfl (Yd.cmpF (Yd.eql rfl rfl) (by decide)) ?_
    refine LJ.yd rfl (Yd.asB rfl) ?_
    refine LJ.nil ?_
    refine CJ.condF rfl ?_
    refine CJ.seq ?_
    refine CJ.region ?_
    refine LJ.yd rfl (Yd.cmpF (Yd.eql rfl rfl) (by decide)) ?_
    refine LJ.yd rfl (Yd.asB rfl) ?_
    refine LJ.nil ?_
    refine CJ.condF rfl ?_
    refine CJ.seq ?_
    refine CJ.region ?_
    refine LJ.yd rfl (Yd.cmpF (Yd.eql rfl rfl) (by decide)) ?_
    refine LJ.yd rfl (Yd.asB rfl) ?_
    refine LJ.nil ?_
    refine CJ.condF rfl ?_
    refine CJ.seq ?_
    refine CJ.region ?_
    refine LJ.yd rfl (Yd.asB rfl) ?_
    refine LJ.nil ?_
    refine CJ.ret ?_
    refine Fin.V (Res.one (ResV.tmp (v := .bool true) rfl)) ?_
    rfl
  | p i t =>
    intro A cs W H X Y x y v ps hX0 hX1 hY0 hY1 hx hy hp hr
    cases hr
    have hp2 := hp
    obtain ⟨⟨sa, sc, rfl, hm, hrow⟩, hlen⟩ := hp2
    refine Ctr.body (args := [_, _, _]) Try.func53 rfl Try.ntmps53 Try.results53 (by simp) ?_
    refine CJ.seq ?_
    refine CJ.region ?_
    refine LJ.boxG (vs := [_, _, _]) rfl rfl (fun b1 => ?_)
    refine LJ.boxG (vs := [_, _, _, _, _]) rfl rfl (fun b2 => ?_)
    refine LJ.boxG (vs := [_, _, _, _]) rfl rfl (fun b3 => ?_)
    refine LJ.yd rfl (Yd.asB rfl) ?_
    refine LJ.nil ?_
    refine CJ.seq ?_
    refine CJ.seq ?_
    refine CJ.region ?_
    refine LJ.yd rfl (Yd.fieldAddr rfl) ?_
    refine LJ.yd rfl (Yd.loadC 1 rfl rfl rfl) ?_
    refine LJ.nil ?_
    refine CJ.block ?_
    refine CJ.seq ?_
    refine CJ.region ?_
    refine LJ.yd rfl (Yd.cmpT (Yd.eql rfl rfl) (by decide)) ?_
    refine LJ.yd rfl (Yd.asB rfl) ?_
    refine LJ.nil ?_
    refine CJ.condT rfl ?_
    refine CJ.seq ?_
    refine CJ.region ?_
    refine LJ.yd rfl (Yd.loadG (us := [_, _, _]) 0 rfl rfl rfl rfl) ?_
    refine LJ.yd rfl (Yd.fieldAddr rfl) ?_
    refine LJ.yd rfl (Yd.loadC 1 rfl rfl rfl) ?_
    refine LJ.yd rfl (Yd.fieldAddr rfl) ?_
    refine LJ.yd rfl (Yd.loadC 1 rfl rfl rfl) ?_
    refine LJ.yd rfl (Yd.fieldAddr rfl) ?_
    refine LJ.yd rfl (Yd.loadC 2 rfl rfl rfl) ?_
    refine LJ.yd rfl (Yd.fieldAddr rfl) ?_
    refine LJ.yd rfl (Yd.loadC 2 rfl rfl rfl) ?_
    refine LJ.callV rfl (fun k hk dk => paneFills_ok hp.up) ?_
    refine LJ.yd rfl (Yd.asB rfl) ?_
    refine LJ.nil ?_
    refine CJ.ret ?_
    refine Fin.V (Res.one (ResV.tmp (v := .bool _) rfl)) ?_
    rfl
  | c d a l r ihl ihr =>
    intro A cs W H X Y x y v ps hX0 hX1 hY0 hY1 hx hy hp hr
    have hp2 := hp
    obtain ⟨⟨sa, sc, rfl, hm, hrow2⟩, hlen⟩ := hp2
    obtain _ | _ | ⟨ha, hcap, hrow, hl, hr⟩ := hr
    cases d
    · refine Ctr.body (args := [_, _, _]) Try.func53 rfl Try.ntmps53 Try.results53 (by simp) ?_
      refine CJ.seq ?_
      refine CJ.region ?_
      refine LJ.boxG (vs := [_, _, _]) rfl rfl (fun b1 => ?_)
      refine LJ.boxG (vs := [_, _, _, _, _]) rfl rfl (fun b2 => ?_)
      refine LJ.boxG (vs := [_, _, _, _]) rfl rfl (fun b3 => ?_)
      refine LJ.yd rfl (Yd.asB rfl) ?_
      refine LJ.nil ?_
      refine CJ.seq ?_
      refine CJ.seq ?_
      refine CJ.region ?_
      refine LJ.yd rfl (Yd.fieldAddr rfl) ?_
      refine LJ.yd rfl (Yd.loadC 1 rfl rfl rfl) ?_
      refine LJ.nil ?_
      refine CJ.block ?_
      refine CJ.seq ?_
      refine CJ.region ?_
      refine LJ.yd rfl (Yd.cmpF (Yd.eql rfl rfl) (by decide)) ?_
      refine LJ.yd rfl (Yd.asB rfl) ?_
      refine LJ.nil ?_
      refine CJ.condF rfl ?_
      refine CJ.seq ?_
      refine CJ.region ?_
      refine LJ.yd rfl (Yd.cmpF (Yd.eql rfl rfl) (by decide)) ?_
      refine LJ.yd rfl (Yd.asB rfl) ?_
      refine LJ.nil ?_
      refine CJ.condF rfl ?_
      refine CJ.seq ?_
      refine CJ.region ?_
      refine LJ.yd rfl (Yd.cmpT (Yd.eql rfl rfl) (by decide)) ?_
      refine LJ.yd rfl (Yd.asB rfl) ?_
      refine LJ.nil ?_
      refine CJ.condT rfl ?_
      refine CJ.seq ?_
      refine CJ.region ?_
      refine LJ.yd rfl (Yd.fieldAddr rfl) ?_
      refine LJ.yd rfl (Yd.loadC 1 rfl rfl rfl) ?_
      refine LJ.splitD rfl (Yd.lss rfl rfl) (fun h39 => ?_) (fun h39 => ?_)
      · refine LJ.yd rfl (Yd.mvB rfl) ?_
        refine LJ.gF rfl rfl ?_
        refine LJ.gF rfl rfl ?_
        refine LJ.gF rfl rfl ?_
        refine LJ.gF rfl rfl ?_
        refine LJ.gF rfl rfl ?_
        refine LJ.yd rfl (Yd.pickTB rfl rfl) ?_
        refine LJ.nil ?_
        refine CJ.condT rfl ?_
        refine CJ.seq ?_
        refine CJ.region ?_
        refine LJ.yd rfl (Yd.asB rfl) ?_
        refine LJ.nil ?_
        refine CJ.ret ?_
        refine Fin.V (Res.one (ResV.tmp (v := .bool false) rfl)) ?_
        refine congrArg Value.bool (Eq.symm ?_)
        simp only [BT.fits, Bool.false_eq_true, if_false]
        first
          | (rw [decide_eq_false (by omega : ¬ 1 ≤ a), Bool.false_and]; done)
          | (rw [decide_eq_false (by omega : ¬ a ≤ y - 1), Bool.false_and, Bool.and_false]; done)
          | (rw [decide_eq_true (by omega : 1 ≤ a), decide_eq_true (by omega : a ≤ y - 1)]; simp [*]; done)
      · refine LJ.yd rfl (Yd.mvB rfl) ?_
        refine LJ.gT rfl ?_
        refine LJ.yd rfl (Yd.fieldAddr rfl) ?_
        refine LJ.gT rfl ?_
        refine LJ.yd rfl (Yd.loadC 1 rfl rfl rfl) ?_
        refine LJ.gT rfl ?_
        refine LJ.yd rfl (Yd.fieldAddr rfl) ?_
        refine LJ.gT rfl ?_
        refine LJ.yd rfl (Yd.loadC 2 rfl rfl rfl) ?_
        refine LJ.gT rfl ?_
        refine LJ.splitD rfl (Yd.geq rfl rfl) (fun h45 => ?_) (fun h45 => ?_)
        · refine LJ.yd rfl (Yd.pickFB rfl rfl) ?_
          refine LJ.nil ?_
          refine CJ.condT rfl ?_
          refine CJ.seq ?_
          refine CJ.region ?_
          refine LJ.yd rfl (Yd.asB rfl) ?_
          refine LJ.nil ?_
          refine CJ.ret ?_
          refine Fin.V (Res.one (ResV.tmp (v := .bool false) rfl)) ?_
          refine congrArg Value.bool (Eq.symm ?_)
          simp only [BT.fits, Bool.false_eq_true, if_false]
          first
            | (rw [decide_eq_false (by omega : ¬ 1 ≤ a), Bool.false_and]; done)
            | (rw [decide_eq_false (by omega : ¬ a ≤ y - 1), Bool.false_and, Bool.and_false]; done)
            | (rw [decide_eq_true (by omega : 1 ≤ a), decide_eq_true (by omega : a ≤ y - 1)]; simp [*]; done)
        · refine LJ.yd rfl (Yd.pickFB rfl rfl) ?_
          refine LJ.nil ?_
          refine CJ.condF rfl ?_
          refine CJ.skip ?_
          refine CJ.seq ?_
          refine CJ.region ?_
          refine LJ.yd rfl (Yd.loadG (us := [_, _, _, _, _]) 1 rfl rfl rfl rfl) ?_
          refine LJ.yd rfl (Yd.loadG (us := [_, _, _, _]) 2 rfl rfl rfl rfl) ?_
          refine LJ.callV rfl (fun k hk dk => splitBox_ok (o := 3) hX0 (by omega) hY0 (by omega) hx (by omega) hy (by omega) (by omega) (by omega)) ?_
          refine LJ.yd rfl (Yd.mvU rfl) ?_
          refine LJ.yd rfl (Yd.extract rfl rfl) ?_
          refine LJ.yd rfl (Yd.extract rfl rfl) ?_
          refine LJ.alloc ([_, _, _, _] : List Value) rfl rfl (fun b4 => ?_)
          refine LJ.alloc ([_, _, _, _] : List Value) rfl rfl (fun b5 => ?_)
          refine LJ.store (v := .agg #[_, _, _, _]) (us := [_, _, _, _]) 3 rfl rfl rfl rfl rfl rfl rfl rfl ?_
          refine LJ.store (v := .agg #[_, _, _, _]) (us := [_, _, _, _]) 4 rfl rfl rfl rfl rfl rfl rfl rfl ?_
          refine LJ.nil ?_
          refine CJ.seq ?_
          refine CJ.regionD [0, 1, 2, 3, 4] [] (by kernel_rfl) rfl ?_
          refine DJ.norm [_, _, _, _, _] [] rfl rfl ?_
          refine DJ.yd 0 rfl (by kernel_rfl) (by kernel_rfl) (by kernel_rfl) rfl rfl (Yd.loadG (us := [_, _, _]) 0 rfl rfl rfl rfl) ?_
          refine DJ.yd 1 rfl (by kernel_rfl) (by kernel_rfl) (by kernel_rfl) rfl rfl (Yd.fieldAddr rfl) ?_
          refine DJ.yd 2 rfl (by kernel_rfl) (by kernel_rfl) (by kernel_rfl) rfl rfl (Yd.loadC 1 rfl rfl rfl) ?_
          refine DJ.yd 3 rfl (by kernel_rfl) (by kernel_rfl) (by kernel_rfl) rfl rfl (Yd.indexAddr rfl rfl (by omega) (by simp)) ?_
          refine DJ.yd 4 rfl (by kernel_rfl) (by kernel_rfl) (by kernel_rfl) rfl rfl (Yd.loadRow (i := 0) hrow.up rfl (by simp) rfl hl.len) ?_
          refine DJ.yd 5 rfl (by kernel_rfl) (by kernel_rfl) (by kernel_rfl) rfl rfl (Yd.loadG (us := [_, _, _, _]) 3 rfl rfl rfl rfl) ?_
          refine DJ.one (i := 6) (by kernel_rfl) ?_
          refine DO.callB rfl rfl rfl (fun k0 hk0 dk0 k hk dk => ihl _ _ _ _ _ _ _ _ _ _ hX0 (by omega) hY0 (by omega) hx (by omega) hp.up hl.up) (fun h59 => ?_) (fun h59 => ?_)
          · refine DJ.yd 7 rfl (by kernel_rfl) (by kernel_rfl) (by kernel_rfl) rfl rfl (Yd.mvB rfl) ?_
            refine DJ.yd 8 rfl (by kernel_rfl) (by kernel_rfl) (by kernel_rfl) rfl rfl (Yd.loadG (us := [_, _, _]) 0 rfl rfl rfl rfl) ?_
            refine DJ.yd 9 rfl (by kernel_rfl) (by kernel_rfl) (by kernel_rfl) rfl rfl (Yd.fieldAddr rfl) ?_
            refine DJ.yd 10 rfl (by kernel_rfl) (by kernel_rfl) (by kernel_rfl) rfl rfl (Yd.loadC 1 rfl rfl rfl) ?_
            refine DJ.yd 11 rfl (by kernel_rfl) (by kernel_rfl) (by kernel_rfl) rfl rfl (Yd.indexAddr rfl rfl (by omega) (by simp)) ?_
            refine DJ.yd 12 rfl (by kernel_rfl) (by kernel_rfl) (by kernel_rfl) rfl rfl (Yd.loadRow (i := 1) hrow.up rfl (by simp) rfl hr.len) ?_
            refine DJ.yd 13 rfl (by kernel_rfl) (by kernel_rfl) (by kernel_rfl) rfl rfl (Yd.loadG (us := [_, _, _, _]) 4 rfl rfl rfl rfl) ?_
            refine DJ.one (i := 14) (by kernel_rfl) ?_
            refine DO.callB rfl rfl rfl (fun k0 hk0 dk0 k hk dk => ihr _ _ _ _ _ _ _ _ _ _ hX0 (by omega) (by omega) (by omega) hx (by omega) hp.up hr.up) (fun h67 => ?_) (fun h67 => ?_)
            · refine DJ.yd 15 rfl (by kernel_rfl) (by kernel_rfl) (by kernel_rfl) rfl rfl (Yd.pickTB rfl rfl) ?_
              refine DJ.yd 16 rfl (by kernel_rfl) (by kernel_rfl) (by kernel_rfl) rfl rfl (Yd.asB rfl) ?_
              refine DJ.done (by kernel_rfl) ?_
              refine CJ.ret ?_
              refine Fin.V (Res.one (ResV.tmp (v := .bool true) rfl)) ?_
              refine congrArg Value.bool (Eq.symm ?_)
              simp only [BT.fits, Bool.false_eq_true, if_false]
              first
                | (rw [decide_eq_false (by omega : ¬ 1 ≤ a), Bool.false_and]; done)
                | (rw [decide_eq_false (by omega : ¬ a ≤ y - 1), Bool.false_and, Bool.and_false]; done)
                | (rw [decide_eq_true (by omega : 1 ≤ a), decide_eq_true (by omega : a ≤ y - 1)]; simp [*]; done)
            · refine DJ.yd 15 rfl (by kernel_rfl) (by kernel_rfl) (by kernel_rfl) rfl rfl (Yd.pickTB rfl rfl) ?_
              refine DJ.yd 16 rfl (by kernel_rfl) (by kernel_rfl) (by kernel_rfl) rfl rfl (Yd.asB rfl) ?_
              refine DJ.done (by kernel_rfl) ?_
              refine CJ.ret ?_
              refine Fin.V (Res.one (ResV.tmp (v := .bool false) rfl)) ?_
              refine congrArg Value.bool (Eq.symm ?_)
              simp only [BT.fits, Bool.false_eq_true, if_false]
              first
                | (rw [decide_eq_false (by omega : ¬ 1 ≤ a), Bool.false_and]; done)
                | (rw [decide_eq_false (by omega : ¬ a ≤ y - 1), Bool.false_and, Bool.and_false]; done)
                | (rw [decide_eq_true (by omega : 1 ≤ a), decide_eq_true (by omega : a ≤ y - 1)]; simp [*]; done)
          · refine DJ.yd 7 rfl (by kernel_rfl) (by kernel_rfl) (by kernel_rfl) rfl rfl (Yd.mvB rfl) ?_
            refine DJ.skip 8 rfl (by kernel_rfl) (by kernel_rfl) (by kernel_rfl) rfl rfl ?_
            refine DJ.skip 9 rfl (by kernel_rfl) (by kernel_rfl) (by kernel_rfl) rfl rfl ?_
            refine DJ.skip 10 rfl (by kernel_rfl) (by kernel_rfl) (by kernel_rfl) rfl rfl ?_
            refine DJ.skip 11 rfl (by kernel_rfl) (by kernel_rfl) (by kernel_rfl) rfl rfl ?_
            refine DJ.skip 12 rfl (by kernel_rfl) (by kernel_rfl) (by kernel_rfl) rfl rfl ?_
            refine DJ.skip 13 rfl (by kernel_rfl) (by kernel_rfl) (by kernel_rfl) rfl rfl ?_
            refine DJ.skip 14 rfl (by kernel_rfl) (by kernel_rfl) (by kernel_rfl) rfl rfl ?_
            refine DJ.yd 15 rfl (by kernel_rfl) (by kernel_rfl) (by kernel_rfl) rfl rfl (Yd.pickFB rfl rfl) ?_
            refine DJ.yd 16 rfl (by kernel_rfl) (by kernel_rfl) (by kernel_rfl) rfl rfl (Yd.asB rfl) ?_
            refine DJ.done (by kernel_rfl) ?_
            refine CJ.ret ?_
            refine Fin.V (Res.one (ResV.tmp (v := .bool false) rfl)) ?_
            refine congrArg Value.bool (Eq.symm ?_)
            simp only [BT.fits, Bool.false_eq_true, if_false]
            first
              | (rw [decide_eq_false (by omega : ¬ 1 ≤ a), Bool.false_and]; done)
              | (rw [decide_eq_false (by omega : ¬ a ≤ y - 1), Bool.false_and, Bool.and_false]; done)
              | (rw [decide_eq_true (by omega : 1 ≤ a), decide_eq_true (by omega : a ≤ y - 1)]; simp [*]; done)
    · refine Ctr.body (args := [_, _, _]) Try.func53 rfl Try.ntmps53 Try.results53 (by simp) ?_
      refine CJ.seq ?_
      refine CJ.region ?_
      refine LJ.boxG (vs := [_, _, _]) rfl rfl (fun b1 => ?_)
      refine LJ.boxG (vs := [_, _, _, _, _]) rfl rfl (fun b2 => ?_)
      refine LJ.boxG (vs := [_, _, _, _]) rfl rfl (fun b3 => ?_)
      refine LJ.yd rfl (Yd.asB rfl) ?_
      refine LJ.nil ?_
      refine CJ.seq ?_
      refine CJ.seq ?_
      refine CJ.region ?_
      refine LJ.yd rfl (Yd.fieldAddr rfl) ?_
      refine LJ.yd rfl (Yd.loadC 1 rfl rfl rfl) ?_
      refine LJ.nil ?_
      refine CJ.block ?_
      refine CJ.seq ?_
      refine CJ.region ?_
      refine LJ.yd rfl (Yd.cmpF (Yd.eql rfl rfl) (by decide)) ?_
      refine LJ.yd rfl (Yd.asB rfl) ?_
      refine LJ.nil ?_
      refine CJ.condF rfl ?_
      refine CJ.seq ?_
      refine CJ.region ?_
      refine LJ.yd rfl (Yd.cmpT (Yd.eql rfl rfl) (by decide)) ?_
      refine LJ.yd rfl (Yd.asB rfl) ?_
      refine LJ.nil ?_
      refine CJ.condT rfl ?_
      refine CJ.seq ?_
      refine CJ.region ?_
      refine LJ.yd rfl (Yd.fieldAddr rfl) ?_
      refine LJ.yd rfl (Yd.loadC 1 rfl rfl rfl) ?_
      refine LJ.splitD rfl (Yd.lss rfl rfl) (fun h27 => ?_) (fun h27 => ?_)
      · refine LJ.yd rfl (Yd.mvB rfl) ?_
        refine LJ.gF rfl rfl ?_
        refine LJ.gF rfl rfl ?_
        refine LJ.gF rfl rfl ?_
        refine LJ.gF rfl rfl ?_
        refine LJ.gF rfl rfl ?_
        refine LJ.yd rfl (Yd.pickTB rfl rfl) ?_
        refine LJ.nil ?_
        refine CJ.condT rfl ?_
        refine CJ.seq ?_
        refine CJ.region ?_
        refine LJ.yd rfl (Yd.asB rfl) ?_
        refine LJ.nil ?_
        refine CJ.ret ?_
        refine Fin.V (Res.one (ResV.tmp (v := .bool false) rfl)) ?_
        refine congrArg Value.bool (Eq.symm ?_)
        simp only [BT.fits, if_true]
        first
          | (rw [decide_eq_false (by omega : ¬ 1 ≤ a), Bool.false_and]; done)
          | (rw [decide_eq_false (by omega : ¬ a ≤ x - 1), Bool.false_and, Bool.and_false]; done)
          | (rw [decide_eq_true (by omega : 1 ≤ a), decide_eq_true (by omega : a ≤ x - 1)]; simp [*]; done)
      · refine LJ.yd rfl (Yd.mvB rfl) ?_
        refine LJ.gT rfl ?_
        refine LJ.yd rfl (Yd.fieldAddr rfl) ?_
        refine LJ.gT rfl ?_
        refine LJ.yd rfl (Yd.loadC 1 rfl rfl rfl) ?_
        refine LJ.gT rfl ?_
        refine LJ.yd rfl (Yd.fieldAddr rfl) ?_
        refine LJ.gT rfl ?_
        refine LJ.yd rfl (Yd.loadC 2 rfl rfl rfl) ?_
        refine LJ.gT rfl ?_
        refine LJ.splitD rfl (Yd.geq rfl rfl) (fun h33 => ?_) (fun h33 => ?_)
        · refine LJ.yd rfl (Yd.pickFB rfl rfl) ?_
          refine LJ.nil ?_
          refine CJ.condT rfl ?_
          refine CJ.seq ?_
          refine CJ.region ?_
          refine LJ.yd rfl (Yd.asB rfl) ?_
          refine LJ.nil ?_
          refine CJ.ret ?_
          refine Fin.V (Res.one (ResV.tmp (v := .bool false) rfl)) ?_
          refine congrArg Value.bool (Eq.symm ?_)
          simp only [BT.fits, if_true]
          first
            | (rw [decide_eq_false (by omega : ¬ 1 ≤ a), Bool.false_and]; done)
            | (rw [decide_eq_false (by omega : ¬ a ≤ x - 1), Bool.false_and, Bool.and_false]; done)
            | (rw [decide_eq_true (by omega : 1 ≤ a), decide_eq_true (by omega : a ≤ x - 1)]; simp [*]; done)
        · refine LJ.yd rfl (Yd.pickFB rfl rfl) ?_
          refine LJ.nil ?_
          refine CJ.condF rfl ?_
          refine CJ.skip ?_
          refine CJ.seq ?_
          refine CJ.region ?_
          refine LJ.yd rfl (Yd.loadG (us := [_, _, _, _, _]) 1 rfl rfl rfl rfl) ?_
          refine LJ.yd rfl (Yd.loadG (us := [_, _, _, _]) 2 rfl rfl rfl rfl) ?_
          refine LJ.callV rfl (fun k hk dk => splitBox_ok (o := 2) hX0 (by omega) hY0 (by omega) hx (by omega) hy (by omega) (by omega) (by omega)) ?_
          refine LJ.yd rfl (Yd.mvU rfl) ?_
          refine LJ.yd rfl (Yd.extract rfl rfl) ?_
          refine LJ.yd rfl (Yd.extract rfl rfl) ?_
          refine LJ.alloc ([_, _, _, _] : List Value) rfl rfl (fun b4 => ?_)
          refine LJ.alloc ([_, _, _, _] : List Value) rfl rfl (fun b5 => ?_)
          refine LJ.store (v := .agg #[_, _, _, _]) (us := [_, _, _, _]) 3 rfl rfl rfl rfl rfl rfl rfl rfl ?_
          refine LJ.store (v := .agg #[_, _, _, _]) (us := [_, _, _, _]) 4 rfl rfl rfl rfl rfl rfl rfl rfl ?_
          refine LJ.nil ?_
          refine CJ.seq ?_
          refine CJ.regionD [0, 1, 2, 3, 4] [] (by kernel_rfl) rfl ?_
          refine DJ.norm [_, _, _, _, _] [] rfl rfl ?_
          refine DJ.yd 0 rfl (by kernel_rfl) (by kernel_rfl) (by kernel_rfl) rfl rfl (Yd.loadG (us := [_, _, _]) 0 rfl rfl rfl rfl) ?_
          refine DJ.yd 1 rfl (by kernel_rfl) (by kernel_rfl) (by kernel_rfl) rfl rfl (Yd.fieldAddr rfl) ?_
          refine DJ.yd 2 rfl (by kernel_rfl) (by kernel_rfl) (by kernel_rfl) rfl rfl (Yd.loadC 1 rfl rfl rfl) ?_
          refine DJ.yd 3 rfl (by kernel_rfl) (by kernel_rfl) (by kernel_rfl) rfl rfl (Yd.indexAddr rfl rfl (by omega) (by simp)) ?_
          refine DJ.yd 4 rfl (by kernel_rfl) (by kernel_rfl) (by kernel_rfl) rfl rfl (Yd.loadRow (i := 0) hrow.up rfl (by simp) rfl hl.len) ?_
          refine DJ.yd 5 rfl (by kernel_rfl) (by kernel_rfl) (by kernel_rfl) rfl rfl (Yd.loadG (us := [_, _, _, _]) 3 rfl rfl rfl rfl) ?_
          refine DJ.one (i := 6) (by kernel_rfl) ?_
          refine DO.callB rfl rfl rfl (fun k0 hk0 dk0 k hk dk => ihl _ _ _ _ _ _ _ _ _ _ hX0 (by omega) hY0 (by omega) (by omega) hy hp.up hl.up) (fun h59 => ?_) (fun h59 => ?_)
          · refine DJ.yd 7 rfl (by kernel_rfl) (by kernel_rfl) (by kernel_rfl) rfl rfl (Yd.mvB rfl) ?_
            refine DJ.yd 8 rfl (by kernel_rfl) (by kernel_rfl) (by kernel_rfl) rfl rfl (Yd.loadG (us := [_, _, _]) 0 rfl rfl rfl rfl) ?_
            refine DJ.yd 9 rfl (by kernel_rfl) (by kernel_rfl) (by kernel_rfl) rfl rfl (Yd.fieldAddr rfl) ?_
            refine DJ.yd 10 rfl (by kernel_rfl) (by kernel_rfl) (by kernel_rfl) rfl rfl (Yd.loadC 1 rfl rfl rfl) ?_
            refine DJ.yd 11 rfl (by kernel_rfl) (by kernel_rfl) (by kernel_rfl) rfl rfl (Yd.indexAddr rfl rfl (by omega) (by simp)) ?_
            refine DJ.yd 12 rfl (by kernel_rfl) (by kernel_rfl) (by kernel_rfl) rfl rfl (Yd.loadRow (i := 1) hrow.up rfl (by simp) rfl hr.len) ?_
            refine DJ.yd 13 rfl (by kernel_rfl) (by kernel_rfl) (by kernel_rfl) rfl rfl (Yd.loadG (us := [_, _, _, _]) 4 rfl rfl rfl rfl) ?_
            refine DJ.one (i := 14) (by kernel_rfl) ?_
            refine DO.callB rfl rfl rfl (fun k0 hk0 dk0 k hk dk => ihr _ _ _ _ _ _ _ _ _ _ (by omega) (by omega) hY0 (by omega) (by omega) hy hp.up hr.up) (fun h67 => ?_) (fun h67 => ?_)
            · refine DJ.yd 15 rfl (by kernel_rfl) (by kernel_rfl) (by kernel_rfl) rfl rfl (Yd.pickTB rfl rfl) ?_
              refine DJ.yd 16 rfl (by kernel_rfl) (by kernel_rfl) (by kernel_rfl) rfl rfl (Yd.asB rfl) ?_
              refine DJ.done (by kernel_rfl) ?_
              refine CJ.ret ?_
              refine Fin.V (Res.one (ResV.tmp (v := .bool true) rfl)) ?_
              refine congrArg Value.bool (Eq.symm ?_)
              simp only [BT.fits, if_true]
              first
                | (rw [decide_eq_false (by omega : ¬ 1 ≤ a), Bool.false_and]; done)
                | (rw [decide_eq_false (by omega : ¬ a ≤ x - 1), Bool.false_and, Bool.and_false]; done)
                | (rw [decide_eq_true (by omega : 1 ≤ a), decide_eq_true (by omega : a ≤ x - 1)]; simp [*]; done)
            · refine DJ.yd 15 rfl (by kernel_rfl) (by kernel_rfl) (by kernel_rfl) rfl rfl (Yd.pickTB rfl rfl) ?_
              refine DJ.yd 16 rfl (by kernel_rfl) (by kernel_rfl) (by kernel_rfl) rfl rfl (Yd.asB rfl) ?_
              refine DJ.done (by kernel_rfl) ?_
              refine CJ.ret ?_
              refine Fin.V (Res.one (ResV.tmp (v := .bool false) rfl)) ?_
              refine congrArg Value.bool (Eq.symm ?_)
              simp only [BT.fits, if_true]
              first
                | (rw [decide_eq_false (by omega : ¬ 1 ≤ a), Bool.false_and]; done)
                | (rw [decide_eq_false (by omega : ¬ a ≤ x - 1), Bool.false_and, Bool.and_false]; done)
                | (rw [decide_eq_true (by omega : 1 ≤ a), decide_eq_true (by omega : a ≤ x - 1)]; simp [*]; done)
          · refine DJ.yd 7 rfl (by kernel_rfl) (by kernel_rfl) (by kernel_rfl) rfl rfl (Yd.mvB rfl) ?_
            refine DJ.skip 8 rfl (by kernel_rfl) (by kernel_rfl) (by kernel_rfl) rfl rfl ?_
            refine DJ.skip 9 rfl (by kernel_rfl) (by kernel_rfl) (by kernel_rfl) rfl rfl ?_
            refine DJ.skip 10 rfl (by kernel_rfl) (by kernel_rfl) (by kernel_rfl) rfl rfl ?_
            refine DJ.skip 11 rfl (by kernel_rfl) (by kernel_rfl) (by kernel_rfl) rfl rfl ?_
            refine DJ.skip 12 rfl (by kernel_rfl) (by kernel_rfl) (by kernel_rfl) rfl rfl ?_
            refine DJ.skip 13 rfl (by kernel_rfl) (by kernel_rfl) (by kernel_rfl) rfl rfl ?_
            refine DJ.skip 14 rfl (by kernel_rfl) (by kernel_rfl) (by kernel_rfl) rfl rfl ?_
            refine DJ.yd 15 rfl (by kernel_rfl) (by kernel_rfl) (by kernel_rfl) rfl rfl (Yd.pickFB rfl rfl) ?_
            refine DJ.yd 16 rfl (by kernel_rfl) (by kernel_rfl) (by kernel_rfl) rfl rfl (Yd.asB rfl) ?_
            refine DJ.done (by kernel_rfl) ?_
            refine CJ.ret ?_
            refine Fin.V (Res.one (ResV.tmp (v := .bool false) rfl)) ?_
            refine congrArg Value.bool (Eq.symm ?_)
            simp only [BT.fits, if_true]
            first
              | (rw [decide_eq_false (by omega : ¬ 1 ≤ a), Bool.false_and]; done)
              | (rw [decide_eq_false (by omega : ¬ a ≤ x - 1), Bool.false_and, Bool.and_false]; done)
              | (rw [decide_eq_true (by omega : 1 ≤ a), decide_eq_true (by omega : a ≤ x - 1)]; simp [*]; done)
def vpOk (W H : Int) (ps : List Pane) (q : Plan) : Bool := workOk W H ps && (decide (0 < psz q) && (toBT q).fits ps W H)
theorem workOk_iff {W H : Int} {ps : List Pane} (h : workOk W H ps = true) : 1 ≤ W ∧ W ≤ 200 ∧ 1 ≤ H ∧ H ≤ 200 ∧ ps.length ≤ 24 ∧ ∀ q ∈ ps, q.ok = true := by
  simp only [workOk, Bool.and_eq_true, decide_eq_true_eq, List.all_eq_true] at h
  exact ⟨h.1, h.2.1, h.2.2.1, h.2.2.2.1, h.2.2.2.2.1, h.2.2.2.2.2⟩
theorem ValidPlanI_ok {A : Amb} {W H : Int} {v : Value} {ps : List Pane} {cs : List Value} {q : Plan} (hp : RdPanes A.h v ps) (hq : RdPlan A.h cs q) : Ctr Try.prog 14 #[.agg #[vI W, vI H, v], .agg cs.toArray] A [] (Val (.bool (vpOk W H ps q))) := by
  have hp2 := hp
  obtain ⟨⟨sa, sc, rfl, hm, hrow⟩, hlen⟩ := hp2
  have hq2 := hq
  obtain ⟨o, a, i, t, kids, v2, css, rfl, rfl, ho, ha, hi, ⟨⟨sa2, sc2, rfl, hm2, hrow2⟩, hlen2⟩, hk⟩ := hq2.inv
  have hT := toBT_rd hq
  refine Ctr.body (args := [_, _]) Try.func14 rfl Try.ntmps14 Try.results14 (by simp) ?_
  refine CJ.seq ?_
  refine CJ.region ?_
  refine LJ.boxG (vs := [_, _, _]) rfl rfl (fun b1 => ?_)
  refine LJ.boxG (vs := [_, _, _, _, _]) rfl rfl (fun b2 => ?_)
  refine LJ.yd rfl (Yd.asB rfl) ?_
  refine LJ.nil ?_
  refine CJ.seq ?_
  refine CJ.regionD [0, 1] [] (by kernel_rfl) rfl ?_
  refine DJ.norm [_, _] [] rfl rfl ?_
  refine DJ.yd 0 rfl (by kernel_rfl) (by kernel_rfl) (by kernel_rfl) rfl rfl (Yd.loadG (us := [_, _, _]) 0 rfl rfl rfl rfl) ?_
  refine DJ.one (i := 1) (by kernel_rfl) ?_
  refine DO.callB rfl rfl rfl (fun k0 hk0 dk0 k hk dk => validWorkI_ok hp.up) (fun h6 => ?_) (fun h6 => ?_)
  · refine DJ.yd 2 rfl (by kernel_rfl) (by kernel_rfl) (by kernel_rfl) rfl rfl (Yd.mvB rfl) ?_
    refine DJ.yd 3 rfl (by kernel_rfl) (by kernel_rfl) (by kernel_rfl) rfl rfl (Yd.loadG (us := [_, _, _, _, _]) 1 rfl rfl rfl rfl) ?_
    refine DJ.one (i := 4) (by kernel_rfl) ?_
    refine DO.callV rfl rfl rfl (fun k0 hk0 dk0 k hk dk => PlanSizeI_ok hq.up) ?_
    refine DJ.splitD 5 rfl (by kernel_rfl) (by kernel_rfl) (by kernel_rfl) rfl rfl (Yd.gtr rfl rfl) (fun h10 => ?_) (fun h10 => ?_)
    · refine DJ.yd 6 rfl (by kernel_rfl) (by kernel_rfl) (by kernel_rfl) rfl rfl (Yd.pickTB rfl rfl) ?_
      refine DJ.yd 7 rfl (by kernel_rfl) (by kernel_rfl) (by kernel_rfl) rfl rfl (Yd.mvB rfl) ?_
      refine DJ.yd 8 rfl (by kernel_rfl) (by kernel_rfl) (by kernel_rfl) rfl rfl (Yd.loadG (us := [_, _, _]) 0 rfl rfl rfl rfl) ?_
      refine DJ.yd 9 rfl (by kernel_rfl) (by kernel_rfl) (by kernel_rfl) rfl rfl (Yd.loadG (us := [_, _, _, _, _]) 1 rfl rfl rfl rfl) ?_
      refine DJ.yd 10 rfl (by kernel_rfl) (by kernel_rfl) (by kernel_rfl) rfl rfl (Yd.loadG (us := [_, _, _]) 0 rfl rfl rfl rfl) ?_
      refine DJ.one (i := 11) (by kernel_rfl) ?_
      refine DO.callV rfl rfl rfl (fun k0 hk0 dk0 k hk dk => sheetOf_ok _ _ _ _ _ _) ?_
      refine DJ.one (i := 12) (by kernel_rfl) ?_
      refine DO.callV rfl rfl rfl (fun k0 hk0 dk0 k hk dk => planFits_ok (toBT _) _ _ _ _ _ _ _ _ _ _ (by omega) (by have := workOk_iff h6; omega) (by omega) (by have := workOk_iff h6; omega) (by have := workOk_iff h6; omega) (by have := workOk_iff h6; omega) hp.up (hT h10).up) ?_
      refine DJ.yd 13 rfl (by kernel_rfl) (by kernel_rfl) (by kernel_rfl) rfl rfl (Yd.pickTB rfl rfl) ?_
      refine DJ.yd 14 rfl (by kernel_rfl) (by kernel_rfl) (by kernel_rfl) rfl rfl (Yd.asB rfl) ?_
      refine DJ.done (by kernel_rfl) ?_
      refine CJ.ret ?_
      refine Fin.V (Res.one (ResV.tmp (v := .bool _) rfl)) ?_
      refine congrArg Value.bool (Eq.symm ?_); unfold vpOk; simp [*]
    · refine DJ.yd 6 rfl (by kernel_rfl) (by kernel_rfl) (by kernel_rfl) rfl rfl (Yd.pickTB rfl rfl) ?_
      refine DJ.yd 7 rfl (by kernel_rfl) (by kernel_rfl) (by kernel_rfl) rfl rfl (Yd.mvB rfl) ?_
      refine DJ.skip 8 rfl (by kernel_rfl) (by kernel_rfl) (by kernel_rfl) rfl rfl ?_
      refine DJ.skip 9 rfl (by kernel_rfl) (by kernel_rfl) (by kernel_rfl) rfl rfl ?_
      refine DJ.skip 10 rfl (by kernel_rfl) (by kernel_rfl) (by kernel_rfl) rfl rfl ?_
      refine DJ.skip 11 rfl (by kernel_rfl) (by kernel_rfl) (by kernel_rfl) rfl rfl ?_
      refine DJ.skip 12 rfl (by kernel_rfl) (by kernel_rfl) (by kernel_rfl) rfl rfl ?_
      refine DJ.yd 13 rfl (by kernel_rfl) (by kernel_rfl) (by kernel_rfl) rfl rfl (Yd.pickFB rfl rfl) ?_
      refine DJ.yd 14 rfl (by kernel_rfl) (by kernel_rfl) (by kernel_rfl) rfl rfl (Yd.asB rfl) ?_
      refine DJ.done (by kernel_rfl) ?_
      refine CJ.ret ?_
      refine Fin.V (Res.one (ResV.tmp (v := .bool false) rfl)) ?_
      refine congrArg Value.bool (Eq.symm ?_); unfold vpOk; simp [*]
  · refine DJ.yd 2 rfl (by kernel_rfl) (by kernel_rfl) (by kernel_rfl) rfl rfl (Yd.mvB rfl) ?_
    refine DJ.skip 3 rfl (by kernel_rfl) (by kernel_rfl) (by kernel_rfl) rfl rfl ?_
    refine DJ.skip 4 rfl (by kernel_rfl) (by kernel_rfl) (by kernel_rfl) rfl rfl ?_
    refine DJ.skip 5 rfl (by kernel_rfl) (by kernel_rfl) (by kernel_rfl) rfl rfl ?_
    refine DJ.yd 6 rfl (by kernel_rfl) (by kernel_rfl) (by kernel_rfl) rfl rfl (Yd.pickFB rfl rfl) ?_
    refine DJ.yd 7 rfl (by kernel_rfl) (by kernel_rfl) (by kernel_rfl) rfl rfl (Yd.mvB rfl) ?_
    refine DJ.skip 8 rfl (by kernel_rfl) (by kernel_rfl) (by kernel_rfl) rfl rfl ?_
    refine DJ.skip 9 rfl (by kernel_rfl) (by kernel_rfl) (by kernel_rfl) rfl rfl ?_
    refine DJ.skip 10 rfl (by kernel_rfl) (by kernel_rfl) (by kernel_rfl) rfl rfl ?_
    refine DJ.skip 11 rfl (by kernel_rfl) (by kernel_rfl) (by kernel_rfl) rfl rfl ?_
    refine DJ.skip 12 rfl (by kernel_rfl) (by kernel_rfl) (by kernel_rfl) rfl rfl ?_
    refine DJ.yd 13 rfl (by kernel_rfl) (by kernel_rfl) (by kernel_rfl) rfl rfl (Yd.pickFB rfl rfl) ?_
    refine DJ.yd 14 rfl (by kernel_rfl) (by kernel_rfl) (by kernel_rfl) rfl rfl (Yd.asB rfl) ?_
    refine DJ.done (by kernel_rfl) ?_
    refine CJ.ret ?_
    refine Fin.V (Res.one (ResV.tmp (v := .bool false) rfl)) ?_
    refine congrArg Value.bool (Eq.symm ?_); unfold vpOk; simp [*]
theorem validPlanS_ok {A : Amb} {W H : Int} {v : Value} {ps : List Pane} {cs : List Value} {q : Plan} (hp : RdPanes A.h v ps) (hq : RdPlan A.h cs q) : Ctr Try.prog 49 #[.agg #[vI W, vI H, v], .agg cs.toArray] A [] (Val (.bool (vpOk W H ps q))) := by
  have hp2 := hp
  obtain ⟨⟨sa, sc, rfl, hm, hrow⟩, hlen⟩ := hp2
  have hq2 := hq
  obtain ⟨o, a, i, t, kids, v2, css, rfl, rfl, ho, ha, hi, ⟨⟨sa2, sc2, rfl, hm2, hrow2⟩, hlen2⟩, hk⟩ := hq2.inv
  have hT := toBT_rd hq
  refine Ctr.body (args := [_, _]) Try.func49 rfl Try.ntmps49 Try.results49 (by simp) ?_
  refine CJ.seq ?_
  refine CJ.region ?_
  refine LJ.boxG (vs := [_, _, _]) rfl rfl (fun b1 => ?_)
  refine LJ.boxG (vs := [_, _, _, _, _]) rfl rfl (fun b2 => ?_)
  refine LJ.yd rfl (Yd.asB rfl) ?_
  refine LJ.nil ?_
  refine CJ.seq ?_
  refine CJ.region ?_
  refine LJ.yd rfl (Yd.loadG (us := [_, _, _]) 0 rfl rfl rfl rfl) ?_
  refine LJ.callB rfl (fun k hk dk => validWorkS_ok hp.up) (fun h6 => ?_) (fun h6 => ?_)
  · refine LJ.yd rfl (Yd.mvB rfl) ?_
    refine LJ.gT rfl ?_
    refine LJ.yd rfl (Yd.loadG (us := [_, _, _, _, _]) 1 rfl rfl rfl rfl) ?_
    refine LJ.gT rfl ?_
    refine LJ.callV rfl (fun k hk dk => planSizeS_ok hq.up) ?_
    refine LJ.gT rfl ?_
    refine LJ.splitD rfl (Yd.gtr rfl rfl) (fun h10 => ?_) (fun h10 => ?_)
    · refine LJ.yd rfl (Yd.pickTB rfl rfl) ?_
      refine LJ.yd rfl (Yd.mvB rfl) ?_
      refine LJ.gT rfl ?_
      refine LJ.yd rfl (Yd.loadG (us := [_, _, _]) 0 rfl rfl rfl rfl) ?_
      refine LJ.gT rfl ?_
      refine LJ.yd rfl (Yd.loadG (us := [_, _, _, _, _]) 1 rfl rfl rfl rfl) ?_
      refine LJ.gT rfl ?_
      refine LJ.yd rfl (Yd.fieldAddr rfl) ?_
      refine LJ.gT rfl ?_
      refine LJ.yd rfl (Yd.loadC 0 rfl rfl rfl) ?_
      refine LJ.gT rfl ?_
      refine LJ.yd rfl (Yd.fieldAddr rfl) ?_
      refine LJ.gT rfl ?_
      refine LJ.yd rfl (Yd.loadC 0 rfl rfl rfl) ?_
      refine LJ.gT rfl ?_
      refine LJ.callV rfl (fun k hk dk => fitsPlanS_ok (toBT _) _ _ _ _ _ _ _ _ (by have := workOk_iff h6; omega) (by have := workOk_iff h6; omega) (by have := workOk_iff h6; omega) (by have := workOk_iff h6; omega) hp.up (hT h10).up) ?_
      refine LJ.yd rfl (Yd.pickTB rfl rfl) ?_
      refine LJ.yd rfl (Yd.asB rfl) ?_
      refine LJ.nil ?_
      refine CJ.ret ?_
      refine Fin.V (Res.one (ResV.tmp (v := .bool _) rfl)) ?_
      refine congrArg Value.bool (Eq.symm ?_); unfold vpOk; simp [*]
    · refine LJ.yd rfl (Yd.pickTB rfl rfl) ?_
      refine LJ.yd rfl (Yd.mvB rfl) ?_
      refine LJ.gF rfl rfl ?_
      refine LJ.gF rfl rfl ?_
      refine LJ.gF rfl rfl ?_
      refine LJ.gF rfl rfl ?_
      refine LJ.gF rfl rfl ?_
      refine LJ.gF rfl rfl ?_
      refine LJ.gF rfl rfl ?_
      refine LJ.yd rfl (Yd.pickFB rfl rfl) ?_
      refine LJ.yd rfl (Yd.asB rfl) ?_
      refine LJ.nil ?_
      refine CJ.ret ?_
      refine Fin.V (Res.one (ResV.tmp (v := .bool false) rfl)) ?_
      refine congrArg Value.bool (Eq.symm ?_); unfold vpOk; simp [*]
  · refine LJ.yd rfl (Yd.mvB rfl) ?_
    refine LJ.gF rfl rfl ?_
    refine LJ.gF rfl rfl ?_
    refine LJ.gF rfl rfl ?_
    refine LJ.yd rfl (Yd.pickFB rfl rfl) ?_
    refine LJ.yd rfl (Yd.mvB rfl) ?_
    refine LJ.gF rfl rfl ?_
    refine LJ.gF rfl rfl ?_
    refine LJ.gF rfl rfl ?_
    refine LJ.gF rfl rfl ?_
    refine LJ.gF rfl rfl ?_
    refine LJ.gF rfl rfl ?_
    refine LJ.gF rfl rfl ?_
    refine LJ.yd rfl (Yd.pickFB rfl rfl) ?_
    refine LJ.yd rfl (Yd.asB rfl) ?_
    refine LJ.nil ?_
    refine CJ.ret ?_
    refine Fin.V (Res.one (ResV.tmp (v := .bool false) rfl)) ?_
    refine congrArg Value.bool (Eq.symm ?_); unfold vpOk; simp [*]
theorem ValidPlanS_ok {A : Amb} {W H : Int} {v : Value} {ps : List Pane} {cs : List Value} {q : Plan} (hp : RdPanes A.h v ps) (hq : RdPlan A.h cs q) : Ctr Try.prog 39 #[.agg #[vI W, vI H, v], .agg cs.toArray] A [] (Val (.bool (vpOk W H ps q))) := by
  have hp2 := hp
  obtain ⟨⟨sa, sc, rfl, hm, hrow⟩, hlen⟩ := hp2
  have hq2 := hq
  obtain ⟨o, a, i, t, kids, v2, css, rfl, rfl, ho, ha, hi, ⟨⟨sa2, sc2, rfl, hm2, hrow2⟩, hlen2⟩, hk⟩ := hq2.inv
  refine Ctr.body (args := [_, _]) Try.func39 rfl Try.ntmps39 Try.results39 (by simp) ?_
  refine CJ.seq ?_
  refine CJ.region ?_
  refine LJ.boxG (vs := [_, _, _]) rfl rfl (fun b1 => ?_)
  refine LJ.boxG (vs := [_, _, _, _, _]) rfl rfl (fun b2 => ?_)
  refine LJ.yd rfl (Yd.asB rfl) ?_
  refine LJ.nil ?_
  refine CJ.seq ?_
  refine CJ.region ?_
  refine LJ.yd rfl (Yd.loadG (us := [_, _, _]) 0 rfl rfl rfl rfl) ?_
  refine LJ.yd rfl (Yd.loadG (us := [_, _, _, _, _]) 1 rfl rfl rfl rfl) ?_
  refine LJ.callV rfl (fun k hk dk => validPlanS_ok hp.up hq.up) ?_
  refine LJ.yd rfl (Yd.asB rfl) ?_
  refine LJ.nil ?_
  refine CJ.ret ?_
  refine Fin.V (Res.one (ResV.tmp (v := .bool _) rfl)) ?_
  rfl
end Go.Proofs.Ytlpjienaennmaaa
