/-
  Plans read from texts: the program's answer, the reader of the given text.
-/
import Derived.Test.YtlpjienaennmaaaPS3
namespace Go.Proofs.Ytlpjienaennmaaa
open Go
set_option maxRecDepth 20000
set_option maxHeartbeats 1000000

theorem pp_len {s : List UInt8} (h : 1600 < s.length) : ppB s = none := if_pos h
theorem pp_no {s : List UInt8} (h0 : ¬ 1600 < s.length) (h : tkP (s.length + 1) s = none) : ppB s = none := by rw [ppB, if_neg h0, h]
theorem pp_rest {s r : List UInt8} {b : BT} (h0 : ¬ 1600 < s.length) (h : tkP (s.length + 1) s = some (b, r)) (hr : ¬ r = []) : ppB s = none := by
  rw [ppB, if_neg h0, h]
  cases r with
  | nil => exact absurd rfl hr
  | cons c z => rfl
theorem pp_sz {s r : List UInt8} {b : BT} (h0 : ¬ 1600 < s.length) (h : tkP (s.length + 1) s = some (b, r)) (hr : r = []) (hz : psz b.plan < 0) : ppB s = none := by
  subst hr
  rw [ppB, if_neg h0, h]
  simp only []
  have := b.sz_pos
  rw [psz_BT] at hz
  rw [if_neg (fun h => by rw [if_pos h.1] at hz; omega)]
theorem pp_cn {s r : List UInt8} {b : BT} (h0 : ¬ 1600 < s.length) (h : tkP (s.length + 1) s = some (b, r)) (hr : r = []) (hz : cnP b.plan = false) : ppB s = none := by
  subst hr
  rw [ppB, if_neg h0, h]
  simp only []
  rw [cnP_BT] at hz
  rw [if_neg (fun h => by rw [h.2] at hz; cases hz)]
theorem pp_T {s r : List UInt8} {b : BT} (h0 : ¬ 1600 < s.length) (h : tkP (s.length + 1) s = some (b, r)) (hr : r = []) (hz : ¬ psz b.plan < 0) (hc : cnP b.plan = true) : ppB s = some b := by
  subst hr
  rw [ppB, if_neg h0, h]
  simp only []
  rw [cnP_BT] at hc
  rw [psz_BT] at hz
  have h1 : b.sz ≤ 255 := by
    by_cases h : b.sz ≤ 255
    · exact h
    · rw [if_neg h] at hz; omega
  rw [if_pos ⟨h1, hc⟩]
def PpR (s : List UInt8) (v : Value) (gs : List HProp) : Prop := ∃ u : PE, v = .tuple #[.agg (encP u).toArray, .bool (ppB s).isSome] ∧ gs = [fun h => PlO h u (ppP s).plan]
theorem ParsePlanI_ok {A : Amb} {s : List UInt8} (hs : s.length ≤ 1048576) : Ctr Try.prog 33 #[vT s] A [] (PpR s) := by
  refine Ctr.body (args := [_]) Try.func33 rfl Try.ntmps33 Try.results33 (by simp) ?_
  refine CJ.seq ?_
  refine CJ.region ?_
  refine LJ.alloc ([_, _, _, _, _] : List Value) rfl rfl (fun b1 => ?_)
  refine LJ.yd rfl (Yd.asB rfl) ?_
  refine LJ.nil ?_
  refine CJ.seq ?_
  refine CJ.seq ?_
  refine CJ.region ?_
  refine LJ.yd rfl (Yd.mvT rfl) ?_
  refine LJ.yd rfl (Yd.lenT rfl) ?_
  refine LJ.splitD rfl (Yd.gtr rfl rfl) (fun h9 => ?_) (fun h9 => ?_)
  · refine LJ.nil ?_
    refine CJ.condT rfl ?_
    refine CJ.seq ?_
    refine CJ.region ?_
    refine LJ.yd rfl (Yd.build (cs := [_, _, _, _, _]) rfl) ?_
    refine LJ.store (v := .agg #[_, _, _, _, _]) (us := [_, _, _, _, _]) 0 rfl rfl rfl rfl rfl rfl rfl rfl ?_
    refine LJ.yd rfl (Yd.asB rfl) ?_
    refine LJ.nil ?_
    refine CJ.ret ?_
    have hn : ppB s = none := by
      first
        | exact pp_len (by omega)
        | exact pp_no (by omega) (hF h16)
        | exact pp_rest (by omega) (hT h16) h21
        | exact pp_sz (by omega) (hT h16) h21 h26
        | exact pp_cn (by omega) (hT h16) h21 h30
    exact Fin.R [_] (Res.two (ResV.cell (us := [_, _, _, _, _]) 0 rfl rfl rfl rfl) (ResV.tmp (v := .bool false) rfl)) ⟨⟨0, 0, 0, false, none, 0, 0⟩, by rw [hn]; rfl, rfl⟩ (by rw [ppP, hn]; exact Ent.pure fun _ => PlO.leaf (by unfold I64; omega) (by unfold I64; omega) (by unfold I64; omega) _)
  · refine LJ.nil ?_
    refine CJ.condF rfl ?_
    refine CJ.skip ?_
    refine CJ.seq ?_
    refine CJ.region ?_
    refine LJ.yd rfl (Yd.mvT rfl) ?_
    refine LJ.call0 rfl (fun k hk dk => takePlan_ok (s.length + 1) _ _ (by omega) (by omega)) ?_
    rintro _ _ ⟨u, b, r, ok, rfl, rfl, hT, hF, hL⟩
    refine LJ.yd rfl (Yd.mvU rfl) ?_
    refine LJ.yd rfl (Yd.extract rfl rfl) ?_
    refine LJ.yd rfl (Yd.extract rfl rfl) ?_
    refine LJ.split rfl (Yd.extract (v := .bool ok) rfl rfl) (fun h16 => ?_) (fun h16 => ?_)
    · refine LJ.alloc ([_, _, _, _, _] : List Value) rfl rfl (fun b2 => ?_)
      refine LJ.store (v := .agg #[_, _, _, _, _]) (us := [_, _, _, _, _]) 2 rfl rfl rfl rfl rfl rfl rfl rfl ?_
      refine LJ.yd rfl (Yd.asT rfl) ?_
      refine LJ.yd rfl (Yd.asB rfl) ?_
      refine LJ.nil ?_
      refine CJ.seq ?_
      refine CJ.seq ?_
      refine CJ.imp1 1 rfl (fun _ r => r h16) ?_
      refine CJ.norm [_, _, _] rfl ?_
      refine CJ.region ?_
      refine LJ.yd rfl (Yd.mvB rfl) ?_
      refine LJ.yd rfl (Yd.not rfl) ?_
      refine LJ.yd rfl (Yd.mvB rfl) ?_
      refine LJ.gT rfl ?_
      refine LJ.yd rfl (Yd.mvT rfl) ?_
      refine LJ.gT rfl ?_
      refine LJ.splitN rfl (Yd.neqT rfl rfl) (fun h21 => ?_) (fun h21 => ?_)
      · refine LJ.yd rfl (Yd.pickFB rfl rfl) ?_
        refine LJ.yd rfl (Yd.mvB rfl) ?_
        refine LJ.gF rfl rfl ?_
        refine LJ.gF rfl rfl ?_
        refine LJ.gF rfl rfl ?_
        refine LJ.yd rfl (Yd.pickTB rfl rfl) ?_
        refine LJ.yd rfl (Yd.mvB rfl) ?_
        refine LJ.gF rfl rfl ?_
        refine LJ.gF rfl rfl ?_
        refine LJ.gF rfl rfl ?_
        refine LJ.yd rfl (Yd.pickTB rfl rfl) ?_
        refine LJ.nil ?_
        refine CJ.condT rfl ?_
        refine CJ.seq ?_
        refine CJ.region ?_
        refine LJ.yd rfl (Yd.build (cs := [_, _, _, _, _]) rfl) ?_
        refine LJ.store (v := .agg #[_, _, _, _, _]) (us := [_, _, _, _, _]) 0 rfl rfl rfl rfl rfl rfl rfl rfl ?_
        refine LJ.yd rfl (Yd.asB rfl) ?_
        refine LJ.nil ?_
        refine CJ.ret ?_
        have hn : ppB s = none := by
          first
            | exact pp_len (by omega)
            | exact pp_no (by omega) (hF h16)
            | exact pp_rest (by omega) (hT h16) h21
            | exact pp_sz (by omega) (hT h16) h21 h26
            | exact pp_cn (by omega) (hT h16) h21 h30
        exact Fin.R [_] (Res.two (ResV.cell (us := [_, _, _, _, _]) 0 rfl rfl rfl rfl) (ResV.tmp (v := .bool false) rfl)) ⟨⟨0, 0, 0, false, none, 0, 0⟩, by rw [hn]; rfl, rfl⟩ (by rw [ppP, hn]; exact Ent.pure fun _ => PlO.leaf (by unfold I64; omega) (by unfold I64; omega) (by unfold I64; omega) _)
      · refine LJ.yd rfl (Yd.pickFB rfl rfl) ?_
        refine LJ.yd rfl (Yd.mvB rfl) ?_
        refine LJ.gT rfl ?_
        refine LJ.yd rfl (Yd.loadG (us := [_, _, _, _, _]) 2 rfl rfl rfl rfl) ?_
        refine LJ.gT rfl ?_
        refine LJ.callV rfl (fun k hk dk => PlanSizeI_ok (Sts.plO hk dk 1 rfl)) ?_
        refine LJ.gT rfl ?_
        refine LJ.splitD rfl (Yd.lss rfl rfl) (fun h26 => ?_) (fun h26 => ?_)
        · refine LJ.yd rfl (Yd.pickFB rfl rfl) ?_
          refine LJ.yd rfl (Yd.mvB rfl) ?_
          refine LJ.gF rfl rfl ?_
          refine LJ.gF rfl rfl ?_
          refine LJ.gF rfl rfl ?_
          refine LJ.yd rfl (Yd.pickTB rfl rfl) ?_
          refine LJ.nil ?_
          refine CJ.condT rfl ?_
          refine CJ.seq ?_
          refine CJ.region ?_
          refine LJ.yd rfl (Yd.build (cs := [_, _, _, _, _]) rfl) ?_
          refine LJ.store (v := .agg #[_, _, _, _, _]) (us := [_, _, _, _, _]) 0 rfl rfl rfl rfl rfl rfl rfl rfl ?_
          refine LJ.yd rfl (Yd.asB rfl) ?_
          refine LJ.nil ?_
          refine CJ.ret ?_
          have hn : ppB s = none := by
            first
              | exact pp_len (by omega)
              | exact pp_no (by omega) (hF h16)
              | exact pp_rest (by omega) (hT h16) h21
              | exact pp_sz (by omega) (hT h16) h21 h26
              | exact pp_cn (by omega) (hT h16) h21 h30
          exact Fin.R [_] (Res.two (ResV.cell (us := [_, _, _, _, _]) 0 rfl rfl rfl rfl) (ResV.tmp (v := .bool false) rfl)) ⟨⟨0, 0, 0, false, none, 0, 0⟩, by rw [hn]; rfl, rfl⟩ (by rw [ppP, hn]; exact Ent.pure fun _ => PlO.leaf (by unfold I64; omega) (by unfold I64; omega) (by unfold I64; omega) _)
        · refine LJ.yd rfl (Yd.pickFB rfl rfl) ?_
          refine LJ.yd rfl (Yd.mvB rfl) ?_
          refine LJ.gT rfl ?_
          refine LJ.yd rfl (Yd.loadG (us := [_, _, _, _, _]) 2 rfl rfl rfl rfl) ?_
          refine LJ.gT rfl ?_
          refine LJ.callB rfl (fun k hk dk => numbersFit_ok (Sts.plO hk dk 1 rfl)) (fun h30 => ?_) (fun h30 => ?_)
          · refine LJ.gT rfl ?_
            refine LJ.yd rfl (Yd.not rfl) ?_
            refine LJ.yd rfl (Yd.pickFB rfl rfl) ?_
            refine LJ.nil ?_
            refine CJ.condF rfl ?_
            refine CJ.skip ?_
            refine CJ.seq ?_
            refine CJ.region ?_
            refine LJ.yd rfl (Yd.loadG (us := [_, _, _, _, _]) 2 rfl rfl rfl rfl) ?_
            refine LJ.store (v := .agg #[_, _, _, _, _]) (us := [_, _, _, _, _]) 0 rfl rfl rfl rfl rfl rfl rfl rfl ?_
            refine LJ.yd rfl (Yd.asB rfl) ?_
            refine LJ.nil ?_
            refine CJ.ret ?_
            have hn := pp_T (by omega) (hT h16) h21 h26 h30
            exact Fin.R [_] (Res.two (ResV.cell (us := [_, _, _, _, _]) 0 rfl rfl rfl rfl) (ResV.tmp (v := .bool true) rfl)) ⟨_, by rw [hn]; rfl, rfl⟩ (by rw [ppP, hn]; exact Ent.pick [1] [0, 2] rfl)
          · refine LJ.gT rfl ?_
            refine LJ.yd rfl (Yd.not rfl) ?_
            refine LJ.yd rfl (Yd.pickFB rfl rfl) ?_
            refine LJ.nil ?_
            refine CJ.condT rfl ?_
            refine CJ.seq ?_
            refine CJ.region ?_
            refine LJ.yd rfl (Yd.build (cs := [_, _, _, _, _]) rfl) ?_
            refine LJ.store (v := .agg #[_, _, _, _, _]) (us := [_, _, _, _, _]) 0 rfl rfl rfl rfl rfl rfl rfl rfl ?_
            refine LJ.yd rfl (Yd.asB rfl) ?_
            refine LJ.nil ?_
            refine CJ.ret ?_
            have hn : ppB s = none := by
              first
                | exact pp_len (by omega)
                | exact pp_no (by omega) (hF h16)
                | exact pp_rest (by omega) (hT h16) h21
                | exact pp_sz (by omega) (hT h16) h21 h26
                | exact pp_cn (by omega) (hT h16) h21 h30
            exact Fin.R [_] (Res.two (ResV.cell (us := [_, _, _, _, _]) 0 rfl rfl rfl rfl) (ResV.tmp (v := .bool false) rfl)) ⟨⟨0, 0, 0, false, none, 0, 0⟩, by rw [hn]; rfl, rfl⟩ (by rw [ppP, hn]; exact Ent.pure fun _ => PlO.leaf (by unfold I64; omega) (by unfold I64; omega) (by unfold I64; omega) _)
    · refine LJ.alloc ([_, _, _, _, _] : List Value) rfl rfl (fun b3 => ?_)
      refine LJ.store (v := .agg #[_, _, _, _, _]) (us := [_, _, _, _, _]) 2 rfl rfl rfl rfl rfl rfl rfl rfl ?_
      refine LJ.yd rfl (Yd.asT rfl) ?_
      refine LJ.yd rfl (Yd.asB rfl) ?_
      refine LJ.nil ?_
      refine CJ.seq ?_
      refine CJ.seq ?_
      refine CJ.region ?_
      refine LJ.yd rfl (Yd.mvB rfl) ?_
      refine LJ.yd rfl (Yd.not rfl) ?_
      refine LJ.yd rfl (Yd.mvB rfl) ?_
      refine LJ.gF rfl rfl ?_
      refine LJ.gF rfl rfl ?_
      refine LJ.yd rfl (Yd.pickTB rfl rfl) ?_
      refine LJ.yd rfl (Yd.mvB rfl) ?_
      refine LJ.gF rfl rfl ?_
      refine LJ.gF rfl rfl ?_
      refine LJ.gF rfl rfl ?_
      refine LJ.yd rfl (Yd.pickTB rfl rfl) ?_
      refine LJ.yd rfl (Yd.mvB rfl) ?_
      refine LJ.gF rfl rfl ?_
      refine LJ.gF rfl rfl ?_
      refine LJ.gF rfl rfl ?_
      refine LJ.yd rfl (Yd.pickTB rfl rfl) ?_
      refine LJ.nil ?_
      refine CJ.condT rfl ?_
      refine CJ.seq ?_
      refine CJ.region ?_
      refine LJ.yd rfl (Yd.build (cs := [_, _, _, _, _]) rfl) ?_
      refine LJ.store (v := .agg #[_, _, _, _, _]) (us := [_, _, _, _, _]) 0 rfl rfl rfl rfl rfl rfl rfl rfl ?_
      refine LJ.yd rfl (Yd.asB rfl) ?_
      refine LJ.nil ?_
      refine CJ.ret ?_
      have hn : ppB s = none := by
        first
          | exact pp_len (by omega)
          | exact pp_no (by omega) (hF h16)
          | exact pp_rest (by omega) (hT h16) h21
          | exact pp_sz (by omega) (hT h16) h21 h26
          | exact pp_cn (by omega) (hT h16) h21 h30
      exact Fin.R [_] (Res.two (ResV.cell (us := [_, _, _, _, _]) 0 rfl rfl rfl rfl) (ResV.tmp (v := .bool false) rfl)) ⟨⟨0, 0, 0, false, none, 0, 0⟩, by rw [hn]; rfl, rfl⟩ (by rw [ppP, hn]; exact Ent.pure fun _ => PlO.leaf (by unfold I64; omega) (by unfold I64; omega) (by unfold I64; omega) _)
/-! ## the given reader -/
theorem num_l {n : Nat} (h : n ≤ 1000000) : (numL n).length ≤ 100000 := Nat.le_trans (numL_len 7 n (by omega)) (by omega)
theorem number_ok (N : Nat) : ∀ (A : Amb) (n : Nat), n < N → n ≤ 1000000 → Ctr Try.prog 114 #[vI n] A [] (Val (vT (numL n))) := by
  induction N with
  | zero => intro A n h; omega
  | succ N ih =>
  intro A n hN hn
  refine Ctr.body (args := [_]) Try.func114 rfl Try.ntmps114 Try.results114 (by simp) ?_
  refine CJ.seq ?_
  refine CJ.region ?_
  refine LJ.yd rfl (Yd.asT rfl) ?_
  refine LJ.nil ?_
  refine CJ.seq ?_
  refine CJ.seq ?_
  refine CJ.region ?_
  refine LJ.yd rfl (Yd.mvI rfl) ?_
  refine LJ.splitD rfl (Yd.lss rfl rfl) (fun h4 => ?_) (fun h4 => ?_)
  · refine LJ.nil ?_
    refine CJ.condT rfl ?_
    refine CJ.seq ?_
    refine CJ.region ?_
    refine LJ.yd rfl (Yd.mvI rfl) ?_
    refine LJ.yd rfl (Yd.mvI rfl) ?_
    refine LJ.yd rfl (Yd.add rfl rfl (by unfold I64; omega)) ?_
    refine LJ.yd rfl (Yd.slT_lh rfl rfl rfl (by omega) (by omega) (by simp; omega)) ?_
    refine LJ.yd rfl (Yd.asT rfl) ?_
    refine LJ.nil ?_
    refine CJ.ret ?_
    refine Fin.V (Res.one (ResV.tmp (v := .string _) rfl)) ?_
    first
      | (have h4' : n < 10 := by omega
         rw [numL_lt h4']
         congr 2
         clear ih
         have : n = 0 ∨ n = 1 ∨ n = 2 ∨ n = 3 ∨ n = 4 ∨ n = 5 ∨ n = 6 ∨ n = 7 ∨ n = 8 ∨ n = 9 := by omega
         rcases this with rfl | rfl | rfl | rfl | rfl | rfl | rfl | rfl | rfl | rfl <;> rfl)
      | (rw [numL_ge (by omega : ¬ n < 10), numL_lt (by omega : n % 10 < 10)])
  · refine LJ.nil ?_
    refine CJ.condF rfl ?_
    refine CJ.skip ?_
    refine CJ.seq ?_
    refine CJ.region ?_
    refine LJ.yd rfl (Yd.mvI rfl) ?_
    refine LJ.yd rfl (Yd.quo rfl rfl (by omega) (by omega) (by unfold I64; omega)) ?_
    refine LJ.callV rfl (fun k hk dk => (show Ctr _ _ #[vI ((n : Int) / 10)] _ _ _ from ih _ (n / 10) (by omega) (by omega))) ?_
    refine LJ.yd rfl (Yd.mvI rfl) ?_
    refine LJ.yd rfl (Yd.rem rfl rfl (by omega) (by omega)) ?_
    refine LJ.callV rfl (fun k hk dk => (show Ctr _ _ #[vI ((n : Int) % 10)] _ _ _ from ih _ (n % 10) (by omega) (by omega))) ?_
    refine LJ.yd rfl (Yd.addT rfl rfl (num_l (by omega)) (num_l (by omega))) ?_
    refine LJ.yd rfl (Yd.asT rfl) ?_
    refine LJ.nil ?_
    refine CJ.ret ?_
    refine Fin.V (Res.one (ResV.tmp (v := .string _) rfl)) ?_
    first
      | (have h4' : n < 10 := by omega
         rw [numL_lt h4']
         congr 2
         clear ih
         have : n = 0 ∨ n = 1 ∨ n = 2 ∨ n = 3 ∨ n = 4 ∨ n = 5 ∨ n = 6 ∨ n = 7 ∨ n = 8 ∨ n = 9 := by omega
         rcases this with rfl | rfl | rfl | rfl | rfl | rfl | rfl | rfl | rfl | rfl <;> rfl)
      | (rw [numL_ge (by omega : ¬ n < 10), numL_lt (by omega : n % 10 < 10)])
end Go.Proofs.Ytlpjienaennmaaa
