/-
  Works with plans that may be invalid, drawn: contracts.
-/
import Derived.Test.YtfnnhekbgjofoaaG3
namespace Go.Proofs.Ytfnnhekbgjofoaa
open Go
set_option maxRecDepth 20000
set_option maxHeartbeats 4000000

theorem RdT.facts {h : Hp} {o e i : Int} {t : Bool} {x : Option Addr} {m l : Nat} {b : BT} (r : RdT h [vI o, vI e, vI i, .bool t, .slice x m l] b) :
    ∃ kids, b.plan = .mk o e i t kids ∧ I64 o ∧ I64 e ∧ I64 i ∧ m = kids.length ∧ m ≤ l ∧ (0 < m → ∃ b' o', x = some ⟨b', o', none⟩) := by
  obtain ⟨o', a', p', t', kids, v, css, e1, e2, ho, ha, hp, hr, hk⟩ := (RdPlan.of_BT r).inv
  have hl := hk.length
  obtain ⟨⟨a, c, rfl, hm, hrow⟩, _⟩ := hr
  simp only [List.cons.injEq, Value.int.injEq, Value.bool.injEq, Value.slice.injEq, true_and, and_true] at e2
  obtain ⟨rfl, rfl, rfl, rfl, rfl, rfl, rfl⟩ := e2
  refine ⟨kids, e1, ho, ha, hp, hl, hm.2, fun h0 => ?_⟩
  rcases hrow with rfl | ⟨b', o', e, _⟩
  · simp at h0
  · exact ⟨b', o', e⟩
theorem RdT.alter {h : Hp} {o e i o2 e2 i2 : Int} {t t2 : Bool} {x : Option Addr} {m l : Nat} {b : BT} {kids : List Plan} (hb : b.plan = .mk o e i t kids) (h1 : I64 o2) (h2 : I64 e2) (h3 : I64 i2)
    (r : RdT h [vI o, vI e, vI i, .bool t, .slice x m l] b) : RdPlan h [vI o2, vI e2, vI i2, .bool t2, .slice x m l] (.mk o2 e2 i2 t2 kids) := by
  obtain ⟨o', a', p', t', kids', v, css, e1, e2, ho, ha, hp, hr, hk⟩ := (RdPlan.of_BT r).inv
  rw [hb] at e1
  injection e1 with _ _ _ _ e1
  simp only [List.cons.injEq, and_true] at e2
  obtain ⟨_, _, _, _, rfl⟩ := e2
  subst e1
  exact .mk h1 h2 h3 hr hk
theorem RdPlans.take {h : Hp} : ∀ {css : List (List Value)} {ps : List Plan} (n : Nat), RdPlans h css ps → RdPlans h (css.take n) (ps.take n)
  | _, _, 0, _ => by simp; exact .nil
  | _, _, _ + 1, .nil => .nil
  | _, _, n + 1, .cons a b => .cons a (RdPlans.take n b)
theorem RdT.alter1 {h : Hp} {o e i : Int} {t : Bool} {x : Option Addr} {m l : Nat} {b : BT} {kids : List Plan} (hb : b.plan = .mk o e i t kids) (h0 : 0 < m)
    (r : RdT h [vI o, vI e, vI i, .bool t, .slice x m l] b) : RdPlan h [vI o, vI e, vI i, .bool t, .slice x 1 l] (.mk o e i t (kids.take 1)) := by
  obtain ⟨o', a', p', t', kids', v, css, e1, e2, ho, ha, hp, hr, hk⟩ := (RdPlan.of_BT r).inv
  rw [hb] at e1
  injection e1 with q1 q2 q3 q4 e1
  simp only [List.cons.injEq, and_true] at e2
  obtain ⟨_, _, _, _, e2⟩ := e2
  subst q1 q2 q3 q4 e1 e2
  obtain ⟨⟨a, c, e3, hm, hrow⟩, hlen⟩ := hr
  injection e3 with e3 e4 e5
  subst e3 e4 e5
  have e6 : (css.take 1).length = 1 := by rw [List.length_take]; omega
  refine .mk ho ha hp ⟨⟨x, l, by rw [e6], by omega, ?_⟩, fun cs hc => hlen cs (List.mem_of_mem_take hc)⟩ (hk.take 1)
  rcases hrow with rfl | ⟨b', o', rfl, hrow⟩
  · simp at h0
  · refine .inr ⟨b', o', rfl, fun i cs j y h1 h2 => hrow i cs j y ?_ h2⟩
    rw [List.getElem?_take] at h1
    split at h1
    · exact h1
    · cases h1
def AnyPlanR (rb : Nat) (a : Option Addr) (n c : Nat) (p : Int) (v : Value) (fs : List HProp) : Prop :=
  ∃ (W H : Int) (ka : Option Addr) (km kc : Nat) (o e i : Int) (t : Bool) (x : Option Addr) (m l : Nat) (pl : Plan) (q : Int) (ps : List Pane), v = .tuple #[.agg #[vI W, vI H, .slice ka km kc], .agg #[vI o, vI e, vI i, .bool t, .slice x m l]] ∧
    fs = [Rd rb a n c q, fun h => RdPanes h (.slice ka km kc) ps, fun h => RdPlan h [vI o, vI e, vI i, .bool t, .slice x m l] pl] ∧ p ≤ q ∧ q ≤ p + 210 ∧ 0 ≤ W ∧ W ≤ 201 ∧ 1 ≤ H ∧ H ≤ 30 ∧ ps.length ≤ 24 ∧ ∀ z ∈ ps, z.wf
theorem anyPlan_ok {A : Amb} {rb n c : Nat} {a : Option Addr} {p : Int} (hcode : RdCode A.h a n) (hp0 : 0 ≤ p) (hp1 : p ≤ 10000) :
    Ctr Try.prog 51 #[.pointer (some ⟨rb, 0, none⟩)] A [Rd rb a n c p] (AnyPlanR rb a n c p) := by
  refine Ctr.body (args := [_]) Try.func51 rfl Try.ntmps51 Try.results51 (by simp) ?_
  refine CJ.seq ?_
  refine CJ.region ?_
  refine LJ.alloc ([_, _, _] : List Value) rfl rfl (fun b1 => ?_)
  refine LJ.alloc ([_, _, _, _, _] : List Value) rfl rfl (fun b2 => ?_)
  refine LJ.nil ?_
  refine CJ.seq ?_
  refine CJ.region ?_
  refine LJ.yd rfl (Yd.mvP rfl) ?_
  refine LJ.call (pickF _ [1, 2]) (pickF _ [0]) rfl (perm_pickF _ [1, 2] [0] rfl) (fun k hk dk => workPlan_ok hcode.up hp0 (by omega)) ?_
  rintro _ _ ⟨W, H, ka, km, kc, o, e, i, t, x, m, l, b, q, ps, rfl, rfl, hq1, hq2, hW1, hW2, hH1, hH2, hl1, hw1, hz1⟩
  refine LJ.norm [_, _, _, _, _] rfl ?_
  refine LJ.yd rfl (Yd.mvU rfl) ?_
  refine LJ.yd rfl (Yd.extract rfl rfl) ?_
  refine LJ.yd rfl (Yd.extract rfl rfl) ?_
  refine LJ.alloc ([_, _, _] : List Value) rfl rfl (fun b3 => ?_)
  refine LJ.alloc ([_, _, _, _, _] : List Value) rfl rfl (fun b4 => ?_)
  refine LJ.store (v := .agg #[_, _, _]) (us := [_, _, _]) 5 rfl rfl rfl rfl rfl rfl rfl rfl ?_
  refine LJ.store (v := .agg #[_, _, _, _, _]) (us := [_, _, _, _, _]) 6 rfl rfl rfl rfl rfl rfl rfl rfl ?_
  refine LJ.nil ?_
  refine CJ.seq ?_
  refine CJ.seq ?_
  refine CJ.know 4 rfl (fun _ r => RdT.facts r) ?_
  rintro ⟨kids, hbp, ho, he, hi, hmk, hml, hxm⟩
  unfold I64 at ho he hi
  refine CJ.region ?_
  refine LJ.yd rfl (Yd.mvP rfl) ?_
  refine LJ.call (pickF _ [0, 1, 3, 4, 5, 6]) (pickF _ [2]) rfl (perm_pickF _ [0, 1, 3, 4, 5, 6] [2] rfl) (fun k hk dk => pick_ok (hcode.up) (by omega) (by omega)) ?_
  rintro _ _ ⟨x12, rfl, hx12, hy12, rfl⟩
  refine LJ.norm [_, _, _, _, _, _, _] rfl ?_
  refine LJ.nil ?_
  refine CJ.block ?_
  refine CJ.seq ?_
  refine CJ.region ?_
  refine LJ.splitD rfl (Yd.eql rfl rfl) (fun h14 => ?_) (fun h14 => ?_)
  · refine LJ.yd rfl (Yd.asB rfl) ?_
    refine LJ.nil ?_
    refine CJ.condT rfl ?_
    refine CJ.region ?_
    refine LJ.yd rfl (Yd.mvP rfl) ?_
    refine LJ.yd rfl (Yd.fieldAddr rfl) ?_
    refine LJ.yd rfl (Yd.loadC 4 rfl rfl rfl) ?_
    refine LJ.yd rfl (Yd.add rfl rfl (by unfold I64; omega)) ?_
    refine LJ.op rfl (OpR.buildSlice (cs := [_, _, _]) rfl rfl) ?_
    rintro _ _ ⟨b5, rfl, rfl⟩
    refine LJ.call (pickF _ [0, 1, 2, 3, 4, 5, 7]) (pickF _ [6]) rfl (perm_pickF _ [0, 1, 2, 3, 4, 5, 7] [6] rfl) (fun k hk dk => one_ok (l := [0, 201, W + 1]) (hcode.up) (LitAt.of (l := [0, 201, W + 1]) hk dk 6 rfl) (by simp) (by omega) (by omega)) ?_
    rintro _ _ ⟨x20, rfl, hx20, rfl⟩
    simp only [List.mem_cons, List.not_mem_nil, or_false] at hx20
    refine LJ.norm [_, _, _, _, _, _, _, _] rfl ?_
    refine LJ.yd rfl (Yd.fieldAddr rfl) ?_
    refine LJ.store (v := .int _ _) (us := [_, _, _]) 4 rfl rfl rfl rfl rfl rfl rfl rfl ?_
    refine LJ.nil ?_
    refine CJ.seq ?_
    refine CJ.regionD [2, 3, 4, 5, 6, 7] [0, 1] (by kernel_rfl) rfl ?_
    refine DJ.norm [_, _, _, _, _, _] [_, _] rfl rfl ?_
    refine DJ.yd 0 rfl (by kernel_rfl) (by kernel_rfl) (by kernel_rfl) rfl rfl (Yd.loadG (us := [_, _, _]) 2 rfl rfl rfl rfl) ?_
    refine DJ.yd 1 rfl (by kernel_rfl) (by kernel_rfl) (by kernel_rfl) rfl rfl (Yd.loadG (us := [_, _, _, _, _]) 3 rfl rfl rfl rfl) ?_
    refine DJ.one (i := 2) (by kernel_rfl) ?_
    refine DO.store (v := .agg #[_, _, _]) (us := [_, _, _]) 0 rfl rfl rfl rfl rfl rfl rfl rfl rfl rfl ?_
    refine DJ.one (i := 3) (by kernel_rfl) ?_
    refine DO.store (v := .agg #[_, _, _, _, _]) (us := [_, _, _, _, _]) 1 rfl rfl rfl rfl rfl rfl rfl rfl rfl rfl ?_
    refine DJ.done (by kernel_rfl) ?_
    refine CJ.ret ?_
    exact Fin.R [_, _, _] (Res.two (ResV.cell (us := [_, _, _]) 6 rfl rfl rfl rfl) (ResV.cell (us := [_, _, _, _, _]) 7 rfl rfl rfl rfl)) ⟨_, _, _, _, _, _, _, _, _, _, _, _, _, _, _, rfl, rfl, by omega, by omega, by omega, by omega, by omega, by omega, hl1, hw1⟩ (Ent.thn (Ent.impAt 1 rfl (fun _ r => RdT.alter hbp (by unfold I64; omega) (by unfold I64; omega) (by unfold I64; omega) r)) (Ent.pick [5, 0, 1] [2, 3, 4, 6, 7] rfl))
  · refine LJ.yd rfl (Yd.asB rfl) ?_
    refine LJ.nil ?_
    refine CJ.condF rfl ?_
    refine CJ.seq ?_
    refine CJ.region ?_
    refine LJ.splitD rfl (Yd.eql rfl rfl) (fun h23 => ?_) (fun h23 => ?_)
    · refine LJ.yd rfl (Yd.asB rfl) ?_
      refine LJ.nil ?_
      refine CJ.condT rfl ?_
      refine CJ.region ?_
      refine LJ.yd rfl (Yd.mvP rfl) ?_
      refine LJ.op rfl (OpR.buildSlice (cs := [_, _, _]) rfl rfl) ?_
      rintro _ _ ⟨b6, rfl, rfl⟩
      refine LJ.call (pickF _ [0, 1, 2, 3, 4, 5, 7]) (pickF _ [6]) rfl (perm_pickF _ [0, 1, 2, 3, 4, 5, 7] [6] rfl) (fun k hk dk => one_ok (l := [0, 200, -1]) (hcode.up) (LitAt.of (l := [0, 200, -1]) hk dk 6 rfl) (by simp) (by omega) (by omega)) ?_
      rintro _ _ ⟨x26, rfl, hx26, rfl⟩
      simp only [List.mem_cons, List.not_mem_nil, or_false] at hx26
      refine LJ.norm [_, _, _, _, _, _, _, _] rfl ?_
      refine LJ.yd rfl (Yd.fieldAddr rfl) ?_
      refine LJ.store (v := .int _ _) (us := [_, _, _, _, _]) 5 rfl rfl rfl rfl rfl rfl rfl rfl ?_
      refine LJ.nil ?_
      refine CJ.seq ?_
      refine CJ.regionD [2, 3, 4, 5, 6, 7] [0, 1] (by kernel_rfl) rfl ?_
      refine DJ.norm [_, _, _, _, _, _] [_, _] rfl rfl ?_
      refine DJ.yd 0 rfl (by kernel_rfl) (by kernel_rfl) (by kernel_rfl) rfl rfl (Yd.loadG (us := [_, _, _]) 2 rfl rfl rfl rfl) ?_
      refine DJ.yd 1 rfl (by kernel_rfl) (by kernel_rfl) (by kernel_rfl) rfl rfl (Yd.loadG (us := [_, _, _, _, _]) 3 rfl rfl rfl rfl) ?_
      refine DJ.one (i := 2) (by kernel_rfl) ?_
      refine DO.store (v := .agg #[_, _, _]) (us := [_, _, _]) 0 rfl rfl rfl rfl rfl rfl rfl rfl rfl rfl ?_
      refine DJ.one (i := 3) (by kernel_rfl) ?_
      refine DO.store (v := .agg #[_, _, _, _, _]) (us := [_, _, _, _, _]) 1 rfl rfl rfl rfl rfl rfl rfl rfl rfl rfl ?_
      refine DJ.done (by kernel_rfl) ?_
      refine CJ.ret ?_
      exact Fin.R [_, _, _] (Res.two (ResV.cell (us := [_, _, _]) 6 rfl rfl rfl rfl) (ResV.cell (us := [_, _, _, _, _]) 7 rfl rfl rfl rfl)) ⟨_, _, _, _, _, _, _, _, _, _, _, _, _, _, _, rfl, rfl, by omega, by omega, by omega, by omega, by omega, by omega, hl1, hw1⟩ (Ent.thn (Ent.impAt 1 rfl (fun _ r => RdT.alter hbp (by unfold I64; omega) (by unfold I64; omega) (by unfold I64; omega) r)) (Ent.pick [5, 0, 1] [2, 3, 4, 6, 7] rfl))
    · refine LJ.yd rfl (Yd.asB rfl) ?_
      refine LJ.nil ?_
      refine CJ.condF rfl ?_
      refine CJ.seq ?_
      refine CJ.region ?_
      refine LJ.splitD rfl (Yd.eql rfl rfl) (fun h29 => ?_) (fun h29 => ?_)
      · refine LJ.yd rfl (Yd.asB rfl) ?_
        refine LJ.nil ?_
        refine CJ.condT rfl ?_
        refine CJ.region ?_
        refine LJ.yd rfl (Yd.mvP rfl) ?_
        refine LJ.op rfl (OpR.buildSlice (cs := [_, _, _, _]) rfl rfl) ?_
        rintro _ _ ⟨b7, rfl, rfl⟩
        refine LJ.call (pickF _ [0, 1, 2, 3, 4, 5, 7]) (pickF _ [6]) rfl (perm_pickF _ [0, 1, 2, 3, 4, 5, 7] [6] rfl) (fun k hk dk => one_ok (l := [4, -1, 1, 0]) (hcode.up) (LitAt.of (l := [4, -1, 1, 0]) hk dk 6 rfl) (by simp) (by omega) (by omega)) ?_
        rintro _ _ ⟨x32, rfl, hx32, rfl⟩
        simp only [List.mem_cons, List.not_mem_nil, or_false] at hx32
        refine LJ.norm [_, _, _, _, _, _, _, _] rfl ?_
        refine LJ.yd rfl (Yd.fieldAddr rfl) ?_
        refine LJ.store (v := .int _ _) (us := [_, _, _, _, _]) 5 rfl rfl rfl rfl rfl rfl rfl rfl ?_
        refine LJ.nil ?_
        refine CJ.seq ?_
        refine CJ.regionD [2, 3, 4, 5, 6, 7] [0, 1] (by kernel_rfl) rfl ?_
        refine DJ.norm [_, _, _, _, _, _] [_, _] rfl rfl ?_
        refine DJ.yd 0 rfl (by kernel_rfl) (by kernel_rfl) (by kernel_rfl) rfl rfl (Yd.loadG (us := [_, _, _]) 2 rfl rfl rfl rfl) ?_
        refine DJ.yd 1 rfl (by kernel_rfl) (by kernel_rfl) (by kernel_rfl) rfl rfl (Yd.loadG (us := [_, _, _, _, _]) 3 rfl rfl rfl rfl) ?_
        refine DJ.one (i := 2) (by kernel_rfl) ?_
        refine DO.store (v := .agg #[_, _, _]) (us := [_, _, _]) 0 rfl rfl rfl rfl rfl rfl rfl rfl rfl rfl ?_
        refine DJ.one (i := 3) (by kernel_rfl) ?_
        refine DO.store (v := .agg #[_, _, _, _, _]) (us := [_, _, _, _, _]) 1 rfl rfl rfl rfl rfl rfl rfl rfl rfl rfl ?_
        refine DJ.done (by kernel_rfl) ?_
        refine CJ.ret ?_
        exact Fin.R [_, _, _] (Res.two (ResV.cell (us := [_, _, _]) 6 rfl rfl rfl rfl) (ResV.cell (us := [_, _, _, _, _]) 7 rfl rfl rfl rfl)) ⟨_, _, _, _, _, _, _, _, _, _, _, _, _, _, _, rfl, rfl, by omega, by omega, by omega, by omega, by omega, by omega, hl1, hw1⟩ (Ent.thn (Ent.impAt 1 rfl (fun _ r => RdT.alter hbp (by unfold I64; omega) (by unfold I64; omega) (by unfold I64; omega) r)) (Ent.pick [5, 0, 1] [2, 3, 4, 6, 7] rfl))
      · refine LJ.yd rfl (Yd.asB rfl) ?_
        refine LJ.nil ?_
        refine CJ.condF rfl ?_
        refine CJ.seq ?_
        refine CJ.region ?_
        refine LJ.splitD rfl (Yd.eql rfl rfl) (fun h35 => ?_) (fun h35 => ?_)
        · refine LJ.yd rfl (Yd.asB rfl) ?_
          refine LJ.nil ?_
          refine CJ.condT rfl ?_
          refine CJ.seq ?_
          refine CJ.region ?_
          refine LJ.yd rfl (Yd.fieldAddr rfl) ?_
          refine LJ.yd rfl (Yd.loadC 5 rfl rfl rfl) ?_
          refine LJ.yd rfl (Yd.len rfl) ?_
          refine LJ.splitD rfl (Yd.gtr rfl rfl) (fun h39 => ?_) (fun h39 => ?_)
          · refine LJ.nil ?_
            refine CJ.condT rfl ?_
            obtain ⟨b9, o9, rfl⟩ := hxm (by omega)
            refine CJ.region ?_
            refine LJ.yd rfl (Yd.fieldAddr rfl) ?_
            refine LJ.yd rfl (Yd.loadC 5 rfl rfl rfl) ?_
            refine LJ.yd rfl (Yd.sliceH rfl rfl (by omega) (by omega) (fun h => by cases h) (fun _ h => by cases h; rfl)) ?_
            refine LJ.yd rfl (Yd.fieldAddr rfl) ?_
            refine LJ.store (v := .slice _ _ _) (us := [_, _, _, _, _]) 5 rfl rfl rfl rfl rfl rfl rfl rfl ?_
            refine LJ.nil ?_
            refine CJ.seq ?_
            refine CJ.regionD [2, 3, 4, 5, 6] [0, 1] (by kernel_rfl) rfl ?_
            refine DJ.norm [_, _, _, _, _] [_, _] rfl rfl ?_
            refine DJ.yd 0 rfl (by kernel_rfl) (by kernel_rfl) (by kernel_rfl) rfl rfl (Yd.loadG (us := [_, _, _]) 2 rfl rfl rfl rfl) ?_
            refine DJ.yd 1 rfl (by kernel_rfl) (by kernel_rfl) (by kernel_rfl) rfl rfl (Yd.loadG (us := [_, _, _, _, _]) 3 rfl rfl rfl rfl) ?_
            refine DJ.one (i := 2) (by kernel_rfl) ?_
            refine DO.store (v := .agg #[_, _, _]) (us := [_, _, _]) 0 rfl rfl rfl rfl rfl rfl rfl rfl rfl rfl ?_
            refine DJ.one (i := 3) (by kernel_rfl) ?_
            refine DO.store (v := .agg #[_, _, _, _, _]) (us := [_, _, _, _, _]) 1 rfl rfl rfl rfl rfl rfl rfl rfl rfl rfl ?_
            refine DJ.done (by kernel_rfl) ?_
            refine CJ.ret ?_
            exact Fin.R [_, _, _] (Res.two (ResV.cell (us := [_, _, _]) 5 rfl rfl rfl rfl) (ResV.cell (us := [_, _, _, _, _]) 6 rfl rfl rfl rfl)) ⟨_, _, _, _, _, _, _, _, _, _, _, _, _, _, _, rfl, rfl, by omega, by omega, by omega, by omega, by omega, by omega, hl1, hw1⟩ (Ent.thn (Ent.impAt 1 rfl (fun _ r => RdT.alter1 hbp (by omega) r)) (Ent.pick [4, 0, 1] [2, 3, 5, 6] rfl))
          · refine LJ.nil ?_
            refine CJ.condF rfl ?_
            refine CJ.skip ?_
            refine CJ.seq ?_
            refine CJ.regionD [2, 3, 4, 5, 6] [0, 1] (by kernel_rfl) rfl ?_
            refine DJ.norm [_, _, _, _, _] [_, _] rfl rfl ?_
            refine DJ.yd 0 rfl (by kernel_rfl) (by kernel_rfl) (by kernel_rfl) rfl rfl (Yd.loadG (us := [_, _, _]) 2 rfl rfl rfl rfl) ?_
            refine DJ.yd 1 rfl (by kernel_rfl) (by kernel_rfl) (by kernel_rfl) rfl rfl (Yd.loadG (us := [_, _, _, _, _]) 3 rfl rfl rfl rfl) ?_
            refine DJ.one (i := 2) (by kernel_rfl) ?_
            refine DO.store (v := .agg #[_, _, _]) (us := [_, _, _]) 0 rfl rfl rfl rfl rfl rfl rfl rfl rfl rfl ?_
            refine DJ.one (i := 3) (by kernel_rfl) ?_
            refine DO.store (v := .agg #[_, _, _, _, _]) (us := [_, _, _, _, _]) 1 rfl rfl rfl rfl rfl rfl rfl rfl rfl rfl ?_
            refine DJ.done (by kernel_rfl) ?_
            refine CJ.ret ?_
            exact Fin.R [_, _, _] (Res.two (ResV.cell (us := [_, _, _]) 5 rfl rfl rfl rfl) (ResV.cell (us := [_, _, _, _, _]) 6 rfl rfl rfl rfl)) ⟨_, _, _, _, _, _, _, _, _, _, _, _, _, _, _, rfl, rfl, by omega, by omega, by omega, by omega, by omega, by omega, hl1, hw1⟩ (Ent.thn (Ent.impAt 1 rfl (fun _ r => RdT.alter hbp (by unfold I64; omega) (by unfold I64; omega) (by unfold I64; omega) r)) (Ent.pick [4, 0, 1] [2, 3, 5, 6] rfl))
        · refine LJ.yd rfl (Yd.asB rfl) ?_
          refine LJ.nil ?_
          refine CJ.condF rfl ?_
          refine CJ.seq ?_
          refine CJ.region ?_
          refine LJ.splitD rfl (Yd.eql rfl rfl) (fun h45 => ?_) (fun h45 => ?_)
          · refine LJ.yd rfl (Yd.asB rfl) ?_
            refine LJ.nil ?_
            refine CJ.condT rfl ?_
            refine CJ.region ?_
            refine LJ.yd rfl (Yd.mvP rfl) ?_
            refine LJ.op rfl (OpR.buildSlice (cs := [_, _, _]) rfl rfl) ?_
            rintro _ _ ⟨b8, rfl, rfl⟩
            refine LJ.call (pickF _ [0, 1, 2, 3, 4, 5, 7]) (pickF _ [6]) rfl (perm_pickF _ [0, 1, 2, 3, 4, 5, 7] [6] rfl) (fun k hk dk => one_ok (l := [1, 30, -1]) (hcode.up) (LitAt.of (l := [1, 30, -1]) hk dk 6 rfl) (by simp) (by omega) (by omega)) ?_
            rintro _ _ ⟨x48, rfl, hx48, rfl⟩
            simp only [List.mem_cons, List.not_mem_nil, or_false] at hx48
            refine LJ.norm [_, _, _, _, _, _, _, _] rfl ?_
            refine LJ.yd rfl (Yd.fieldAddr rfl) ?_
            refine LJ.store (v := .int _ _) (us := [_, _, _, _, _]) 5 rfl rfl rfl rfl rfl rfl rfl rfl ?_
            refine LJ.nil ?_
            refine CJ.seq ?_
            refine CJ.regionD [2, 3, 4, 5, 6, 7] [0, 1] (by kernel_rfl) rfl ?_
            refine DJ.norm [_, _, _, _, _, _] [_, _] rfl rfl ?_
            refine DJ.yd 0 rfl (by kernel_rfl) (by kernel_rfl) (by kernel_rfl) rfl rfl (Yd.loadG (us := [_, _, _]) 2 rfl rfl rfl rfl) ?_
            refine DJ.yd 1 rfl (by kernel_rfl) (by kernel_rfl) (by kernel_rfl) rfl rfl (Yd.loadG (us := [_, _, _, _, _]) 3 rfl rfl rfl rfl) ?_
            refine DJ.one (i := 2) (by kernel_rfl) ?_
            refine DO.store (v := .agg #[_, _, _]) (us := [_, _, _]) 0 rfl rfl rfl rfl rfl rfl rfl rfl rfl rfl ?_
            refine DJ.one (i := 3) (by kernel_rfl) ?_
            refine DO.store (v := .agg #[_, _, _, _, _]) (us := [_, _, _, _, _]) 1 rfl rfl rfl rfl rfl rfl rfl rfl rfl rfl ?_
            refine DJ.done (by kernel_rfl) ?_
            refine CJ.ret ?_
            exact Fin.R [_, _, _] (Res.two (ResV.cell (us := [_, _, _]) 6 rfl rfl rfl rfl) (ResV.cell (us := [_, _, _, _, _]) 7 rfl rfl rfl rfl)) ⟨_, _, _, _, _, _, _, _, _, _, _, _, _, _, _, rfl, rfl, by omega, by omega, by omega, by omega, by omega, by omega, hl1, hw1⟩ (Ent.thn (Ent.impAt 1 rfl (fun _ r => RdT.alter hbp (by unfold I64; omega) (by unfold I64; omega) (by unfold I64; omega) r)) (Ent.pick [5, 0, 1] [2, 3, 4, 6, 7] rfl))
          · refine LJ.yd rfl (Yd.asB rfl) ?_
            refine LJ.nil ?_
            refine CJ.condF rfl ?_
            refine CJ.seq ?_
            refine CJ.region ?_
            refine LJ.splitD rfl (Yd.eql rfl rfl) (fun h51 => ?_) (fun h51 => ?_)
            · refine LJ.yd rfl (Yd.asB rfl) ?_
              refine LJ.nil ?_
              refine CJ.condT rfl ?_
              refine CJ.region ?_
              refine LJ.yd rfl (Yd.fieldAddr rfl) ?_
              refine LJ.yd rfl (Yd.loadC 5 rfl rfl rfl) ?_
              refine LJ.yd rfl (Yd.not rfl) ?_
              refine LJ.yd rfl (Yd.fieldAddr rfl) ?_
              refine LJ.store (v := .bool _) (us := [_, _, _, _, _]) 5 rfl rfl rfl rfl rfl rfl rfl rfl ?_
              refine LJ.nil ?_
              refine CJ.seq ?_
              refine CJ.regionD [2, 3, 4, 5, 6] [0, 1] (by kernel_rfl) rfl ?_
              refine DJ.norm [_, _, _, _, _] [_, _] rfl rfl ?_
              refine DJ.yd 0 rfl (by kernel_rfl) (by kernel_rfl) (by kernel_rfl) rfl rfl (Yd.loadG (us := [_, _, _]) 2 rfl rfl rfl rfl) ?_
              refine DJ.yd 1 rfl (by kernel_rfl) (by kernel_rfl) (by kernel_rfl) rfl rfl (Yd.loadG (us := [_, _, _, _, _]) 3 rfl rfl rfl rfl) ?_
              refine DJ.one (i := 2) (by kernel_rfl) ?_
              refine DO.store (v := .agg #[_, _, _]) (us := [_, _, _]) 0 rfl rfl rfl rfl rfl rfl rfl rfl rfl rfl ?_
              refine DJ.one (i := 3) (by kernel_rfl) ?_
              refine DO.store (v := .agg #[_, _, _, _, _]) (us := [_, _, _, _, _]) 1 rfl rfl rfl rfl rfl rfl rfl rfl rfl rfl ?_
              refine DJ.done (by kernel_rfl) ?_
              refine CJ.ret ?_
              exact Fin.R [_, _, _] (Res.two (ResV.cell (us := [_, _, _]) 5 rfl rfl rfl rfl) (ResV.cell (us := [_, _, _, _, _]) 6 rfl rfl rfl rfl)) ⟨_, _, _, _, _, _, _, _, _, _, _, _, _, _, _, rfl, rfl, by omega, by omega, by omega, by omega, by omega, by omega, hl1, hw1⟩ (Ent.thn (Ent.impAt 1 rfl (fun _ r => RdT.alter hbp (by unfold I64; omega) (by unfold I64; omega) (by unfold I64; omega) r)) (Ent.pick [4, 0, 1] [2, 3, 5, 6] rfl))
            · refine LJ.yd rfl (Yd.asB rfl) ?_
              refine LJ.nil ?_
              refine CJ.condF rfl ?_
              refine CJ.skip ?_
              refine CJ.seq ?_
              refine CJ.regionD [2, 3, 4, 5, 6] [0, 1] (by kernel_rfl) rfl ?_
              refine DJ.norm [_, _, _, _, _] [_, _] rfl rfl ?_
              refine DJ.yd 0 rfl (by kernel_rfl) (by kernel_rfl) (by kernel_rfl) rfl rfl (Yd.loadG (us := [_, _, _]) 2 rfl rfl rfl rfl) ?_
              refine DJ.yd 1 rfl (by kernel_rfl) (by kernel_rfl) (by kernel_rfl) rfl rfl (Yd.loadG (us := [_, _, _, _, _]) 3 rfl rfl rfl rfl) ?_
              refine DJ.one (i := 2) (by kernel_rfl) ?_
              refine DO.store (v := .agg #[_, _, _]) (us := [_, _, _]) 0 rfl rfl rfl rfl rfl rfl rfl rfl rfl rfl ?_
              refine DJ.one (i := 3) (by kernel_rfl) ?_
              refine DO.store (v := .agg #[_, _, _, _, _]) (us := [_, _, _, _, _]) 1 rfl rfl rfl rfl rfl rfl rfl rfl rfl rfl ?_
              refine DJ.done (by kernel_rfl) ?_
              refine CJ.ret ?_
              exact Fin.R [_, _, _] (Res.two (ResV.cell (us := [_, _, _]) 5 rfl rfl rfl rfl) (ResV.cell (us := [_, _, _, _, _]) 6 rfl rfl rfl rfl)) ⟨_, _, _, _, _, _, _, _, _, _, _, _, _, _, _, rfl, rfl, by omega, by omega, by omega, by omega, by omega, by omega, hl1, hw1⟩ (Ent.thn (Ent.impAt 1 rfl (fun _ r => RdT.alter hbp (by unfold I64; omega) (by unfold I64; omega) (by unfold I64; omega) r)) (Ent.pick [4, 0, 1] [2, 3, 5, 6] rfl))
end Go.Proofs.Ytfnnhekbgjofoaa
