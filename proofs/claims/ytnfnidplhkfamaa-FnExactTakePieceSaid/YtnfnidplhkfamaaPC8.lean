/-
  Contracts: the largest clear box.
-/
import Derived.Test.YtnfnidplhkfamaaPC4
import Derived.Test.YtnfnidplhkfamaaC2
namespace Go.Proofs.Ytnfnidplhkfamaa
open Go
set_option maxRecDepth 20000
set_option maxHeartbeats 1000000

theorem lift2 {α β : Type} {e : α → List Value} {f : β → List Value} {k j : Nat} {A B : Amb} [AmbLe A B] {v w : Value} {l : List α} {r : List β} (h : RdL e k A.h v l) (_ : RdL f j B.h w r) : RdL e k B.h v l := h.up
def caV (p : Piece) (b : Box) : Bool := pcOk p && (insB b (glB p) && !(p.fl.any fun f => mt f b))
theorem pc_G {p : Piece} (hp : pcOk p = true) : FlG p.w p.h p.fl := fun f hf => ((pcOk_iff.1 hp).2.2.2.2 f hf).2
theorem caV_G {p : Piece} {b : Box} (hp : pcOk p = true) : caV p b = clrG p.w p.h p.fl b := by
  obtain ⟨_, _, hw, _, _⟩ := pcOk_iff.1 hp
  have key : insB b (glB p) = decide (b.inG p.w p.h) := by
    rw [Bool.eq_iff_iff, decide_eq_true_eq]
    simp only [insB, Bool.and_eq_true, bOk_iff, inR_iff, Box.inG]
    omega
  rw [caV, hp, Bool.true_and, key, clrG]
  by_cases h : b.inG p.w p.h
  · have hb : bOk b = true := bOk_iff.2 (by obtain ⟨_, _, _, _, _, _⟩ := h; omega)
    rw [any_clr hp hb, Bool.not_not]
  · rw [decide_eq_false h]; rfl
theorem ClearAtI_ok {A : Amb} {p : Piece} {v : Value} (hf : RdL Box.enc 4 A.h v p.fl) (b : Box) : Ctr Try.prog 19 #[.agg #[vI p.l, vI p.w, vI p.h, v], agB b] A [] (Val (.bool (caV p b))) := by
  obtain ⟨fa, fc, rfl, hfb, hf⟩ := hf.un
  refine Ctr.body (args := [_, _]) Try.func19 rfl Try.ntmps19 Try.results19 (by simp) ?_
  refine CJ.seq ?_
  refine CJ.region ?_
  refine LJ.boxG (vs := [_, _, _, _]) rfl rfl (fun b1 => ?_)
  refine LJ.boxG (vs := [_, _, _, _]) rfl rfl (fun b2 => ?_)
  refine LJ.yd rfl (Yd.asB rfl) ?_
  refine LJ.nil ?_
  refine CJ.seq ?_
  refine CJ.regionD [0, 1] [] (by kernel_rfl) rfl ?_
  refine DJ.norm [_, _] [] rfl rfl ?_
  refine DJ.yd 0 rfl (by kernel_rfl) (by kernel_rfl) (by kernel_rfl) rfl rfl (Yd.loadG (us := [_, _, _, _]) 0 rfl rfl rfl rfl) ?_
  refine DJ.one (i := 1) (by kernel_rfl) ?_
  refine DO.callB rfl rfl rfl (fun k0 hk0 dk0 k hk dk => ValidPieceI_ok hf.up) (fun h6 => ?_) (fun h6 => ?_)
  · refine DJ.yd 2 rfl (by kernel_rfl) (by kernel_rfl) (by kernel_rfl) rfl rfl (Yd.mvB rfl) ?_
    refine DJ.yd 3 rfl (by kernel_rfl) (by kernel_rfl) (by kernel_rfl) rfl rfl (Yd.loadG (us := [_, _, _, _]) 1 rfl rfl rfl rfl) ?_
    refine DJ.yd 4 rfl (by kernel_rfl) (by kernel_rfl) (by kernel_rfl) rfl rfl (Yd.loadG (us := [_, _, _, _]) 0 rfl rfl rfl rfl) ?_
    refine DJ.one (i := 5) (by kernel_rfl) ?_
    refine DO.callV rfl rfl rfl (fun k0 hk0 dk0 k hk dk => pieceBox_ok _ _ _ _ _) ?_
    refine DJ.one (i := 6) (by kernel_rfl) ?_
    refine DO.callB rfl rfl rfl (fun k0 hk0 dk0 k hk dk => InsideOfI_ok _ b (glB p)) (fun h11 => ?_) (fun h11 => ?_)
    · refine DJ.yd 7 rfl (by kernel_rfl) (by kernel_rfl) (by kernel_rfl) rfl rfl (Yd.pickTB rfl rfl) ?_
      refine DJ.yd 8 rfl (by kernel_rfl) (by kernel_rfl) (by kernel_rfl) rfl rfl (Yd.mvB rfl) ?_
      refine DJ.yd 9 rfl (by kernel_rfl) (by kernel_rfl) (by kernel_rfl) rfl rfl (Yd.fieldAddr rfl) ?_
      refine DJ.yd 10 rfl (by kernel_rfl) (by kernel_rfl) (by kernel_rfl) rfl rfl (Yd.loadC 0 rfl rfl rfl) ?_
      refine DJ.yd 11 rfl (by kernel_rfl) (by kernel_rfl) (by kernel_rfl) rfl rfl (Yd.loadG (us := [_, _, _, _]) 1 rfl rfl rfl rfl) ?_
      refine DJ.one (i := 12) (by kernel_rfl) ?_
      refine DO.callB rfl rfl rfl (fun k0 hk0 dk0 k hk dk => meetsFlaw_ok hf.up b) (fun h17 => ?_) (fun h17 => ?_)
      · refine DJ.yd 13 rfl (by kernel_rfl) (by kernel_rfl) (by kernel_rfl) rfl rfl (Yd.not rfl) ?_
        refine DJ.yd 14 rfl (by kernel_rfl) (by kernel_rfl) (by kernel_rfl) rfl rfl (Yd.pickTB rfl rfl) ?_
        refine DJ.yd 15 rfl (by kernel_rfl) (by kernel_rfl) (by kernel_rfl) rfl rfl (Yd.asB rfl) ?_
        refine DJ.done (by kernel_rfl) ?_
        refine CJ.ret ?_
        refine Fin.V (Res.one (ResV.tmp (v := .bool false) rfl)) ?_
        refine congrArg Value.bool ?_; simp_all [caV]
      · refine DJ.yd 13 rfl (by kernel_rfl) (by kernel_rfl) (by kernel_rfl) rfl rfl (Yd.not rfl) ?_
        refine DJ.yd 14 rfl (by kernel_rfl) (by kernel_rfl) (by kernel_rfl) rfl rfl (Yd.pickTB rfl rfl) ?_
        refine DJ.yd 15 rfl (by kernel_rfl) (by kernel_rfl) (by kernel_rfl) rfl rfl (Yd.asB rfl) ?_
        refine DJ.done (by kernel_rfl) ?_
        refine CJ.ret ?_
        refine Fin.V (Res.one (ResV.tmp (v := .bool true) rfl)) ?_
        refine congrArg Value.bool ?_; simp_all [caV]
    · refine DJ.yd 7 rfl (by kernel_rfl) (by kernel_rfl) (by kernel_rfl) rfl rfl (Yd.pickTB rfl rfl) ?_
      refine DJ.yd 8 rfl (by kernel_rfl) (by kernel_rfl) (by kernel_rfl) rfl rfl (Yd.mvB rfl) ?_
      refine DJ.skip 9 rfl (by kernel_rfl) (by kernel_rfl) (by kernel_rfl) rfl rfl ?_
      refine DJ.skip 10 rfl (by kernel_rfl) (by kernel_rfl) (by kernel_rfl) rfl rfl ?_
      refine DJ.skip 11 rfl (by kernel_rfl) (by kernel_rfl) (by kernel_rfl) rfl rfl ?_
      refine DJ.skip 12 rfl (by kernel_rfl) (by kernel_rfl) (by kernel_rfl) rfl rfl ?_
      refine DJ.skip 13 rfl (by kernel_rfl) (by kernel_rfl) (by kernel_rfl) rfl rfl ?_
      refine DJ.yd 14 rfl (by kernel_rfl) (by kernel_rfl) (by kernel_rfl) rfl rfl (Yd.pickFB rfl rfl) ?_
      refine DJ.yd 15 rfl (by kernel_rfl) (by kernel_rfl) (by kernel_rfl) rfl rfl (Yd.asB rfl) ?_
      refine DJ.done (by kernel_rfl) ?_
      refine CJ.ret ?_
      refine Fin.V (Res.one (ResV.tmp (v := .bool false) rfl)) ?_
      refine congrArg Value.bool ?_; simp_all [caV]
  · refine DJ.yd 2 rfl (by kernel_rfl) (by kernel_rfl) (by kernel_rfl) rfl rfl (Yd.mvB rfl) ?_
    refine DJ.skip 3 rfl (by kernel_rfl) (by kernel_rfl) (by kernel_rfl) rfl rfl ?_
    refine DJ.skip 4 rfl (by kernel_rfl) (by kernel_rfl) (by kernel_rfl) rfl rfl ?_
    refine DJ.skip 5 rfl (by kernel_rfl) (by kernel_rfl) (by kernel_rfl) rfl rfl ?_
    refine DJ.skip 6 rfl (by kernel_rfl) (by kernel_rfl) (by kernel_rfl) rfl rfl ?_
    refine DJ.yd 7 rfl (by kernel_rfl) (by kernel_rfl) (by kernel_rfl) rfl rfl (Yd.pickFB rfl rfl) ?_
    refine DJ.yd 8 rfl (by kernel_rfl) (by kernel_rfl) (by kernel_rfl) rfl rfl (Yd.mvB rfl) ?_
    refine DJ.skip 9 rfl (by kernel_rfl) (by kernel_rfl) (by kernel_rfl) rfl rfl ?_
    refine DJ.skip 10 rfl (by kernel_rfl) (by kernel_rfl) (by kernel_rfl) rfl rfl ?_
    refine DJ.skip 11 rfl (by kernel_rfl) (by kernel_rfl) (by kernel_rfl) rfl rfl ?_
    refine DJ.skip 12 rfl (by kernel_rfl) (by kernel_rfl) (by kernel_rfl) rfl rfl ?_
    refine DJ.skip 13 rfl (by kernel_rfl) (by kernel_rfl) (by kernel_rfl) rfl rfl ?_
    refine DJ.yd 14 rfl (by kernel_rfl) (by kernel_rfl) (by kernel_rfl) rfl rfl (Yd.pickFB rfl rfl) ?_
    refine DJ.yd 15 rfl (by kernel_rfl) (by kernel_rfl) (by kernel_rfl) rfl rfl (Yd.asB rfl) ?_
    refine DJ.done (by kernel_rfl) ?_
    refine CJ.ret ?_
    refine Fin.V (Res.one (ResV.tmp (v := .bool false) rfl)) ?_
    refine congrArg Value.bool ?_; simp_all [caV]
theorem boxArea_ok (A : Amb) (b : Box) (h : I64 (b.W * b.H)) : Ctr Try.prog 82 #[agB b] A [] (Val (vI (b.W * b.H))) := by
  refine Ctr.body (args := [_]) Try.func82 rfl Try.ntmps82 Try.results82 (by simp) ?_
  refine CJ.seq ?_
  refine CJ.region ?_
  refine LJ.boxG (vs := [_, _, _, _]) rfl rfl (fun b1 => ?_)
  refine LJ.yd rfl (Yd.asI rfl) ?_
  refine LJ.nil ?_
  refine CJ.seq ?_
  refine CJ.region ?_
  refine LJ.yd rfl (Yd.fieldAddr rfl) ?_
  refine LJ.yd rfl (Yd.loadC 0 rfl rfl rfl) ?_
  refine LJ.yd rfl (Yd.fieldAddr rfl) ?_
  refine LJ.yd rfl (Yd.loadC 0 rfl rfl rfl) ?_
  refine LJ.yd rfl (Yd.mul rfl rfl h) ?_
  refine LJ.yd rfl (Yd.asI rfl) ?_
  refine LJ.nil ?_
  refine CJ.ret ?_
  refine Fin.V (Res.one (ResV.tmp (v := .int _ _) rfl)) ?_
  rfl
theorem betterClear_ok (A : Amb) (a b : Box) (ha : I64 (a.W * a.H)) (hb : I64 (b.W * b.H)) : Ctr Try.prog 56 #[agB a, agB b] A [] (Val (.bool (bt a b))) := by
  refine Ctr.body (args := [_, _]) Try.func56 rfl Try.ntmps56 Try.results56 (by simp) ?_
  refine CJ.seq ?_
  refine CJ.region ?_
  refine LJ.boxG (vs := [_, _, _, _]) rfl rfl (fun b1 => ?_)
  refine LJ.boxG (vs := [_, _, _, _]) rfl rfl (fun b2 => ?_)
  refine LJ.yd rfl (Yd.asB rfl) ?_
  refine LJ.nil ?_
  refine CJ.seq ?_
  refine CJ.seq ?_
  refine CJ.regionD [0, 1] [] (by kernel_rfl) rfl ?_
  refine DJ.norm [_, _] [] rfl rfl ?_
  refine DJ.yd 0 rfl (by kernel_rfl) (by kernel_rfl) (by kernel_rfl) rfl rfl (Yd.loadG (us := [_, _, _, _]) 0 rfl rfl rfl rfl) ?_
  refine DJ.yd 2 rfl (by kernel_rfl) (by kernel_rfl) (by kernel_rfl) rfl rfl (Yd.loadG (us := [_, _, _, _]) 1 rfl rfl rfl rfl) ?_
  refine DJ.one (i := 1) (by kernel_rfl) ?_
  refine DO.callV rfl rfl rfl (fun k0 hk0 dk0 k hk dk => boxArea_ok _ a ha) ?_
  refine DJ.one (i := 3) (by kernel_rfl) ?_
  refine DO.callV rfl rfl rfl (fun k0 hk0 dk0 k hk dk => boxArea_ok _ b hb) ?_
  refine DJ.splitN 4 rfl (by kernel_rfl) (by kernel_rfl) (by kernel_rfl) rfl rfl (Yd.neq rfl rfl) (fun h9 => ?_) (fun h9 => ?_)
  · refine DJ.done (by kernel_rfl) ?_
    refine CJ.condT rfl ?_
    refine CJ.seq ?_
    refine CJ.regionD [0, 1] [] (by kernel_rfl) rfl ?_
    refine DJ.norm [_, _] [] rfl rfl ?_
    refine DJ.yd 0 rfl (by kernel_rfl) (by kernel_rfl) (by kernel_rfl) rfl rfl (Yd.loadG (us := [_, _, _, _]) 0 rfl rfl rfl rfl) ?_
    refine DJ.yd 2 rfl (by kernel_rfl) (by kernel_rfl) (by kernel_rfl) rfl rfl (Yd.loadG (us := [_, _, _, _]) 1 rfl rfl rfl rfl) ?_
    refine DJ.one (i := 1) (by kernel_rfl) ?_
    refine DO.callV rfl rfl rfl (fun k0 hk0 dk0 k hk dk => boxArea_ok _ a ha) ?_
    refine DJ.one (i := 3) (by kernel_rfl) ?_
    refine DO.callV rfl rfl rfl (fun k0 hk0 dk0 k hk dk => boxArea_ok _ b hb) ?_
    refine DJ.yd 4 rfl (by kernel_rfl) (by kernel_rfl) (by kernel_rfl) rfl rfl (Yd.gtr rfl rfl) ?_
    refine DJ.yd 5 rfl (by kernel_rfl) (by kernel_rfl) (by kernel_rfl) rfl rfl (Yd.asB rfl) ?_
    refine DJ.done (by kernel_rfl) ?_
    refine CJ.ret ?_
    refine Fin.V (Res.one (ResV.tmp (v := .bool _) rfl)) ?_
    refine congrArg Value.bool ?_; unfold bt; simp_all
  · refine DJ.done (by kernel_rfl) ?_
    refine CJ.condF rfl ?_
    refine CJ.skip ?_
    refine CJ.seq ?_
    refine CJ.seq ?_
    refine CJ.region ?_
    refine LJ.yd rfl (Yd.fieldAddr rfl) ?_
    refine LJ.yd rfl (Yd.loadC 0 rfl rfl rfl) ?_
    refine LJ.yd rfl (Yd.fieldAddr rfl) ?_
    refine LJ.yd rfl (Yd.loadC 1 rfl rfl rfl) ?_
    refine LJ.splitN rfl (Yd.neq rfl rfl) (fun h19 => ?_) (fun h19 => ?_)
    · refine LJ.nil ?_
      refine CJ.condT rfl ?_
      refine CJ.seq ?_
      refine CJ.region ?_
      refine LJ.yd rfl (Yd.fieldAddr rfl) ?_
      refine LJ.yd rfl (Yd.loadC 0 rfl rfl rfl) ?_
      refine LJ.yd rfl (Yd.fieldAddr rfl) ?_
      refine LJ.yd rfl (Yd.loadC 1 rfl rfl rfl) ?_
      refine LJ.yd rfl (Yd.lss rfl rfl) ?_
      refine LJ.yd rfl (Yd.asB rfl) ?_
      refine LJ.nil ?_
      refine CJ.ret ?_
      refine Fin.V (Res.one (ResV.tmp (v := .bool _) rfl)) ?_
      refine congrArg Value.bool ?_; unfold bt; simp_all
    · refine LJ.nil ?_
      refine CJ.condF rfl ?_
      refine CJ.skip ?_
      refine CJ.seq ?_
      refine CJ.seq ?_
      refine CJ.region ?_
      refine LJ.yd rfl (Yd.fieldAddr rfl) ?_
      refine LJ.yd rfl (Yd.loadC 0 rfl rfl rfl) ?_
      refine LJ.yd rfl (Yd.fieldAddr rfl) ?_
      refine LJ.yd rfl (Yd.loadC 1 rfl rfl rfl) ?_
      refine LJ.splitN rfl (Yd.neq rfl rfl) (fun h29 => ?_) (fun h29 => ?_)
      · refine LJ.nil ?_
        refine CJ.condT rfl ?_
        refine CJ.seq ?_
        refine CJ.region ?_
        refine LJ.yd rfl (Yd.fieldAddr rfl) ?_
        refine LJ.yd rfl (Yd.loadC 0 rfl rfl rfl) ?_
        refine LJ.yd rfl (Yd.fieldAddr rfl) ?_
        refine LJ.yd rfl (Yd.loadC 1 rfl rfl rfl) ?_
        refine LJ.yd rfl (Yd.lss rfl rfl) ?_
        refine LJ.yd rfl (Yd.asB rfl) ?_
        refine LJ.nil ?_
        refine CJ.ret ?_
        refine Fin.V (Res.one (ResV.tmp (v := .bool _) rfl)) ?_
        refine congrArg Value.bool ?_; unfold bt; simp_all
      · refine LJ.nil ?_
        refine CJ.condF rfl ?_
        refine CJ.skip ?_
        refine CJ.seq ?_
        refine CJ.region ?_
        refine LJ.yd rfl (Yd.fieldAddr rfl) ?_
        refine LJ.yd rfl (Yd.loadC 0 rfl rfl rfl) ?_
        refine LJ.yd rfl (Yd.fieldAddr rfl) ?_
        refine LJ.yd rfl (Yd.loadC 1 rfl rfl rfl) ?_
        refine LJ.yd rfl (Yd.lss rfl rfl) ?_
        refine LJ.yd rfl (Yd.asB rfl) ?_
        refine LJ.nil ?_
        refine CJ.ret ?_
        refine Fin.V (Res.one (ResV.tmp (v := .bool _) rfl)) ?_
        refine congrArg Value.bool ?_; unfold bt; simp_all
/-! ## lines -/
def lnU (n : Nat) : List Int := (List.range n).map fun (i : Nat) => (i : Int)
theorem lnU_succ (n : Nat) : lnU (n + 1) = lnU n ++ [(n : Int)] := by simp [lnU, List.range_succ]
def lnB (I : List (Int × Int)) (side n : Int) : Bool := decide (n = 0) || (decide (n = side) || I.any fun f => decide (n = f.1) || decide (n = f.2))
def lnL (I : List (Int × Int)) (side : Int) : List Int := (lnU (side + 1).toNat).filter (lnB I side)
theorem lnL_mem {I : List (Int × Int)} {side n : Int} (h0 : 0 ≤ side) : n ∈ lnL I side ↔ isLn I side n := by
  simp only [lnL, List.mem_filter, lnU, List.mem_map, List.mem_range, lnB, Bool.or_eq_true, decide_eq_true_eq, List.any_eq_true, isLn]
  constructor
  · rintro ⟨⟨i, hi, rfl⟩, h⟩; exact ⟨by omega, by omega, h⟩
  · rintro ⟨h1, h2, h⟩; exact ⟨⟨n.toNat, by omega, by omega⟩, h⟩
theorem lnU_up : ∀ n : Nat, (lnU n).Pairwise (· < ·)
  | 0 => .nil
  | n + 1 => by
    rw [lnU_succ, List.pairwise_append]
    refine ⟨lnU_up n, .cons (fun _ h => by cases h) .nil, fun a ha b hb => ?_⟩
    rw [List.mem_singleton.1 hb]
    obtain ⟨i, hi, rfl⟩ := List.mem_map.1 ha
    have := List.mem_range.1 hi
    omega
theorem lnL_up (I : List (Int × Int)) (side : Int) : (lnL I side).Pairwise (· < ·) := (lnU_up _).filter _
theorem lnU_T {p : Int → Bool} {k : Nat} (h : p k = true) : (lnU (k + 1)).filter p = (lnU k).filter p ++ [(k : Int)] := by rw [lnU_succ, List.filter_append]; simp [h]
theorem lnU_F {p : Int → Bool} {k : Nat} (h : p k = false) : (lnU (k + 1)).filter p = (lnU k).filter p := by rw [lnU_succ, List.filter_append]; simp [h]
theorem lnL_le (I : List (Int × Int)) {side : Int} (h : side ≤ 1000) : (lnL I side).length ≤ 1001 := by
  refine Nat.le_trans (List.length_filter_le _ _) ?_
  simp [lnU]; omega
theorem or_step {a b c d m r : Bool} (h : m = (a || (b || c))) (e : r = (m || d)) : r = (a || (b || (c || d))) := by subst h e; cases a <;> cases b <;> rfl
theorem anyC {I : List (Int × Int)} {g : Int × Int → Bool} {j : Nat} {u : Int × Int} (h : I[j]? = some u) : (I.take (j + 1)).any g = ((I.take j).any g || g u) := by
  rw [takeC h, List.any_append]; simp
theorem linesX_ok {A : Amb} {l W H : Int} {fl : List Box} {v : Value} (hf : RdL Box.enc 4 A.h v fl) (hm : ∀ f ∈ fl, f.mid) (hW : W ≤ 1000) : Ctr Try.prog 85 #[.agg #[vI l, vI W, vI H, v], .bool false] A [] (RLP encI 3 1 (lnL (IX fl) W)) := by
  obtain ⟨fa, fc, rfl, hfb, hf⟩ := hf.un
  refine Ctr.body (args := [_, _]) Try.func85 rfl Try.ntmps85 Try.results85 (by simp) ?_
  refine CJ.seq ?_
  refine CJ.region ?_
  refine LJ.boxG (vs := [_, _, _, _]) rfl rfl (fun b1 => ?_)
  refine LJ.yd rfl (Yd.asS rfl) ?_
  refine LJ.nil ?_
  refine CJ.seq ?_
  refine CJ.region ?_
  refine LJ.op rfl (OpR.buildSlice (cs := []) rfl rfl) ?_
  rintro _ _ ⟨b2, rfl, rfl⟩
  refine LJ.yd rfl (Yd.asS rfl) ?_
  refine LJ.nil ?_
  refine CJ.seq ?_
  refine CJ.region ?_
  refine LJ.yd rfl (Yd.fieldAddr rfl) ?_
  refine LJ.yd rfl (Yd.loadC 0 rfl rfl rfl) ?_
  refine LJ.yd rfl (Yd.asI rfl) ?_
  refine LJ.nil ?_
  refine CJ.seq ?_
  refine CJ.seq ?_
  refine CJ.region ?_
  refine LJ.yd rfl (Yd.mvB rfl) ?_
  refine LJ.nil ?_
  refine CJ.condF rfl ?_
  refine CJ.skip ?_
  refine CJ.seq ?_
  refine CJ.seq ?_
  refine CJ.region ?_
  refine LJ.yd rfl (Yd.asI rfl) ?_
  refine LJ.nil ?_
  refine CJ.block ?_
  refine CJ.imp1 1 rfl (fun _ h => Cel.lr (enc := encI) (k := 1) (m := 0) [] rfl rfl rfl rfl h) ?_
  refine CJ.norm [_, _] rfl ?_
  refine CJ.loopF [1, 2, 4, 6] (Nat × List Int × Option Addr × Nat × Nat) (fun ⟨k, O, OA, ON, OC⟩ => (ON = O.length) ∧ k ≤ (W + 1).toNat ∧ O.length ≤ k ∧ O = (lnU k).filter (lnB (IX fl) W)) (fun ⟨k, O, OA, ON, OC⟩ => [(7, vI k), (5, .slice OA ON OC)]) (fun ⟨k, O, OA, ON, OC⟩ => [LR encI 3 1 OA OC O]) (fun ⟨k, O, OA, ON, OC⟩ => (W + 1).toNat - k) (0, [], _, _, _) [_] [0] [1] rfl rfl rfl ?_ ⟨rfl, rfl, trivial⟩ ?_
  · exact ⟨(by first | rfl | omega | (simp; done) | (simp; omega) | (simp [upN_len]; omega) | (simp [idxBy_len]; omega) | (simp [marks_len]; omega) | (simp [upN_len]; done) | (simp [idxBy_len]; done) | (simp [marks_len]; done) | (simp at *; omega)), ⟨by omega, by simp, rfl⟩⟩
  · rintro ⟨k, O, OA, ON, OC⟩ σ ⟨hlNO, ⟨hk1, hOl, hi1⟩⟩
    subst hlNO
    refine CJ.norm [_, _] rfl ?_
    refine CJ.seq ?_
    refine CJ.seq ?_
    refine CJ.region ?_
    refine LJ.yd rfl (Yd.mvI rfl) ?_
    refine LJ.yd rfl (Yd.mvI rfl) ?_
    refine LJ.splitD rfl (Yd.leq rfl rfl) (fun h19 => ?_) (fun h19 => ?_)
    · refine LJ.nil ?_
      refine CJ.condT rfl ?_
      refine CJ.skip ?_
      refine CJ.seq ?_
      refine CJ.block ?_
      refine CJ.seq ?_
      refine CJ.region ?_
      refine LJ.yd rfl (Yd.mvI rfl) ?_
      refine LJ.splitD rfl (Yd.eql rfl rfl) (fun h23 => ?_) (fun h23 => ?_)
      · refine LJ.yd rfl (Yd.mvB rfl) ?_
        refine LJ.gF rfl rfl ?_
        refine LJ.gF rfl rfl ?_
        refine LJ.gF rfl rfl ?_
        refine LJ.yd rfl (Yd.pickTB rfl rfl) ?_
        refine LJ.yd rfl (Yd.asB rfl) ?_
        refine LJ.nil ?_
        refine CJ.seq ?_
        refine CJ.seq ?_
        refine CJ.region ?_
        refine LJ.yd rfl (Yd.asI rfl) ?_
        refine LJ.nil ?_
        refine CJ.block ?_
        refine CJ.loopK [1, 2, 4, 5, 6, 7, 17, 18, 19, 22, 23, 24, 28] (Nat × Bool) (fun ⟨j, m⟩ => j ≤ fl.length ∧ m = (decide ((k : Int) = 0) || (decide ((k : Int) = W) || ((IX fl).take j).any fun f => decide ((k : Int) = f.1) || decide ((k : Int) = f.2)))) (fun ⟨j, m⟩ => [(9, vI j), (8, .bool m)]) (fun ⟨j, m⟩ => fl.length - j) (0, _) ?_ ⟨rfl, rfl, trivial⟩ ?_
        · exact ⟨by omega, by simp_all⟩
        · rintro ⟨j, m⟩ σ ⟨hk2, hi2⟩
          refine CJ.seq ?_
          refine CJ.seq ?_
          refine CJ.region ?_
          refine LJ.yd rfl (Yd.mvI rfl) ?_
          refine LJ.yd rfl (Yd.fieldAddr rfl) ?_
          refine LJ.yd rfl (Yd.loadC 0 rfl rfl rfl) ?_
          refine LJ.yd rfl (Yd.len rfl) ?_
          refine LJ.splitD rfl (Yd.lss rfl rfl) (fun h33 => ?_) (fun h33 => ?_)
          · refine LJ.nil ?_
            refine CJ.condT rfl ?_
            refine CJ.skip ?_
            refine CJ.seq ?_
            refine CJ.block ?_
            refine CJ.seq ?_
            refine CJ.region ?_
            refine LJ.yd rfl (Yd.fieldAddr rfl) ?_
            refine LJ.yd rfl (Yd.loadC 0 rfl rfl rfl) ?_
            refine LJ.yd rfl (Yd.mvI rfl) ?_
            refine LJ.idxA rfl hf rfl rfl (by omega) (by first | rfl | omega | (simp; done) | (simp; omega) | (simp [upN_len]; omega) | (simp [idxBy_len]; omega) | (simp [marks_len]; omega) | (simp [upN_len]; done) | (simp [idxBy_len]; done) | (simp [marks_len]; done) | (simp at *; omega)) (fun ib39 io39 ia39 ir39 => ?_)
            refine LJ.lgA (enc := Box.enc) (fun u => [vI u.X, vI u.Y, vI u.W, vI u.H]) (fun _ => rfl) (fun _ => rfl) ir39 rfl rfl rfl (by first | rfl | omega | (simp; done) | (simp; omega) | (simp [upN_len]; omega) | (simp [idxBy_len]; omega) | (simp [marks_len]; omega) | (simp [upN_len]; done) | (simp [idxBy_len]; done) | (simp [marks_len]; done) | (simp at *; omega)) (fun u40 hu40 => ?_)
            try simp only [Int.toNat_natCast] at hu40
            have hm40 := hm u40 (List.mem_of_getElem? hu40)
            unfold Box.mid at hm40
            have hI40 : (IX fl)[j]? = some (u40.X, u40.X + u40.W) := by rw [IX, List.getElem?_map, hu40]; rfl
            refine LJ.alloc ([_, _, _, _] : List Value) rfl rfl (fun b3 => ?_)
            refine LJ.store (v := .agg #[_, _, _, _]) (us := [_, _, _, _]) 2 rfl rfl rfl rfl rfl rfl rfl rfl ?_
            refine LJ.nil ?_
            refine CJ.seq ?_
            refine CJ.region ?_
            refine LJ.yd rfl (Yd.mvB rfl) ?_
            refine LJ.nil ?_
            refine CJ.condF rfl ?_
            refine CJ.region ?_
            refine LJ.split rfl (Yd.mvB rfl) (fun h58 => ?_) (fun h58 => ?_)
            · refine LJ.yd rfl (Yd.mvB rfl) ?_
              refine LJ.gF rfl rfl ?_
              refine LJ.gF rfl rfl ?_
              refine LJ.gF rfl rfl ?_
              refine LJ.gF rfl rfl ?_
              refine LJ.yd rfl (Yd.pickTB rfl rfl) ?_
              refine LJ.yd rfl (Yd.mvB rfl) ?_
              refine LJ.gF rfl rfl ?_
              refine LJ.gF rfl rfl ?_
              refine LJ.gF rfl rfl ?_
              refine LJ.gF rfl rfl ?_
              refine LJ.gF rfl rfl ?_
              refine LJ.gF rfl rfl ?_
              refine LJ.gF rfl rfl ?_
              refine LJ.yd rfl (Yd.pickTB rfl rfl) ?_
              refine LJ.yd rfl (Yd.asB rfl) ?_
              refine LJ.nil ?_
              refine CJ.region ?_
              refine LJ.yd rfl (Yd.mvI rfl) ?_
              refine LJ.yd rfl (Yd.add rfl rfl (by unfold I64; omega)) ?_
              refine LJ.yd rfl (Yd.asI rfl) ?_
              refine LJ.nil ?_
              refine ⟨(j + 1, _), ?_, ⟨rfl, rfl, rfl, rfl, rfl, rfl, rfl, rfl, rfl, rfl, rfl, rfl, rfl, trivial⟩, ⟨rfl, rfl, trivial⟩, Ent.pick [0, 1] [2] rfl, ?_⟩
              · refine ⟨by omega, ?_⟩
                rw [anyC hI40]; exact or_step hi2 (by clear hi2; simp_all)
              · first | omega | (dsimp only; omega) | (simp only []; omega)
            · refine LJ.yd rfl (Yd.mvB rfl) ?_
              refine LJ.gT rfl ?_
              refine LJ.yd rfl (Yd.mvI rfl) ?_
              refine LJ.gT rfl ?_
              refine LJ.yd rfl (Yd.fieldAddr rfl) ?_
              refine LJ.gT rfl ?_
              refine LJ.yd rfl (Yd.loadC 2 rfl rfl rfl) ?_
              refine LJ.gT rfl ?_
              refine LJ.splitD rfl (Yd.eql rfl rfl) (fun h63 => ?_) (fun h63 => ?_)
              · refine LJ.yd rfl (Yd.pickFB rfl rfl) ?_
                refine LJ.yd rfl (Yd.mvB rfl) ?_
                refine LJ.gF rfl rfl ?_
                refine LJ.gF rfl rfl ?_
                refine LJ.gF rfl rfl ?_
                refine LJ.gF rfl rfl ?_
                refine LJ.gF rfl rfl ?_
                refine LJ.gF rfl rfl ?_
                refine LJ.gF rfl rfl ?_
                refine LJ.yd rfl (Yd.pickTB rfl rfl) ?_
                refine LJ.yd rfl (Yd.asB rfl) ?_
                refine LJ.nil ?_
                refine CJ.region ?_
                refine LJ.yd rfl (Yd.mvI rfl) ?_
                refine LJ.yd rfl (Yd.add rfl rfl (by unfold I64; omega)) ?_
                refine LJ.yd rfl (Yd.asI rfl) ?_
                refine LJ.nil ?_
                refine ⟨(j + 1, _), ?_, ⟨rfl, rfl, rfl, rfl, rfl, rfl, rfl, rfl, rfl, rfl, rfl, rfl, rfl, trivial⟩, ⟨rfl, rfl, trivial⟩, Ent.pick [0, 1] [2] rfl, ?_⟩
                · refine ⟨by omega, ?_⟩
                  rw [anyC hI40]; exact or_step hi2 (by clear hi2; simp_all)
                · first | omega | (dsimp only; omega) | (simp only []; omega)
              · refine LJ.yd rfl (Yd.pickFB rfl rfl) ?_
                refine LJ.yd rfl (Yd.mvB rfl) ?_
                refine LJ.gT rfl ?_
                refine LJ.yd rfl (Yd.mvI rfl) ?_
                refine LJ.gT rfl ?_
                refine LJ.yd rfl (Yd.fieldAddr rfl) ?_
                refine LJ.gT rfl ?_
                refine LJ.yd rfl (Yd.loadC 2 rfl rfl rfl) ?_
                refine LJ.gT rfl ?_
                refine LJ.yd rfl (Yd.fieldAddr rfl) ?_
                refine LJ.gT rfl ?_
                refine LJ.yd rfl (Yd.loadC 2 rfl rfl rfl) ?_
                refine LJ.gT rfl ?_
                refine LJ.yd rfl (Yd.add rfl rfl (by unfold I64; omega)) ?_
                refine LJ.gT rfl ?_
                refine LJ.splitD rfl (Yd.eql rfl rfl) (fun h72 => ?_) (fun h72 => ?_)
                · refine LJ.yd rfl (Yd.pickFB rfl rfl) ?_
                  refine LJ.yd rfl (Yd.asB rfl) ?_
                  refine LJ.nil ?_
                  refine CJ.region ?_
                  refine LJ.yd rfl (Yd.mvI rfl) ?_
                  refine LJ.yd rfl (Yd.add rfl rfl (by unfold I64; omega)) ?_
                  refine LJ.yd rfl (Yd.asI rfl) ?_
                  refine LJ.nil ?_
                  refine ⟨(j + 1, _), ?_, ⟨rfl, rfl, rfl, rfl, rfl, rfl, rfl, rfl, rfl, rfl, rfl, rfl, rfl, trivial⟩, ⟨rfl, rfl, trivial⟩, Ent.pick [0, 1] [2] rfl, ?_⟩
                  · refine ⟨by omega, ?_⟩
                    rw [anyC hI40]; exact or_step hi2 (by clear hi2; simp_all)
                  · first | omega | (dsimp only; omega) | (simp only []; omega)
                · refine LJ.yd rfl (Yd.pickFB rfl rfl) ?_
                  refine LJ.yd rfl (Yd.asB rfl) ?_
                  refine LJ.nil ?_
                  refine CJ.region ?_
                  refine LJ.yd rfl (Yd.mvI rfl) ?_
                  refine LJ.yd rfl (Yd.add rfl rfl (by unfold I64; omega)) ?_
                  refine LJ.yd rfl (Yd.asI rfl) ?_
                  refine LJ.nil ?_
                  refine ⟨(j + 1, _), ?_, ⟨rfl, rfl, rfl, rfl, rfl, rfl, rfl, rfl, rfl, rfl, rfl, rfl, rfl, trivial⟩, ⟨rfl, rfl, trivial⟩, Ent.pick [0, 1] [2] rfl, ?_⟩
                  · refine ⟨by omega, ?_⟩
                    rw [anyC hI40]; exact or_step hi2 (by clear hi2; simp_all)
                  · first | omega | (dsimp only; omega) | (simp only []; omega)
          · refine LJ.nil ?_
            refine CJ.condF rfl ?_
            refine CJ.exit ?_
            refine CJ.seq ?_
            refine CJ.region ?_
            refine LJ.split rfl (Yd.mvB rfl) (fun h74 => ?_) (fun h74 => ?_)
            · refine LJ.nil ?_
              refine CJ.condT rfl ?_
              refine CJ.region ?_
              refine LJ.yd rfl (Yd.mvS rfl) ?_
              refine LJ.yd rfl (Yd.mvI rfl) ?_
              refine LJ.op rfl (OpR.buildSlice (cs := [_]) rfl rfl) ?_
              rintro _ _ ⟨b4, rfl, rfl⟩
              refine LJ.op rfl (OpR.apT (enc := encI) [_] 1 2 rfl rfl rfl (by first | rfl | omega | (simp; done) | (simp; omega) | (simp [upN_len]; omega) | (simp [idxBy_len]; omega) | (simp [marks_len]; omega) | (simp [upN_len]; done) | (simp [idxBy_len]; done) | (simp [marks_len]; done) | (simp at *; omega)) rfl rfl rfl rfl rfl (by first | rfl | omega | (simp; done) | (simp; omega) | (simp [upN_len]; omega) | (simp [idxBy_len]; omega) | (simp [marks_len]; omega) | (simp [upN_len]; done) | (simp [idxBy_len]; done) | (simp [marks_len]; done) | (simp at *; omega))) ?_
              rintro _ _ ⟨ra78, rc78, rfl, rfl⟩
              refine LJ.norm [_, _, _] rfl ?_
              refine LJ.yd rfl (Yd.asS rfl) ?_
              refine LJ.nil ?_
              refine CJ.region ?_
              refine LJ.yd rfl (Yd.mvI rfl) ?_
              refine LJ.yd rfl (Yd.add rfl rfl (by unfold I64; omega)) ?_
              refine LJ.yd rfl (Yd.asI rfl) ?_
              refine LJ.nil ?_
              refine ⟨(k + 1, _, _, _, _), ?_, ⟨rfl, rfl, rfl, rfl, trivial⟩, ⟨rfl, rfl, trivial⟩, Ent.pick [0, 1] [2] rfl, ?_⟩
              · refine ⟨(by first | rfl | omega | (simp; done) | (simp; omega) | (simp [upN_len]; omega) | (simp [idxBy_len]; omega) | (simp [marks_len]; omega) | (simp [upN_len]; done) | (simp [idxBy_len]; done) | (simp [marks_len]; done) | (simp at *; omega)), ?_⟩
                refine ⟨by omega, ?_⟩
                have hxl : (IX fl).length = fl.length := by simp [IX]
                rw [List.take_of_length_le (by omega)] at hi2
                first
                  | (refine ⟨by simp; omega, ?_⟩; rw [lnU_T (by rw [lnB, ← hi2]; assumption), ← hi1]; done)
                  | (refine ⟨by omega, ?_⟩; rw [lnU_F (by rw [lnB, ← hi2]; assumption), ← hi1]; done)
              · first | omega | (dsimp only; omega) | (simp only []; omega)
            · refine LJ.nil ?_
              refine CJ.condF rfl ?_
              refine CJ.skip ?_
              refine CJ.region ?_
              refine LJ.yd rfl (Yd.mvI rfl) ?_
              refine LJ.yd rfl (Yd.add rfl rfl (by unfold I64; omega)) ?_
              refine LJ.yd rfl (Yd.asI rfl) ?_
              refine LJ.nil ?_
              refine ⟨(k + 1, _, _, _, _), ?_, ⟨rfl, rfl, rfl, rfl, trivial⟩, ⟨rfl, rfl, trivial⟩, Ent.refl _, ?_⟩
              · refine ⟨(by first | rfl | omega | (simp; done) | (simp; omega) | (simp [upN_len]; omega) | (simp [idxBy_len]; omega) | (simp [marks_len]; omega) | (simp [upN_len]; done) | (simp [idxBy_len]; done) | (simp [marks_len]; done) | (simp at *; omega)), ?_⟩
                refine ⟨by omega, ?_⟩
                have hxl : (IX fl).length = fl.length := by simp [IX]
                rw [List.take_of_length_le (by omega)] at hi2
                first
                  | (refine ⟨by simp; omega, ?_⟩; rw [lnU_T (by rw [lnB, ← hi2]; assumption), ← hi1]; done)
                  | (refine ⟨by omega, ?_⟩; rw [lnU_F (by rw [lnB, ← hi2]; assumption), ← hi1]; done)
              · first | omega | (dsimp only; omega) | (simp only []; omega)
      · refine LJ.yd rfl (Yd.mvB rfl) ?_
        refine LJ.gT rfl ?_
        refine LJ.yd rfl (Yd.mvI rfl) ?_
        refine LJ.gT rfl ?_
        refine LJ.yd rfl (Yd.mvI rfl) ?_
        refine LJ.gT rfl ?_
        refine LJ.splitD rfl (Yd.eql rfl rfl) (fun h27 => ?_) (fun h27 => ?_)
        · refine LJ.yd rfl (Yd.pickFB rfl rfl) ?_
          refine LJ.yd rfl (Yd.asB rfl) ?_
          refine LJ.nil ?_
          refine CJ.seq ?_
          refine CJ.seq ?_
          refine CJ.region ?_
          refine LJ.yd rfl (Yd.asI rfl) ?_
          refine LJ.nil ?_
          refine CJ.block ?_
          refine CJ.loopK [1, 2, 4, 5, 6, 7, 17, 18, 19, 22, 23, 24, 25, 26, 27, 28] (Nat × Bool) (fun ⟨j, m⟩ => j ≤ fl.length ∧ m = (decide ((k : Int) = 0) || (decide ((k : Int) = W) || ((IX fl).take j).any fun f => decide ((k : Int) = f.1) || decide ((k : Int) = f.2)))) (fun ⟨j, m⟩ => [(9, vI j), (8, .bool m)]) (fun ⟨j, m⟩ => fl.length - j) (0, _) ?_ ⟨rfl, rfl, trivial⟩ ?_
          · exact ⟨by omega, by simp_all⟩
          · rintro ⟨j, m⟩ σ ⟨hk2, hi2⟩
            refine CJ.seq ?_
            refine CJ.seq ?_
            refine CJ.region ?_
            refine LJ.yd rfl (Yd.mvI rfl) ?_
            refine LJ.yd rfl (Yd.fieldAddr rfl) ?_
            refine LJ.yd rfl (Yd.loadC 0 rfl rfl rfl) ?_
            refine LJ.yd rfl (Yd.len rfl) ?_
            refine LJ.splitD rfl (Yd.lss rfl rfl) (fun h33 => ?_) (fun h33 => ?_)
            · refine LJ.nil ?_
              refine CJ.condT rfl ?_
              refine CJ.skip ?_
              refine CJ.seq ?_
              refine CJ.block ?_
              refine CJ.seq ?_
              refine CJ.region ?_
              refine LJ.yd rfl (Yd.fieldAddr rfl) ?_
              refine LJ.yd rfl (Yd.loadC 0 rfl rfl rfl) ?_
              refine LJ.yd rfl (Yd.mvI rfl) ?_
              refine LJ.idxA rfl hf rfl rfl (by omega) (by first | rfl | omega | (simp; done) | (simp; omega) | (simp [upN_len]; omega) | (simp [idxBy_len]; omega) | (simp [marks_len]; omega) | (simp [upN_len]; done) | (simp [idxBy_len]; done) | (simp [marks_len]; done) | (simp at *; omega)) (fun ib39 io39 ia39 ir39 => ?_)
              refine LJ.lgA (enc := Box.enc) (fun u => [vI u.X, vI u.Y, vI u.W, vI u.H]) (fun _ => rfl) (fun _ => rfl) ir39 rfl rfl rfl (by first | rfl | omega | (simp; done) | (simp; omega) | (simp [upN_len]; omega) | (simp [idxBy_len]; omega) | (simp [marks_len]; omega) | (simp [upN_len]; done) | (simp [idxBy_len]; done) | (simp [marks_len]; done) | (simp at *; omega)) (fun u40 hu40 => ?_)
              try simp only [Int.toNat_natCast] at hu40
              have hm40 := hm u40 (List.mem_of_getElem? hu40)
              unfold Box.mid at hm40
              have hI40 : (IX fl)[j]? = some (u40.X, u40.X + u40.W) := by rw [IX, List.getElem?_map, hu40]; rfl
              refine LJ.alloc ([_, _, _, _] : List Value) rfl rfl (fun b5 => ?_)
              refine LJ.store (v := .agg #[_, _, _, _]) (us := [_, _, _, _]) 2 rfl rfl rfl rfl rfl rfl rfl rfl ?_
              refine LJ.nil ?_
              refine CJ.seq ?_
              refine CJ.region ?_
              refine LJ.yd rfl (Yd.mvB rfl) ?_
              refine LJ.nil ?_
              refine CJ.condF rfl ?_
              refine CJ.region ?_
              refine LJ.split rfl (Yd.mvB rfl) (fun h58 => ?_) (fun h58 => ?_)
              · refine LJ.yd rfl (Yd.mvB rfl) ?_
                refine LJ.gF rfl rfl ?_
                refine LJ.gF rfl rfl ?_
                refine LJ.gF rfl rfl ?_
                refine LJ.gF rfl rfl ?_
                refine LJ.yd rfl (Yd.pickTB rfl rfl) ?_
                refine LJ.yd rfl (Yd.mvB rfl) ?_
                refine LJ.gF rfl rfl ?_
                refine LJ.gF rfl rfl ?_
                refine LJ.gF rfl rfl ?_
                refine LJ.gF rfl rfl ?_
                refine LJ.gF rfl rfl ?_
                refine LJ.gF rfl rfl ?_
                refine LJ.gF rfl rfl ?_
                refine LJ.yd rfl (Yd.pickTB rfl rfl) ?_
                refine LJ.yd rfl (Yd.asB rfl) ?_
                refine LJ.nil ?_
                refine CJ.region ?_
                refine LJ.yd rfl (Yd.mvI rfl) ?_
                refine LJ.yd rfl (Yd.add rfl rfl (by unfold I64; omega)) ?_
                refine LJ.yd rfl (Yd.asI rfl) ?_
                refine LJ.nil ?_
                refine ⟨(j + 1, _), ?_, ⟨rfl, rfl, rfl, rfl, rfl, rfl, rfl, rfl, rfl, rfl, rfl, rfl, rfl, rfl, rfl, rfl, trivial⟩, ⟨rfl, rfl, trivial⟩, Ent.pick [0, 1] [2] rfl, ?_⟩
                · refine ⟨by omega, ?_⟩
                  rw [anyC hI40]; exact or_step hi2 (by clear hi2; simp_all)
                · first | omega | (dsimp only; omega) | (simp only []; omega)
              · refine LJ.yd rfl (Yd.mvB rfl) ?_
                refine LJ.gT rfl ?_
                refine LJ.yd rfl (Yd.mvI rfl) ?_
                refine LJ.gT rfl ?_
                refine LJ.yd rfl (Yd.fieldAddr rfl) ?_
                refine LJ.gT rfl ?_
                refine LJ.yd rfl (Yd.loadC 2 rfl rfl rfl) ?_
                refine LJ.gT rfl ?_
                refine LJ.splitD rfl (Yd.eql rfl rfl) (fun h63 => ?_) (fun h63 => ?_)
                · refine LJ.yd rfl (Yd.pickFB rfl rfl) ?_
                  refine LJ.yd rfl (Yd.mvB rfl) ?_
                  refine LJ.gF rfl rfl ?_
                  refine LJ.gF rfl rfl ?_
                  refine LJ.gF rfl rfl ?_
                  refine LJ.gF rfl rfl ?_
                  refine LJ.gF rfl rfl ?_
                  refine LJ.gF rfl rfl ?_
                  refine LJ.gF rfl rfl ?_
                  refine LJ.yd rfl (Yd.pickTB rfl rfl) ?_
                  refine LJ.yd rfl (Yd.asB rfl) ?_
                  refine LJ.nil ?_
                  refine CJ.region ?_
                  refine LJ.yd rfl (Yd.mvI rfl) ?_
                  refine LJ.yd rfl (Yd.add rfl rfl (by unfold I64; omega)) ?_
                  refine LJ.yd rfl (Yd.asI rfl) ?_
                  refine LJ.nil ?_
                  refine ⟨(j + 1, _), ?_, ⟨rfl, rfl, rfl, rfl, rfl, rfl, rfl, rfl, rfl, rfl, rfl, rfl, rfl, rfl, rfl, rfl, trivial⟩, ⟨rfl, rfl, trivial⟩, Ent.pick [0, 1] [2] rfl, ?_⟩
                  · refine ⟨by omega, ?_⟩
                    rw [anyC hI40]; exact or_step hi2 (by clear hi2; simp_all)
                  · first | omega | (dsimp only; omega) | (simp only []; omega)
                · refine LJ.yd rfl (Yd.pickFB rfl rfl) ?_
                  refine LJ.yd rfl (Yd.mvB rfl) ?_
                  refine LJ.gT rfl ?_
                  refine LJ.yd rfl (Yd.mvI rfl) ?_
                  refine LJ.gT rfl ?_
                  refine LJ.yd rfl (Yd.fieldAddr rfl) ?_
                  refine LJ.gT rfl ?_
                  refine LJ.yd rfl (Yd.loadC 2 rfl rfl rfl) ?_
                  refine LJ.gT rfl ?_
                  refine LJ.yd rfl (Yd.fieldAddr rfl) ?_
                  refine LJ.gT rfl ?_
                  refine LJ.yd rfl (Yd.loadC 2 rfl rfl rfl) ?_
                  refine LJ.gT rfl ?_
                  refine LJ.yd rfl (Yd.add rfl rfl (by unfold I64; omega)) ?_
                  refine LJ.gT rfl ?_
                  refine LJ.splitD rfl (Yd.eql rfl rfl) (fun h72 => ?_) (fun h72 => ?_)
                  · refine LJ.yd rfl (Yd.pickFB rfl rfl) ?_
                    refine LJ.yd rfl (Yd.asB rfl) ?_
                    refine LJ.nil ?_
                    refine CJ.region ?_
                    refine LJ.yd rfl (Yd.mvI rfl) ?_
                    refine LJ.yd rfl (Yd.add rfl rfl (by unfold I64; omega)) ?_
                    refine LJ.yd rfl (Yd.asI rfl) ?_
                    refine LJ.nil ?_
                    refine ⟨(j + 1, _), ?_, ⟨rfl, rfl, rfl, rfl, rfl, rfl, rfl, rfl, rfl, rfl, rfl, rfl, rfl, rfl, rfl, rfl, trivial⟩, ⟨rfl, rfl, trivial⟩, Ent.pick [0, 1] [2] rfl, ?_⟩
                    · refine ⟨by omega, ?_⟩
                      rw [anyC hI40]; exact or_step hi2 (by clear hi2; simp_all)
                    · first | omega | (dsimp only; omega) | (simp only []; omega)
                  · refine LJ.yd rfl (Yd.pickFB rfl rfl) ?_
                    refine LJ.yd rfl (Yd.asB rfl) ?_
                    refine LJ.nil ?_
                    refine CJ.region ?_
                    refine LJ.yd rfl (Yd.mvI rfl) ?_
                    refine LJ.yd rfl (Yd.add rfl rfl (by unfold I64; omega)) ?_
                    refine LJ.yd rfl (Yd.asI rfl) ?_
                    refine LJ.nil ?_
                    refine ⟨(j + 1, _), ?_, ⟨rfl, rfl, rfl, rfl, rfl, rfl, rfl, rfl, rfl, rfl, rfl, rfl, rfl, rfl, rfl, rfl, trivial⟩, ⟨rfl, rfl, trivial⟩, Ent.pick [0, 1] [2] rfl, ?_⟩
                    · refine ⟨by omega, ?_⟩
                      rw [anyC hI40]; exact or_step hi2 (by clear hi2; simp_all)
                    · first | omega | (dsimp only; omega) | (simp only []; omega)
            · refine LJ.nil ?_
              refine CJ.condF rfl ?_
              refine CJ.exit ?_
              refine CJ.seq ?_
              refine CJ.region ?_
              refine LJ.split rfl (Yd.mvB rfl) (fun h74 => ?_) (fun h74 => ?_)
              · refine LJ.nil ?_
                refine CJ.condT rfl ?_
                refine CJ.region ?_
                refine LJ.yd rfl (Yd.mvS rfl) ?_
                refine LJ.yd rfl (Yd.mvI rfl) ?_
                refine LJ.op rfl (OpR.buildSlice (cs := [_]) rfl rfl) ?_
                rintro _ _ ⟨b6, rfl, rfl⟩
                refine LJ.op rfl (OpR.apT (enc := encI) [_] 1 2 rfl rfl rfl (by first | rfl | omega | (simp; done) | (simp; omega) | (simp [upN_len]; omega) | (simp [idxBy_len]; omega) | (simp [marks_len]; omega) | (simp [upN_len]; done) | (simp [idxBy_len]; done) | (simp [marks_len]; done) | (simp at *; omega)) rfl rfl rfl rfl rfl (by first | rfl | omega | (simp; done) | (simp; omega) | (simp [upN_len]; omega) | (simp [idxBy_len]; omega) | (simp [marks_len]; omega) | (simp [upN_len]; done) | (simp [idxBy_len]; done) | (simp [marks_len]; done) | (simp at *; omega))) ?_
                rintro _ _ ⟨ra78, rc78, rfl, rfl⟩
                refine LJ.norm [_, _, _] rfl ?_
                refine LJ.yd rfl (Yd.asS rfl) ?_
                refine LJ.nil ?_
                refine CJ.region ?_
                refine LJ.yd rfl (Yd.mvI rfl) ?_
                refine LJ.yd rfl (Yd.add rfl rfl (by unfold I64; omega)) ?_
                refine LJ.yd rfl (Yd.asI rfl) ?_
                refine LJ.nil ?_
                refine ⟨(k + 1, _, _, _, _), ?_, ⟨rfl, rfl, rfl, rfl, trivial⟩, ⟨rfl, rfl, trivial⟩, Ent.pick [0, 1] [2] rfl, ?_⟩
                · refine ⟨(by first | rfl | omega | (simp; done) | (simp; omega) | (simp [upN_len]; omega) | (simp [idxBy_len]; omega) | (simp [marks_len]; omega) | (simp [upN_len]; done) | (simp [idxBy_len]; done) | (simp [marks_len]; done) | (simp at *; omega)), ?_⟩
                  refine ⟨by omega, ?_⟩
                  have hxl : (IX fl).length = fl.length := by simp [IX]
                  rw [List.take_of_length_le (by omega)] at hi2
                  first
                    | (refine ⟨by simp; omega, ?_⟩; rw [lnU_T (by rw [lnB, ← hi2]; assumption), ← hi1]; done)
                    | (refine ⟨by omega, ?_⟩; rw [lnU_F (by rw [lnB, ← hi2]; assumption), ← hi1]; done)
                · first | omega | (dsimp only; omega) | (simp only []; omega)
              · refine LJ.nil ?_
                refine CJ.condF rfl ?_
                refine CJ.skip ?_
                refine CJ.region ?_
                refine LJ.yd rfl (Yd.mvI rfl) ?_
                refine LJ.yd rfl (Yd.add rfl rfl (by unfold I64; omega)) ?_
                refine LJ.yd rfl (Yd.asI rfl) ?_
                refine LJ.nil ?_
                refine ⟨(k + 1, _, _, _, _), ?_, ⟨rfl, rfl, rfl, rfl, trivial⟩, ⟨rfl, rfl, trivial⟩, Ent.refl _, ?_⟩
                · refine ⟨(by first | rfl | omega | (simp; done) | (simp; omega) | (simp [upN_len]; omega) | (simp [idxBy_len]; omega) | (simp [marks_len]; omega) | (simp [upN_len]; done) | (simp [idxBy_len]; done) | (simp [marks_len]; done) | (simp at *; omega)), ?_⟩
                  refine ⟨by omega, ?_⟩
                  have hxl : (IX fl).length = fl.length := by simp [IX]
                  rw [List.take_of_length_le (by omega)] at hi2
                  first
                    | (refine ⟨by simp; omega, ?_⟩; rw [lnU_T (by rw [lnB, ← hi2]; assumption), ← hi1]; done)
                    | (refine ⟨by omega, ?_⟩; rw [lnU_F (by rw [lnB, ← hi2]; assumption), ← hi1]; done)
                · first | omega | (dsimp only; omega) | (simp only []; omega)
        · refine LJ.yd rfl (Yd.pickFB rfl rfl) ?_
          refine LJ.yd rfl (Yd.asB rfl) ?_
          refine LJ.nil ?_
          refine CJ.seq ?_
          refine CJ.seq ?_
          refine CJ.region ?_
          refine LJ.yd rfl (Yd.asI rfl) ?_
          refine LJ.nil ?_
          refine CJ.block ?_
          refine CJ.loopK [1, 2, 4, 5, 6, 7, 17, 18, 19, 22, 23, 24, 25, 26, 27, 28] (Nat × Bool) (fun ⟨j, m⟩ => j ≤ fl.length ∧ m = (decide ((k : Int) = 0) || (decide ((k : Int) = W) || ((IX fl).take j).any fun f => decide ((k : Int) = f.1) || decide ((k : Int) = f.2)))) (fun ⟨j, m⟩ => [(9, vI j), (8, .bool m)]) (fun ⟨j, m⟩ => fl.length - j) (0, _) ?_ ⟨rfl, rfl, trivial⟩ ?_
          · exact ⟨by omega, by simp_all⟩
          · rintro ⟨j, m⟩ σ ⟨hk2, hi2⟩
            refine CJ.seq ?_
            refine CJ.seq ?_
            refine CJ.region ?_
            refine LJ.yd rfl (Yd.mvI rfl) ?_
            refine LJ.yd rfl (Yd.fieldAddr rfl) ?_
            refine LJ.yd rfl (Yd.loadC 0 rfl rfl rfl) ?_
            refine LJ.yd rfl (Yd.len rfl) ?_
            refine LJ.splitD rfl (Yd.lss rfl rfl) (fun h33 => ?_) (fun h33 => ?_)
            · refine LJ.nil ?_
              refine CJ.condT rfl ?_
              refine CJ.skip ?_
              refine CJ.seq ?_
              refine CJ.block ?_
              refine CJ.seq ?_
              refine CJ.region ?_
              refine LJ.yd rfl (Yd.fieldAddr rfl) ?_
              refine LJ.yd rfl (Yd.loadC 0 rfl rfl rfl) ?_
              refine LJ.yd rfl (Yd.mvI rfl) ?_
              refine LJ.idxA rfl hf rfl rfl (by omega) (by first | rfl | omega | (simp; done) | (simp; omega) | (simp [upN_len]; omega) | (simp [idxBy_len]; omega) | (simp [marks_len]; omega) | (simp [upN_len]; done) | (simp [idxBy_len]; done) | (simp [marks_len]; done) | (simp at *; omega)) (fun ib39 io39 ia39 ir39 => ?_)
              refine LJ.lgA (enc := Box.enc) (fun u => [vI u.X, vI u.Y, vI u.W, vI u.H]) (fun _ => rfl) (fun _ => rfl) ir39 rfl rfl rfl (by first | rfl | omega | (simp; done) | (simp; omega) | (simp [upN_len]; omega) | (simp [idxBy_len]; omega) | (simp [marks_len]; omega) | (simp [upN_len]; done) | (simp [idxBy_len]; done) | (simp [marks_len]; done) | (simp at *; omega)) (fun u40 hu40 => ?_)
              try simp only [Int.toNat_natCast] at hu40
              have hm40 := hm u40 (List.mem_of_getElem? hu40)
              unfold Box.mid at hm40
              have hI40 : (IX fl)[j]? = some (u40.X, u40.X + u40.W) := by rw [IX, List.getElem?_map, hu40]; rfl
              refine LJ.alloc ([_, _, _, _] : List Value) rfl rfl (fun b7 => ?_)
              refine LJ.store (v := .agg #[_, _, _, _]) (us := [_, _, _, _]) 2 rfl rfl rfl rfl rfl rfl rfl rfl ?_
              refine LJ.nil ?_
              refine CJ.seq ?_
              refine CJ.region ?_
              refine LJ.yd rfl (Yd.mvB rfl) ?_
              refine LJ.nil ?_
              refine CJ.condF rfl ?_
              refine CJ.region ?_
              refine LJ.split rfl (Yd.mvB rfl) (fun h58 => ?_) (fun h58 => ?_)
              · refine LJ.yd rfl (Yd.mvB rfl) ?_
                refine LJ.gF rfl rfl ?_
                refine LJ.gF rfl rfl ?_
                refine LJ.gF rfl rfl ?_
                refine LJ.gF rfl rfl ?_
                refine LJ.yd rfl (Yd.pickTB rfl rfl) ?_
                refine LJ.yd rfl (Yd.mvB rfl) ?_
                refine LJ.gF rfl rfl ?_
                refine LJ.gF rfl rfl ?_
                refine LJ.gF rfl rfl ?_
                refine LJ.gF rfl rfl ?_
                refine LJ.gF rfl rfl ?_
                refine LJ.gF rfl rfl ?_
                refine LJ.gF rfl rfl ?_
                refine LJ.yd rfl (Yd.pickTB rfl rfl) ?_
                refine LJ.yd rfl (Yd.asB rfl) ?_
                refine LJ.nil ?_
                refine CJ.region ?_
                refine LJ.yd rfl (Yd.mvI rfl) ?_
                refine LJ.yd rfl (Yd.add rfl rfl (by unfold I64; omega)) ?_
                refine LJ.yd rfl (Yd.asI rfl) ?_
                refine LJ.nil ?_
                refine ⟨(j + 1, _), ?_, ⟨rfl, rfl, rfl, rfl, rfl, rfl, rfl, rfl, rfl, rfl, rfl, rfl, rfl, rfl, rfl, rfl, trivial⟩, ⟨rfl, rfl, trivial⟩, Ent.pick [0, 1] [2] rfl, ?_⟩
                · refine ⟨by omega, ?_⟩
                  rw [anyC hI40]; exact or_step hi2 (by clear hi2; simp_all)
                · first | omega | (dsimp only; omega) | (simp only []; omega)
              · refine LJ.yd rfl (Yd.mvB rfl) ?_
                refine LJ.gT rfl ?_
                refine LJ.yd rfl (Yd.mvI rfl) ?_
                refine LJ.gT rfl ?_
                refine LJ.yd rfl (Yd.fieldAddr rfl) ?_
                refine LJ.gT rfl ?_
                refine LJ.yd rfl (Yd.loadC 2 rfl rfl rfl) ?_
                refine LJ.gT rfl ?_
                refine LJ.splitD rfl (Yd.eql rfl rfl) (fun h63 => ?_) (fun h63 => ?_)
                · refine LJ.yd rfl (Yd.pickFB rfl rfl) ?_
                  refine LJ.yd rfl (Yd.mvB rfl) ?_
                  refine LJ.gF rfl rfl ?_
                  refine LJ.gF rfl rfl ?_
                  refine LJ.gF rfl rfl ?_
                  refine LJ.gF rfl rfl ?_
                  refine LJ.gF rfl rfl ?_
                  refine LJ.gF rfl rfl ?_
                  refine LJ.gF rfl rfl ?_
                  refine LJ.yd rfl (Yd.pickTB rfl rfl) ?_
                  refine LJ.yd rfl (Yd.asB rfl) ?_
                  refine LJ.nil ?_
                  refine CJ.region ?_
                  refine LJ.yd rfl (Yd.mvI rfl) ?_
                  refine LJ.yd rfl (Yd.add rfl rfl (by unfold I64; omega)) ?_
                  refine LJ.yd rfl (Yd.asI rfl) ?_
                  refine LJ.nil ?_
                  refine ⟨(j + 1, _), ?_, ⟨rfl, rfl, rfl, rfl, rfl, rfl, rfl, rfl, rfl, rfl, rfl, rfl, rfl, rfl, rfl, rfl, trivial⟩, ⟨rfl, rfl, trivial⟩, Ent.pick [0, 1] [2] rfl, ?_⟩
                  · refine ⟨by omega, ?_⟩
                    rw [anyC hI40]; exact or_step hi2 (by clear hi2; simp_all)
                  · first | omega | (dsimp only; omega) | (simp only []; omega)
                · refine LJ.yd rfl (Yd.pickFB rfl rfl) ?_
                  refine LJ.yd rfl (Yd.mvB rfl) ?_
                  refine LJ.gT rfl ?_
                  refine LJ.yd rfl (Yd.mvI rfl) ?_
                  refine LJ.gT rfl ?_
                  refine LJ.yd rfl (Yd.fieldAddr rfl) ?_
                  refine LJ.gT rfl ?_
                  refine LJ.yd rfl (Yd.loadC 2 rfl rfl rfl) ?_
                  refine LJ.gT rfl ?_
                  refine LJ.yd rfl (Yd.fieldAddr rfl) ?_
                  refine LJ.gT rfl ?_
                  refine LJ.yd rfl (Yd.loadC 2 rfl rfl rfl) ?_
                  refine LJ.gT rfl ?_
                  refine LJ.yd rfl (Yd.add rfl rfl (by unfold I64; omega)) ?_
                  refine LJ.gT rfl ?_
                  refine LJ.splitD rfl (Yd.eql rfl rfl) (fun h72 => ?_) (fun h72 => ?_)
                  · refine LJ.yd rfl (Yd.pickFB rfl rfl) ?_
                    refine LJ.yd rfl (Yd.asB rfl) ?_
                    refine LJ.nil ?_
                    refine CJ.region ?_
                    refine LJ.yd rfl (Yd.mvI rfl) ?_
                    refine LJ.yd rfl (Yd.add rfl rfl (by unfold I64; omega)) ?_
                    refine LJ.yd rfl (Yd.asI rfl) ?_
                    refine LJ.nil ?_
                    refine ⟨(j + 1, _), ?_, ⟨rfl, rfl, rfl, rfl, rfl, rfl, rfl, rfl, rfl, rfl, rfl, rfl, rfl, rfl, rfl, rfl, trivial⟩, ⟨rfl, rfl, trivial⟩, Ent.pick [0, 1] [2] rfl, ?_⟩
                    · refine ⟨by omega, ?_⟩
                      rw [anyC hI40]; exact or_step hi2 (by clear hi2; simp_all)
                    · first | omega | (dsimp only; omega) | (simp only []; omega)
                  · refine LJ.yd rfl (Yd.pickFB rfl rfl) ?_
                    refine LJ.yd rfl (Yd.asB rfl) ?_
                    refine LJ.nil ?_
                    refine CJ.region ?_
                    refine LJ.yd rfl (Yd.mvI rfl) ?_
                    refine LJ.yd rfl (Yd.add rfl rfl (by unfold I64; omega)) ?_
                    refine LJ.yd rfl (Yd.asI rfl) ?_
                    refine LJ.nil ?_
                    refine ⟨(j + 1, _), ?_, ⟨rfl, rfl, rfl, rfl, rfl, rfl, rfl, rfl, rfl, rfl, rfl, rfl, rfl, rfl, rfl, rfl, trivial⟩, ⟨rfl, rfl, trivial⟩, Ent.pick [0, 1] [2] rfl, ?_⟩
                    · refine ⟨by omega, ?_⟩
                      rw [anyC hI40]; exact or_step hi2 (by clear hi2; simp_all)
                    · first | omega | (dsimp only; omega) | (simp only []; omega)
            · refine LJ.nil ?_
              refine CJ.condF rfl ?_
              refine CJ.exit ?_
              refine CJ.seq ?_
              refine CJ.region ?_
              refine LJ.split rfl (Yd.mvB rfl) (fun h74 => ?_) (fun h74 => ?_)
              · refine LJ.nil ?_
                refine CJ.condT rfl ?_
                refine CJ.region ?_
                refine LJ.yd rfl (Yd.mvS rfl) ?_
                refine LJ.yd rfl (Yd.mvI rfl) ?_
                refine LJ.op rfl (OpR.buildSlice (cs := [_]) rfl rfl) ?_
                rintro _ _ ⟨b8, rfl, rfl⟩
                refine LJ.op rfl (OpR.apT (enc := encI) [_] 1 2 rfl rfl rfl (by first | rfl | omega | (simp; done) | (simp; omega) | (simp [upN_len]; omega) | (simp [idxBy_len]; omega) | (simp [marks_len]; omega) | (simp [upN_len]; done) | (simp [idxBy_len]; done) | (simp [marks_len]; done) | (simp at *; omega)) rfl rfl rfl rfl rfl (by first | rfl | omega | (simp; done) | (simp; omega) | (simp [upN_len]; omega) | (simp [idxBy_len]; omega) | (simp [marks_len]; omega) | (simp [upN_len]; done) | (simp [idxBy_len]; done) | (simp [marks_len]; done) | (simp at *; omega))) ?_
                rintro _ _ ⟨ra78, rc78, rfl, rfl⟩
                refine LJ.norm [_, _, _] rfl ?_
                refine LJ.yd rfl (Yd.asS rfl) ?_
                refine LJ.nil ?_
                refine CJ.region ?_
                refine LJ.yd rfl (Yd.mvI rfl) ?_
                refine LJ.yd rfl (Yd.add rfl rfl (by unfold I64; omega)) ?_
                refine LJ.yd rfl (Yd.asI rfl) ?_
                refine LJ.nil ?_
                refine ⟨(k + 1, _, _, _, _), ?_, ⟨rfl, rfl, rfl, rfl, trivial⟩, ⟨rfl, rfl, trivial⟩, Ent.pick [0, 1] [2] rfl, ?_⟩
                · refine ⟨(by first | rfl | omega | (simp; done) | (simp; omega) | (simp [upN_len]; omega) | (simp [idxBy_len]; omega) | (simp [marks_len]; omega) | (simp [upN_len]; done) | (simp [idxBy_len]; done) | (simp [marks_len]; done) | (simp at *; omega)), ?_⟩
                  refine ⟨by omega, ?_⟩
                  have hxl : (IX fl).length = fl.length := by simp [IX]
                  rw [List.take_of_length_le (by omega)] at hi2
                  first
                    | (refine ⟨by simp; omega, ?_⟩; rw [lnU_T (by rw [lnB, ← hi2]; assumption), ← hi1]; done)
                    | (refine ⟨by omega, ?_⟩; rw [lnU_F (by rw [lnB, ← hi2]; assumption), ← hi1]; done)
                · first | omega | (dsimp only; omega) | (simp only []; omega)
              · refine LJ.nil ?_
                refine CJ.condF rfl ?_
                refine CJ.skip ?_
                refine CJ.region ?_
                refine LJ.yd rfl (Yd.mvI rfl) ?_
                refine LJ.yd rfl (Yd.add rfl rfl (by unfold I64; omega)) ?_
                refine LJ.yd rfl (Yd.asI rfl) ?_
                refine LJ.nil ?_
                refine ⟨(k + 1, _, _, _, _), ?_, ⟨rfl, rfl, rfl, rfl, trivial⟩, ⟨rfl, rfl, trivial⟩, Ent.refl _, ?_⟩
                · refine ⟨(by first | rfl | omega | (simp; done) | (simp; omega) | (simp [upN_len]; omega) | (simp [idxBy_len]; omega) | (simp [marks_len]; omega) | (simp [upN_len]; done) | (simp [idxBy_len]; done) | (simp [marks_len]; done) | (simp at *; omega)), ?_⟩
                  refine ⟨by omega, ?_⟩
                  have hxl : (IX fl).length = fl.length := by simp [IX]
                  rw [List.take_of_length_le (by omega)] at hi2
                  first
                    | (refine ⟨by simp; omega, ?_⟩; rw [lnU_T (by rw [lnB, ← hi2]; assumption), ← hi1]; done)
                    | (refine ⟨by omega, ?_⟩; rw [lnU_F (by rw [lnB, ← hi2]; assumption), ← hi1]; done)
                · first | omega | (dsimp only; omega) | (simp only []; omega)
    · refine LJ.nil ?_
      refine CJ.condF rfl ?_
      refine CJ.exit ?_
      refine CJ.seq ?_
      refine CJ.region ?_
      refine LJ.yd rfl (Yd.mvS rfl) ?_
      refine LJ.yd rfl (Yd.asS rfl) ?_
      refine LJ.nil ?_
      refine CJ.ret ?_
      refine Fin.RL 1 (Res.one (ResV.tmp (v := .slice _ _ _) rfl)) rfl (by first | rfl | simp) ?_
      rw [hi1, lnL, show k = (W + 1).toNat by omega]
theorem linesY_ok {A : Amb} {l W H : Int} {fl : List Box} {v : Value} (hf : RdL Box.enc 4 A.h v fl) (hm : ∀ f ∈ fl, f.mid) (hW : H ≤ 1000) : Ctr Try.prog 85 #[.agg #[vI l, vI W, vI H, v], .bool true] A [] (RLP encI 3 1 (lnL (IY fl) H)) := by
  obtain ⟨fa, fc, rfl, hfb, hf⟩ := hf.un
  refine Ctr.body (args := [_, _]) Try.func85 rfl Try.ntmps85 Try.results85 (by simp) ?_
  refine CJ.seq ?_
  refine CJ.region ?_
  refine LJ.boxG (vs := [_, _, _, _]) rfl rfl (fun b1 => ?_)
  refine LJ.yd rfl (Yd.asS rfl) ?_
  refine LJ.nil ?_
  refine CJ.seq ?_
  refine CJ.region ?_
  refine LJ.op rfl (OpR.buildSlice (cs := []) rfl rfl) ?_
  rintro _ _ ⟨b2, rfl, rfl⟩
  refine LJ.yd rfl (Yd.asS rfl) ?_
  refine LJ.nil ?_
  refine CJ.seq ?_
  refine CJ.region ?_
  refine LJ.yd rfl (Yd.fieldAddr rfl) ?_
  refine LJ.yd rfl (Yd.loadC 0 rfl rfl rfl) ?_
  refine LJ.yd rfl (Yd.asI rfl) ?_
  refine LJ.nil ?_
  refine CJ.seq ?_
  refine CJ.seq ?_
  refine CJ.region ?_
  refine LJ.yd rfl (Yd.mvB rfl) ?_
  refine LJ.nil ?_
  refine CJ.condT rfl ?_
  refine CJ.region ?_
  refine LJ.yd rfl (Yd.fieldAddr rfl) ?_
  refine LJ.yd rfl (Yd.loadC 0 rfl rfl rfl) ?_
  refine LJ.yd rfl (Yd.asI rfl) ?_
  refine LJ.nil ?_
  refine CJ.seq ?_
  refine CJ.seq ?_
  refine CJ.region ?_
  refine LJ.yd rfl (Yd.asI rfl) ?_
  refine LJ.nil ?_
  refine CJ.block ?_
  refine CJ.imp1 1 rfl (fun _ h => Cel.lr (enc := encI) (k := 1) (m := 0) [] rfl rfl rfl rfl h) ?_
  refine CJ.norm [_, _] rfl ?_
  refine CJ.loopF [1, 2, 4, 6] (Nat × List Int × Option Addr × Nat × Nat) (fun ⟨k, O, OA, ON, OC⟩ => (ON = O.length) ∧ k ≤ (H + 1).toNat ∧ O.length ≤ k ∧ O = (lnU k).filter (lnB (IY fl) H)) (fun ⟨k, O, OA, ON, OC⟩ => [(7, vI k), (5, .slice OA ON OC)]) (fun ⟨k, O, OA, ON, OC⟩ => [LR encI 3 1 OA OC O]) (fun ⟨k, O, OA, ON, OC⟩ => (H + 1).toNat - k) (0, [], _, _, _) [_] [0] [1] rfl rfl rfl ?_ ⟨rfl, rfl, trivial⟩ ?_
  · exact ⟨(by first | rfl | omega | (simp; done) | (simp; omega) | (simp [upN_len]; omega) | (simp [idxBy_len]; omega) | (simp [marks_len]; omega) | (simp [upN_len]; done) | (simp [idxBy_len]; done) | (simp [marks_len]; done) | (simp at *; omega)), ⟨by omega, by simp, rfl⟩⟩
  · rintro ⟨k, O, OA, ON, OC⟩ σ ⟨hlNO, ⟨hk1, hOl, hi1⟩⟩
    subst hlNO
    refine CJ.norm [_, _] rfl ?_
    refine CJ.seq ?_
    refine CJ.seq ?_
    refine CJ.region ?_
    refine LJ.yd rfl (Yd.mvI rfl) ?_
    refine LJ.yd rfl (Yd.mvI rfl) ?_
    refine LJ.splitD rfl (Yd.leq rfl rfl) (fun h19 => ?_) (fun h19 => ?_)
    · refine LJ.nil ?_
      refine CJ.condT rfl ?_
      refine CJ.skip ?_
      refine CJ.seq ?_
      refine CJ.block ?_
      refine CJ.seq ?_
      refine CJ.region ?_
      refine LJ.yd rfl (Yd.mvI rfl) ?_
      refine LJ.splitD rfl (Yd.eql rfl rfl) (fun h23 => ?_) (fun h23 => ?_)
      · refine LJ.yd rfl (Yd.mvB rfl) ?_
        refine LJ.gF rfl rfl ?_
        refine LJ.gF rfl rfl ?_
        refine LJ.gF rfl rfl ?_
        refine LJ.yd rfl (Yd.pickTB rfl rfl) ?_
        refine LJ.yd rfl (Yd.asB rfl) ?_
        refine LJ.nil ?_
        refine CJ.seq ?_
        refine CJ.seq ?_
        refine CJ.region ?_
        refine LJ.yd rfl (Yd.asI rfl) ?_
        refine LJ.nil ?_
        refine CJ.block ?_
        refine CJ.loopK [1, 2, 4, 5, 6, 7, 17, 18, 19, 22, 23, 24, 28] (Nat × Bool) (fun ⟨j, m⟩ => j ≤ fl.length ∧ m = (decide ((k : Int) = 0) || (decide ((k : Int) = H) || ((IY fl).take j).any fun f => decide ((k : Int) = f.1) || decide ((k : Int) = f.2)))) (fun ⟨j, m⟩ => [(9, vI j), (8, .bool m)]) (fun ⟨j, m⟩ => fl.length - j) (0, _) ?_ ⟨rfl, rfl, trivial⟩ ?_
        · exact ⟨by omega, by simp_all⟩
        · rintro ⟨j, m⟩ σ ⟨hk2, hi2⟩
          refine CJ.seq ?_
          refine CJ.seq ?_
          refine CJ.region ?_
          refine LJ.yd rfl (Yd.mvI rfl) ?_
          refine LJ.yd rfl (Yd.fieldAddr rfl) ?_
          refine LJ.yd rfl (Yd.loadC 0 rfl rfl rfl) ?_
          refine LJ.yd rfl (Yd.len rfl) ?_
          refine LJ.splitD rfl (Yd.lss rfl rfl) (fun h33 => ?_) (fun h33 => ?_)
          · refine LJ.nil ?_
            refine CJ.condT rfl ?_
            refine CJ.skip ?_
            refine CJ.seq ?_
            refine CJ.block ?_
            refine CJ.seq ?_
            refine CJ.region ?_
            refine LJ.yd rfl (Yd.fieldAddr rfl) ?_
            refine LJ.yd rfl (Yd.loadC 0 rfl rfl rfl) ?_
            refine LJ.yd rfl (Yd.mvI rfl) ?_
            refine LJ.idxA rfl hf rfl rfl (by omega) (by first | rfl | omega | (simp; done) | (simp; omega) | (simp [upN_len]; omega) | (simp [idxBy_len]; omega) | (simp [marks_len]; omega) | (simp [upN_len]; done) | (simp [idxBy_len]; done) | (simp [marks_len]; done) | (simp at *; omega)) (fun ib39 io39 ia39 ir39 => ?_)
            refine LJ.lgA (enc := Box.enc) (fun u => [vI u.X, vI u.Y, vI u.W, vI u.H]) (fun _ => rfl) (fun _ => rfl) ir39 rfl rfl rfl (by first | rfl | omega | (simp; done) | (simp; omega) | (simp [upN_len]; omega) | (simp [idxBy_len]; omega) | (simp [marks_len]; omega) | (simp [upN_len]; done) | (simp [idxBy_len]; done) | (simp [marks_len]; done) | (simp at *; omega)) (fun u40 hu40 => ?_)
            try simp only [Int.toNat_natCast] at hu40
            have hm40 := hm u40 (List.mem_of_getElem? hu40)
            unfold Box.mid at hm40
            have hI40 : (IY fl)[j]? = some (u40.Y, u40.Y + u40.H) := by rw [IY, List.getElem?_map, hu40]; rfl
            refine LJ.alloc ([_, _, _, _] : List Value) rfl rfl (fun b3 => ?_)
            refine LJ.store (v := .agg #[_, _, _, _]) (us := [_, _, _, _]) 2 rfl rfl rfl rfl rfl rfl rfl rfl ?_
            refine LJ.nil ?_
            refine CJ.seq ?_
            refine CJ.region ?_
            refine LJ.yd rfl (Yd.mvB rfl) ?_
            refine LJ.nil ?_
            refine CJ.condT rfl ?_
            refine CJ.region ?_
            refine LJ.split rfl (Yd.mvB rfl) (fun h42 => ?_) (fun h42 => ?_)
            · refine LJ.yd rfl (Yd.mvB rfl) ?_
              refine LJ.gF rfl rfl ?_
              refine LJ.gF rfl rfl ?_
              refine LJ.gF rfl rfl ?_
              refine LJ.gF rfl rfl ?_
              refine LJ.yd rfl (Yd.pickTB rfl rfl) ?_
              refine LJ.yd rfl (Yd.mvB rfl) ?_
              refine LJ.gF rfl rfl ?_
              refine LJ.gF rfl rfl ?_
              refine LJ.gF rfl rfl ?_
              refine LJ.gF rfl rfl ?_
              refine LJ.gF rfl rfl ?_
              refine LJ.gF rfl rfl ?_
              refine LJ.gF rfl rfl ?_
              refine LJ.yd rfl (Yd.pickTB rfl rfl) ?_
              refine LJ.yd rfl (Yd.asB rfl) ?_
              refine LJ.nil ?_
              refine CJ.region ?_
              refine LJ.yd rfl (Yd.mvI rfl) ?_
              refine LJ.yd rfl (Yd.add rfl rfl (by unfold I64; omega)) ?_
              refine LJ.yd rfl (Yd.asI rfl) ?_
              refine LJ.nil ?_
              refine ⟨(j + 1, _), ?_, ⟨rfl, rfl, rfl, rfl, rfl, rfl, rfl, rfl, rfl, rfl, rfl, rfl, rfl, trivial⟩, ⟨rfl, rfl, trivial⟩, Ent.pick [0, 1] [2] rfl, ?_⟩
              · refine ⟨by omega, ?_⟩
                rw [anyC hI40]; exact or_step hi2 (by clear hi2; simp_all)
              · first | omega | (dsimp only; omega) | (simp only []; omega)
            · refine LJ.yd rfl (Yd.mvB rfl) ?_
              refine LJ.gT rfl ?_
              refine LJ.yd rfl (Yd.mvI rfl) ?_
              refine LJ.gT rfl ?_
              refine LJ.yd rfl (Yd.fieldAddr rfl) ?_
              refine LJ.gT rfl ?_
              refine LJ.yd rfl (Yd.loadC 2 rfl rfl rfl) ?_
              refine LJ.gT rfl ?_
              refine LJ.splitD rfl (Yd.eql rfl rfl) (fun h47 => ?_) (fun h47 => ?_)
              · refine LJ.yd rfl (Yd.pickFB rfl rfl) ?_
                refine LJ.yd rfl (Yd.mvB rfl) ?_
                refine LJ.gF rfl rfl ?_
                refine LJ.gF rfl rfl ?_
                refine LJ.gF rfl rfl ?_
                refine LJ.gF rfl rfl ?_
                refine LJ.gF rfl rfl ?_
                refine LJ.gF rfl rfl ?_
                refine LJ.gF rfl rfl ?_
                refine LJ.yd rfl (Yd.pickTB rfl rfl) ?_
                refine LJ.yd rfl (Yd.asB rfl) ?_
                refine LJ.nil ?_
                refine CJ.region ?_
                refine LJ.yd rfl (Yd.mvI rfl) ?_
                refine LJ.yd rfl (Yd.add rfl rfl (by unfold I64; omega)) ?_
                refine LJ.yd rfl (Yd.asI rfl) ?_
                refine LJ.nil ?_
                refine ⟨(j + 1, _), ?_, ⟨rfl, rfl, rfl, rfl, rfl, rfl, rfl, rfl, rfl, rfl, rfl, rfl, rfl, trivial⟩, ⟨rfl, rfl, trivial⟩, Ent.pick [0, 1] [2] rfl, ?_⟩
                · refine ⟨by omega, ?_⟩
                  rw [anyC hI40]; exact or_step hi2 (by clear hi2; simp_all)
                · first | omega | (dsimp only; omega) | (simp only []; omega)
              · refine LJ.yd rfl (Yd.pickFB rfl rfl) ?_
                refine LJ.yd rfl (Yd.mvB rfl) ?_
                refine LJ.gT rfl ?_
                refine LJ.yd rfl (Yd.mvI rfl) ?_
                refine LJ.gT rfl ?_
                refine LJ.yd rfl (Yd.fieldAddr rfl) ?_
                refine LJ.gT rfl ?_
                refine LJ.yd rfl (Yd.loadC 2 rfl rfl rfl) ?_
                refine LJ.gT rfl ?_
                refine LJ.yd rfl (Yd.fieldAddr rfl) ?_
                refine LJ.gT rfl ?_
                refine LJ.yd rfl (Yd.loadC 2 rfl rfl rfl) ?_
                refine LJ.gT rfl ?_
                refine LJ.yd rfl (Yd.add rfl rfl (by unfold I64; omega)) ?_
                refine LJ.gT rfl ?_
                refine LJ.splitD rfl (Yd.eql rfl rfl) (fun h56 => ?_) (fun h56 => ?_)
                · refine LJ.yd rfl (Yd.pickFB rfl rfl) ?_
                  refine LJ.yd rfl (Yd.asB rfl) ?_
                  refine LJ.nil ?_
                  refine CJ.region ?_
                  refine LJ.yd rfl (Yd.mvI rfl) ?_
                  refine LJ.yd rfl (Yd.add rfl rfl (by unfold I64; omega)) ?_
                  refine LJ.yd rfl (Yd.asI rfl) ?_
                  refine LJ.nil ?_
                  refine ⟨(j + 1, _), ?_, ⟨rfl, rfl, rfl, rfl, rfl, rfl, rfl, rfl, rfl, rfl, rfl, rfl, rfl, trivial⟩, ⟨rfl, rfl, trivial⟩, Ent.pick [0, 1] [2] rfl, ?_⟩
                  · refine ⟨by omega, ?_⟩
                    rw [anyC hI40]; exact or_step hi2 (by clear hi2; simp_all)
                  · first | omega | (dsimp only; omega) | (simp only []; omega)
                · refine LJ.yd rfl (Yd.pickFB rfl rfl) ?_
                  refine LJ.yd rfl (Yd.asB rfl) ?_
                  refine LJ.nil ?_
                  refine CJ.region ?_
                  refine LJ.yd rfl (Yd.mvI rfl) ?_
                  refine LJ.yd rfl (Yd.add rfl rfl (by unfold I64; omega)) ?_
                  refine LJ.yd rfl (Yd.asI rfl) ?_
                  refine LJ.nil ?_
                  refine ⟨(j + 1, _), ?_, ⟨rfl, rfl, rfl, rfl, rfl, rfl, rfl, rfl, rfl, rfl, rfl, rfl, rfl, trivial⟩, ⟨rfl, rfl, trivial⟩, Ent.pick [0, 1] [2] rfl, ?_⟩
                  · refine ⟨by omega, ?_⟩
                    rw [anyC hI40]; exact or_step hi2 (by clear hi2; simp_all)
                  · first | omega | (dsimp only; omega) | (simp only []; omega)
          · refine LJ.nil ?_
            refine CJ.condF rfl ?_
            refine CJ.exit ?_
            refine CJ.seq ?_
            refine CJ.region ?_
            refine LJ.split rfl (Yd.mvB rfl) (fun h74 => ?_) (fun h74 => ?_)
            · refine LJ.nil ?_
              refine CJ.condT rfl ?_
              refine CJ.region ?_
              refine LJ.yd rfl (Yd.mvS rfl) ?_
              refine LJ.yd rfl (Yd.mvI rfl) ?_
              refine LJ.op rfl (OpR.buildSlice (cs := [_]) rfl rfl) ?_
              rintro _ _ ⟨b4, rfl, rfl⟩
              refine LJ.op rfl (OpR.apT (enc := encI) [_] 1 2 rfl rfl rfl (by first | rfl | omega | (simp; done) | (simp; omega) | (simp [upN_len]; omega) | (simp [idxBy_len]; omega) | (simp [marks_len]; omega) | (simp [upN_len]; done) | (simp [idxBy_len]; done) | (simp [marks_len]; done) | (simp at *; omega)) rfl rfl rfl rfl rfl (by first | rfl | omega | (simp; done) | (simp; omega) | (simp [upN_len]; omega) | (simp [idxBy_len]; omega) | (simp [marks_len]; omega) | (simp [upN_len]; done) | (simp [idxBy_len]; done) | (simp [marks_len]; done) | (simp at *; omega))) ?_
              rintro _ _ ⟨ra78, rc78, rfl, rfl⟩
              refine LJ.norm [_, _, _] rfl ?_
              refine LJ.yd rfl (Yd.asS rfl) ?_
              refine LJ.nil ?_
              refine CJ.region ?_
              refine LJ.yd rfl (Yd.mvI rfl) ?_
              refine LJ.yd rfl (Yd.add rfl rfl (by unfold I64; omega)) ?_
              refine LJ.yd rfl (Yd.asI rfl) ?_
              refine LJ.nil ?_
              refine ⟨(k + 1, _, _, _, _), ?_, ⟨rfl, rfl, rfl, rfl, trivial⟩, ⟨rfl, rfl, trivial⟩, Ent.pick [0, 1] [2] rfl, ?_⟩
              · refine ⟨(by first | rfl | omega | (simp; done) | (simp; omega) | (simp [upN_len]; omega) | (simp [idxBy_len]; omega) | (simp [marks_len]; omega) | (simp [upN_len]; done) | (simp [idxBy_len]; done) | (simp [marks_len]; done) | (simp at *; omega)), ?_⟩
                refine ⟨by omega, ?_⟩
                have hxl : (IY fl).length = fl.length := by simp [IY]
                rw [List.take_of_length_le (by omega)] at hi2
                first
                  | (refine ⟨by simp; omega, ?_⟩; rw [lnU_T (by rw [lnB, ← hi2]; assumption), ← hi1]; done)
                  | (refine ⟨by omega, ?_⟩; rw [lnU_F (by rw [lnB, ← hi2]; assumption), ← hi1]; done)
              · first | omega | (dsimp only; omega) | (simp only []; omega)
            · refine LJ.nil ?_
              refine CJ.condF rfl ?_
              refine CJ.skip ?_
              refine CJ.region ?_
              refine LJ.yd rfl (Yd.mvI rfl) ?_
              refine LJ.yd rfl (Yd.add rfl rfl (by unfold I64; omega)) ?_
              refine LJ.yd rfl (Yd.asI rfl) ?_
              refine LJ.nil ?_
              refine ⟨(k + 1, _, _, _, _), ?_, ⟨rfl, rfl, rfl, rfl, trivial⟩, ⟨rfl, rfl, trivial⟩, Ent.refl _, ?_⟩
              · refine ⟨(by first | rfl | omega | (simp; done) | (simp; omega) | (simp [upN_len]; omega) | (simp [idxBy_len]; omega) | (simp [marks_len]; omega) | (simp [upN_len]; done) | (simp [idxBy_len]; done) | (simp [marks_len]; done) | (simp at *; omega)), ?_⟩
                refine ⟨by omega, ?_⟩
                have hxl : (IY fl).length = fl.length := by simp [IY]
                rw [List.take_of_length_le (by omega)] at hi2
                first
                  | (refine ⟨by simp; omega, ?_⟩; rw [lnU_T (by rw [lnB, ← hi2]; assumption), ← hi1]; done)
                  | (refine ⟨by omega, ?_⟩; rw [lnU_F (by rw [lnB, ← hi2]; assumption), ← hi1]; done)
              · first | omega | (dsimp only; omega) | (simp only []; omega)
      · refine LJ.yd rfl (Yd.mvB rfl) ?_
        refine LJ.gT rfl ?_
        refine LJ.yd rfl (Yd.mvI rfl) ?_
        refine LJ.gT rfl ?_
        refine LJ.yd rfl (Yd.mvI rfl) ?_
        refine LJ.gT rfl ?_
        refine LJ.splitD rfl (Yd.eql rfl rfl) (fun h27 => ?_) (fun h27 => ?_)
        · refine LJ.yd rfl (Yd.pickFB rfl rfl) ?_
          refine LJ.yd rfl (Yd.asB rfl) ?_
          refine LJ.nil ?_
          refine CJ.seq ?_
          refine CJ.seq ?_
          refine CJ.region ?_
          refine LJ.yd rfl (Yd.asI rfl) ?_
          refine LJ.nil ?_
          refine CJ.block ?_
          refine CJ.loopK [1, 2, 4, 5, 6, 7, 17, 18, 19, 22, 23, 24, 25, 26, 27, 28] (Nat × Bool) (fun ⟨j, m⟩ => j ≤ fl.length ∧ m = (decide ((k : Int) = 0) || (decide ((k : Int) = H) || ((IY fl).take j).any fun f => decide ((k : Int) = f.1) || decide ((k : Int) = f.2)))) (fun ⟨j, m⟩ => [(9, vI j), (8, .bool m)]) (fun ⟨j, m⟩ => fl.length - j) (0, _) ?_ ⟨rfl, rfl, trivial⟩ ?_
          · exact ⟨by omega, by simp_all⟩
          · rintro ⟨j, m⟩ σ ⟨hk2, hi2⟩
            refine CJ.seq ?_
            refine CJ.seq ?_
            refine CJ.region ?_
            refine LJ.yd rfl (Yd.mvI rfl) ?_
            refine LJ.yd rfl (Yd.fieldAddr rfl) ?_
            refine LJ.yd rfl (Yd.loadC 0 rfl rfl rfl) ?_
            refine LJ.yd rfl (Yd.len rfl) ?_
            refine LJ.splitD rfl (Yd.lss rfl rfl) (fun h33 => ?_) (fun h33 => ?_)
            · refine LJ.nil ?_
              refine CJ.condT rfl ?_
              refine CJ.skip ?_
              refine CJ.seq ?_
              refine CJ.block ?_
              refine CJ.seq ?_
              refine CJ.region ?_
              refine LJ.yd rfl (Yd.fieldAddr rfl) ?_
              refine LJ.yd rfl (Yd.loadC 0 rfl rfl rfl) ?_
              refine LJ.yd rfl (Yd.mvI rfl) ?_
              refine LJ.idxA rfl hf rfl rfl (by omega) (by first | rfl | omega | (simp; done) | (simp; omega) | (simp [upN_len]; omega) | (simp [idxBy_len]; omega) | (simp [marks_len]; omega) | (simp [upN_len]; done) | (simp [idxBy_len]; done) | (simp [marks_len]; done) | (simp at *; omega)) (fun ib39 io39 ia39 ir39 => ?_)
              refine LJ.lgA (enc := Box.enc) (fun u => [vI u.X, vI u.Y, vI u.W, vI u.H]) (fun _ => rfl) (fun _ => rfl) ir39 rfl rfl rfl (by first | rfl | omega | (simp; done) | (simp; omega) | (simp [upN_len]; omega) | (simp [idxBy_len]; omega) | (simp [marks_len]; omega) | (simp [upN_len]; done) | (simp [idxBy_len]; done) | (simp [marks_len]; done) | (simp at *; omega)) (fun u40 hu40 => ?_)
              try simp only [Int.toNat_natCast] at hu40
              have hm40 := hm u40 (List.mem_of_getElem? hu40)
              unfold Box.mid at hm40
              have hI40 : (IY fl)[j]? = some (u40.Y, u40.Y + u40.H) := by rw [IY, List.getElem?_map, hu40]; rfl
              refine LJ.alloc ([_, _, _, _] : List Value) rfl rfl (fun b5 => ?_)
              refine LJ.store (v := .agg #[_, _, _, _]) (us := [_, _, _, _]) 2 rfl rfl rfl rfl rfl rfl rfl rfl ?_
              refine LJ.nil ?_
              refine CJ.seq ?_
              refine CJ.region ?_
              refine LJ.yd rfl (Yd.mvB rfl) ?_
              refine LJ.nil ?_
              refine CJ.condT rfl ?_
              refine CJ.region ?_
              refine LJ.split rfl (Yd.mvB rfl) (fun h42 => ?_) (fun h42 => ?_)
              · refine LJ.yd rfl (Yd.mvB rfl) ?_
                refine LJ.gF rfl rfl ?_
                refine LJ.gF rfl rfl ?_
                refine LJ.gF rfl rfl ?_
                refine LJ.gF rfl rfl ?_
                refine LJ.yd rfl (Yd.pickTB rfl rfl) ?_
                refine LJ.yd rfl (Yd.mvB rfl) ?_
                refine LJ.gF rfl rfl ?_
                refine LJ.gF rfl rfl ?_
                refine LJ.gF rfl rfl ?_
                refine LJ.gF rfl rfl ?_
                refine LJ.gF rfl rfl ?_
                refine LJ.gF rfl rfl ?_
                refine LJ.gF rfl rfl ?_
                refine LJ.yd rfl (Yd.pickTB rfl rfl) ?_
                refine LJ.yd rfl (Yd.asB rfl) ?_
                refine LJ.nil ?_
                refine CJ.region ?_
                refine LJ.yd rfl (Yd.mvI rfl) ?_
                refine LJ.yd rfl (Yd.add rfl rfl (by unfold I64; omega)) ?_
                refine LJ.yd rfl (Yd.asI rfl) ?_
                refine LJ.nil ?_
                refine ⟨(j + 1, _), ?_, ⟨rfl, rfl, rfl, rfl, rfl, rfl, rfl, rfl, rfl, rfl, rfl, rfl, rfl, rfl, rfl, rfl, trivial⟩, ⟨rfl, rfl, trivial⟩, Ent.pick [0, 1] [2] rfl, ?_⟩
                · refine ⟨by omega, ?_⟩
                  rw [anyC hI40]; exact or_step hi2 (by clear hi2; simp_all)
                · first | omega | (dsimp only; omega) | (simp only []; omega)
              · refine LJ.yd rfl (Yd.mvB rfl) ?_
                refine LJ.gT rfl ?_
                refine LJ.yd rfl (Yd.mvI rfl) ?_
                refine LJ.gT rfl ?_
                refine LJ.yd rfl (Yd.fieldAddr rfl) ?_
                refine LJ.gT rfl ?_
                refine LJ.yd rfl (Yd.loadC 2 rfl rfl rfl) ?_
                refine LJ.gT rfl ?_
                refine LJ.splitD rfl (Yd.eql rfl rfl) (fun h47 => ?_) (fun h47 => ?_)
                · refine LJ.yd rfl (Yd.pickFB rfl rfl) ?_
                  refine LJ.yd rfl (Yd.mvB rfl) ?_
                  refine LJ.gF rfl rfl ?_
                  refine LJ.gF rfl rfl ?_
                  refine LJ.gF rfl rfl ?_
                  refine LJ.gF rfl rfl ?_
                  refine LJ.gF rfl rfl ?_
                  refine LJ.gF rfl rfl ?_
                  refine LJ.gF rfl rfl ?_
                  refine LJ.yd rfl (Yd.pickTB rfl rfl) ?_
                  refine LJ.yd rfl (Yd.asB rfl) ?_
                  refine LJ.nil ?_
                  refine CJ.region ?_
                  refine LJ.yd rfl (Yd.mvI rfl) ?_
                  refine LJ.yd rfl (Yd.add rfl rfl (by unfold I64; omega)) ?_
                  refine LJ.yd rfl (Yd.asI rfl) ?_
                  refine LJ.nil ?_
                  refine ⟨(j + 1, _), ?_, ⟨rfl, rfl, rfl, rfl, rfl, rfl, rfl, rfl, rfl, rfl, rfl, rfl, rfl, rfl, rfl, rfl, trivial⟩, ⟨rfl, rfl, trivial⟩, Ent.pick [0, 1] [2] rfl, ?_⟩
                  · refine ⟨by omega, ?_⟩
                    rw [anyC hI40]; exact or_step hi2 (by clear hi2; simp_all)
                  · first | omega | (dsimp only; omega) | (simp only []; omega)
                · refine LJ.yd rfl (Yd.pickFB rfl rfl) ?_
                  refine LJ.yd rfl (Yd.mvB rfl) ?_
                  refine LJ.gT rfl ?_
                  refine LJ.yd rfl (Yd.mvI rfl) ?_
                  refine LJ.gT rfl ?_
                  refine LJ.yd rfl (Yd.fieldAddr rfl) ?_
                  refine LJ.gT rfl ?_
                  refine LJ.yd rfl (Yd.loadC 2 rfl rfl rfl) ?_
                  refine LJ.gT rfl ?_
                  refine LJ.yd rfl (Yd.fieldAddr rfl) ?_
                  refine LJ.gT rfl ?_
                  refine LJ.yd rfl (Yd.loadC 2 rfl rfl rfl) ?_
                  refine LJ.gT rfl ?_
                  refine LJ.yd rfl (Yd.add rfl rfl (by unfold I64; omega)) ?_
                  refine LJ.gT rfl ?_
                  refine LJ.splitD rfl (Yd.eql rfl rfl) (fun h56 => ?_) (fun h56 => ?_)
                  · refine LJ.yd rfl (Yd.pickFB rfl rfl) ?_
                    refine LJ.yd rfl (Yd.asB rfl) ?_
                    refine LJ.nil ?_
                    refine CJ.region ?_
                    refine LJ.yd rfl (Yd.mvI rfl) ?_
                    refine LJ.yd rfl (Yd.add rfl rfl (by unfold I64; omega)) ?_
                    refine LJ.yd rfl (Yd.asI rfl) ?_
                    refine LJ.nil ?_
                    refine ⟨(j + 1, _), ?_, ⟨rfl, rfl, rfl, rfl, rfl, rfl, rfl, rfl, rfl, rfl, rfl, rfl, rfl, rfl, rfl, rfl, trivial⟩, ⟨rfl, rfl, trivial⟩, Ent.pick [0, 1] [2] rfl, ?_⟩
                    · refine ⟨by omega, ?_⟩
                      rw [anyC hI40]; exact or_step hi2 (by clear hi2; simp_all)
                    · first | omega | (dsimp only; omega) | (simp only []; omega)
                  · refine LJ.yd rfl (Yd.pickFB rfl rfl) ?_
                    refine LJ.yd rfl (Yd.asB rfl) ?_
                    refine LJ.nil ?_
                    refine CJ.region ?_
                    refine LJ.yd rfl (Yd.mvI rfl) ?_
                    refine LJ.yd rfl (Yd.add rfl rfl (by unfold I64; omega)) ?_
                    refine LJ.yd rfl (Yd.asI rfl) ?_
                    refine LJ.nil ?_
                    refine ⟨(j + 1, _), ?_, ⟨rfl, rfl, rfl, rfl, rfl, rfl, rfl, rfl, rfl, rfl, rfl, rfl, rfl, rfl, rfl, rfl, trivial⟩, ⟨rfl, rfl, trivial⟩, Ent.pick [0, 1] [2] rfl, ?_⟩
                    · refine ⟨by omega, ?_⟩
                      rw [anyC hI40]; exact or_step hi2 (by clear hi2; simp_all)
                    · first | omega | (dsimp only; omega) | (simp only []; omega)
            · refine LJ.nil ?_
              refine CJ.condF rfl ?_
              refine CJ.exit ?_
              refine CJ.seq ?_
              refine CJ.region ?_
              refine LJ.split rfl (Yd.mvB rfl) (fun h74 => ?_) (fun h74 => ?_)
              · refine LJ.nil ?_
                refine CJ.condT rfl ?_
                refine CJ.region ?_
                refine LJ.yd rfl (Yd.mvS rfl) ?_
                refine LJ.yd rfl (Yd.mvI rfl) ?_
                refine LJ.op rfl (OpR.buildSlice (cs := [_]) rfl rfl) ?_
                rintro _ _ ⟨b6, rfl, rfl⟩
                refine LJ.op rfl (OpR.apT (enc := encI) [_] 1 2 rfl rfl rfl (by first | rfl | omega | (simp; done) | (simp; omega) | (simp [upN_len]; omega) | (simp [idxBy_len]; omega) | (simp [marks_len]; omega) | (simp [upN_len]; done) | (simp [idxBy_len]; done) | (simp [marks_len]; done) | (simp at *; omega)) rfl rfl rfl rfl rfl (by first | rfl | omega | (simp; done) | (simp; omega) | (simp [upN_len]; omega) | (simp [idxBy_len]; omega) | (simp [marks_len]; omega) | (simp [upN_len]; done) | (simp [idxBy_len]; done) | (simp [marks_len]; done) | (simp at *; omega))) ?_
                rintro _ _ ⟨ra78, rc78, rfl, rfl⟩
                refine LJ.norm [_, _, _] rfl ?_
                refine LJ.yd rfl (Yd.asS rfl) ?_
                refine LJ.nil ?_
                refine CJ.region ?_
                refine LJ.yd rfl (Yd.mvI rfl) ?_
                refine LJ.yd rfl (Yd.add rfl rfl (by unfold I64; omega)) ?_
                refine LJ.yd rfl (Yd.asI rfl) ?_
                refine LJ.nil ?_
                refine ⟨(k + 1, _, _, _, _), ?_, ⟨rfl, rfl, rfl, rfl, trivial⟩, ⟨rfl, rfl, trivial⟩, Ent.pick [0, 1] [2] rfl, ?_⟩
                · refine ⟨(by first | rfl | omega | (simp; done) | (simp; omega) | (simp [upN_len]; omega) | (simp [idxBy_len]; omega) | (simp [marks_len]; omega) | (simp [upN_len]; done) | (simp [idxBy_len]; done) | (simp [marks_len]; done) | (simp at *; omega)), ?_⟩
                  refine ⟨by omega, ?_⟩
                  have hxl : (IY fl).length = fl.length := by simp [IY]
                  rw [List.take_of_length_le (by omega)] at hi2
                  first
                    | (refine ⟨by simp; omega, ?_⟩; rw [lnU_T (by rw [lnB, ← hi2]; assumption), ← hi1]; done)
                    | (refine ⟨by omega, ?_⟩; rw [lnU_F (by rw [lnB, ← hi2]; assumption), ← hi1]; done)
                · first | omega | (dsimp only; omega) | (simp only []; omega)
              · refine LJ.nil ?_
                refine CJ.condF rfl ?_
                refine CJ.skip ?_
                refine CJ.region ?_
                refine LJ.yd rfl (Yd.mvI rfl) ?_
                refine LJ.yd rfl (Yd.add rfl rfl (by unfold I64; omega)) ?_
                refine LJ.yd rfl (Yd.asI rfl) ?_
                refine LJ.nil ?_
                refine ⟨(k + 1, _, _, _, _), ?_, ⟨rfl, rfl, rfl, rfl, trivial⟩, ⟨rfl, rfl, trivial⟩, Ent.refl _, ?_⟩
                · refine ⟨(by first | rfl | omega | (simp; done) | (simp; omega) | (simp [upN_len]; omega) | (simp [idxBy_len]; omega) | (simp [marks_len]; omega) | (simp [upN_len]; done) | (simp [idxBy_len]; done) | (simp [marks_len]; done) | (simp at *; omega)), ?_⟩
                  refine ⟨by omega, ?_⟩
                  have hxl : (IY fl).length = fl.length := by simp [IY]
                  rw [List.take_of_length_le (by omega)] at hi2
                  first
                    | (refine ⟨by simp; omega, ?_⟩; rw [lnU_T (by rw [lnB, ← hi2]; assumption), ← hi1]; done)
                    | (refine ⟨by omega, ?_⟩; rw [lnU_F (by rw [lnB, ← hi2]; assumption), ← hi1]; done)
                · first | omega | (dsimp only; omega) | (simp only []; omega)
        · refine LJ.yd rfl (Yd.pickFB rfl rfl) ?_
          refine LJ.yd rfl (Yd.asB rfl) ?_
          refine LJ.nil ?_
          refine CJ.seq ?_
          refine CJ.seq ?_
          refine CJ.region ?_
          refine LJ.yd rfl (Yd.asI rfl) ?_
          refine LJ.nil ?_
          refine CJ.block ?_
          refine CJ.loopK [1, 2, 4, 5, 6, 7, 17, 18, 19, 22, 23, 24, 25, 26, 27, 28] (Nat × Bool) (fun ⟨j, m⟩ => j ≤ fl.length ∧ m = (decide ((k : Int) = 0) || (decide ((k : Int) = H) || ((IY fl).take j).any fun f => decide ((k : Int) = f.1) || decide ((k : Int) = f.2)))) (fun ⟨j, m⟩ => [(9, vI j), (8, .bool m)]) (fun ⟨j, m⟩ => fl.length - j) (0, _) ?_ ⟨rfl, rfl, trivial⟩ ?_
          · exact ⟨by omega, by simp_all⟩
          · rintro ⟨j, m⟩ σ ⟨hk2, hi2⟩
            refine CJ.seq ?_
            refine CJ.seq ?_
            refine CJ.region ?_
            refine LJ.yd rfl (Yd.mvI rfl) ?_
            refine LJ.yd rfl (Yd.fieldAddr rfl) ?_
            refine LJ.yd rfl (Yd.loadC 0 rfl rfl rfl) ?_
            refine LJ.yd rfl (Yd.len rfl) ?_
            refine LJ.splitD rfl (Yd.lss rfl rfl) (fun h33 => ?_) (fun h33 => ?_)
            · refine LJ.nil ?_
              refine CJ.condT rfl ?_
              refine CJ.skip ?_
              refine CJ.seq ?_
              refine CJ.block ?_
              refine CJ.seq ?_
              refine CJ.region ?_
              refine LJ.yd rfl (Yd.fieldAddr rfl) ?_
              refine LJ.yd rfl (Yd.loadC 0 rfl rfl rfl) ?_
              refine LJ.yd rfl (Yd.mvI rfl) ?_
              refine LJ.idxA rfl hf rfl rfl (by omega) (by first | rfl | omega | (simp; done) | (simp; omega) | (simp [upN_len]; omega) | (simp [idxBy_len]; omega) | (simp [marks_len]; omega) | (simp [upN_len]; done) | (simp [idxBy_len]; done) | (simp [marks_len]; done) | (simp at *; omega)) (fun ib39 io39 ia39 ir39 => ?_)
              refine LJ.lgA (enc := Box.enc) (fun u => [vI u.X, vI u.Y, vI u.W, vI u.H]) (fun _ => rfl) (fun _ => rfl) ir39 rfl rfl rfl (by first | rfl | omega | (simp; done) | (simp; omega) | (simp [upN_len]; omega) | (simp [idxBy_len]; omega) | (simp [marks_len]; omega) | (simp [upN_len]; done) | (simp [idxBy_len]; done) | (simp [marks_len]; done) | (simp at *; omega)) (fun u40 hu40 => ?_)
              try simp only [Int.toNat_natCast] at hu40
              have hm40 := hm u40 (List.mem_of_getElem? hu40)
              unfold Box.mid at hm40
              have hI40 : (IY fl)[j]? = some (u40.Y, u40.Y + u40.H) := by rw [IY, List.getElem?_map, hu40]; rfl
              refine LJ.alloc ([_, _, _, _] : List Value) rfl rfl (fun b7 => ?_)
              refine LJ.store (v := .agg #[_, _, _, _]) (us := [_, _, _, _]) 2 rfl rfl rfl rfl rfl rfl rfl rfl ?_
              refine LJ.nil ?_
              refine CJ.seq ?_
              refine CJ.region ?_
              refine LJ.yd rfl (Yd.mvB rfl) ?_
              refine LJ.nil ?_
              refine CJ.condT rfl ?_
              refine CJ.region ?_
              refine LJ.split rfl (Yd.mvB rfl) (fun h42 => ?_) (fun h42 => ?_)
              · refine LJ.yd rfl (Yd.mvB rfl) ?_
                refine LJ.gF rfl rfl ?_
                refine LJ.gF rfl rfl ?_
                refine LJ.gF rfl rfl ?_
                refine LJ.gF rfl rfl ?_
                refine LJ.yd rfl (Yd.pickTB rfl rfl) ?_
                refine LJ.yd rfl (Yd.mvB rfl) ?_
                refine LJ.gF rfl rfl ?_
                refine LJ.gF rfl rfl ?_
                refine LJ.gF rfl rfl ?_
                refine LJ.gF rfl rfl ?_
                refine LJ.gF rfl rfl ?_
                refine LJ.gF rfl rfl ?_
                refine LJ.gF rfl rfl ?_
                refine LJ.yd rfl (Yd.pickTB rfl rfl) ?_
                refine LJ.yd rfl (Yd.asB rfl) ?_
                refine LJ.nil ?_
                refine CJ.region ?_
                refine LJ.yd rfl (Yd.mvI rfl) ?_
                refine LJ.yd rfl (Yd.add rfl rfl (by unfold I64; omega)) ?_
                refine LJ.yd rfl (Yd.asI rfl) ?_
                refine LJ.nil ?_
                refine ⟨(j + 1, _), ?_, ⟨rfl, rfl, rfl, rfl, rfl, rfl, rfl, rfl, rfl, rfl, rfl, rfl, rfl, rfl, rfl, rfl, trivial⟩, ⟨rfl, rfl, trivial⟩, Ent.pick [0, 1] [2] rfl, ?_⟩
                · refine ⟨by omega, ?_⟩
                  rw [anyC hI40]; exact or_step hi2 (by clear hi2; simp_all)
                · first | omega | (dsimp only; omega) | (simp only []; omega)
              · refine LJ.yd rfl (Yd.mvB rfl) ?_
                refine LJ.gT rfl ?_
                refine LJ.yd rfl (Yd.mvI rfl) ?_
                refine LJ.gT rfl ?_
                refine LJ.yd rfl (Yd.fieldAddr rfl) ?_
                refine LJ.gT rfl ?_
                refine LJ.yd rfl (Yd.loadC 2 rfl rfl rfl) ?_
                refine LJ.gT rfl ?_
                refine LJ.splitD rfl (Yd.eql rfl rfl) (fun h47 => ?_) (fun h47 => ?_)
                · refine LJ.yd rfl (Yd.pickFB rfl rfl) ?_
                  refine LJ.yd rfl (Yd.mvB rfl) ?_
                  refine LJ.gF rfl rfl ?_
                  refine LJ.gF rfl rfl ?_
                  refine LJ.gF rfl rfl ?_
                  refine LJ.gF rfl rfl ?_
                  refine LJ.gF rfl rfl ?_
                  refine LJ.gF rfl rfl ?_
                  refine LJ.gF rfl rfl ?_
                  refine LJ.yd rfl (Yd.pickTB rfl rfl) ?_
                  refine LJ.yd rfl (Yd.asB rfl) ?_
                  refine LJ.nil ?_
                  refine CJ.region ?_
                  refine LJ.yd rfl (Yd.mvI rfl) ?_
                  refine LJ.yd rfl (Yd.add rfl rfl (by unfold I64; omega)) ?_
                  refine LJ.yd rfl (Yd.asI rfl) ?_
                  refine LJ.nil ?_
                  refine ⟨(j + 1, _), ?_, ⟨rfl, rfl, rfl, rfl, rfl, rfl, rfl, rfl, rfl, rfl, rfl, rfl, rfl, rfl, rfl, rfl, trivial⟩, ⟨rfl, rfl, trivial⟩, Ent.pick [0, 1] [2] rfl, ?_⟩
                  · refine ⟨by omega, ?_⟩
                    rw [anyC hI40]; exact or_step hi2 (by clear hi2; simp_all)
                  · first | omega | (dsimp only; omega) | (simp only []; omega)
                · refine LJ.yd rfl (Yd.pickFB rfl rfl) ?_
                  refine LJ.yd rfl (Yd.mvB rfl) ?_
                  refine LJ.gT rfl ?_
                  refine LJ.yd rfl (Yd.mvI rfl) ?_
                  refine LJ.gT rfl ?_
                  refine LJ.yd rfl (Yd.fieldAddr rfl) ?_
                  refine LJ.gT rfl ?_
                  refine LJ.yd rfl (Yd.loadC 2 rfl rfl rfl) ?_
                  refine LJ.gT rfl ?_
                  refine LJ.yd rfl (Yd.fieldAddr rfl) ?_
                  refine LJ.gT rfl ?_
                  refine LJ.yd rfl (Yd.loadC 2 rfl rfl rfl) ?_
                  refine LJ.gT rfl ?_
                  refine LJ.yd rfl (Yd.add rfl rfl (by unfold I64; omega)) ?_
                  refine LJ.gT rfl ?_
                  refine LJ.splitD rfl (Yd.eql rfl rfl) (fun h56 => ?_) (fun h56 => ?_)
                  · refine LJ.yd rfl (Yd.pickFB rfl rfl) ?_
                    refine LJ.yd rfl (Yd.asB rfl) ?_
                    refine LJ.nil ?_
                    refine CJ.region ?_
                    refine LJ.yd rfl (Yd.mvI rfl) ?_
                    refine LJ.yd rfl (Yd.add rfl rfl (by unfold I64; omega)) ?_
                    refine LJ.yd rfl (Yd.asI rfl) ?_
                    refine LJ.nil ?_
                    refine ⟨(j + 1, _), ?_, ⟨rfl, rfl, rfl, rfl, rfl, rfl, rfl, rfl, rfl, rfl, rfl, rfl, rfl, rfl, rfl, rfl, trivial⟩, ⟨rfl, rfl, trivial⟩, Ent.pick [0, 1] [2] rfl, ?_⟩
                    · refine ⟨by omega, ?_⟩
                      rw [anyC hI40]; exact or_step hi2 (by clear hi2; simp_all)
                    · first | omega | (dsimp only; omega) | (simp only []; omega)
                  · refine LJ.yd rfl (Yd.pickFB rfl rfl) ?_
                    refine LJ.yd rfl (Yd.asB rfl) ?_
                    refine LJ.nil ?_
                    refine CJ.region ?_
                    refine LJ.yd rfl (Yd.mvI rfl) ?_
                    refine LJ.yd rfl (Yd.add rfl rfl (by unfold I64; omega)) ?_
                    refine LJ.yd rfl (Yd.asI rfl) ?_
                    refine LJ.nil ?_
                    refine ⟨(j + 1, _), ?_, ⟨rfl, rfl, rfl, rfl, rfl, rfl, rfl, rfl, rfl, rfl, rfl, rfl, rfl, rfl, rfl, rfl, trivial⟩, ⟨rfl, rfl, trivial⟩, Ent.pick [0, 1] [2] rfl, ?_⟩
                    · refine ⟨by omega, ?_⟩
                      rw [anyC hI40]; exact or_step hi2 (by clear hi2; simp_all)
                    · first | omega | (dsimp only; omega) | (simp only []; omega)
            · refine LJ.nil ?_
              refine CJ.condF rfl ?_
              refine CJ.exit ?_
              refine CJ.seq ?_
              refine CJ.region ?_
              refine LJ.split rfl (Yd.mvB rfl) (fun h74 => ?_) (fun h74 => ?_)
              · refine LJ.nil ?_
                refine CJ.condT rfl ?_
                refine CJ.region ?_
                refine LJ.yd rfl (Yd.mvS rfl) ?_
                refine LJ.yd rfl (Yd.mvI rfl) ?_
                refine LJ.op rfl (OpR.buildSlice (cs := [_]) rfl rfl) ?_
                rintro _ _ ⟨b8, rfl, rfl⟩
                refine LJ.op rfl (OpR.apT (enc := encI) [_] 1 2 rfl rfl rfl (by first | rfl | omega | (simp; done) | (simp; omega) | (simp [upN_len]; omega) | (simp [idxBy_len]; omega) | (simp [marks_len]; omega) | (simp [upN_len]; done) | (simp [idxBy_len]; done) | (simp [marks_len]; done) | (simp at *; omega)) rfl rfl rfl rfl rfl (by first | rfl | omega | (simp; done) | (simp; omega) | (simp [upN_len]; omega) | (simp [idxBy_len]; omega) | (simp [marks_len]; omega) | (simp [upN_len]; done) | (simp [idxBy_len]; done) | (simp [marks_len]; done) | (simp at *; omega))) ?_
                rintro _ _ ⟨ra78, rc78, rfl, rfl⟩
                refine LJ.norm [_, _, _] rfl ?_
                refine LJ.yd rfl (Yd.asS rfl) ?_
                refine LJ.nil ?_
                refine CJ.region ?_
                refine LJ.yd rfl (Yd.mvI rfl) ?_
                refine LJ.yd rfl (Yd.add rfl rfl (by unfold I64; omega)) ?_
                refine LJ.yd rfl (Yd.asI rfl) ?_
                refine LJ.nil ?_
                refine ⟨(k + 1, _, _, _, _), ?_, ⟨rfl, rfl, rfl, rfl, trivial⟩, ⟨rfl, rfl, trivial⟩, Ent.pick [0, 1] [2] rfl, ?_⟩
                · refine ⟨(by first | rfl | omega | (simp; done) | (simp; omega) | (simp [upN_len]; omega) | (simp [idxBy_len]; omega) | (simp [marks_len]; omega) | (simp [upN_len]; done) | (simp [idxBy_len]; done) | (simp [marks_len]; done) | (simp at *; omega)), ?_⟩
                  refine ⟨by omega, ?_⟩
                  have hxl : (IY fl).length = fl.length := by simp [IY]
                  rw [List.take_of_length_le (by omega)] at hi2
                  first
                    | (refine ⟨by simp; omega, ?_⟩; rw [lnU_T (by rw [lnB, ← hi2]; assumption), ← hi1]; done)
                    | (refine ⟨by omega, ?_⟩; rw [lnU_F (by rw [lnB, ← hi2]; assumption), ← hi1]; done)
                · first | omega | (dsimp only; omega) | (simp only []; omega)
              · refine LJ.nil ?_
                refine CJ.condF rfl ?_
                refine CJ.skip ?_
                refine CJ.region ?_
                refine LJ.yd rfl (Yd.mvI rfl) ?_
                refine LJ.yd rfl (Yd.add rfl rfl (by unfold I64; omega)) ?_
                refine LJ.yd rfl (Yd.asI rfl) ?_
                refine LJ.nil ?_
                refine ⟨(k + 1, _, _, _, _), ?_, ⟨rfl, rfl, rfl, rfl, trivial⟩, ⟨rfl, rfl, trivial⟩, Ent.refl _, ?_⟩
                · refine ⟨(by first | rfl | omega | (simp; done) | (simp; omega) | (simp [upN_len]; omega) | (simp [idxBy_len]; omega) | (simp [marks_len]; omega) | (simp [upN_len]; done) | (simp [idxBy_len]; done) | (simp [marks_len]; done) | (simp at *; omega)), ?_⟩
                  refine ⟨by omega, ?_⟩
                  have hxl : (IY fl).length = fl.length := by simp [IY]
                  rw [List.take_of_length_le (by omega)] at hi2
                  first
                    | (refine ⟨by simp; omega, ?_⟩; rw [lnU_T (by rw [lnB, ← hi2]; assumption), ← hi1]; done)
                    | (refine ⟨by omega, ?_⟩; rw [lnU_F (by rw [lnB, ← hi2]; assumption), ← hi1]; done)
                · first | omega | (dsimp only; omega) | (simp only []; omega)
    · refine LJ.nil ?_
      refine CJ.condF rfl ?_
      refine CJ.exit ?_
      refine CJ.seq ?_
      refine CJ.region ?_
      refine LJ.yd rfl (Yd.mvS rfl) ?_
      refine LJ.yd rfl (Yd.asS rfl) ?_
      refine LJ.nil ?_
      refine CJ.ret ?_
      refine Fin.RL 1 (Res.one (ResV.tmp (v := .slice _ _ _) rfl)) rfl (by first | rfl | simp) ?_
      rw [hi1, lnL, show k = (H + 1).toNat by omega]
theorem before_ok (A : Amb) (a b : Box) : Ctr Try.prog 86 #[agB a, agB b] A [] (Val (.bool (if a.Y ≠ b.Y then decide (a.Y < b.Y) else if a.X ≠ b.X then decide (a.X < b.X) else decide (a.W < b.W)))) := by
  refine Ctr.body (args := [_, _]) Try.func86 rfl Try.ntmps86 Try.results86 (by simp) ?_
  refine CJ.seq ?_
  refine CJ.region ?_
  refine LJ.boxG (vs := [_, _, _, _]) rfl rfl (fun b1 => ?_)
  refine LJ.boxG (vs := [_, _, _, _]) rfl rfl (fun b2 => ?_)
  refine LJ.yd rfl (Yd.asB rfl) ?_
  refine LJ.nil ?_
  refine CJ.seq ?_
  refine CJ.seq ?_
  refine CJ.region ?_
  refine LJ.yd rfl (Yd.fieldAddr rfl) ?_
  refine LJ.yd rfl (Yd.loadC 0 rfl rfl rfl) ?_
  refine LJ.yd rfl (Yd.fieldAddr rfl) ?_
  refine LJ.yd rfl (Yd.loadC 1 rfl rfl rfl) ?_
  refine LJ.splitN rfl (Yd.neq rfl rfl) (fun h9 => ?_) (fun h9 => ?_)
  · refine LJ.nil ?_
    refine CJ.condT rfl ?_
    refine CJ.seq ?_
    refine CJ.region ?_
    refine LJ.yd rfl (Yd.fieldAddr rfl) ?_
    refine LJ.yd rfl (Yd.loadC 0 rfl rfl rfl) ?_
    refine LJ.yd rfl (Yd.fieldAddr rfl) ?_
    refine LJ.yd rfl (Yd.loadC 1 rfl rfl rfl) ?_
    refine LJ.yd rfl (Yd.lss rfl rfl) ?_
    refine LJ.yd rfl (Yd.asB rfl) ?_
    refine LJ.nil ?_
    refine CJ.ret ?_
    refine Fin.V (Res.one (ResV.tmp (v := .bool _) rfl)) ?_
    refine congrArg Value.bool ?_; simp_all
  · refine LJ.nil ?_
    refine CJ.condF rfl ?_
    refine CJ.skip ?_
    refine CJ.seq ?_
    refine CJ.seq ?_
    refine CJ.region ?_
    refine LJ.yd rfl (Yd.fieldAddr rfl) ?_
    refine LJ.yd rfl (Yd.loadC 0 rfl rfl rfl) ?_
    refine LJ.yd rfl (Yd.fieldAddr rfl) ?_
    refine LJ.yd rfl (Yd.loadC 1 rfl rfl rfl) ?_
    refine LJ.splitN rfl (Yd.neq rfl rfl) (fun h19 => ?_) (fun h19 => ?_)
    · refine LJ.nil ?_
      refine CJ.condT rfl ?_
      refine CJ.seq ?_
      refine CJ.region ?_
      refine LJ.yd rfl (Yd.fieldAddr rfl) ?_
      refine LJ.yd rfl (Yd.loadC 0 rfl rfl rfl) ?_
      refine LJ.yd rfl (Yd.fieldAddr rfl) ?_
      refine LJ.yd rfl (Yd.loadC 1 rfl rfl rfl) ?_
      refine LJ.yd rfl (Yd.lss rfl rfl) ?_
      refine LJ.yd rfl (Yd.asB rfl) ?_
      refine LJ.nil ?_
      refine CJ.ret ?_
      refine Fin.V (Res.one (ResV.tmp (v := .bool _) rfl)) ?_
      refine congrArg Value.bool ?_; simp_all
    · refine LJ.nil ?_
      refine CJ.condF rfl ?_
      refine CJ.skip ?_
      refine CJ.seq ?_
      refine CJ.region ?_
      refine LJ.yd rfl (Yd.fieldAddr rfl) ?_
      refine LJ.yd rfl (Yd.loadC 0 rfl rfl rfl) ?_
      refine LJ.yd rfl (Yd.fieldAddr rfl) ?_
      refine LJ.yd rfl (Yd.loadC 1 rfl rfl rfl) ?_
      refine LJ.yd rfl (Yd.lss rfl rfl) ?_
      refine LJ.yd rfl (Yd.asB rfl) ?_
      refine LJ.nil ?_
      refine CJ.ret ?_
      refine Fin.V (Res.one (ResV.tmp (v := .bool _) rfl)) ?_
      refine congrArg Value.bool ?_; simp_all
end Go.Proofs.Ytnfnidplhkfamaa
