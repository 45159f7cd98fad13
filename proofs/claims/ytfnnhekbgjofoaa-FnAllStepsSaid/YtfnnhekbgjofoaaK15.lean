/-
  The law on all orders of cuts.
-/
import Derived.Test.YtfnnhekbgjofoaaK14
import Derived.Test.YtfnnhekbgjofoaaK12
namespace Go.Proofs.Ytfnnhekbgjofoaa
open Go
set_option maxRecDepth 20000
set_option maxHeartbeats 1000000

theorem chs_all : ((List.range 6).all fun n => (List.range 6).all fun k => (List.range 6).all fun i => decide (n < k) || (decide (k < i) || (decide (0 ≤ chs n k i 1) && (decide (chs n k i 1 ≤ 1000) && (decide (0 ≤ chs n k i 1 * ((n : Int) - k + (i + 1 : Nat))) && decide (chs n k i 1 * ((n : Int) - k + (i + 1 : Nat)) ≤ 10000)))))) = true := by decide +kernel
theorem chs_b {n k i : Nat} (hn : n ≤ 5) (hk : k ≤ n) (hi : i ≤ k) : 0 ≤ chs n k i 1 ∧ chs n k i 1 ≤ 1000 ∧ 0 ≤ chs n k i 1 * ((n : Int) - k + (i + 1 : Nat)) ∧ chs n k i 1 * ((n : Int) - k + (i + 1 : Nat)) ≤ 10000 := by
  have h := List.all_eq_true.1 (List.all_eq_true.1 (List.all_eq_true.1 chs_all n (List.mem_range.2 (by omega))) k (List.mem_range.2 (by omega))) i (List.mem_range.2 (by omega))
  rw [decide_eq_false (by omega : ¬ n < k), decide_eq_false (by omega : ¬ k < i)] at h
  simpa only [Bool.false_or, Bool.and_eq_true, decide_eq_true_eq] using h
theorem chooseN_ok {A : Amb} {n k : Nat} (hn : n ≤ 5) (hk : k ≤ n) : Ctr Try.prog 87 #[vI n, vI k] A [] (Val (vI (chs n k k 1))) := by
  refine Ctr.body (args := [_, _]) Try.func87 rfl Try.ntmps87 Try.results87 (by simp) ?_
  refine CJ.seq ?_
  refine CJ.region ?_
  refine LJ.yd rfl (Yd.asI rfl) ?_
  refine LJ.nil ?_
  refine CJ.seq ?_
  refine CJ.region ?_
  refine LJ.yd rfl (Yd.asI rfl) ?_
  refine LJ.nil ?_
  refine CJ.seq ?_
  refine CJ.seq ?_
  refine CJ.region ?_
  refine LJ.yd rfl (Yd.asI rfl) ?_
  refine LJ.nil ?_
  refine CJ.block ?_
  refine CJ.loopK [0, 1, 4] (Nat × Int) (fun ⟨kk, w⟩ => kk ≤ k ∧ w = chs n k kk 1) (fun ⟨kk, w⟩ => [(6, vI (kk + 1)), (5, vI w)]) (fun ⟨kk, w⟩ => k - kk) (0, 1) ?_ ⟨rfl, rfl, trivial⟩ ?_
  · exact ⟨by omega, by rfl⟩
  · rintro ⟨kk, w⟩ σ ⟨hk1, hi1⟩
    obtain ⟨hb1, hb2, hb3, hb4⟩ := chs_b hn hk hk1
    refine CJ.seq ?_
    refine CJ.seq ?_
    refine CJ.region ?_
    refine LJ.yd rfl (Yd.mvI rfl) ?_
    refine LJ.yd rfl (Yd.mvI rfl) ?_
    refine LJ.splitD rfl (Yd.leq rfl rfl) (fun h9 => ?_) (fun h9 => ?_)
    · refine LJ.nil ?_
      refine CJ.condT rfl ?_
      refine CJ.skip ?_
      refine CJ.seq ?_
      refine CJ.block ?_
      refine CJ.region ?_
      refine LJ.yd rfl (Yd.mvI rfl) ?_
      refine LJ.yd rfl (Yd.mvI rfl) ?_
      refine LJ.yd rfl (Yd.mvI rfl) ?_
      refine LJ.yd rfl (Yd.sub rfl rfl (by unfold I64; omega)) ?_
      refine LJ.yd rfl (Yd.mvI rfl) ?_
      refine LJ.yd rfl (Yd.add rfl rfl (by unfold I64; omega)) ?_
      refine LJ.yd rfl (Yd.mul rfl rfl (by rw [hi1]; have e : ((kk : Int) + 1) = ((kk + 1 : Nat) : Int) := rfl; rw [e]; unfold I64; omega)) ?_
      refine LJ.yd rfl (Yd.mvI rfl) ?_
      refine LJ.yd rfl (Yd.quo rfl rfl (by rw [hi1]; exact hb3) (by omega) (by rw [hi1]; have e : ((kk : Int) + 1) = ((kk + 1 : Nat) : Int) := rfl; rw [e]; have h1 := Int.ediv_nonneg hb3 (show (0 : Int) ≤ (kk + 1 : Nat) by omega); have h2 := Int.ediv_le_self ((kk + 1 : Nat) : Int) hb3; unfold I64; omega)) ?_
      refine LJ.yd rfl (Yd.asI rfl) ?_
      refine LJ.nil ?_
      refine CJ.region ?_
      refine LJ.yd rfl (Yd.mvI rfl) ?_
      refine LJ.yd rfl (Yd.add rfl rfl (by unfold I64; omega)) ?_
      refine LJ.yd rfl (Yd.asI rfl) ?_
      refine LJ.nil ?_
      refine ⟨(kk + 1, _), ?_, ⟨rfl, rfl, rfl, trivial⟩, ⟨rfl, rfl, trivial⟩, Ent.refl _, ?_⟩
      · refine ⟨by omega, ?_⟩
        rw [hi1]; rfl
      · first | omega | (dsimp only; omega) | (simp only []; omega)
    · refine LJ.nil ?_
      refine CJ.condF rfl ?_
      refine CJ.exit ?_
      refine CJ.seq ?_
      refine CJ.region ?_
      refine LJ.yd rfl (Yd.mvI rfl) ?_
      refine LJ.yd rfl (Yd.asI rfl) ?_
      refine LJ.nil ?_
      refine CJ.ret ?_
      refine Fin.V (Res.one (ResV.tmp (v := .int _ _) rfl)) ?_
      have : kk = k := by omega
      subst this; rw [hi1]
theorem choose_ok {A : Amb} {n k : Int} (h0 : 0 ≤ k) (h1 : k ≤ n) (h2 : n ≤ 5) : Ctr Try.prog 87 #[vI n, vI k] A [] (Val (vI (chs n k k.toNat 1))) := by
  obtain ⟨k, rfl⟩ := Int.eq_ofNat_of_zero_le h0
  obtain ⟨n, rfl⟩ := Int.eq_ofNat_of_zero_le (show 0 ≤ n by omega)
  exact chooseN_ok (by omega) (by omega)
theorem ordO_b {b : BT} (h : b.cuts ≤ 5) : 0 ≤ b.ordO ∧ b.ordO ≤ 100000 := by
  have h1 := ords_count h
  have h2 := ords_len (b.knots 0 (-1)) (b.knots 0 (-1)).length []
  have h3 := b.knots_len 0 (-1)
  have h4 := pow_small (n := (b.knots 0 (-1)).length) (m := (b.knots 0 (-1)).length) (by omega) (by omega)
  omega
theorem mulB {a b x y : Int} (h0 : 0 ≤ a) (h1 : a ≤ x) (h2 : 0 ≤ b) (h3 : b ≤ y) : 0 ≤ a * b ∧ a * b ≤ x * y := ⟨Int.mul_nonneg h0 h2, Int.mul_le_mul h1 h3 h2 (by omega)⟩
theorem ordersOf_ok (b : BT) : ∀ (A : Amb) (cs : List Value), b.cuts ≤ 5 → RdT A.h cs b → Ctr Try.prog 67 #[.agg cs.toArray] A [] (Val (.tuple #[vI b.cuts, vI b.ordO])) := by
  induction b with
  | w =>
    intro A cs hz hr
    cases hr
    refine Ctr.body (args := [_]) Try.func67 rfl Try.ntmps67 Try.results67 (by simp) ?_
    refine CJ.seq ?_
    refine CJ.region ?_
    refine LJ.boxG (vs := [_, _, _, _, _]) rfl rfl (fun b1 => ?_)
    refine LJ.yd rfl (Yd.asI rfl) ?_
    refine LJ.yd rfl (Yd.asI rfl) ?_
    refine LJ.nil ?_
    refine CJ.seq ?_
    refine CJ.seq ?_
    refine CJ.region ?_
    refine LJ.yd rfl (Yd.loadG (us := [_, _, _, _, _]) 0 rfl rfl rfl rfl) ?_
    refine LJ.callV rfl (fun k hk dk => isCutI_ok _ _ _ _ _ _) ?_
    refine LJ.yd rfl (Yd.not rfl) ?_
    refine LJ.nil ?_
    refine CJ.condT rfl ?_
    refine CJ.seq ?_
    refine CJ.region ?_
    refine LJ.yd rfl (Yd.asI rfl) ?_
    refine LJ.yd rfl (Yd.asI rfl) ?_
    refine LJ.nil ?_
    refine CJ.ret ?_
    refine Fin.V (Res.two (ResV.tmp (v := .int _ _) rfl) (ResV.tmp (v := .int _ _) rfl)) ?_
    rfl
  | p i t =>
    intro A cs hz hr
    cases hr
    refine Ctr.body (args := [_]) Try.func67 rfl Try.ntmps67 Try.results67 (by simp) ?_
    refine CJ.seq ?_
    refine CJ.region ?_
    refine LJ.boxG (vs := [_, _, _, _, _]) rfl rfl (fun b1 => ?_)
    refine LJ.yd rfl (Yd.asI rfl) ?_
    refine LJ.yd rfl (Yd.asI rfl) ?_
    refine LJ.nil ?_
    refine CJ.seq ?_
    refine CJ.seq ?_
    refine CJ.region ?_
    refine LJ.yd rfl (Yd.loadG (us := [_, _, _, _, _]) 0 rfl rfl rfl rfl) ?_
    refine LJ.callV rfl (fun k hk dk => isCutI_ok _ _ _ _ _ _) ?_
    refine LJ.yd rfl (Yd.not rfl) ?_
    refine LJ.nil ?_
    refine CJ.condT rfl ?_
    refine CJ.seq ?_
    refine CJ.region ?_
    refine LJ.yd rfl (Yd.asI rfl) ?_
    refine LJ.yd rfl (Yd.asI rfl) ?_
    refine LJ.nil ?_
    refine CJ.ret ?_
    refine Fin.V (Res.two (ResV.tmp (v := .int _ _) rfl) (ResV.tmp (v := .int _ _) rfl)) ?_
    rfl
  | c d a l r ihl ihr =>
    intro A cs hz hr
    obtain _ | _ | ⟨ha, hcap, hrow, hl, hr⟩ := hr
    have h1 := l.cuts_nonneg
    have h2 := r.cuts_nonneg
    simp only [BT.cuts] at hz
    obtain ⟨o1, o2⟩ := ordO_b (b := l) (by omega)
    obtain ⟨o3, o4⟩ := ordO_b (b := r) (by omega)
    obtain ⟨c1, c2⟩ : 0 ≤ chs (l.cuts + r.cuts) l.cuts l.cuts.toNat 1 ∧ chs (l.cuts + r.cuts) l.cuts l.cuts.toNat 1 ≤ 1000 := by
      obtain ⟨k, hk⟩ := Int.eq_ofNat_of_zero_le h1
      obtain ⟨n, hn⟩ := Int.eq_ofNat_of_zero_le (show 0 ≤ l.cuts + r.cuts by omega)
      rw [hn, hk]
      obtain ⟨h3, h4, _⟩ := chs_b (n := n) (k := k) (i := k) (by omega) (by omega) (by omega)
      exact ⟨h3, h4⟩
    obtain ⟨m1, m2⟩ := mulB c1 c2 o1 o2
    obtain ⟨m3, m4⟩ := mulB m1 m2 o3 o4
    refine Ctr.body (args := [_]) Try.func67 rfl Try.ntmps67 Try.results67 (by simp) ?_
    refine CJ.seq ?_
    refine CJ.region ?_
    refine LJ.boxG (vs := [_, _, _, _, _]) rfl rfl (fun b1 => ?_)
    refine LJ.yd rfl (Yd.asI rfl) ?_
    refine LJ.yd rfl (Yd.asI rfl) ?_
    refine LJ.nil ?_
    refine CJ.seq ?_
    refine CJ.seq ?_
    refine CJ.region ?_
    refine LJ.yd rfl (Yd.loadG (us := [_, _, _, _, _]) 0 rfl rfl rfl rfl) ?_
    refine LJ.callV rfl (fun k hk dk => isCutI_c _ _ _ _ _ _) ?_
    refine LJ.yd rfl (Yd.not rfl) ?_
    refine LJ.nil ?_
    refine CJ.condF rfl ?_
    refine CJ.skip ?_
    refine CJ.seq ?_
    refine CJ.region ?_
    refine LJ.yd rfl (Yd.fieldAddr rfl) ?_
    refine LJ.yd rfl (Yd.loadC 0 rfl rfl rfl) ?_
    refine LJ.yd rfl (Yd.indexAddr rfl rfl (by omega) (by simp)) ?_
    refine LJ.yd rfl (Yd.loadRow (i := 0) hrow.up rfl (by simp) rfl hl.len) ?_
    refine LJ.callV rfl (fun k hk dk => ihl _ _ (by omega) hl.up) ?_
    refine LJ.yd rfl (Yd.mvU rfl) ?_
    refine LJ.yd rfl (Yd.extract rfl rfl) ?_
    refine LJ.yd rfl (Yd.extract rfl rfl) ?_
    refine LJ.yd rfl (Yd.asI rfl) ?_
    refine LJ.yd rfl (Yd.asI rfl) ?_
    refine LJ.nil ?_
    refine CJ.seq ?_
    refine CJ.region ?_
    refine LJ.yd rfl (Yd.fieldAddr rfl) ?_
    refine LJ.yd rfl (Yd.loadC 0 rfl rfl rfl) ?_
    refine LJ.yd rfl (Yd.indexAddr rfl rfl (by omega) (by simp)) ?_
    refine LJ.yd rfl (Yd.loadRow (i := 1) hrow.up rfl (by simp) rfl hr.len) ?_
    refine LJ.callV rfl (fun k hk dk => ihr _ _ (by omega) hr.up) ?_
    refine LJ.yd rfl (Yd.mvU rfl) ?_
    refine LJ.yd rfl (Yd.extract rfl rfl) ?_
    refine LJ.yd rfl (Yd.extract rfl rfl) ?_
    refine LJ.yd rfl (Yd.asI rfl) ?_
    refine LJ.yd rfl (Yd.asI rfl) ?_
    refine LJ.nil ?_
    refine CJ.seq ?_
    refine CJ.region ?_
    refine LJ.yd rfl (Yd.mvI rfl) ?_
    refine LJ.yd rfl (Yd.mvI rfl) ?_
    refine LJ.yd rfl (Yd.add rfl rfl (by unfold I64; omega)) ?_
    refine LJ.yd rfl (Yd.add rfl rfl (by unfold I64; omega)) ?_
    refine LJ.yd rfl (Yd.mvI rfl) ?_
    refine LJ.yd rfl (Yd.mvI rfl) ?_
    refine LJ.yd rfl (Yd.add rfl rfl (by unfold I64; omega)) ?_
    refine LJ.yd rfl (Yd.mvI rfl) ?_
    refine LJ.callV rfl (fun k hk dk => choose_ok (by omega) (by omega) (by omega)) ?_
    refine LJ.yd rfl (Yd.mvI rfl) ?_
    refine LJ.yd rfl (Yd.mul rfl rfl (by unfold I64; omega)) ?_
    refine LJ.yd rfl (Yd.mvI rfl) ?_
    refine LJ.yd rfl (Yd.mul rfl rfl (by unfold I64; omega)) ?_
    refine LJ.yd rfl (Yd.asI rfl) ?_
    refine LJ.yd rfl (Yd.asI rfl) ?_
    refine LJ.nil ?_
    refine CJ.ret ?_
    refine Fin.V (Res.two (ResV.tmp (v := .int _ _) rfl) (ResV.tmp (v := .int _ _) rfl)) ?_
    have e : (BT.c d a l r).cuts = l.cuts + r.cuts + 1 := by simp only [BT.cuts]; omega
    rw [e]; rfl
theorem CountSteps_ok {A : Amb} {cs : List Value} {b : BT} (h : RdT A.h cs b) (hz : b.sz ≤ 255) (hc : b.cuts ≤ 5) : Ctr Try.prog 27 #[.agg cs.toArray] A [] (Val (vI b.ordO)) := by
  have hp := b.sz_pos
  have hsc := b.sz_cuts
  have hcn := b.cuts_nonneg
  have hps : psz b.plan = b.sz := by rw [psz_BT, if_pos hz]
  obtain ⟨o, a, p, t, x, n, c, rfl⟩ := h.i64
  refine Ctr.body (args := [_]) Try.func27 rfl Try.ntmps27 Try.results27 (by simp) ?_
  refine CJ.seq ?_
  refine CJ.region ?_
  refine LJ.boxG (vs := [_, _, _, _, _]) rfl rfl (fun b1 => ?_)
  refine LJ.yd rfl (Yd.asI rfl) ?_
  refine LJ.nil ?_
  refine CJ.seq ?_
  refine CJ.seq ?_
  refine CJ.region ?_
  refine LJ.yd rfl (Yd.loadG (us := [_, _, _, _, _]) 0 rfl rfl rfl rfl) ?_
  refine LJ.callV rfl (fun k hk dk => (show Ctr _ _ _ _ _ (Val (vI b.cuts)) from by have := CutsOf_ok (RdPlan.of_BT h).up (A := A.ext k); rwa [hps, if_neg (by omega), show b.sz / 2 = b.cuts by omega] at this)) ?_
  refine LJ.yd rfl (Yd.asI rfl) ?_
  refine LJ.nil ?_
  refine CJ.seq ?_
  refine CJ.region ?_
  refine LJ.yd rfl (Yd.mvI rfl) ?_
  refine LJ.yd rfl (Yd.cmpF (Yd.lss rfl rfl) (by omega)) ?_
  refine LJ.yd rfl (Yd.mvB rfl) ?_
  refine LJ.gT rfl ?_
  refine LJ.yd rfl (Yd.mvI rfl) ?_
  refine LJ.gT rfl ?_
  refine LJ.yd rfl (Yd.cmpF (Yd.gtr rfl rfl) (by omega)) ?_
  refine LJ.yd rfl (Yd.pickFB rfl rfl) ?_
  refine LJ.nil ?_
  refine CJ.condF rfl ?_
  refine CJ.skip ?_
  refine CJ.seq ?_
  refine CJ.region ?_
  refine LJ.yd rfl (Yd.loadG (us := [_, _, _, _, _]) 0 rfl rfl rfl rfl) ?_
  refine LJ.callV rfl (fun k hk dk => ordersOf_ok b _ _ hc h.up) ?_
  refine LJ.yd rfl (Yd.mvU rfl) ?_
  refine LJ.yd rfl (Yd.extract rfl rfl) ?_
  refine LJ.yd rfl (Yd.extract rfl rfl) ?_
  refine LJ.yd rfl (Yd.asI rfl) ?_
  refine LJ.yd rfl (Yd.asI rfl) ?_
  refine LJ.nil ?_
  refine CJ.seq ?_
  refine CJ.region ?_
  refine LJ.yd rfl (Yd.mvI rfl) ?_
  refine LJ.yd rfl (Yd.asI rfl) ?_
  refine LJ.nil ?_
  refine CJ.ret ?_
  refine Fin.V (Res.one (ResV.tmp (v := .int _ _) rfl)) ?_
  rfl
theorem asP_facts {q : Plan} {t : List Int} (ht : t ∈ asP q) : ¬ psz q < 0 ∧ (knP q).length ≤ 5 ∧ t.length = (knP q).length ∧ begOk (knP q) [] t = true := by
  unfold asP at ht
  split at ht
  · cases ht
  · rename_i h
    have := ords_mem (K := knP q) (knP q).length [] rfl t ht
    exact ⟨fun h2 => h (.inl h2), by omega, by simpa using this.2, this.1⟩
theorem asP_vs {q : Plan} {t : List Int} (ht : t ∈ asP q) : vsOk q t = true := by
  obtain ⟨h1, h2, h3, h4⟩ := asP_facts ht
  exact vsOk_iff.2 ⟨h1, h3, h4⟩
theorem asP_ne (q : Plan) : (asP q).Pairwise (· ≠ ·) := by
  unfold asP
  split
  · exact .nil
  · exact ords_ne (knP_ok q).asc _ _
theorem asP_len (q : Plan) : (asP q).length ≤ 100000 := by
  unfold asP
  split
  · simp
  · exact Nat.le_trans (ords_len _ _ _) (pow_small (by omega) (by omega))
theorem rows_len {q : Plan} {X : List (Rw Int)} (hX : X.map Rw.l = asP q) : ∀ u ∈ X, u.l.length ≤ 5 := fun u hu => by
  have : u.l ∈ asP q := by rw [← hX]; exact List.mem_map_of_mem hu
  obtain ⟨_, h2, h3, _⟩ := asP_facts this
  omega
theorem rows_big {q : Plan} {X : List (Rw Int)} (hX : X.map Rw.l = asP q) : ∀ u ∈ X, u.l.length ≤ 281474976710656 := fun u hu => by have := rows_len hX u hu; omega
theorem equalInts_ne {A : Amb} {v w : Value} {l l2 : List Int} (e : l ≠ l2) (hl : RdL encI 1 A.h v l) (hl2 : RdL encI 1 A.h w l2) : Ctr Try.prog 17 #[v, w] A [] (Val (.bool false)) := by
  have := equalInts_ok hl hl2
  rwa [decide_eq_false e] at this
theorem FnAllSteps_ok {A : Amb} {a : Option Addr} {n c : Nat} (h : Code A.h a n c) : Ctr Try.prog 5 #[.slice a n c] A [] (Val (.bool true)) := by
  refine Ctr.body (args := [_]) Try.func5 rfl Try.ntmps5 Try.results5 (by simp) ?_
  refine CJ.seq ?_
  refine CJ.region ?_
  refine LJ.yd rfl (Yd.asB rfl) ?_
  refine LJ.nil ?_
  refine CJ.seq ?_
  refine CJ.seq ?_
  refine CJ.region ?_
  refine LJ.yd rfl (Yd.mvS rfl) ?_
  refine LJ.yd rfl (Yd.len rfl) ?_
  refine LJ.splitD rfl (Yd.gtr rfl rfl) (fun h8 => ?_) (fun h8 => ?_)
  · refine LJ.nil ?_
    refine CJ.condT rfl ?_
    refine CJ.seq ?_
    refine CJ.region ?_
    refine LJ.yd rfl (Yd.asB rfl) ?_
    refine LJ.nil ?_
    refine CJ.ret ?_
    refine Fin.V (Res.one (ResV.tmp (v := .bool true) rfl)) ?_
    rfl
  · refine LJ.nil ?_
    refine CJ.condF rfl ?_
    refine CJ.skip ?_
    refine CJ.seq ?_
    refine CJ.region ?_
    refine LJ.yd rfl (Yd.mvS rfl) ?_
    refine LJ.call0 rfl (fun k hk dk => DrawAllSteps_ok h.up) ?_
    rintro _ _ ⟨o, e, i, t, x, m, l, pl, rfl, rfl⟩
    refine LJ.norm [_] rfl ?_
    refine LJ.alloc ([_, _, _, _, _] : List Value) rfl rfl (fun b1 => ?_)
    refine LJ.store (v := .agg #[_, _, _, _, _]) (us := [_, _, _, _, _]) 1 rfl rfl rfl rfl rfl rfl rfl rfl ?_
    refine LJ.nil ?_
    refine CJ.seq ?_
    refine CJ.amb (perm_pickF _ [0] [1] rfl) (fun m9 h9 d9 => ?_)
    refine CJ.norm [_] rfl ?_
    have hpl : RdPlan (A.ext m9).h [vI o, vI e, vI i, .bool t, .slice x m l] pl := RdPlan.mono (Amb.ext_own d9) h9
    refine CJ.region ?_
    refine LJ.yd rfl (Yd.loadG (us := [_, _, _, _, _]) 0 rfl rfl rfl rfl) ?_
    refine LJ.call0 rfl (fun k hk dk => AllStepsI_ok hpl.up) ?_
    rintro _ _ ⟨ra12, rc12, X, rfl, rfl, hX⟩
    have hXb := rows_len hX
    refine LJ.norm [_, _, _] rfl ?_
    refine LJ.yd rfl (Yd.asS rfl) ?_
    refine LJ.nil ?_
    refine CJ.seq ?_
    refine CJ.seq ?_
    refine CJ.region ?_
    refine LJ.yd rfl (Yd.mvS rfl) ?_
    refine LJ.yd rfl (Yd.loadG (us := [_, _, _, _, _]) 0 rfl rfl rfl rfl) ?_
    refine LJ.call0 rfl (fun k hk dk => AllStepsS_ok hpl.up) ?_
    rintro _ _ ⟨ra15, rc15, Y, rfl, rfl, hY⟩
    have hYb := rows_len hY
    have hXl : X.length ≤ 1000000 := by
      have h1 := congrArg List.length hX
      have h2 := asP_len pl
      rw [List.length_map] at h1; omega
    have hYl : Y.length ≤ 1000000 := by
      have h1 := congrArg List.length hY
      have h2 := asP_len pl
      rw [List.length_map] at h1; omega
    refine LJ.norm [_, _, _, _, _] rfl ?_
    refine LJ.callV rfl (fun k hk dk => equalLists_T (Sts.lrm hk dk 1 (by first | rfl | omega | (simp; done) | (simp; omega) | (simp [upN_len]; omega) | (simp [idxBy_len]; omega) | (simp [marks_len]; omega) | (simp [upN_len]; done) | (simp [idxBy_len]; done) | (simp [marks_len]; done) | (simp at *; omega)) (by first | rfl | omega | (simp; done) | (simp; omega) | (simp [upN_len]; omega) | (simp [idxBy_len]; omega) | (simp [marks_len]; omega) | (simp [upN_len]; done) | (simp [idxBy_len]; done) | (simp [marks_len]; done) | (simp at *; omega)) rfl) (Sts.lrm hk dk 3 (by first | rfl | omega | (simp; done) | (simp; omega) | (simp [upN_len]; omega) | (simp [idxBy_len]; omega) | (simp [marks_len]; omega) | (simp [upN_len]; done) | (simp [idxBy_len]; done) | (simp [marks_len]; done) | (simp at *; omega)) (by first | rfl | omega | (simp; done) | (simp; omega) | (simp [upN_len]; omega) | (simp [idxBy_len]; omega) | (simp [marks_len]; omega) | (simp [upN_len]; done) | (simp [idxBy_len]; done) | (simp [marks_len]; done) | (simp at *; omega)) rfl) (Sts.inns hk dk 2 (rows_big hX) rfl) (Sts.inns hk dk 4 (rows_big hY) rfl) (hX.trans hY.symm)) ?_
    refine LJ.yd rfl (Yd.not rfl) ?_
    refine LJ.yd rfl (Yd.mvB rfl) ?_
    refine LJ.gT rfl ?_
    refine LJ.yd rfl (Yd.mvS rfl) ?_
    refine LJ.gT rfl ?_
    refine LJ.yd rfl (Yd.len rfl) ?_
    refine LJ.gT rfl ?_
    refine LJ.splitD rfl (Yd.eql rfl rfl) (fun h21 => ?_) (fun h21 => ?_)
    · refine LJ.yd rfl (Yd.pickFB rfl rfl) ?_
      refine LJ.nil ?_
      refine CJ.condT rfl ?_
      refine CJ.seq ?_
      refine CJ.region ?_
      refine LJ.yd rfl (Yd.mvS rfl) ?_
      refine LJ.yd rfl (Yd.loadG (us := [_, _, _, _, _]) 0 rfl rfl rfl rfl) ?_
      refine LJ.call0 rfl (fun k hk dk => AllStepsS_ok hpl.up) ?_
      rintro _ _ ⟨ra25, rc25, Z, rfl, rfl, hZ⟩
      have hZb := rows_len hZ
      have hXl : X.length ≤ 1000000 := by
        have h1 := congrArg List.length hX
        have h2 := asP_len pl
        rw [List.length_map] at h1; omega
      have hZl : Z.length ≤ 1000000 := by
        have h1 := congrArg List.length hZ
        have h2 := asP_len pl
        rw [List.length_map] at h1; omega
      refine LJ.norm [_, _, _, _, _, _, _] rfl ?_
      refine LJ.callV rfl (fun k hk dk => equalLists_T (Sts.lrm hk dk 1 (by first | rfl | omega | (simp; done) | (simp; omega) | (simp [upN_len]; omega) | (simp [idxBy_len]; omega) | (simp [marks_len]; omega) | (simp [upN_len]; done) | (simp [idxBy_len]; done) | (simp [marks_len]; done) | (simp at *; omega)) (by first | rfl | omega | (simp; done) | (simp; omega) | (simp [upN_len]; omega) | (simp [idxBy_len]; omega) | (simp [marks_len]; omega) | (simp [upN_len]; done) | (simp [idxBy_len]; done) | (simp [marks_len]; done) | (simp at *; omega)) rfl) (Sts.lrm hk dk 5 (by first | rfl | omega | (simp; done) | (simp; omega) | (simp [upN_len]; omega) | (simp [idxBy_len]; omega) | (simp [marks_len]; omega) | (simp [upN_len]; done) | (simp [idxBy_len]; done) | (simp [marks_len]; done) | (simp at *; omega)) (by first | rfl | omega | (simp; done) | (simp; omega) | (simp [upN_len]; omega) | (simp [idxBy_len]; omega) | (simp [marks_len]; omega) | (simp [upN_len]; done) | (simp [idxBy_len]; done) | (simp [marks_len]; done) | (simp at *; omega)) rfl) (Sts.inns hk dk 2 (rows_big hX) rfl) (Sts.inns hk dk 6 (rows_big hZ) rfl) (hX.trans hZ.symm)) ?_
      refine LJ.yd rfl (Yd.asB rfl) ?_
      refine LJ.nil ?_
      refine CJ.ret ?_
      refine Fin.V (Res.one (ResV.tmp (v := .bool true) rfl)) ?_
      rfl
    · refine LJ.yd rfl (Yd.pickFB rfl rfl) ?_
      refine LJ.nil ?_
      refine CJ.condF rfl ?_
      refine CJ.skip ?_
      refine CJ.seq ?_
      refine CJ.seq ?_
      have hXn : asP pl ≠ [] := fun e => h21 (by rw [← hX] at e; simp at e; simp [e])
      have hc : ¬ (psz pl < 0 ∨ 5 < (knP pl).length) := fun h => hXn (by unfold asP; rw [if_pos h])
      obtain ⟨b, rfl, hz, hkn, hkc⟩ := knP_cuts (q := pl) (fun h => hc (.inl h))
      have hc5 : b.cuts ≤ 5 := by omega
      have hT : RdT (A.ext m9).h [vI o, vI e, vI i, .bool t, .slice x m l] b := RdT.of b hpl
      have hcount : (X.length : Int) = b.ordO := by
        have h1 := congrArg List.length hX
        rw [List.length_map] at h1
        unfold asP at h1
        rw [if_neg hc, hkn] at h1
        rw [h1]; exact ords_count hc5
      refine CJ.region ?_
      refine LJ.yd rfl (Yd.asI rfl) ?_
      refine LJ.nil ?_
      refine CJ.block ?_
      refine CJ.loopK [3, 4] Nat (fun k => k ≤ X.length) (fun k => [(5, vI k)]) (fun k => X.length - k) (0) ?_ ⟨rfl, trivial⟩ ?_
      · exact by omega
      · rintro k σ hk1
        refine CJ.seq ?_
        refine CJ.seq ?_
        refine CJ.region ?_
        refine LJ.yd rfl (Yd.mvI rfl) ?_
        refine LJ.yd rfl (Yd.mvS rfl) ?_
        refine LJ.yd rfl (Yd.len rfl) ?_
        refine LJ.splitD rfl (Yd.lss rfl rfl) (fun h30 => ?_) (fun h30 => ?_)
        · refine LJ.nil ?_
          refine CJ.condT rfl ?_
          refine CJ.skip ?_
          refine CJ.seq ?_
          refine CJ.block ?_
          refine CJ.seq ?_
          refine CJ.regionD [0, 1, 2, 3, 4] [] (by kernel_rfl) rfl ?_
          refine DJ.norm [_, _, _, _, _] [] rfl rfl ?_
          refine DJ.yd 0 rfl (by kernel_rfl) (by kernel_rfl) (by kernel_rfl) rfl rfl (Yd.loadG (us := [_, _, _, _, _]) 0 rfl rfl rfl rfl) ?_
          refine DJ.yd 1 rfl (by kernel_rfl) (by kernel_rfl) (by kernel_rfl) rfl rfl (Yd.mvS rfl) ?_
          refine DJ.yd 2 rfl (by kernel_rfl) (by kernel_rfl) (by kernel_rfl) rfl rfl (Yd.mvI rfl) ?_
          refine DJ.idxF 1 rfl 3 rfl (by kernel_rfl) (by kernel_rfl) (by kernel_rfl) rfl rfl rfl rfl (by omega) (by first | rfl | omega | (simp; done) | (simp; omega) | (simp [upN_len]; omega) | (simp [idxBy_len]; omega) | (simp [marks_len]; omega) | (simp [upN_len]; done) | (simp [idxBy_len]; done) | (simp [marks_len]; done) | (simp at *; omega)) (by first | rfl | omega | (simp; done) | (simp; omega) | (simp [upN_len]; omega) | (simp [idxBy_len]; omega) | (simp [marks_len]; omega) | (simp [upN_len]; done) | (simp [idxBy_len]; done) | (simp [marks_len]; done) | (simp at *; omega)) (fun ib36 ia36 => ?_)
          refine DJ.ldF 4 rfl (by kernel_rfl) (by kernel_rfl) (by kernel_rfl) rfl rfl 1 0 (fun u => .slice u.a u.l.length u.c) (fun _ => rfl) rfl ia36 rfl rfl (by first | rfl | omega | (simp; done) | (simp; omega) | (simp [upN_len]; omega) | (simp [idxBy_len]; omega) | (simp [marks_len]; omega) | (simp [upN_len]; done) | (simp [idxBy_len]; done) | (simp [marks_len]; done) | (simp at *; omega)) (fun u37 hu37 => ?_)
          try simp only [Int.toNat_natCast] at hu37
          have hf37 := hXb u37 (List.mem_of_getElem? hu37)
          refine DJ.one (i := 5) (by kernel_rfl) ?_
          refine DO.callV rfl rfl rfl (fun k0 hk0 dk0 k hk dk => ValidStepsI_t hpl.up (RdRow.up (Sts.inn hk0 dk0 2 hu37 (by first | rfl | omega | (simp; done) | (simp; omega) | (simp [upN_len]; omega) | (simp [idxBy_len]; omega) | (simp [marks_len]; omega) | (simp [upN_len]; done) | (simp [idxBy_len]; done) | (simp [marks_len]; done) | (simp at *; omega)) rfl)) (asP_vs (hX ▸ List.mem_map_of_mem (List.mem_of_getElem? hu37)))) ?_
          refine DJ.yd 6 rfl (by kernel_rfl) (by kernel_rfl) (by kernel_rfl) rfl rfl (Yd.not rfl) ?_
          refine DJ.yd 7 rfl (by kernel_rfl) (by kernel_rfl) (by kernel_rfl) rfl rfl (Yd.mvB rfl) ?_
          refine DJ.yd 8 rfl (by kernel_rfl) (by kernel_rfl) (by kernel_rfl) rfl rfl (Yd.mvI rfl) ?_
          refine DJ.splitD 9 rfl (by kernel_rfl) (by kernel_rfl) (by kernel_rfl) rfl rfl (Yd.gtr rfl rfl) (fun h42 => ?_) (fun h42 => ?_)
          · refine DJ.yd 10 rfl (by kernel_rfl) (by kernel_rfl) (by kernel_rfl) rfl rfl (Yd.mvB rfl) ?_
            refine DJ.yd 11 rfl (by kernel_rfl) (by kernel_rfl) (by kernel_rfl) rfl rfl (Yd.mvS rfl) ?_
            refine DJ.yd 12 rfl (by kernel_rfl) (by kernel_rfl) (by kernel_rfl) rfl rfl (Yd.mvI rfl) ?_
            refine DJ.idxF 1 rfl 13 rfl (by kernel_rfl) (by kernel_rfl) (by kernel_rfl) rfl rfl rfl rfl (by omega) (by first | rfl | omega | (simp; done) | (simp; omega) | (simp [upN_len]; omega) | (simp [idxBy_len]; omega) | (simp [marks_len]; omega) | (simp [upN_len]; done) | (simp [idxBy_len]; done) | (simp [marks_len]; done) | (simp at *; omega)) (by first | rfl | omega | (simp; done) | (simp; omega) | (simp [upN_len]; omega) | (simp [idxBy_len]; omega) | (simp [marks_len]; omega) | (simp [upN_len]; done) | (simp [idxBy_len]; done) | (simp [marks_len]; done) | (simp at *; omega)) (fun ib46 ia46 => ?_)
            refine DJ.ldF 14 rfl (by kernel_rfl) (by kernel_rfl) (by kernel_rfl) rfl rfl 1 0 (fun u => .slice u.a u.l.length u.c) (fun _ => rfl) rfl ia46 rfl rfl (by first | rfl | omega | (simp; done) | (simp; omega) | (simp [upN_len]; omega) | (simp [idxBy_len]; omega) | (simp [marks_len]; omega) | (simp [upN_len]; done) | (simp [idxBy_len]; done) | (simp [marks_len]; done) | (simp at *; omega)) (fun u47 hu47 => ?_)
            try simp only [Int.toNat_natCast] at hu47
            have hf47 := hXb u47 (List.mem_of_getElem? hu47)
            refine DJ.yd 15 rfl (by kernel_rfl) (by kernel_rfl) (by kernel_rfl) rfl rfl (Yd.mvS rfl) ?_
            refine DJ.yd 16 rfl (by kernel_rfl) (by kernel_rfl) (by kernel_rfl) rfl rfl (Yd.mvI rfl) ?_
            refine DJ.yd 17 rfl (by kernel_rfl) (by kernel_rfl) (by kernel_rfl) rfl rfl (Yd.sub rfl rfl (by unfold I64; omega)) ?_
            refine DJ.idxF 1 rfl 18 rfl (by kernel_rfl) (by kernel_rfl) (by kernel_rfl) rfl rfl rfl rfl (by omega) (by first | rfl | omega | (simp; done) | (simp; omega) | (simp [upN_len]; omega) | (simp [idxBy_len]; omega) | (simp [marks_len]; omega) | (simp [upN_len]; done) | (simp [idxBy_len]; done) | (simp [marks_len]; done) | (simp at *; omega)) (by first | rfl | omega | (simp; done) | (simp; omega) | (simp [upN_len]; omega) | (simp [idxBy_len]; omega) | (simp [marks_len]; omega) | (simp [upN_len]; done) | (simp [idxBy_len]; done) | (simp [marks_len]; done) | (simp at *; omega)) (fun ib51 ia51 => ?_)
            refine DJ.ldF 19 rfl (by kernel_rfl) (by kernel_rfl) (by kernel_rfl) rfl rfl 1 0 (fun u => .slice u.a u.l.length u.c) (fun _ => rfl) rfl ia51 rfl rfl (by first | rfl | omega | (simp; done) | (simp; omega) | (simp [upN_len]; omega) | (simp [idxBy_len]; omega) | (simp [marks_len]; omega) | (simp [upN_len]; done) | (simp [idxBy_len]; done) | (simp [marks_len]; done) | (simp at *; omega)) (fun u52 hu52 => ?_)
            try simp only [Int.toNat_natCast] at hu52
            have hf52 := hXb u52 (List.mem_of_getElem? hu52)
            have hne : u47.l ≠ u52.l := by
              have h1 := asP_ne b.plan
              rw [← hX, List.pairwise_map] at h1
              obtain ⟨j1, rfl⟩ := List.getElem?_eq_some_iff.1 hu47
              obtain ⟨j2, rfl⟩ := List.getElem?_eq_some_iff.1 hu52
              exact fun e => List.pairwise_iff_getElem.1 h1 _ _ j2 j1 (by omega) e.symm
            refine DJ.one (i := 20) (by kernel_rfl) ?_
            refine DO.callV rfl rfl rfl (fun k0 hk0 dk0 k hk dk => equalInts_ne hne (RdRow.up (Sts.inn hk0 dk0 2 hu47 (by first | rfl | omega | (simp; done) | (simp; omega) | (simp [upN_len]; omega) | (simp [idxBy_len]; omega) | (simp [marks_len]; omega) | (simp [upN_len]; done) | (simp [idxBy_len]; done) | (simp [marks_len]; done) | (simp at *; omega)) rfl)) (RdRow.up (Sts.inn hk0 dk0 2 hu52 (by first | rfl | omega | (simp; done) | (simp; omega) | (simp [upN_len]; omega) | (simp [idxBy_len]; omega) | (simp [marks_len]; omega) | (simp [upN_len]; done) | (simp [idxBy_len]; done) | (simp [marks_len]; done) | (simp at *; omega)) rfl))) ?_
            refine DJ.yd 21 rfl (by kernel_rfl) (by kernel_rfl) (by kernel_rfl) rfl rfl (Yd.pickTB rfl rfl) ?_
            refine DJ.yd 22 rfl (by kernel_rfl) (by kernel_rfl) (by kernel_rfl) rfl rfl (Yd.pickFB rfl rfl) ?_
            refine DJ.done (by kernel_rfl) ?_
            refine CJ.condF rfl ?_
            refine CJ.skip ?_
            refine CJ.region ?_
            refine LJ.yd rfl (Yd.mvI rfl) ?_
            refine LJ.yd rfl (Yd.add rfl rfl (by unfold I64; omega)) ?_
            refine LJ.yd rfl (Yd.asI rfl) ?_
            refine LJ.nil ?_
            refine ⟨(k + 1), ?_, ⟨rfl, rfl, trivial⟩, ⟨rfl, trivial⟩, Ent.refl _, ?_⟩
            · omega
            · first | omega | (dsimp only; omega) | (simp only []; omega)
          · refine DJ.yd 10 rfl (by kernel_rfl) (by kernel_rfl) (by kernel_rfl) rfl rfl (Yd.mvB rfl) ?_
            refine DJ.skip 11 rfl (by kernel_rfl) (by kernel_rfl) (by kernel_rfl) rfl rfl ?_
            refine DJ.skip 12 rfl (by kernel_rfl) (by kernel_rfl) (by kernel_rfl) rfl rfl ?_
            refine DJ.skip 13 rfl (by kernel_rfl) (by kernel_rfl) (by kernel_rfl) rfl rfl ?_
            refine DJ.skip 14 rfl (by kernel_rfl) (by kernel_rfl) (by kernel_rfl) rfl rfl ?_
            refine DJ.skip 15 rfl (by kernel_rfl) (by kernel_rfl) (by kernel_rfl) rfl rfl ?_
            refine DJ.skip 16 rfl (by kernel_rfl) (by kernel_rfl) (by kernel_rfl) rfl rfl ?_
            refine DJ.skip 17 rfl (by kernel_rfl) (by kernel_rfl) (by kernel_rfl) rfl rfl ?_
            refine DJ.skip 18 rfl (by kernel_rfl) (by kernel_rfl) (by kernel_rfl) rfl rfl ?_
            refine DJ.skip 19 rfl (by kernel_rfl) (by kernel_rfl) (by kernel_rfl) rfl rfl ?_
            refine DJ.skip 20 rfl (by kernel_rfl) (by kernel_rfl) (by kernel_rfl) rfl rfl ?_
            refine DJ.yd 21 rfl (by kernel_rfl) (by kernel_rfl) (by kernel_rfl) rfl rfl (Yd.pickFB rfl rfl) ?_
            refine DJ.yd 22 rfl (by kernel_rfl) (by kernel_rfl) (by kernel_rfl) rfl rfl (Yd.pickFB rfl rfl) ?_
            refine DJ.done (by kernel_rfl) ?_
            refine CJ.condF rfl ?_
            refine CJ.skip ?_
            refine CJ.region ?_
            refine LJ.yd rfl (Yd.mvI rfl) ?_
            refine LJ.yd rfl (Yd.add rfl rfl (by unfold I64; omega)) ?_
            refine LJ.yd rfl (Yd.asI rfl) ?_
            refine LJ.nil ?_
            refine ⟨(k + 1), ?_, ⟨rfl, rfl, trivial⟩, ⟨rfl, trivial⟩, Ent.refl _, ?_⟩
            · omega
            · first | omega | (dsimp only; omega) | (simp only []; omega)
        · refine LJ.nil ?_
          refine CJ.condF rfl ?_
          refine CJ.exit ?_
          refine CJ.seq ?_
          refine CJ.region ?_
          refine LJ.yd rfl (Yd.mvS rfl) ?_
          refine LJ.yd rfl (Yd.len rfl) ?_
          refine LJ.yd rfl (Yd.loadG (us := [_, _, _, _, _]) 0 rfl rfl rfl rfl) ?_
          refine LJ.callV rfl (fun k hk dk => CountSteps_ok hT.up hz hc5) ?_
          refine LJ.yd rfl (Yd.cmpT (Yd.eql rfl rfl) hcount) ?_
          refine LJ.yd rfl (Yd.asB rfl) ?_
          refine LJ.nil ?_
          refine CJ.ret ?_
          refine Fin.V (Res.one (ResV.tmp (v := .bool true) rfl)) ?_
          rfl
end Go.Proofs.Ytfnnhekbgjofoaa
