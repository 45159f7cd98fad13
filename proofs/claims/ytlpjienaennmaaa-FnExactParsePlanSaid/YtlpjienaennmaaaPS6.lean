/-
  The given reader of texts: numbers and plans.
-/
import Derived.Test.YtlpjienaennmaaaPS5
namespace Go.Proofs.Ytlpjienaennmaaa
open Go
set_option maxRecDepth 20000
set_option maxHeartbeats 1000000

theorem dw_drop (l : List UInt8) : l.dropWhile isD = l.drop (l.takeWhile isD).length := by
  induction l with
  | nil => rfl
  | cons d r ih =>
    by_cases h : isD d = true
    · simp only [List.dropWhile_cons, List.takeWhile_cons, h, if_true, List.length_cons, List.drop_succ_cons]; exact ih
    · simp only [List.dropWhile_cons, List.takeWhile_cons, h]; rfl
theorem tw_le (l : List UInt8) : (l.takeWhile isD).length ≤ l.length := (List.takeWhile_sublist isD).length_le
theorem drop_at {tx : List UInt8} {p z : Int} (h0 : 0 ≤ p) (h1 : p ≤ z) : (tx.drop p.toNat)[(z - p).toNat]? = tx[z.toNat]? := by
  rw [List.getElem?_drop, show p.toNat + (z - p).toNat = z.toNat by omega]
theorem nx_some {tx : List UInt8} {z : Int} (h : ((nx tx z.toNat).toNat : Int) ≠ 0) : z.toNat < tx.length ∧ tx[z.toNat]? = some (nx tx z.toNat) := by
  rcases Nat.lt_or_ge z.toNat tx.length with hl | hl
  · obtain ⟨u, hu⟩ := someC hl
    exact ⟨hl, by rw [nx_at hu, hu]⟩
  · rw [nx_end hl] at h; exact absurd rfl h
theorem count_ok {A : Amb} {tb : Nat} {tx : List UInt8} {p : Int} {bad : Bool} (hl : tx.length ≤ 100000) (h0 : 0 ≤ p) (h1 : p ≤ tx.length) : Ctr Try.prog 112 #[.pointer (some ⟨tb, 0, none⟩)] A [Cel tb 129 [vT tx, vI p, .bool bad]]
    (fun v gs => ∃ (z : Int) (bad' : Bool), v = vI (rdS ((tx.drop p.toNat).takeWhile isD)) ∧ gs = [Cel tb 129 [vT tx, vI z, .bool bad']] ∧ z = p + ((tx.drop p.toNat).takeWhile isD).length ∧ (bad' = false ↔ bad = false ∧ numOk ((tx.drop p.toNat).takeWhile isD) = true)) := by
  refine Ctr.body (args := [_]) Try.func112 rfl Try.ntmps112 Try.results112 (by simp) ?_
  refine CJ.seq ?_
  refine CJ.region ?_
  refine LJ.yd rfl (Yd.asI rfl) ?_
  refine LJ.nil ?_
  refine CJ.seq ?_
  refine CJ.region ?_
  refine LJ.yd rfl (Yd.mvP rfl) ?_
  refine LJ.yd rfl (Yd.nilCheck rfl) ?_
  refine LJ.yd rfl (Yd.fieldAddr rfl) ?_
  refine LJ.yd rfl (Yd.loadC 0 rfl rfl rfl) ?_
  refine LJ.yd rfl (Yd.asI rfl) ?_
  refine LJ.nil ?_
  refine CJ.seq ?_
  refine CJ.block ?_
  refine CJ.loopF [0, 2, 3] Int (fun z => p ≤ z ∧ z ≤ tx.length ∧ ((tx.drop p.toNat).take (z - p).toNat).all isD = true) (fun z => []) (fun z => [Cel tb 129 [vT tx, vI z, .bool bad]]) (fun z => (tx.length - z).toNat) (p) [] [] [0] rfl rfl rfl ?_ trivial ?_
  · exact ⟨by omega, by omega, by rw [Int.sub_self]; rfl⟩
  · rintro z σ ⟨hz0, hz1, hD⟩
    refine CJ.norm [_] rfl ?_
    refine CJ.seq ?_
    refine CJ.seq ?_
    refine CJ.region ?_
    refine LJ.yd rfl (Yd.mvP rfl) ?_
    refine LJ.call (pickF _ []) (pickF _ [0]) rfl (perm_pickF _ [] [0] rfl) (fun k hk dk => next_ok (by omega) (by omega) (by omega)) ?_
    rintro _ _ ⟨rfl, rfl⟩
    refine LJ.norm [_] rfl ?_
    refine LJ.splitD rfl (Yd.geq rfl rfl) (fun h11 => ?_) (fun h11 => ?_)
    · refine LJ.yd rfl (Yd.mvB rfl) ?_
      refine LJ.gT rfl ?_
      refine LJ.yd rfl (Yd.mvP rfl) ?_
      refine LJ.gT rfl ?_
      refine LJ.call (pickF _ []) (pickF _ [0]) rfl (perm_pickF _ [] [0] rfl) (fun k hk dk => next_ok (by omega) (by omega) (by omega)) ?_
      rintro _ _ ⟨rfl, rfl⟩
      refine LJ.norm [_] rfl ?_
      refine LJ.gT rfl ?_
      refine LJ.splitD rfl (Yd.leq rfl rfl) (fun h15 => ?_) (fun h15 => ?_)
      · refine LJ.yd rfl (Yd.pickTB rfl rfl) ?_
        refine LJ.nil ?_
        refine CJ.condT rfl ?_
        refine CJ.skip ?_
        refine CJ.block ?_
        refine CJ.region ?_
        refine LJ.yd rfl (Yd.mvP rfl) ?_
        refine LJ.yd rfl (Yd.mvP rfl) ?_
        refine LJ.yd rfl (Yd.nilCheck rfl) ?_
        refine LJ.yd rfl (Yd.fieldAddr rfl) ?_
        refine LJ.yd rfl (Yd.loadC 0 rfl rfl rfl) ?_
        refine LJ.yd rfl (Yd.add rfl rfl (by unfold I64; omega)) ?_
        refine LJ.yd rfl (Yd.nilCheck rfl) ?_
        refine LJ.yd rfl (Yd.fieldAddr rfl) ?_
        refine LJ.store (v := .int _ _) (us := [_, _, _]) 0 rfl rfl rfl rfl rfl rfl rfl rfl ?_
        refine LJ.nil ?_
        refine ⟨_, ?_, ⟨rfl, rfl, rfl, trivial⟩, trivial, Ent.refl _, ?_⟩
        · obtain ⟨hz2, hz3⟩ := nx_some (tx := tx) (z := z) (by omega)
          have hz4 := drop_at (tx := tx) h0 hz0
          rw [hz3] at hz4
          exact ⟨by omega, by omega, by rw [show (z + 1 - p).toNat = (z - p).toNat + 1 by omega]; exact all_take hD hz4 (by omega) (by omega)⟩
        · have := (nx_some (tx := tx) (z := z) (by omega)).1; omega
      · refine LJ.yd rfl (Yd.pickTB rfl rfl) ?_
        refine LJ.nil ?_
        refine CJ.condF rfl ?_
        refine CJ.exit ?_
        refine CJ.seq ?_
        have htw := tw_of hD (by
          rcases Nat.lt_or_ge z.toNat tx.length with hz | hz
          · obtain ⟨u, hu⟩ := someC hz
            refine .inr ⟨u, by rw [drop_at h0 hz0]; exact hu, isD_F ?_⟩
            rw [nx_at hu] at *
            omega
          · exact .inl (by rw [List.length_drop]; omega))
        have hzl : z = p + ((tx.drop p.toNat).takeWhile isD).length := by rw [htw.1, List.length_take, List.length_drop]; omega
        rw [show (z - p).toNat = z.toNat - p.toNat by omega] at htw
        refine CJ.regionD [0] [] (by kernel_rfl) rfl ?_
        refine DJ.norm [_] [] rfl rfl ?_
        refine DJ.yd 0 rfl (by kernel_rfl) (by kernel_rfl) (by kernel_rfl) rfl rfl (Yd.mvP rfl) ?_
        refine DJ.yd 1 rfl (by kernel_rfl) (by kernel_rfl) (by kernel_rfl) rfl rfl (Yd.nilCheck rfl) ?_
        refine DJ.yd 2 rfl (by kernel_rfl) (by kernel_rfl) (by kernel_rfl) rfl rfl (Yd.fieldAddr rfl) ?_
        refine DJ.yd 3 rfl (by kernel_rfl) (by kernel_rfl) (by kernel_rfl) rfl rfl (Yd.loadC 0 rfl rfl rfl) ?_
        refine DJ.yd 4 rfl (by kernel_rfl) (by kernel_rfl) (by kernel_rfl) rfl rfl (Yd.mvI rfl) ?_
        refine DJ.yd 5 rfl (by kernel_rfl) (by kernel_rfl) (by kernel_rfl) rfl rfl (Yd.mvP rfl) ?_
        refine DJ.yd 6 rfl (by kernel_rfl) (by kernel_rfl) (by kernel_rfl) rfl rfl (Yd.nilCheck rfl) ?_
        refine DJ.yd 7 rfl (by kernel_rfl) (by kernel_rfl) (by kernel_rfl) rfl rfl (Yd.fieldAddr rfl) ?_
        refine DJ.yd 8 rfl (by kernel_rfl) (by kernel_rfl) (by kernel_rfl) rfl rfl (Yd.loadC 0 rfl rfl rfl) ?_
        refine DJ.yd 9 rfl (by kernel_rfl) (by kernel_rfl) (by kernel_rfl) rfl rfl (Yd.slT_lh rfl rfl rfl (by omega) (by omega) (by omega)) ?_
        refine DJ.one (i := 10) (by kernel_rfl) ?_
        refine DO.callV rfl rfl rfl (fun k0 hk0 dk0 k hk dk => readNumberS_ok (by rw [List.length_take]; omega)) ?_
        refine DJ.yd 11 rfl (by kernel_rfl) (by kernel_rfl) (by kernel_rfl) rfl rfl (Yd.asI rfl) ?_
        refine DJ.done (by kernel_rfl) ?_
        refine CJ.seq ?_
        rw [← htw.1]
        have hrb := rdS_b ((tx.drop p.toNat).takeWhile isD)
        refine CJ.region ?_
        refine LJ.yd rfl (Yd.mvP rfl) ?_
        refine LJ.yd rfl (Yd.mvP rfl) ?_
        refine LJ.yd rfl (Yd.nilCheck rfl) ?_
        refine LJ.yd rfl (Yd.fieldAddr rfl) ?_
        refine LJ.split rfl (Yd.loadC 0 rfl rfl rfl) (fun h40 => ?_) (fun h40 => ?_)
        · refine LJ.yd rfl (Yd.mvB rfl) ?_
          refine LJ.gF rfl rfl ?_
          refine LJ.gF rfl rfl ?_
          refine LJ.yd rfl (Yd.pickTB rfl rfl) ?_
          refine LJ.yd rfl (Yd.nilCheck rfl) ?_
          refine LJ.yd rfl (Yd.fieldAddr rfl) ?_
          refine LJ.store (v := .bool true) (us := [_, _, _]) 0 rfl rfl rfl rfl rfl rfl rfl rfl ?_
          refine LJ.nil ?_
          refine CJ.seq ?_
          refine CJ.region ?_
          refine LJ.yd rfl (Yd.mvI rfl) ?_
          refine LJ.yd rfl (Yd.asI rfl) ?_
          refine LJ.nil ?_
          refine CJ.ret ?_
          exact Fin.R [_] (Res.one (ResV.tmp (v := .int _ _) rfl)) ⟨z, _, rfl, rfl, hzl, (by
            first
              | exact ⟨fun h => (by cases h), fun h => (by rw [h40] at h; cases h.1)⟩
              | exact ⟨fun h => ⟨h40, rdS_neg (of_decide_eq_false h)⟩, fun h => decide_eq_false (by rw [rdS_T h.2]; omega)⟩)⟩ (Ent.pick [0] [] rfl)
        · refine LJ.yd rfl (Yd.mvB rfl) ?_
          refine LJ.gT rfl ?_
          refine LJ.yd rfl (Yd.mvI rfl) ?_
          refine LJ.gT rfl ?_
          refine LJ.yd rfl (Yd.lss rfl rfl) ?_
          refine LJ.yd rfl (Yd.pickFB rfl rfl) ?_
          refine LJ.yd rfl (Yd.nilCheck rfl) ?_
          refine LJ.yd rfl (Yd.fieldAddr rfl) ?_
          refine LJ.store (v := .bool _) (us := [_, _, _]) 0 rfl rfl rfl rfl rfl rfl rfl rfl ?_
          refine LJ.nil ?_
          refine CJ.seq ?_
          refine CJ.region ?_
          refine LJ.yd rfl (Yd.mvI rfl) ?_
          refine LJ.yd rfl (Yd.asI rfl) ?_
          refine LJ.nil ?_
          refine CJ.ret ?_
          exact Fin.R [_] (Res.one (ResV.tmp (v := .int _ _) rfl)) ⟨z, _, rfl, rfl, hzl, (by
            first
              | exact ⟨fun h => (by cases h), fun h => (by rw [h40] at h; cases h.1)⟩
              | exact ⟨fun h => ⟨h40, rdS_neg (of_decide_eq_false h)⟩, fun h => decide_eq_false (by rw [rdS_T h.2]; omega)⟩)⟩ (Ent.pick [0] [] rfl)
    · refine LJ.yd rfl (Yd.mvB rfl) ?_
      refine LJ.gF rfl rfl ?_
      refine LJ.gF rfl rfl ?_
      refine LJ.gF rfl rfl ?_
      refine LJ.yd rfl (Yd.pickFB rfl rfl) ?_
      refine LJ.nil ?_
      refine CJ.condF rfl ?_
      refine CJ.exit ?_
      refine CJ.seq ?_
      have htw := tw_of hD (by
        rcases Nat.lt_or_ge z.toNat tx.length with hz | hz
        · obtain ⟨u, hu⟩ := someC hz
          refine .inr ⟨u, by rw [drop_at h0 hz0]; exact hu, isD_F ?_⟩
          rw [nx_at hu] at *
          omega
        · exact .inl (by rw [List.length_drop]; omega))
      have hzl : z = p + ((tx.drop p.toNat).takeWhile isD).length := by rw [htw.1, List.length_take, List.length_drop]; omega
      rw [show (z - p).toNat = z.toNat - p.toNat by omega] at htw
      refine CJ.regionD [0] [] (by kernel_rfl) rfl ?_
      refine DJ.norm [_] [] rfl rfl ?_
      refine DJ.yd 0 rfl (by kernel_rfl) (by kernel_rfl) (by kernel_rfl) rfl rfl (Yd.mvP rfl) ?_
      refine DJ.yd 1 rfl (by kernel_rfl) (by kernel_rfl) (by kernel_rfl) rfl rfl (Yd.nilCheck rfl) ?_
      refine DJ.yd 2 rfl (by kernel_rfl) (by kernel_rfl) (by kernel_rfl) rfl rfl (Yd.fieldAddr rfl) ?_
      refine DJ.yd 3 rfl (by kernel_rfl) (by kernel_rfl) (by kernel_rfl) rfl rfl (Yd.loadC 0 rfl rfl rfl) ?_
      refine DJ.yd 4 rfl (by kernel_rfl) (by kernel_rfl) (by kernel_rfl) rfl rfl (Yd.mvI rfl) ?_
      refine DJ.yd 5 rfl (by kernel_rfl) (by kernel_rfl) (by kernel_rfl) rfl rfl (Yd.mvP rfl) ?_
      refine DJ.yd 6 rfl (by kernel_rfl) (by kernel_rfl) (by kernel_rfl) rfl rfl (Yd.nilCheck rfl) ?_
      refine DJ.yd 7 rfl (by kernel_rfl) (by kernel_rfl) (by kernel_rfl) rfl rfl (Yd.fieldAddr rfl) ?_
      refine DJ.yd 8 rfl (by kernel_rfl) (by kernel_rfl) (by kernel_rfl) rfl rfl (Yd.loadC 0 rfl rfl rfl) ?_
      refine DJ.yd 9 rfl (by kernel_rfl) (by kernel_rfl) (by kernel_rfl) rfl rfl (Yd.slT_lh rfl rfl rfl (by omega) (by omega) (by omega)) ?_
      refine DJ.one (i := 10) (by kernel_rfl) ?_
      refine DO.callV rfl rfl rfl (fun k0 hk0 dk0 k hk dk => readNumberS_ok (by rw [List.length_take]; omega)) ?_
      refine DJ.yd 11 rfl (by kernel_rfl) (by kernel_rfl) (by kernel_rfl) rfl rfl (Yd.asI rfl) ?_
      refine DJ.done (by kernel_rfl) ?_
      refine CJ.seq ?_
      rw [← htw.1]
      have hrb := rdS_b ((tx.drop p.toNat).takeWhile isD)
      refine CJ.region ?_
      refine LJ.yd rfl (Yd.mvP rfl) ?_
      refine LJ.yd rfl (Yd.mvP rfl) ?_
      refine LJ.yd rfl (Yd.nilCheck rfl) ?_
      refine LJ.yd rfl (Yd.fieldAddr rfl) ?_
      refine LJ.split rfl (Yd.loadC 0 rfl rfl rfl) (fun h40 => ?_) (fun h40 => ?_)
      · refine LJ.yd rfl (Yd.mvB rfl) ?_
        refine LJ.gF rfl rfl ?_
        refine LJ.gF rfl rfl ?_
        refine LJ.yd rfl (Yd.pickTB rfl rfl) ?_
        refine LJ.yd rfl (Yd.nilCheck rfl) ?_
        refine LJ.yd rfl (Yd.fieldAddr rfl) ?_
        refine LJ.store (v := .bool true) (us := [_, _, _]) 0 rfl rfl rfl rfl rfl rfl rfl rfl ?_
        refine LJ.nil ?_
        refine CJ.seq ?_
        refine CJ.region ?_
        refine LJ.yd rfl (Yd.mvI rfl) ?_
        refine LJ.yd rfl (Yd.asI rfl) ?_
        refine LJ.nil ?_
        refine CJ.ret ?_
        exact Fin.R [_] (Res.one (ResV.tmp (v := .int _ _) rfl)) ⟨z, _, rfl, rfl, hzl, (by
          first
            | exact ⟨fun h => (by cases h), fun h => (by rw [h40] at h; cases h.1)⟩
            | exact ⟨fun h => ⟨h40, rdS_neg (of_decide_eq_false h)⟩, fun h => decide_eq_false (by rw [rdS_T h.2]; omega)⟩)⟩ (Ent.pick [0] [] rfl)
      · refine LJ.yd rfl (Yd.mvB rfl) ?_
        refine LJ.gT rfl ?_
        refine LJ.yd rfl (Yd.mvI rfl) ?_
        refine LJ.gT rfl ?_
        refine LJ.yd rfl (Yd.lss rfl rfl) ?_
        refine LJ.yd rfl (Yd.pickFB rfl rfl) ?_
        refine LJ.yd rfl (Yd.nilCheck rfl) ?_
        refine LJ.yd rfl (Yd.fieldAddr rfl) ?_
        refine LJ.store (v := .bool _) (us := [_, _, _]) 0 rfl rfl rfl rfl rfl rfl rfl rfl ?_
        refine LJ.nil ?_
        refine CJ.seq ?_
        refine CJ.region ?_
        refine LJ.yd rfl (Yd.mvI rfl) ?_
        refine LJ.yd rfl (Yd.asI rfl) ?_
        refine LJ.nil ?_
        refine CJ.ret ?_
        exact Fin.R [_] (Res.one (ResV.tmp (v := .int _ _) rfl)) ⟨z, _, rfl, rfl, hzl, (by
          first
            | exact ⟨fun h => (by cases h), fun h => (by rw [h40] at h; cases h.1)⟩
            | exact ⟨fun h => ⟨h40, rdS_neg (of_decide_eq_false h)⟩, fun h => decide_eq_false (by rw [rdS_T h.2]; omega)⟩)⟩ (Ent.pick [0] [] rfl)
theorem cut_nx {tx : List UInt8} {z : Int} {k : Nat} (h0 : 0 ≤ z) (hk : k < 256) (hk0 : 0 < k) (h : ((nx tx z.toNat).toNat : Int) = (k : Int)) : z < tx.length ∧ cut (UInt8.ofNat k) (tx.drop z.toNat) = (tx.drop (z + 1).toNat, true) := by
  obtain ⟨h1, h2⟩ := nx_some (tx := tx) (z := z) (by omega)
  refine ⟨by omega, ?_⟩
  rw [dropC h2, show (z + 1).toNat = z.toNat + 1 by omega, cut, if_pos (u8y hk h)]
theorem cut_nxF {tx : List UInt8} {z : Int} {k : Nat} (h0 : 0 ≤ z) (hk : k < 256) (hk0 : 0 < k) (h : ¬ ((nx tx z.toNat).toNat : Int) = (k : Int)) : (cut (UInt8.ofNat k) (tx.drop z.toNat)).2 = false := by
  rcases Nat.lt_or_ge z.toNat tx.length with hl | hl
  · obtain ⟨u, hu⟩ := someC hl
    rw [nx_at hu] at h
    rw [dropC hu, cut, if_neg (fun e => h ((u8_eq hk).2 e))]
  · rw [List.drop_of_length_le hl]; rfl
theorem head_c {tx : List UInt8} {p : Int} {c : UInt8} (h0 : 0 ≤ p) (hc : nx tx p.toNat = c) (h : (c.toNat : Int) ≠ 0) : p < tx.length ∧ tx.drop p.toNat = c :: tx.drop (p + 1).toNat := by
  subst hc
  obtain ⟨h1, h2⟩ := nx_some h
  exact ⟨by omega, by rw [dropC h2, show (p + 1).toNat = p.toNat + 1 by omega]⟩
theorem dw_pos {tx : List UInt8} {p z : Int} (h0 : 0 ≤ p) (hz : z = p + ((tx.drop p.toNat).takeWhile isD).length) (hp : p ≤ tx.length) : (tx.drop p.toNat).dropWhile isD = tx.drop z.toNat ∧ z ≤ tx.length := by
  have h1 := tw_le (tx.drop p.toNat)
  rw [List.length_drop] at h1
  refine ⟨?_, by omega⟩
  rw [dw_drop, List.drop_drop]; congr 1; omega
theorem Sts.cond {F G H : HProp} {φ : Prop} (hφ : φ) {h : Hp} (s : Sts [F, fun m => φ → G m, H] h) : Sts [F, G, H] h := by
  obtain ⟨a, b, x, ⟨c, d, y, z, e1, e2, e3⟩, f1, f2, f3⟩ := s
  exact ⟨a, b, x, ⟨c, d, y hφ, z, e1, e2, e3⟩, f1, f2, f3⟩
theorem tk_bad {n : Nat} {tx : List UInt8} {p : Int} {c : UInt8} (_ : 0 ≤ p) (hc : nx tx p.toNat = c) (h0 : c ≠ 119) (h1 : c ≠ 112) (h2 : c ≠ 116) (h3 : c ≠ 100) (h4 : c ≠ 97) : tkP (n + 1) (tx.drop p.toNat) = none := by
  rcases Nat.lt_or_ge p.toNat tx.length with hl | hl
  · obtain ⟨u, hu⟩ := someC hl
    rw [nx_at hu] at hc
    subst hc
    rw [dropC hu]; exact tk_x h0 h1 h2 h3 h4
  · rw [List.drop_of_length_le hl]; rfl
theorem bF {b : Bool} (h : ¬ b = true) : b = false := by cases b <;> simp_all
def SpR (N tb : Nat) (tx : List UInt8) (p : Int) (v : Value) (gs : List HProp) : Prop := ∃ (u : PE) (b : BT) (z : Int) (bad : Bool), v = .agg (encP u).toArray ∧ gs = [Cel tb 129 [vT tx, vI z, .bool bad], fun h => bad = false → RdT h (encP u) b] ∧
  (bad = false → p ≤ z ∧ z ≤ tx.length ∧ tkP N (tx.drop p.toNat) = some (b, tx.drop z.toNat)) ∧ (bad = true → tkP N (tx.drop p.toNat) = none) ∧ 0 ≤ z ∧ z ≤ tx.length + 3 * N
theorem plan_ok (N : Nat) : ∀ (A : Amb) (tb : Nat) (tx : List UInt8) (p : Int), 0 ≤ p → p ≤ tx.length → tx.length ≤ 100000 → tx.length - p < N → N ≤ 100001 → Ctr Try.prog 97 #[.pointer (some ⟨tb, 0, none⟩)] A [Cel tb 129 [vT tx, vI p, .bool false]] (SpR N tb tx p) := by
  induction N with
  | zero => intro A tb tx p h0 h1 h2 h; omega
  | succ N ih =>
  intro A tb tx p h0 h1 hl hN hN1
  generalize hc : nx tx p.toNat = c at *
  have hcu := u8_b c
  refine Ctr.body (args := [_]) Try.func97 rfl Try.ntmps97 Try.results97 (by simp) ?_
  refine CJ.seq ?_
  refine CJ.region ?_
  refine LJ.alloc ([_, _, _, _, _] : List Value) rfl rfl (fun b1 => ?_)
  refine LJ.nil ?_
  refine CJ.seq ?_
  refine CJ.region ?_
  refine LJ.yd rfl (Yd.mvP rfl) ?_
  refine LJ.call (pickF _ [1]) (pickF _ [0]) rfl (perm_pickF _ [1] [0] rfl) (fun k hk dk => (hc ▸ next_ok (by omega) (by omega) (by omega))) ?_
  rintro _ _ ⟨rfl, rfl⟩
  refine LJ.norm [_, _] rfl ?_
  refine LJ.yd rfl (Yd.asI rfl) ?_
  refine LJ.nil ?_
  refine CJ.seq ?_
  refine CJ.region ?_
  refine LJ.yd rfl (Yd.mvP rfl) ?_
  refine LJ.yd rfl (Yd.mvP rfl) ?_
  refine LJ.yd rfl (Yd.nilCheck rfl) ?_
  refine LJ.yd rfl (Yd.fieldAddr rfl) ?_
  refine LJ.yd rfl (Yd.loadC 1 rfl rfl rfl) ?_
  refine LJ.yd rfl (Yd.add rfl rfl (by unfold I64; omega)) ?_
  refine LJ.yd rfl (Yd.nilCheck rfl) ?_
  refine LJ.yd rfl (Yd.fieldAddr rfl) ?_
  refine LJ.store (v := .int _ _) (us := [_, _, _]) 1 rfl rfl rfl rfl rfl rfl rfl rfl ?_
  refine LJ.nil ?_
  refine CJ.seq ?_
  refine CJ.seq ?_
  refine CJ.region ?_
  refine LJ.yd rfl (Yd.mvI rfl) ?_
  refine LJ.nil ?_
  refine CJ.block ?_
  refine CJ.seq ?_
  refine CJ.region ?_
  refine LJ.splitD rfl (Yd.eql rfl rfl) (fun h20 => ?_) (fun h20 => ?_)
  · refine LJ.yd rfl (Yd.asB rfl) ?_
    refine LJ.nil ?_
    refine CJ.condT rfl ?_
    refine CJ.seq ?_
    obtain ⟨hp1, hpd⟩ := head_c h0 hc (by omega)
    refine CJ.region ?_
    refine LJ.yd rfl (Yd.build (cs := [_, _, _, _, _]) rfl) ?_
    refine LJ.store (v := .agg #[_, _, _, _, _]) (us := [_, _, _, _, _]) 0 rfl rfl rfl rfl rfl rfl rfl rfl ?_
    refine LJ.nil ?_
    refine CJ.ret ?_
    exact Fin.R [_, _] (Res.one (ResV.cell (us := [_, _, _, _, _]) 0 rfl rfl rfl rfl)) ⟨⟨0, 0, 0, false, none, 0, 0⟩, .w, _, _, rfl, rfl, fun _ => ⟨by omega, by omega, by rw [hpd, u8y (k := 119) (by omega) h20]; exact tk_w⟩, fun h => (by cases h), by omega, by omega⟩ (Ent.pickFold [1] [] [0] rfl (fun _ _ _ => RdT.w))
  · refine LJ.yd rfl (Yd.asB rfl) ?_
    refine LJ.nil ?_
    refine CJ.condF rfl ?_
    refine CJ.seq ?_
    refine CJ.seq ?_
    refine CJ.region ?_
    refine LJ.splitD rfl (Yd.eql rfl rfl) (fun h23 => ?_) (fun h23 => ?_)
    · refine LJ.yd rfl (Yd.asB rfl) ?_
      refine LJ.nil ?_
      refine CJ.condT rfl ?_
      refine CJ.skip ?_
      refine CJ.condT rfl ?_
      refine CJ.seq ?_
      obtain ⟨hp1, hpd⟩ := head_c h0 hc (by omega)
      have hpt : c = 112 ∨ c = 116 := by first | exact .inl (u8y (k := 112) (by omega) h23) | exact .inr (u8y (k := 116) (by omega) h24)
      have hdt : decide ((c.toNat : Int) = 116) = decide (c = 116) := decide_eq_decide.2 (u8_eq (k := 116) (by omega))
      refine CJ.region ?_
      refine LJ.yd rfl (Yd.mvI rfl) ?_
      refine LJ.yd rfl (Yd.eql rfl rfl) ?_
      refine LJ.yd rfl (Yd.mvP rfl) ?_
      refine LJ.call (pickF _ [0]) (pickF _ [1]) rfl (perm_pickF _ [0] [1] rfl) (fun k hk dk => count_ok hl (by omega) (by omega)) ?_
      rintro _ _ ⟨z1, bad1, rfl, rfl, hz1, hb1⟩
      obtain ⟨hdw, hzl1⟩ := dw_pos (by omega) hz1 (by omega)
      have hrb := rdS_b ((tx.drop (p + 1).toNat).takeWhile isD)
      refine LJ.norm [_, _] rfl ?_
      refine LJ.yd rfl (Yd.build (cs := [_, _, _, _, _]) rfl) ?_
      refine LJ.store (v := .agg #[_, _, _, _, _]) (us := [_, _, _, _, _]) 0 rfl rfl rfl rfl rfl rfl rfl rfl ?_
      refine LJ.nil ?_
      refine CJ.ret ?_
      refine Fin.R [_, _] (Res.one (ResV.cell (us := [_, _, _, _, _]) 0 rfl rfl rfl rfl)) ⟨⟨1, 0, rdS ((tx.drop (p + 1).toNat).takeWhile isD), decide ((c.toNat : Int) = 116), none, 0, 0⟩, .p (rdS ((tx.drop (p + 1).toNat).takeWhile isD)) (decide ((c.toNat : Int) = 116)), _, _, rfl, rfl, fun hb => ?_, fun hb => ?_, by omega, by omega⟩ (Ent.pickFold [1] [] [0] rfl (fun _ _ _ => RdT.p (show I64 (rdS ((tx.drop (p + 1).toNat).takeWhile isD)) by unfold I64; omega)))
      · have hn := (hb1.1 hb).2
        refine ⟨by omega, hzl1, ?_⟩
        rw [hpd, tk_p hn hpt, rdS_T hn, hdt, hdw]
      · rw [hpd]
        exact tk_no (u8n (k := 119) (by omega) h20) (bF fun hn => by rw [hb1.2 ⟨rfl, hn⟩] at hb; cases hb)
    · refine LJ.yd rfl (Yd.asB rfl) ?_
      refine LJ.nil ?_
      refine CJ.condF rfl ?_
      refine CJ.region ?_
      refine LJ.splitD rfl (Yd.eql rfl rfl) (fun h24 => ?_) (fun h24 => ?_)
      · refine LJ.yd rfl (Yd.asB rfl) ?_
        refine LJ.nil ?_
        refine CJ.condT rfl ?_
        refine CJ.seq ?_
        obtain ⟨hp1, hpd⟩ := head_c h0 hc (by omega)
        have hpt : c = 112 ∨ c = 116 := by first | exact .inl (u8y (k := 112) (by omega) h23) | exact .inr (u8y (k := 116) (by omega) h24)
        have hdt : decide ((c.toNat : Int) = 116) = decide (c = 116) := decide_eq_decide.2 (u8_eq (k := 116) (by omega))
        refine CJ.region ?_
        refine LJ.yd rfl (Yd.mvI rfl) ?_
        refine LJ.yd rfl (Yd.eql rfl rfl) ?_
        refine LJ.yd rfl (Yd.mvP rfl) ?_
        refine LJ.call (pickF _ [0]) (pickF _ [1]) rfl (perm_pickF _ [0] [1] rfl) (fun k hk dk => count_ok hl (by omega) (by omega)) ?_
        rintro _ _ ⟨z1, bad1, rfl, rfl, hz1, hb1⟩
        obtain ⟨hdw, hzl1⟩ := dw_pos (by omega) hz1 (by omega)
        have hrb := rdS_b ((tx.drop (p + 1).toNat).takeWhile isD)
        refine LJ.norm [_, _] rfl ?_
        refine LJ.yd rfl (Yd.build (cs := [_, _, _, _, _]) rfl) ?_
        refine LJ.store (v := .agg #[_, _, _, _, _]) (us := [_, _, _, _, _]) 0 rfl rfl rfl rfl rfl rfl rfl rfl ?_
        refine LJ.nil ?_
        refine CJ.ret ?_
        refine Fin.R [_, _] (Res.one (ResV.cell (us := [_, _, _, _, _]) 0 rfl rfl rfl rfl)) ⟨⟨1, 0, rdS ((tx.drop (p + 1).toNat).takeWhile isD), decide ((c.toNat : Int) = 116), none, 0, 0⟩, .p (rdS ((tx.drop (p + 1).toNat).takeWhile isD)) (decide ((c.toNat : Int) = 116)), _, _, rfl, rfl, fun hb => ?_, fun hb => ?_, by omega, by omega⟩ (Ent.pickFold [1] [] [0] rfl (fun _ _ _ => RdT.p (show I64 (rdS ((tx.drop (p + 1).toNat).takeWhile isD)) by unfold I64; omega)))
        · have hn := (hb1.1 hb).2
          refine ⟨by omega, hzl1, ?_⟩
          rw [hpd, tk_p hn hpt, rdS_T hn, hdt, hdw]
        · rw [hpd]
          exact tk_no (u8n (k := 119) (by omega) h20) (bF fun hn => by rw [hb1.2 ⟨rfl, hn⟩] at hb; cases hb)
      · refine LJ.yd rfl (Yd.asB rfl) ?_
        refine LJ.nil ?_
        refine CJ.condF rfl ?_
        refine CJ.seq ?_
        refine CJ.seq ?_
        refine CJ.region ?_
        refine LJ.splitD rfl (Yd.eql rfl rfl) (fun h31 => ?_) (fun h31 => ?_)
        · refine LJ.yd rfl (Yd.asB rfl) ?_
          refine LJ.nil ?_
          refine CJ.condT rfl ?_
          refine CJ.skip ?_
          refine CJ.condT rfl ?_
          refine CJ.seq ?_
          obtain ⟨hp1, hpd⟩ := head_c h0 hc (by omega)
          have hda : c = 100 ∨ c = 97 := by first | exact .inl (u8y (k := 100) (by omega) h31) | exact .inr (u8y (k := 97) (by omega) h32)
          refine CJ.region ?_
          refine LJ.yd rfl (Yd.asI rfl) ?_
          refine LJ.nil ?_
          refine CJ.seq ?_
          refine CJ.seq ?_
          refine CJ.region ?_
          refine LJ.yd rfl (Yd.mvI rfl) ?_
          refine LJ.splitD rfl (Yd.eql rfl rfl) (fun h34 => ?_) (fun h34 => ?_)
          · refine LJ.nil ?_
            refine CJ.condT rfl ?_
            refine CJ.region ?_
            refine LJ.yd rfl (Yd.asI rfl) ?_
            refine LJ.nil ?_
            refine CJ.seq ?_
            refine CJ.region ?_
            refine LJ.yd rfl (Yd.mvP rfl) ?_
            refine LJ.call (pickF _ [0]) (pickF _ [1]) rfl (perm_pickF _ [0] [1] rfl) (fun k hk dk => count_ok hl (by omega) (by omega)) ?_
            rintro _ _ ⟨z1, bad1, rfl, rfl, hz1, hb1⟩
            obtain ⟨hdw, hzl1⟩ := dw_pos (by omega) hz1 (by omega)
            have hrb := rdS_b ((tx.drop (p + 1).toNat).takeWhile isD)
            refine LJ.norm [_, _] rfl ?_
            refine LJ.yd rfl (Yd.asI rfl) ?_
            refine LJ.nil ?_
            refine CJ.seq ?_
            refine CJ.region ?_
            refine LJ.yd rfl (Yd.mvP rfl) ?_
            refine LJ.call (pickF _ [0]) (pickF _ [1]) rfl (perm_pickF _ [0] [1] rfl) (fun k hk dk => skip_ok (by omega) (by omega) (by omega)) ?_
            rintro _ _ ⟨bad2, rfl, rfl, hb2⟩
            refine LJ.norm [_, _] rfl ?_
            refine LJ.nil ?_
            refine CJ.seq ?_
            refine CJ.seq ?_
            refine CJ.region ?_
            refine LJ.yd rfl (Yd.mvP rfl) ?_
            refine LJ.yd rfl (Yd.nilCheck rfl) ?_
            refine LJ.yd rfl (Yd.fieldAddr rfl) ?_
            refine LJ.split rfl (Yd.loadC 1 rfl rfl rfl) (fun h42 => ?_) (fun h42 => ?_)
            · refine LJ.nil ?_
              refine CJ.condT rfl ?_
              refine CJ.seq ?_
              refine CJ.region ?_
              refine LJ.yd rfl (Yd.build (cs := [_, _, _, _, _]) rfl) ?_
              refine LJ.store (v := .agg #[_, _, _, _, _]) (us := [_, _, _, _, _]) 0 rfl rfl rfl rfl rfl rfl rfl rfl ?_
              refine LJ.nil ?_
              refine CJ.ret ?_
              refine Fin.R [_, _] (Res.one (ResV.cell (us := [_, _, _, _, _]) 0 rfl rfl rfl rfl)) ⟨⟨0, 0, 0, false, none, 0, 0⟩, .w, _, _, rfl, rfl, fun h => (by rw [h42] at h; cases h), fun _ => ?_, by omega, by omega⟩ (Ent.pickFold [1] [] [0] rfl (fun _ _ h => (by rw [h42] at h; cases h)))
              rw [hpd]
              rcases Bool.eq_false_or_eq_true (numOk ((tx.drop (p + 1).toNat).takeWhile isD)) with hn | hn
              · refine tk_c1 hn hda ?_
                rw [hdw]
                exact cut_nxF (k := 40) (by omega) (by omega) (by omega) (fun e => by
                  have := hb2.2 ⟨hb1.2 ⟨rfl, hn⟩, e⟩
                  rw [h42] at this; cases this)
              · exact tk_no (u8n (k := 119) (by omega) h20) hn
            · refine LJ.nil ?_
              refine CJ.condF rfl ?_
              refine CJ.skip ?_
              refine CJ.seq ?_
              obtain ⟨hb1f, h40⟩ := hb2.1 h42
              obtain ⟨_, hnk⟩ := hb1.1 hb1f
              obtain ⟨hz1c, hcut1'⟩ := cut_nx (k := 40) (by omega) (by omega) (by omega) h40
              rw [← hdw] at hcut1'
              have hcut1 : cut 40 ((tx.drop (p + 1).toNat).dropWhile isD) = (tx.drop (z1 + 1).toNat, true) := hcut1'
              rw [h42]
              refine CJ.region ?_
              refine LJ.yd rfl (Yd.mvP rfl) ?_
              refine LJ.call (pickF _ [0]) (pickF _ [1]) rfl (perm_pickF _ [0] [1] rfl) (fun k hk dk => ih _ _ _ _ (by omega) (by omega) hl (by omega) (by omega)) ?_
              rintro _ _ ⟨u1, b1, z3, bad3, rfl, rfl, hT3, hF3, hz30, hz31⟩
              refine LJ.norm [_, _, _] rfl ?_
              refine LJ.alloc ([_, _, _, _, _] : List Value) rfl rfl (fun b2 => ?_)
              refine LJ.store (v := .agg #[_, _, _, _, _]) (us := [_, _, _, _, _]) 3 rfl rfl rfl rfl rfl rfl rfl rfl ?_
              refine LJ.nil ?_
              refine CJ.seq ?_
              refine CJ.region ?_
              refine LJ.yd rfl (Yd.mvP rfl) ?_
              refine LJ.call (pickF _ [0, 2, 3]) (pickF _ [1]) rfl (perm_pickF _ [0, 2, 3] [1] rfl) (fun k hk dk => skip_ok (by omega) (by omega) (by omega)) ?_
              rintro _ _ ⟨bad4, rfl, rfl, hb4⟩
              refine LJ.norm [_, _, _, _] rfl ?_
              refine LJ.nil ?_
              refine CJ.seq ?_
              refine CJ.seq ?_
              refine CJ.region ?_
              refine LJ.yd rfl (Yd.mvP rfl) ?_
              refine LJ.yd rfl (Yd.nilCheck rfl) ?_
              refine LJ.yd rfl (Yd.fieldAddr rfl) ?_
              refine LJ.split rfl (Yd.loadC 3 rfl rfl rfl) (fun h51 => ?_) (fun h51 => ?_)
              · refine LJ.nil ?_
                refine CJ.condT rfl ?_
                refine CJ.seq ?_
                refine CJ.region ?_
                refine LJ.yd rfl (Yd.build (cs := [_, _, _, _, _]) rfl) ?_
                refine LJ.store (v := .agg #[_, _, _, _, _]) (us := [_, _, _, _, _]) 0 rfl rfl rfl rfl rfl rfl rfl rfl ?_
                refine LJ.nil ?_
                refine CJ.ret ?_
                refine Fin.R [_, _] (Res.one (ResV.cell (us := [_, _, _, _, _]) 0 rfl rfl rfl rfl)) ⟨⟨0, 0, 0, false, none, 0, 0⟩, .w, _, _, rfl, rfl, fun h => (by rw [h51] at h; cases h), fun _ => ?_, by omega, by omega⟩ (Ent.pickFold [3] [] [0, 1, 2] rfl (fun _ _ h => (by rw [h51] at h; cases h)))
                rw [hpd]
                rcases Bool.eq_false_or_eq_true bad3 with hb3 | hb3
                · exact tk_c2 hnk hda (by rw [hcut1]; exact hF3 hb3)
                · obtain ⟨_, _, htk⟩ := hT3 hb3
                  exact tk_c3 hnk hda (by rw [hcut1]; exact htk) (cut_nxF (k := 44) (by omega) (by omega) (by omega) (fun e => by
                    have := hb4.2 ⟨hb3, e⟩; rw [h51] at this; cases this))
              · refine LJ.nil ?_
                refine CJ.condF rfl ?_
                refine CJ.skip ?_
                refine CJ.seq ?_
                obtain ⟨hb3f, h44⟩ := hb4.1 h51
                obtain ⟨hz3a, hz3b, htk1⟩ := hT3 hb3f
                obtain ⟨hz3c, hcut2a⟩ := cut_nx (k := 44) (by omega) (by omega) (by omega) h44
                have hcut2 : cut 44 (tx.drop z3.toNat) = (tx.drop (z3 + 1).toNat, true) := hcut2a
                have htk1' : tkP N (cut 40 ((tx.drop (p + 1).toNat).dropWhile isD)).1 = some (b1, tx.drop z3.toNat) := by rw [hcut1]; exact htk1
                rw [h51]
                refine CJ.imp1 1 rfl (fun _ r => r hb3f) ?_
                refine CJ.norm [_, _, _, _] rfl ?_
                refine CJ.region ?_
                refine LJ.yd rfl (Yd.mvP rfl) ?_
                refine LJ.call (pickF _ [0, 1, 2]) (pickF _ [3]) rfl (perm_pickF _ [0, 1, 2] [3] rfl) (fun k hk dk => ih _ _ _ _ (by omega) (by omega) hl (by omega) (by omega)) ?_
                rintro _ _ ⟨u2, b2, z5, bad5, rfl, rfl, hT5, hF5, hz50, hz51⟩
                refine LJ.norm [_, _, _, _, _] rfl ?_
                refine LJ.alloc ([_, _, _, _, _] : List Value) rfl rfl (fun b3 => ?_)
                refine LJ.store (v := .agg #[_, _, _, _, _]) (us := [_, _, _, _, _]) 5 rfl rfl rfl rfl rfl rfl rfl rfl ?_
                refine LJ.nil ?_
                refine CJ.seq ?_
                refine CJ.region ?_
                refine LJ.yd rfl (Yd.mvP rfl) ?_
                refine LJ.call (pickF _ [0, 1, 2, 4, 5]) (pickF _ [3]) rfl (perm_pickF _ [0, 1, 2, 4, 5] [3] rfl) (fun k hk dk => skip_ok (by omega) (by omega) (by omega)) ?_
                rintro _ _ ⟨bad6, rfl, rfl, hb6⟩
                refine LJ.norm [_, _, _, _, _, _] rfl ?_
                refine LJ.nil ?_
                refine CJ.seq ?_
                refine CJ.region ?_
                refine LJ.yd rfl (Yd.mvI rfl) ?_
                refine LJ.yd rfl (Yd.mvI rfl) ?_
                refine LJ.yd rfl (Yd.loadG (us := [_, _, _, _, _]) 2 rfl rfl rfl rfl) ?_
                refine LJ.yd rfl (Yd.loadG (us := [_, _, _, _, _]) 4 rfl rfl rfl rfl) ?_
                refine LJ.op rfl (OpR.buildSlice (cs := [_, _, _, _, _, _, _, _, _, _]) rfl rfl) ?_
                rintro _ _ ⟨b4, rfl, rfl⟩
                refine LJ.yd rfl (Yd.build (cs := [_, _, _, _, _]) rfl) ?_
                refine LJ.store (v := .agg #[_, _, _, _, _]) (us := [_, _, _, _, _]) 0 rfl rfl rfl rfl rfl rfl rfl rfl ?_
                refine LJ.nil ?_
                refine CJ.ret ?_
                refine Fin.R [_, _] (Res.one (ResV.cell (us := [_, _, _, _, _]) 0 rfl rfl rfl rfl)) ⟨⟨opOf false, rdS ((tx.drop (p + 1).toNat).takeWhile isD), 0, false, _, 2, 2⟩, .c false (rdS ((tx.drop (p + 1).toNat).takeWhile isD)) b1 b2, _, _, rfl, rfl, fun hb => ?_, fun hb => ?_, by omega, by omega⟩ (Ent.pickFold [5] [1, 3, 6] [0, 2, 4] rfl (fun m s hb => RdT.foldV (d := false) (a := rdS ((tx.drop (p + 1).toNat).takeWhile isD)) (show I64 (rdS ((tx.drop (p + 1).toNat).takeWhile isD)) by unfold I64; omega) m (Sts.cond (hb6.1 hb).1 s)))
                · obtain ⟨hb5, h41⟩ := hb6.1 hb
                  obtain ⟨hz5a, hz5b, htk2⟩ := hT5 hb5
                  obtain ⟨hz5c, hcut3'⟩ := cut_nx (k := 41) (by omega) (by omega) (by omega) h41
                  have hcut3 : cut 41 (tx.drop z5.toNat) = (tx.drop (z5 + 1).toNat, true) := hcut3'
                  refine ⟨by omega, by omega, ?_⟩
                  rw [hpd, tk_c6 hnk hda (by rw [hcut1]) htk1' (by rw [hcut2]) (by rw [hcut2]; exact htk2) (by rw [hcut3]), rdS_T hnk, hcut3, show decide (c = 100) = false from (by
                    first
                      | exact decide_eq_true (u8y (k := 100) (by omega) h31)
                      | exact decide_eq_false (fun e => by rw [e] at h34; exact absurd h34 (by decide))
                      | (exfalso; omega))]
                · rw [hpd]
                  rcases Bool.eq_false_or_eq_true bad5 with hb5 | hb5
                  · exact tk_c4 hnk hda htk1' (by rw [hcut2]; exact hF5 hb5)
                  · obtain ⟨_, _, htk2⟩ := hT5 hb5
                    exact tk_c5 hnk hda htk1' (by rw [hcut2]; exact htk2) (cut_nxF (k := 41) (by omega) (by omega) (by omega) (fun e => by
                      have := hb6.2 ⟨hb5, e⟩; rw [hb] at this; cases this))
          · refine LJ.nil ?_
            refine CJ.condF rfl ?_
            refine CJ.skip ?_
            refine CJ.seq ?_
            refine CJ.region ?_
            refine LJ.yd rfl (Yd.mvP rfl) ?_
            refine LJ.call (pickF _ [0]) (pickF _ [1]) rfl (perm_pickF _ [0] [1] rfl) (fun k hk dk => count_ok hl (by omega) (by omega)) ?_
            rintro _ _ ⟨z1, bad1, rfl, rfl, hz1, hb1⟩
            obtain ⟨hdw, hzl1⟩ := dw_pos (by omega) hz1 (by omega)
            have hrb := rdS_b ((tx.drop (p + 1).toNat).takeWhile isD)
            refine LJ.norm [_, _] rfl ?_
            refine LJ.yd rfl (Yd.asI rfl) ?_
            refine LJ.nil ?_
            refine CJ.seq ?_
            refine CJ.region ?_
            refine LJ.yd rfl (Yd.mvP rfl) ?_
            refine LJ.call (pickF _ [0]) (pickF _ [1]) rfl (perm_pickF _ [0] [1] rfl) (fun k hk dk => skip_ok (by omega) (by omega) (by omega)) ?_
            rintro _ _ ⟨bad2, rfl, rfl, hb2⟩
            refine LJ.norm [_, _] rfl ?_
            refine LJ.nil ?_
            refine CJ.seq ?_
            refine CJ.seq ?_
            refine CJ.region ?_
            refine LJ.yd rfl (Yd.mvP rfl) ?_
            refine LJ.yd rfl (Yd.nilCheck rfl) ?_
            refine LJ.yd rfl (Yd.fieldAddr rfl) ?_
            refine LJ.split rfl (Yd.loadC 1 rfl rfl rfl) (fun h42 => ?_) (fun h42 => ?_)
            · refine LJ.nil ?_
              refine CJ.condT rfl ?_
              refine CJ.seq ?_
              refine CJ.region ?_
              refine LJ.yd rfl (Yd.build (cs := [_, _, _, _, _]) rfl) ?_
              refine LJ.store (v := .agg #[_, _, _, _, _]) (us := [_, _, _, _, _]) 0 rfl rfl rfl rfl rfl rfl rfl rfl ?_
              refine LJ.nil ?_
              refine CJ.ret ?_
              refine Fin.R [_, _] (Res.one (ResV.cell (us := [_, _, _, _, _]) 0 rfl rfl rfl rfl)) ⟨⟨0, 0, 0, false, none, 0, 0⟩, .w, _, _, rfl, rfl, fun h => (by rw [h42] at h; cases h), fun _ => ?_, by omega, by omega⟩ (Ent.pickFold [1] [] [0] rfl (fun _ _ h => (by rw [h42] at h; cases h)))
              rw [hpd]
              rcases Bool.eq_false_or_eq_true (numOk ((tx.drop (p + 1).toNat).takeWhile isD)) with hn | hn
              · refine tk_c1 hn hda ?_
                rw [hdw]
                exact cut_nxF (k := 40) (by omega) (by omega) (by omega) (fun e => by
                  have := hb2.2 ⟨hb1.2 ⟨rfl, hn⟩, e⟩
                  rw [h42] at this; cases this)
              · exact tk_no (u8n (k := 119) (by omega) h20) hn
            · refine LJ.nil ?_
              refine CJ.condF rfl ?_
              refine CJ.skip ?_
              refine CJ.seq ?_
              obtain ⟨hb1f, h40⟩ := hb2.1 h42
              obtain ⟨_, hnk⟩ := hb1.1 hb1f
              obtain ⟨hz1c, hcut1'⟩ := cut_nx (k := 40) (by omega) (by omega) (by omega) h40
              rw [← hdw] at hcut1'
              have hcut1 : cut 40 ((tx.drop (p + 1).toNat).dropWhile isD) = (tx.drop (z1 + 1).toNat, true) := hcut1'
              rw [h42]
              refine CJ.region ?_
              refine LJ.yd rfl (Yd.mvP rfl) ?_
              refine LJ.call (pickF _ [0]) (pickF _ [1]) rfl (perm_pickF _ [0] [1] rfl) (fun k hk dk => ih _ _ _ _ (by omega) (by omega) hl (by omega) (by omega)) ?_
              rintro _ _ ⟨u1, b1, z3, bad3, rfl, rfl, hT3, hF3, hz30, hz31⟩
              refine LJ.norm [_, _, _] rfl ?_
              refine LJ.alloc ([_, _, _, _, _] : List Value) rfl rfl (fun b5 => ?_)
              refine LJ.store (v := .agg #[_, _, _, _, _]) (us := [_, _, _, _, _]) 3 rfl rfl rfl rfl rfl rfl rfl rfl ?_
              refine LJ.nil ?_
              refine CJ.seq ?_
              refine CJ.region ?_
              refine LJ.yd rfl (Yd.mvP rfl) ?_
              refine LJ.call (pickF _ [0, 2, 3]) (pickF _ [1]) rfl (perm_pickF _ [0, 2, 3] [1] rfl) (fun k hk dk => skip_ok (by omega) (by omega) (by omega)) ?_
              rintro _ _ ⟨bad4, rfl, rfl, hb4⟩
              refine LJ.norm [_, _, _, _] rfl ?_
              refine LJ.nil ?_
              refine CJ.seq ?_
              refine CJ.seq ?_
              refine CJ.region ?_
              refine LJ.yd rfl (Yd.mvP rfl) ?_
              refine LJ.yd rfl (Yd.nilCheck rfl) ?_
              refine LJ.yd rfl (Yd.fieldAddr rfl) ?_
              refine LJ.split rfl (Yd.loadC 3 rfl rfl rfl) (fun h51 => ?_) (fun h51 => ?_)
              · refine LJ.nil ?_
                refine CJ.condT rfl ?_
                refine CJ.seq ?_
                refine CJ.region ?_
                refine LJ.yd rfl (Yd.build (cs := [_, _, _, _, _]) rfl) ?_
                refine LJ.store (v := .agg #[_, _, _, _, _]) (us := [_, _, _, _, _]) 0 rfl rfl rfl rfl rfl rfl rfl rfl ?_
                refine LJ.nil ?_
                refine CJ.ret ?_
                refine Fin.R [_, _] (Res.one (ResV.cell (us := [_, _, _, _, _]) 0 rfl rfl rfl rfl)) ⟨⟨0, 0, 0, false, none, 0, 0⟩, .w, _, _, rfl, rfl, fun h => (by rw [h51] at h; cases h), fun _ => ?_, by omega, by omega⟩ (Ent.pickFold [3] [] [0, 1, 2] rfl (fun _ _ h => (by rw [h51] at h; cases h)))
                rw [hpd]
                rcases Bool.eq_false_or_eq_true bad3 with hb3 | hb3
                · exact tk_c2 hnk hda (by rw [hcut1]; exact hF3 hb3)
                · obtain ⟨_, _, htk⟩ := hT3 hb3
                  exact tk_c3 hnk hda (by rw [hcut1]; exact htk) (cut_nxF (k := 44) (by omega) (by omega) (by omega) (fun e => by
                    have := hb4.2 ⟨hb3, e⟩; rw [h51] at this; cases this))
              · refine LJ.nil ?_
                refine CJ.condF rfl ?_
                refine CJ.skip ?_
                refine CJ.seq ?_
                obtain ⟨hb3f, h44⟩ := hb4.1 h51
                obtain ⟨hz3a, hz3b, htk1⟩ := hT3 hb3f
                obtain ⟨hz3c, hcut2a⟩ := cut_nx (k := 44) (by omega) (by omega) (by omega) h44
                have hcut2 : cut 44 (tx.drop z3.toNat) = (tx.drop (z3 + 1).toNat, true) := hcut2a
                have htk1' : tkP N (cut 40 ((tx.drop (p + 1).toNat).dropWhile isD)).1 = some (b1, tx.drop z3.toNat) := by rw [hcut1]; exact htk1
                rw [h51]
                refine CJ.imp1 1 rfl (fun _ r => r hb3f) ?_
                refine CJ.norm [_, _, _, _] rfl ?_
                refine CJ.region ?_
                refine LJ.yd rfl (Yd.mvP rfl) ?_
                refine LJ.call (pickF _ [0, 1, 2]) (pickF _ [3]) rfl (perm_pickF _ [0, 1, 2] [3] rfl) (fun k hk dk => ih _ _ _ _ (by omega) (by omega) hl (by omega) (by omega)) ?_
                rintro _ _ ⟨u2, b2, z5, bad5, rfl, rfl, hT5, hF5, hz50, hz51⟩
                refine LJ.norm [_, _, _, _, _] rfl ?_
                refine LJ.alloc ([_, _, _, _, _] : List Value) rfl rfl (fun b6 => ?_)
                refine LJ.store (v := .agg #[_, _, _, _, _]) (us := [_, _, _, _, _]) 5 rfl rfl rfl rfl rfl rfl rfl rfl ?_
                refine LJ.nil ?_
                refine CJ.seq ?_
                refine CJ.region ?_
                refine LJ.yd rfl (Yd.mvP rfl) ?_
                refine LJ.call (pickF _ [0, 1, 2, 4, 5]) (pickF _ [3]) rfl (perm_pickF _ [0, 1, 2, 4, 5] [3] rfl) (fun k hk dk => skip_ok (by omega) (by omega) (by omega)) ?_
                rintro _ _ ⟨bad6, rfl, rfl, hb6⟩
                refine LJ.norm [_, _, _, _, _, _] rfl ?_
                refine LJ.nil ?_
                refine CJ.seq ?_
                refine CJ.region ?_
                refine LJ.yd rfl (Yd.mvI rfl) ?_
                refine LJ.yd rfl (Yd.mvI rfl) ?_
                refine LJ.yd rfl (Yd.loadG (us := [_, _, _, _, _]) 2 rfl rfl rfl rfl) ?_
                refine LJ.yd rfl (Yd.loadG (us := [_, _, _, _, _]) 4 rfl rfl rfl rfl) ?_
                refine LJ.op rfl (OpR.buildSlice (cs := [_, _, _, _, _, _, _, _, _, _]) rfl rfl) ?_
                rintro _ _ ⟨b7, rfl, rfl⟩
                refine LJ.yd rfl (Yd.build (cs := [_, _, _, _, _]) rfl) ?_
                refine LJ.store (v := .agg #[_, _, _, _, _]) (us := [_, _, _, _, _]) 0 rfl rfl rfl rfl rfl rfl rfl rfl ?_
                refine LJ.nil ?_
                refine CJ.ret ?_
                refine Fin.R [_, _] (Res.one (ResV.cell (us := [_, _, _, _, _]) 0 rfl rfl rfl rfl)) ⟨⟨opOf true, rdS ((tx.drop (p + 1).toNat).takeWhile isD), 0, false, _, 2, 2⟩, .c true (rdS ((tx.drop (p + 1).toNat).takeWhile isD)) b1 b2, _, _, rfl, rfl, fun hb => ?_, fun hb => ?_, by omega, by omega⟩ (Ent.pickFold [5] [1, 3, 6] [0, 2, 4] rfl (fun m s hb => RdT.foldV (d := true) (a := rdS ((tx.drop (p + 1).toNat).takeWhile isD)) (show I64 (rdS ((tx.drop (p + 1).toNat).takeWhile isD)) by unfold I64; omega) m (Sts.cond (hb6.1 hb).1 s)))
                · obtain ⟨hb5, h41⟩ := hb6.1 hb
                  obtain ⟨hz5a, hz5b, htk2⟩ := hT5 hb5
                  obtain ⟨hz5c, hcut3'⟩ := cut_nx (k := 41) (by omega) (by omega) (by omega) h41
                  have hcut3 : cut 41 (tx.drop z5.toNat) = (tx.drop (z5 + 1).toNat, true) := hcut3'
                  refine ⟨by omega, by omega, ?_⟩
                  rw [hpd, tk_c6 hnk hda (by rw [hcut1]) htk1' (by rw [hcut2]) (by rw [hcut2]; exact htk2) (by rw [hcut3]), rdS_T hnk, hcut3, show decide (c = 100) = true from (by
                    first
                      | exact decide_eq_true (u8y (k := 100) (by omega) h31)
                      | exact decide_eq_false (fun e => by rw [e] at h34; exact absurd h34 (by decide))
                      | (exfalso; omega))]
                · rw [hpd]
                  rcases Bool.eq_false_or_eq_true bad5 with hb5 | hb5
                  · exact tk_c4 hnk hda htk1' (by rw [hcut2]; exact hF5 hb5)
                  · obtain ⟨_, _, htk2⟩ := hT5 hb5
                    exact tk_c5 hnk hda htk1' (by rw [hcut2]; exact htk2) (cut_nxF (k := 41) (by omega) (by omega) (by omega) (fun e => by
                      have := hb6.2 ⟨hb5, e⟩; rw [hb] at this; cases this))
        · refine LJ.yd rfl (Yd.asB rfl) ?_
          refine LJ.nil ?_
          refine CJ.condF rfl ?_
          refine CJ.region ?_
          refine LJ.splitD rfl (Yd.eql rfl rfl) (fun h32 => ?_) (fun h32 => ?_)
          · refine LJ.yd rfl (Yd.asB rfl) ?_
            refine LJ.nil ?_
            refine CJ.condT rfl ?_
            refine CJ.seq ?_
            obtain ⟨hp1, hpd⟩ := head_c h0 hc (by omega)
            have hda : c = 100 ∨ c = 97 := by first | exact .inl (u8y (k := 100) (by omega) h31) | exact .inr (u8y (k := 97) (by omega) h32)
            refine CJ.region ?_
            refine LJ.yd rfl (Yd.asI rfl) ?_
            refine LJ.nil ?_
            refine CJ.seq ?_
            refine CJ.seq ?_
            refine CJ.region ?_
            refine LJ.yd rfl (Yd.mvI rfl) ?_
            refine LJ.splitD rfl (Yd.eql rfl rfl) (fun h34 => ?_) (fun h34 => ?_)
            · refine LJ.nil ?_
              refine CJ.condT rfl ?_
              refine CJ.region ?_
              refine LJ.yd rfl (Yd.asI rfl) ?_
              refine LJ.nil ?_
              refine CJ.seq ?_
              refine CJ.region ?_
              refine LJ.yd rfl (Yd.mvP rfl) ?_
              refine LJ.call (pickF _ [0]) (pickF _ [1]) rfl (perm_pickF _ [0] [1] rfl) (fun k hk dk => count_ok hl (by omega) (by omega)) ?_
              rintro _ _ ⟨z1, bad1, rfl, rfl, hz1, hb1⟩
              obtain ⟨hdw, hzl1⟩ := dw_pos (by omega) hz1 (by omega)
              have hrb := rdS_b ((tx.drop (p + 1).toNat).takeWhile isD)
              refine LJ.norm [_, _] rfl ?_
              refine LJ.yd rfl (Yd.asI rfl) ?_
              refine LJ.nil ?_
              refine CJ.seq ?_
              refine CJ.region ?_
              refine LJ.yd rfl (Yd.mvP rfl) ?_
              refine LJ.call (pickF _ [0]) (pickF _ [1]) rfl (perm_pickF _ [0] [1] rfl) (fun k hk dk => skip_ok (by omega) (by omega) (by omega)) ?_
              rintro _ _ ⟨bad2, rfl, rfl, hb2⟩
              refine LJ.norm [_, _] rfl ?_
              refine LJ.nil ?_
              refine CJ.seq ?_
              refine CJ.seq ?_
              refine CJ.region ?_
              refine LJ.yd rfl (Yd.mvP rfl) ?_
              refine LJ.yd rfl (Yd.nilCheck rfl) ?_
              refine LJ.yd rfl (Yd.fieldAddr rfl) ?_
              refine LJ.split rfl (Yd.loadC 1 rfl rfl rfl) (fun h42 => ?_) (fun h42 => ?_)
              · refine LJ.nil ?_
                refine CJ.condT rfl ?_
                refine CJ.seq ?_
                refine CJ.region ?_
                refine LJ.yd rfl (Yd.build (cs := [_, _, _, _, _]) rfl) ?_
                refine LJ.store (v := .agg #[_, _, _, _, _]) (us := [_, _, _, _, _]) 0 rfl rfl rfl rfl rfl rfl rfl rfl ?_
                refine LJ.nil ?_
                refine CJ.ret ?_
                refine Fin.R [_, _] (Res.one (ResV.cell (us := [_, _, _, _, _]) 0 rfl rfl rfl rfl)) ⟨⟨0, 0, 0, false, none, 0, 0⟩, .w, _, _, rfl, rfl, fun h => (by rw [h42] at h; cases h), fun _ => ?_, by omega, by omega⟩ (Ent.pickFold [1] [] [0] rfl (fun _ _ h => (by rw [h42] at h; cases h)))
                rw [hpd]
                rcases Bool.eq_false_or_eq_true (numOk ((tx.drop (p + 1).toNat).takeWhile isD)) with hn | hn
                · refine tk_c1 hn hda ?_
                  rw [hdw]
                  exact cut_nxF (k := 40) (by omega) (by omega) (by omega) (fun e => by
                    have := hb2.2 ⟨hb1.2 ⟨rfl, hn⟩, e⟩
                    rw [h42] at this; cases this)
                · exact tk_no (u8n (k := 119) (by omega) h20) hn
              · refine LJ.nil ?_
                refine CJ.condF rfl ?_
                refine CJ.skip ?_
                refine CJ.seq ?_
                obtain ⟨hb1f, h40⟩ := hb2.1 h42
                obtain ⟨_, hnk⟩ := hb1.1 hb1f
                obtain ⟨hz1c, hcut1'⟩ := cut_nx (k := 40) (by omega) (by omega) (by omega) h40
                rw [← hdw] at hcut1'
                have hcut1 : cut 40 ((tx.drop (p + 1).toNat).dropWhile isD) = (tx.drop (z1 + 1).toNat, true) := hcut1'
                rw [h42]
                refine CJ.region ?_
                refine LJ.yd rfl (Yd.mvP rfl) ?_
                refine LJ.call (pickF _ [0]) (pickF _ [1]) rfl (perm_pickF _ [0] [1] rfl) (fun k hk dk => ih _ _ _ _ (by omega) (by omega) hl (by omega) (by omega)) ?_
                rintro _ _ ⟨u1, b1, z3, bad3, rfl, rfl, hT3, hF3, hz30, hz31⟩
                refine LJ.norm [_, _, _] rfl ?_
                refine LJ.alloc ([_, _, _, _, _] : List Value) rfl rfl (fun b8 => ?_)
                refine LJ.store (v := .agg #[_, _, _, _, _]) (us := [_, _, _, _, _]) 3 rfl rfl rfl rfl rfl rfl rfl rfl ?_
                refine LJ.nil ?_
                refine CJ.seq ?_
                refine CJ.region ?_
                refine LJ.yd rfl (Yd.mvP rfl) ?_
                refine LJ.call (pickF _ [0, 2, 3]) (pickF _ [1]) rfl (perm_pickF _ [0, 2, 3] [1] rfl) (fun k hk dk => skip_ok (by omega) (by omega) (by omega)) ?_
                rintro _ _ ⟨bad4, rfl, rfl, hb4⟩
                refine LJ.norm [_, _, _, _] rfl ?_
                refine LJ.nil ?_
                refine CJ.seq ?_
                refine CJ.seq ?_
                refine CJ.region ?_
                refine LJ.yd rfl (Yd.mvP rfl) ?_
                refine LJ.yd rfl (Yd.nilCheck rfl) ?_
                refine LJ.yd rfl (Yd.fieldAddr rfl) ?_
                refine LJ.split rfl (Yd.loadC 3 rfl rfl rfl) (fun h51 => ?_) (fun h51 => ?_)
                · refine LJ.nil ?_
                  refine CJ.condT rfl ?_
                  refine CJ.seq ?_
                  refine CJ.region ?_
                  refine LJ.yd rfl (Yd.build (cs := [_, _, _, _, _]) rfl) ?_
                  refine LJ.store (v := .agg #[_, _, _, _, _]) (us := [_, _, _, _, _]) 0 rfl rfl rfl rfl rfl rfl rfl rfl ?_
                  refine LJ.nil ?_
                  refine CJ.ret ?_
                  refine Fin.R [_, _] (Res.one (ResV.cell (us := [_, _, _, _, _]) 0 rfl rfl rfl rfl)) ⟨⟨0, 0, 0, false, none, 0, 0⟩, .w, _, _, rfl, rfl, fun h => (by rw [h51] at h; cases h), fun _ => ?_, by omega, by omega⟩ (Ent.pickFold [3] [] [0, 1, 2] rfl (fun _ _ h => (by rw [h51] at h; cases h)))
                  rw [hpd]
                  rcases Bool.eq_false_or_eq_true bad3 with hb3 | hb3
                  · exact tk_c2 hnk hda (by rw [hcut1]; exact hF3 hb3)
                  · obtain ⟨_, _, htk⟩ := hT3 hb3
                    exact tk_c3 hnk hda (by rw [hcut1]; exact htk) (cut_nxF (k := 44) (by omega) (by omega) (by omega) (fun e => by
                      have := hb4.2 ⟨hb3, e⟩; rw [h51] at this; cases this))
                · refine LJ.nil ?_
                  refine CJ.condF rfl ?_
                  refine CJ.skip ?_
                  refine CJ.seq ?_
                  obtain ⟨hb3f, h44⟩ := hb4.1 h51
                  obtain ⟨hz3a, hz3b, htk1⟩ := hT3 hb3f
                  obtain ⟨hz3c, hcut2a⟩ := cut_nx (k := 44) (by omega) (by omega) (by omega) h44
                  have hcut2 : cut 44 (tx.drop z3.toNat) = (tx.drop (z3 + 1).toNat, true) := hcut2a
                  have htk1' : tkP N (cut 40 ((tx.drop (p + 1).toNat).dropWhile isD)).1 = some (b1, tx.drop z3.toNat) := by rw [hcut1]; exact htk1
                  rw [h51]
                  refine CJ.imp1 1 rfl (fun _ r => r hb3f) ?_
                  refine CJ.norm [_, _, _, _] rfl ?_
                  refine CJ.region ?_
                  refine LJ.yd rfl (Yd.mvP rfl) ?_
                  refine LJ.call (pickF _ [0, 1, 2]) (pickF _ [3]) rfl (perm_pickF _ [0, 1, 2] [3] rfl) (fun k hk dk => ih _ _ _ _ (by omega) (by omega) hl (by omega) (by omega)) ?_
                  rintro _ _ ⟨u2, b2, z5, bad5, rfl, rfl, hT5, hF5, hz50, hz51⟩
                  refine LJ.norm [_, _, _, _, _] rfl ?_
                  refine LJ.alloc ([_, _, _, _, _] : List Value) rfl rfl (fun b9 => ?_)
                  refine LJ.store (v := .agg #[_, _, _, _, _]) (us := [_, _, _, _, _]) 5 rfl rfl rfl rfl rfl rfl rfl rfl ?_
                  refine LJ.nil ?_
                  refine CJ.seq ?_
                  refine CJ.region ?_
                  refine LJ.yd rfl (Yd.mvP rfl) ?_
                  refine LJ.call (pickF _ [0, 1, 2, 4, 5]) (pickF _ [3]) rfl (perm_pickF _ [0, 1, 2, 4, 5] [3] rfl) (fun k hk dk => skip_ok (by omega) (by omega) (by omega)) ?_
                  rintro _ _ ⟨bad6, rfl, rfl, hb6⟩
                  refine LJ.norm [_, _, _, _, _, _] rfl ?_
                  refine LJ.nil ?_
                  refine CJ.seq ?_
                  refine CJ.region ?_
                  refine LJ.yd rfl (Yd.mvI rfl) ?_
                  refine LJ.yd rfl (Yd.mvI rfl) ?_
                  refine LJ.yd rfl (Yd.loadG (us := [_, _, _, _, _]) 2 rfl rfl rfl rfl) ?_
                  refine LJ.yd rfl (Yd.loadG (us := [_, _, _, _, _]) 4 rfl rfl rfl rfl) ?_
                  refine LJ.op rfl (OpR.buildSlice (cs := [_, _, _, _, _, _, _, _, _, _]) rfl rfl) ?_
                  rintro _ _ ⟨b10, rfl, rfl⟩
                  refine LJ.yd rfl (Yd.build (cs := [_, _, _, _, _]) rfl) ?_
                  refine LJ.store (v := .agg #[_, _, _, _, _]) (us := [_, _, _, _, _]) 0 rfl rfl rfl rfl rfl rfl rfl rfl ?_
                  refine LJ.nil ?_
                  refine CJ.ret ?_
                  refine Fin.R [_, _] (Res.one (ResV.cell (us := [_, _, _, _, _]) 0 rfl rfl rfl rfl)) ⟨⟨opOf false, rdS ((tx.drop (p + 1).toNat).takeWhile isD), 0, false, _, 2, 2⟩, .c false (rdS ((tx.drop (p + 1).toNat).takeWhile isD)) b1 b2, _, _, rfl, rfl, fun hb => ?_, fun hb => ?_, by omega, by omega⟩ (Ent.pickFold [5] [1, 3, 6] [0, 2, 4] rfl (fun m s hb => RdT.foldV (d := false) (a := rdS ((tx.drop (p + 1).toNat).takeWhile isD)) (show I64 (rdS ((tx.drop (p + 1).toNat).takeWhile isD)) by unfold I64; omega) m (Sts.cond (hb6.1 hb).1 s)))
                  · obtain ⟨hb5, h41⟩ := hb6.1 hb
                    obtain ⟨hz5a, hz5b, htk2⟩ := hT5 hb5
                    obtain ⟨hz5c, hcut3'⟩ := cut_nx (k := 41) (by omega) (by omega) (by omega) h41
                    have hcut3 : cut 41 (tx.drop z5.toNat) = (tx.drop (z5 + 1).toNat, true) := hcut3'
                    refine ⟨by omega, by omega, ?_⟩
                    rw [hpd, tk_c6 hnk hda (by rw [hcut1]) htk1' (by rw [hcut2]) (by rw [hcut2]; exact htk2) (by rw [hcut3]), rdS_T hnk, hcut3, show decide (c = 100) = false from (by
                      first
                        | exact decide_eq_true (u8y (k := 100) (by omega) h31)
                        | exact decide_eq_false (fun e => by rw [e] at h34; exact absurd h34 (by decide))
                        | (exfalso; omega))]
                  · rw [hpd]
                    rcases Bool.eq_false_or_eq_true bad5 with hb5 | hb5
                    · exact tk_c4 hnk hda htk1' (by rw [hcut2]; exact hF5 hb5)
                    · obtain ⟨_, _, htk2⟩ := hT5 hb5
                      exact tk_c5 hnk hda htk1' (by rw [hcut2]; exact htk2) (cut_nxF (k := 41) (by omega) (by omega) (by omega) (fun e => by
                        have := hb6.2 ⟨hb5, e⟩; rw [hb] at this; cases this))
            · refine LJ.nil ?_
              refine CJ.condF rfl ?_
              refine CJ.skip ?_
              refine CJ.seq ?_
              refine CJ.region ?_
              refine LJ.yd rfl (Yd.mvP rfl) ?_
              refine LJ.call (pickF _ [0]) (pickF _ [1]) rfl (perm_pickF _ [0] [1] rfl) (fun k hk dk => count_ok hl (by omega) (by omega)) ?_
              rintro _ _ ⟨z1, bad1, rfl, rfl, hz1, hb1⟩
              obtain ⟨hdw, hzl1⟩ := dw_pos (by omega) hz1 (by omega)
              have hrb := rdS_b ((tx.drop (p + 1).toNat).takeWhile isD)
              refine LJ.norm [_, _] rfl ?_
              refine LJ.yd rfl (Yd.asI rfl) ?_
              refine LJ.nil ?_
              refine CJ.seq ?_
              refine CJ.region ?_
              refine LJ.yd rfl (Yd.mvP rfl) ?_
              refine LJ.call (pickF _ [0]) (pickF _ [1]) rfl (perm_pickF _ [0] [1] rfl) (fun k hk dk => skip_ok (by omega) (by omega) (by omega)) ?_
              rintro _ _ ⟨bad2, rfl, rfl, hb2⟩
              refine LJ.norm [_, _] rfl ?_
              refine LJ.nil ?_
              refine CJ.seq ?_
              refine CJ.seq ?_
              refine CJ.region ?_
              refine LJ.yd rfl (Yd.mvP rfl) ?_
              refine LJ.yd rfl (Yd.nilCheck rfl) ?_
              refine LJ.yd rfl (Yd.fieldAddr rfl) ?_
              refine LJ.split rfl (Yd.loadC 1 rfl rfl rfl) (fun h42 => ?_) (fun h42 => ?_)
              · refine LJ.nil ?_
                refine CJ.condT rfl ?_
                refine CJ.seq ?_
                refine CJ.region ?_
                refine LJ.yd rfl (Yd.build (cs := [_, _, _, _, _]) rfl) ?_
                refine LJ.store (v := .agg #[_, _, _, _, _]) (us := [_, _, _, _, _]) 0 rfl rfl rfl rfl rfl rfl rfl rfl ?_
                refine LJ.nil ?_
                refine CJ.ret ?_
                refine Fin.R [_, _] (Res.one (ResV.cell (us := [_, _, _, _, _]) 0 rfl rfl rfl rfl)) ⟨⟨0, 0, 0, false, none, 0, 0⟩, .w, _, _, rfl, rfl, fun h => (by rw [h42] at h; cases h), fun _ => ?_, by omega, by omega⟩ (Ent.pickFold [1] [] [0] rfl (fun _ _ h => (by rw [h42] at h; cases h)))
                rw [hpd]
                rcases Bool.eq_false_or_eq_true (numOk ((tx.drop (p + 1).toNat).takeWhile isD)) with hn | hn
                · refine tk_c1 hn hda ?_
                  rw [hdw]
                  exact cut_nxF (k := 40) (by omega) (by omega) (by omega) (fun e => by
                    have := hb2.2 ⟨hb1.2 ⟨rfl, hn⟩, e⟩
                    rw [h42] at this; cases this)
                · exact tk_no (u8n (k := 119) (by omega) h20) hn
              · refine LJ.nil ?_
                refine CJ.condF rfl ?_
                refine CJ.skip ?_
                refine CJ.seq ?_
                obtain ⟨hb1f, h40⟩ := hb2.1 h42
                obtain ⟨_, hnk⟩ := hb1.1 hb1f
                obtain ⟨hz1c, hcut1'⟩ := cut_nx (k := 40) (by omega) (by omega) (by omega) h40
                rw [← hdw] at hcut1'
                have hcut1 : cut 40 ((tx.drop (p + 1).toNat).dropWhile isD) = (tx.drop (z1 + 1).toNat, true) := hcut1'
                rw [h42]
                refine CJ.region ?_
                refine LJ.yd rfl (Yd.mvP rfl) ?_
                refine LJ.call (pickF _ [0]) (pickF _ [1]) rfl (perm_pickF _ [0] [1] rfl) (fun k hk dk => ih _ _ _ _ (by omega) (by omega) hl (by omega) (by omega)) ?_
                rintro _ _ ⟨u1, b1, z3, bad3, rfl, rfl, hT3, hF3, hz30, hz31⟩
                refine LJ.norm [_, _, _] rfl ?_
                refine LJ.alloc ([_, _, _, _, _] : List Value) rfl rfl (fun b11 => ?_)
                refine LJ.store (v := .agg #[_, _, _, _, _]) (us := [_, _, _, _, _]) 3 rfl rfl rfl rfl rfl rfl rfl rfl ?_
                refine LJ.nil ?_
                refine CJ.seq ?_
                refine CJ.region ?_
                refine LJ.yd rfl (Yd.mvP rfl) ?_
                refine LJ.call (pickF _ [0, 2, 3]) (pickF _ [1]) rfl (perm_pickF _ [0, 2, 3] [1] rfl) (fun k hk dk => skip_ok (by omega) (by omega) (by omega)) ?_
                rintro _ _ ⟨bad4, rfl, rfl, hb4⟩
                refine LJ.norm [_, _, _, _] rfl ?_
                refine LJ.nil ?_
                refine CJ.seq ?_
                refine CJ.seq ?_
                refine CJ.region ?_
                refine LJ.yd rfl (Yd.mvP rfl) ?_
                refine LJ.yd rfl (Yd.nilCheck rfl) ?_
                refine LJ.yd rfl (Yd.fieldAddr rfl) ?_
                refine LJ.split rfl (Yd.loadC 3 rfl rfl rfl) (fun h51 => ?_) (fun h51 => ?_)
                · refine LJ.nil ?_
                  refine CJ.condT rfl ?_
                  refine CJ.seq ?_
                  refine CJ.region ?_
                  refine LJ.yd rfl (Yd.build (cs := [_, _, _, _, _]) rfl) ?_
                  refine LJ.store (v := .agg #[_, _, _, _, _]) (us := [_, _, _, _, _]) 0 rfl rfl rfl rfl rfl rfl rfl rfl ?_
                  refine LJ.nil ?_
                  refine CJ.ret ?_
                  refine Fin.R [_, _] (Res.one (ResV.cell (us := [_, _, _, _, _]) 0 rfl rfl rfl rfl)) ⟨⟨0, 0, 0, false, none, 0, 0⟩, .w, _, _, rfl, rfl, fun h => (by rw [h51] at h; cases h), fun _ => ?_, by omega, by omega⟩ (Ent.pickFold [3] [] [0, 1, 2] rfl (fun _ _ h => (by rw [h51] at h; cases h)))
                  rw [hpd]
                  rcases Bool.eq_false_or_eq_true bad3 with hb3 | hb3
                  · exact tk_c2 hnk hda (by rw [hcut1]; exact hF3 hb3)
                  · obtain ⟨_, _, htk⟩ := hT3 hb3
                    exact tk_c3 hnk hda (by rw [hcut1]; exact htk) (cut_nxF (k := 44) (by omega) (by omega) (by omega) (fun e => by
                      have := hb4.2 ⟨hb3, e⟩; rw [h51] at this; cases this))
                · refine LJ.nil ?_
                  refine CJ.condF rfl ?_
                  refine CJ.skip ?_
                  refine CJ.seq ?_
                  obtain ⟨hb3f, h44⟩ := hb4.1 h51
                  obtain ⟨hz3a, hz3b, htk1⟩ := hT3 hb3f
                  obtain ⟨hz3c, hcut2a⟩ := cut_nx (k := 44) (by omega) (by omega) (by omega) h44
                  have hcut2 : cut 44 (tx.drop z3.toNat) = (tx.drop (z3 + 1).toNat, true) := hcut2a
                  have htk1' : tkP N (cut 40 ((tx.drop (p + 1).toNat).dropWhile isD)).1 = some (b1, tx.drop z3.toNat) := by rw [hcut1]; exact htk1
                  rw [h51]
                  refine CJ.imp1 1 rfl (fun _ r => r hb3f) ?_
                  refine CJ.norm [_, _, _, _] rfl ?_
                  refine CJ.region ?_
                  refine LJ.yd rfl (Yd.mvP rfl) ?_
                  refine LJ.call (pickF _ [0, 1, 2]) (pickF _ [3]) rfl (perm_pickF _ [0, 1, 2] [3] rfl) (fun k hk dk => ih _ _ _ _ (by omega) (by omega) hl (by omega) (by omega)) ?_
                  rintro _ _ ⟨u2, b2, z5, bad5, rfl, rfl, hT5, hF5, hz50, hz51⟩
                  refine LJ.norm [_, _, _, _, _] rfl ?_
                  refine LJ.alloc ([_, _, _, _, _] : List Value) rfl rfl (fun b12 => ?_)
                  refine LJ.store (v := .agg #[_, _, _, _, _]) (us := [_, _, _, _, _]) 5 rfl rfl rfl rfl rfl rfl rfl rfl ?_
                  refine LJ.nil ?_
                  refine CJ.seq ?_
                  refine CJ.region ?_
                  refine LJ.yd rfl (Yd.mvP rfl) ?_
                  refine LJ.call (pickF _ [0, 1, 2, 4, 5]) (pickF _ [3]) rfl (perm_pickF _ [0, 1, 2, 4, 5] [3] rfl) (fun k hk dk => skip_ok (by omega) (by omega) (by omega)) ?_
                  rintro _ _ ⟨bad6, rfl, rfl, hb6⟩
                  refine LJ.norm [_, _, _, _, _, _] rfl ?_
                  refine LJ.nil ?_
                  refine CJ.seq ?_
                  refine CJ.region ?_
                  refine LJ.yd rfl (Yd.mvI rfl) ?_
                  refine LJ.yd rfl (Yd.mvI rfl) ?_
                  refine LJ.yd rfl (Yd.loadG (us := [_, _, _, _, _]) 2 rfl rfl rfl rfl) ?_
                  refine LJ.yd rfl (Yd.loadG (us := [_, _, _, _, _]) 4 rfl rfl rfl rfl) ?_
                  refine LJ.op rfl (OpR.buildSlice (cs := [_, _, _, _, _, _, _, _, _, _]) rfl rfl) ?_
                  rintro _ _ ⟨b13, rfl, rfl⟩
                  refine LJ.yd rfl (Yd.build (cs := [_, _, _, _, _]) rfl) ?_
                  refine LJ.store (v := .agg #[_, _, _, _, _]) (us := [_, _, _, _, _]) 0 rfl rfl rfl rfl rfl rfl rfl rfl ?_
                  refine LJ.nil ?_
                  refine CJ.ret ?_
                  refine Fin.R [_, _] (Res.one (ResV.cell (us := [_, _, _, _, _]) 0 rfl rfl rfl rfl)) ⟨⟨opOf true, rdS ((tx.drop (p + 1).toNat).takeWhile isD), 0, false, _, 2, 2⟩, .c true (rdS ((tx.drop (p + 1).toNat).takeWhile isD)) b1 b2, _, _, rfl, rfl, fun hb => ?_, fun hb => ?_, by omega, by omega⟩ (Ent.pickFold [5] [1, 3, 6] [0, 2, 4] rfl (fun m s hb => RdT.foldV (d := true) (a := rdS ((tx.drop (p + 1).toNat).takeWhile isD)) (show I64 (rdS ((tx.drop (p + 1).toNat).takeWhile isD)) by unfold I64; omega) m (Sts.cond (hb6.1 hb).1 s)))
                  · obtain ⟨hb5, h41⟩ := hb6.1 hb
                    obtain ⟨hz5a, hz5b, htk2⟩ := hT5 hb5
                    obtain ⟨hz5c, hcut3'⟩ := cut_nx (k := 41) (by omega) (by omega) (by omega) h41
                    have hcut3 : cut 41 (tx.drop z5.toNat) = (tx.drop (z5 + 1).toNat, true) := hcut3'
                    refine ⟨by omega, by omega, ?_⟩
                    rw [hpd, tk_c6 hnk hda (by rw [hcut1]) htk1' (by rw [hcut2]) (by rw [hcut2]; exact htk2) (by rw [hcut3]), rdS_T hnk, hcut3, show decide (c = 100) = true from (by
                      first
                        | exact decide_eq_true (u8y (k := 100) (by omega) h31)
                        | exact decide_eq_false (fun e => by rw [e] at h34; exact absurd h34 (by decide))
                        | (exfalso; omega))]
                  · rw [hpd]
                    rcases Bool.eq_false_or_eq_true bad5 with hb5 | hb5
                    · exact tk_c4 hnk hda htk1' (by rw [hcut2]; exact hF5 hb5)
                    · obtain ⟨_, _, htk2⟩ := hT5 hb5
                      exact tk_c5 hnk hda htk1' (by rw [hcut2]; exact htk2) (cut_nxF (k := 41) (by omega) (by omega) (by omega) (fun e => by
                        have := hb6.2 ⟨hb5, e⟩; rw [hb] at this; cases this))
          · refine LJ.yd rfl (Yd.asB rfl) ?_
            refine LJ.nil ?_
            refine CJ.condF rfl ?_
            refine CJ.skip ?_
            refine CJ.seq ?_
            refine CJ.region ?_
            refine LJ.yd rfl (Yd.mvP rfl) ?_
            refine LJ.yd rfl (Yd.nilCheck rfl) ?_
            refine LJ.yd rfl (Yd.fieldAddr rfl) ?_
            refine LJ.store (v := .bool true) (us := [_, _, _]) 1 rfl rfl rfl rfl rfl rfl rfl rfl ?_
            refine LJ.nil ?_
            refine CJ.seq ?_
            refine CJ.region ?_
            refine LJ.yd rfl (Yd.build (cs := [_, _, _, _, _]) rfl) ?_
            refine LJ.store (v := .agg #[_, _, _, _, _]) (us := [_, _, _, _, _]) 0 rfl rfl rfl rfl rfl rfl rfl rfl ?_
            refine LJ.nil ?_
            refine CJ.ret ?_
            exact Fin.R [_, _] (Res.one (ResV.cell (us := [_, _, _, _, _]) 0 rfl rfl rfl rfl)) ⟨⟨0, 0, 0, false, none, 0, 0⟩, .w, _, _, rfl, rfl, fun h => (by cases h), fun _ => tk_bad h0 hc (u8n (k := 119) (by omega) h20) (u8n (k := 112) (by omega) h23) (u8n (k := 116) (by omega) h24) (u8n (k := 100) (by omega) h31) (u8n (k := 97) (by omega) h32), by omega, by omega⟩ (Ent.pickFold [1] [] [0] rfl (fun _ _ h => (by cases h)))
end Go.Proofs.Ytlpjienaennmaaa
