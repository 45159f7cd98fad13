/-
  Contracts: all panes cut from a sheet.
-/
import Derived.Test.YtkojheinklgdeaaCF2
namespace Go.Proofs.Ytkojheinklgdeaa
open Go
set_option maxRecDepth 20000
set_option maxHeartbeats 1000000

/-- all panes are cut from a sheet -/
noncomputable def cfR (W H : Int) (ps : List Pane) : Bool := cfOk W H ps && canB ps W.toNat H.toNat (2 ^ ps.length - 1)
theorem CutsFromI_ok {A : Amb} {W H : Int} {v : Value} {ps : List Pane} (hl : RdL Pane.enc 4 A.h v ps) : Ctr Try.prog 33 #[.agg #[vI W, vI H, v]] A [] (Val (.bool (cfR W H ps))) := by
  obtain ⟨la, lc, rfl, hlb, hl⟩ := hl.un
  refine Ctr.body (args := [_]) Try.func33 rfl Try.ntmps33 Try.results33 (by simp) ?_
  refine CJ.seq ?_
  refine CJ.region ?_
  refine LJ.boxG (vs := [_, _, _]) rfl rfl (fun b1 => ?_)
  refine LJ.yd rfl (Yd.asB rfl) ?_
  refine LJ.nil ?_
  refine CJ.seq ?_
  refine CJ.seq ?_
  refine CJ.region ?_
  refine LJ.yd rfl (Yd.loadG (us := [_, _, _]) 0 rfl rfl rfl rfl) ?_
  refine LJ.callB rfl (fun k hk dk => cutsTold_ok hl.up) (fun h4 => ?_) (fun h4 => ?_)
  · refine LJ.yd rfl (Yd.not rfl) ?_
    refine LJ.nil ?_
    refine CJ.condF rfl ?_
    refine CJ.skip ?_
    refine CJ.seq ?_
    obtain ⟨hk1, hk2, hk3, hk4, hk5⟩ := cfOk_iff.1 h4
    obtain ⟨hw1, hw2, hw3, hw4, hw5, hw6⟩ := workOk_iff.1 hk1
    obtain ⟨hp1, hp2⟩ := pow4 hk2
    refine CJ.regionD [0] [] (by kernel_rfl) rfl ?_
    refine DJ.norm [_] [] rfl rfl ?_
    refine DJ.yd 0 rfl (by kernel_rfl) (by kernel_rfl) (by kernel_rfl) rfl rfl (Yd.loadG (us := [_, _, _]) 0 rfl rfl rfl rfl) ?_
    refine DJ.yd 2 rfl (by kernel_rfl) (by kernel_rfl) (by kernel_rfl) rfl rfl (Yd.fieldAddr rfl) ?_
    refine DJ.yd 3 rfl (by kernel_rfl) (by kernel_rfl) (by kernel_rfl) rfl rfl (Yd.loadC 0 rfl rfl rfl) ?_
    refine DJ.yd 4 rfl (by kernel_rfl) (by kernel_rfl) (by kernel_rfl) rfl rfl (Yd.len rfl) ?_
    refine DJ.yd 5 rfl (by kernel_rfl) (by kernel_rfl) (by kernel_rfl) rfl rfl (Yd.shl1 rfl rfl (by omega)) ?_
    refine DJ.yd 6 rfl (by kernel_rfl) (by kernel_rfl) (by kernel_rfl) rfl rfl (Yd.sub rfl rfl (by unfold I64; omega)) ?_
    refine DJ.yd 7 rfl (by kernel_rfl) (by kernel_rfl) (by kernel_rfl) rfl rfl (Yd.fieldAddr rfl) ?_
    refine DJ.yd 8 rfl (by kernel_rfl) (by kernel_rfl) (by kernel_rfl) rfl rfl (Yd.loadC 0 rfl rfl rfl) ?_
    refine DJ.yd 9 rfl (by kernel_rfl) (by kernel_rfl) (by kernel_rfl) rfl rfl (Yd.fieldAddr rfl) ?_
    refine DJ.yd 10 rfl (by kernel_rfl) (by kernel_rfl) (by kernel_rfl) rfl rfl (Yd.loadC 0 rfl rfl rfl) ?_
    refine DJ.one (i := 1) (by kernel_rfl) ?_
    refine DO.call0 rfl rfl rfl (fun k0 hk0 dk0 k hk dk => setsOf_ok hl.up h4) ?_
    rintro _ _ ⟨tb, L, rfl, rfl, hT⟩
    obtain ⟨hTl, hT⟩ := hT
    refine DJ.norm [_] [_] rfl rfl ?_
    refine DJ.yd 11 rfl (by kernel_rfl) (by kernel_rfl) (by kernel_rfl) rfl rfl (Yd.nilCheck rfl) ?_
    refine DJ.yd 12 rfl (by kernel_rfl) (by kernel_rfl) (by kernel_rfl) rfl rfl (Yd.idxArr rfl rfl (by omega) (by omega)) ?_
    refine DJ.yd 13 rfl (by kernel_rfl) (by kernel_rfl) (by kernel_rfl) rfl rfl (Yd.idxArr rfl rfl (by omega) (by omega)) ?_
    refine DJ.yd 14 rfl (by kernel_rfl) (by kernel_rfl) (by kernel_rfl) rfl rfl (Yd.idxArr rfl rfl (by omega) (by omega)) ?_
    refine DJ.one (i := 15) (by kernel_rfl) ?_
    refine DO.ldM (j := ((2 ^ ps.length - 1) * 17 + W.toNat) * 17 + H.toNat) (e1 := fun u => .bool u) rfl rfl rfl 0 rfl rfl (by omega) (by first | rfl | omega | (simp; done) | (simp; omega) | (simp [upN_len]; omega) | (simp [idxBy_len]; omega) | (simp [marks_len]; omega) | (simp [upN_len]; done) | (simp [idxBy_len]; done) | (simp [marks_len]; done) | (simp at *; omega)) (fun u21 hu21 => ?_)
    try simp only [Int.toNat_natCast] at hu21
    refine DJ.yd 16 rfl (by kernel_rfl) (by kernel_rfl) (by kernel_rfl) rfl rfl (Yd.asB rfl) ?_
    refine DJ.done (by kernel_rfl) ?_
    refine CJ.ret ?_
    refine Fin.V (Res.one (ResV.tmp (v := .bool _) rfl)) ?_
    first
      | (rw [cfR, h4]; rfl)
      | (have := hT (2 ^ ps.length - 1) W.toNat H.toNat (by omega) (by omega) (by omega) (by omega) (by omega)
         rw [hu21] at this
         rw [cfR, h4, ← Option.some.inj this]; rfl)
  · refine LJ.yd rfl (Yd.not rfl) ?_
    refine LJ.nil ?_
    refine CJ.condT rfl ?_
    refine CJ.seq ?_
    refine CJ.region ?_
    refine LJ.yd rfl (Yd.asB rfl) ?_
    refine LJ.nil ?_
    refine CJ.ret ?_
    refine Fin.V (Res.one (ResV.tmp (v := .bool false) rfl)) ?_
    first
      | (rw [cfR, h4]; rfl)
      | (have := hT (2 ^ ps.length - 1) W.toNat H.toNat (by omega) (by omega) (by omega) (by omega) (by omega)
         rw [hu21] at this
         rw [cfR, h4, ← Option.some.inj this]; rfl)
def OnlyP (ps : List Pane) (s w h : Nat) : Prop := ∃ (i : Nat) (p : Pane), ps[i]? = some p ∧ s = 2 ^ i ∧ (paneFit p false w h = true ∨ paneFit p true w h = true)
theorem fitP_at {ps : List Pane} {i : Nat} {p : Pane} (hp : ps[i]? = some p) (t : Bool) (w h : Int) : fitP ps i t w h = paneFit p t w h := by
  have hi := (List.getElem?_eq_some_iff.1 hp).1
  rw [fitP, decide_eq_true (by omega), decide_eq_true (by omega), Int.toNat_natCast, hp]; rfl
theorem pow_inj2 {i j : Nat} (h : 2 ^ i = 2 ^ j) : i = j := by
  rcases Nat.lt_trichotomy i j with q | q | q
  · have := Nat.pow_lt_pow_right (a := 2) (by omega) q; omega
  · exact q
  · have := Nat.pow_lt_pow_right (a := 2) (by omega) q; omega
theorem onlyPane_ok {A : Amb} {W H : Int} {v : Value} {ps : List Pane} {s w h : Nat} (hl : RdL Pane.enc 4 A.h v ps) (hn : ps.length ≤ 4) : Ctr Try.prog 93 #[.agg #[vI W, vI H, v], vI s, vI w, vI h] A [] (Val (.bool (dB (OnlyP ps s w h)))) := by
  obtain ⟨la, lc, rfl, hlb, hl⟩ := hl.un
  refine Ctr.body (args := [_, _, _, _]) Try.func93 rfl Try.ntmps93 Try.results93 (by simp) ?_
  refine CJ.seq ?_
  refine CJ.region ?_
  refine LJ.boxG (vs := [_, _, _]) rfl rfl (fun b1 => ?_)
  refine LJ.yd rfl (Yd.asB rfl) ?_
  refine LJ.nil ?_
  refine CJ.seq ?_
  refine CJ.seq ?_
  refine CJ.region ?_
  refine LJ.yd rfl (Yd.asI rfl) ?_
  refine LJ.nil ?_
  refine CJ.block ?_
  refine CJ.loopK [1, 2, 3, 4] Nat (fun k => k ≤ ps.length ∧ ∀ j, j < k → s ≠ 2 ^ j) (fun k => [(9, vI k)]) (fun k => ps.length - k) (0) ?_ ⟨rfl, trivial⟩ ?_
  · exact ⟨by omega, fun j hj => by omega⟩
  · rintro k σ ⟨hk1, hj⟩
    refine CJ.seq ?_
    refine CJ.seq ?_
    refine CJ.region ?_
    refine LJ.yd rfl (Yd.mvI rfl) ?_
    refine LJ.yd rfl (Yd.fieldAddr rfl) ?_
    refine LJ.yd rfl (Yd.loadC 0 rfl rfl rfl) ?_
    refine LJ.yd rfl (Yd.len rfl) ?_
    refine LJ.splitD rfl (Yd.lss rfl rfl) (fun h14 => ?_) (fun h14 => ?_)
    · refine LJ.nil ?_
      refine CJ.condT rfl ?_
      refine CJ.skip ?_
      refine CJ.seq ?_
      refine CJ.block ?_
      refine CJ.seq ?_
      refine CJ.region ?_
      refine LJ.yd rfl (Yd.mvI rfl) ?_
      refine LJ.yd rfl (Yd.mvI rfl) ?_
      refine LJ.callV rfl (fun k hk dk => power_ok (by omega)) ?_
      refine LJ.splitD rfl (Yd.eql rfl rfl) (fun h20 => ?_) (fun h20 => ?_)
      · refine LJ.nil ?_
        refine CJ.condT rfl ?_
        refine CJ.seq ?_
        refine CJ.region ?_
        refine LJ.yd rfl (Yd.loadG (us := [_, _, _]) 0 rfl rfl rfl rfl) ?_
        refine LJ.yd rfl (Yd.mvI rfl) ?_
        refine LJ.yd rfl (Yd.build (cs := [_, _, _, _, _]) rfl) ?_
        refine LJ.yd rfl (Yd.mvI rfl) ?_
        refine LJ.yd rfl (Yd.mvI rfl) ?_
        refine LJ.callB rfl (fun k hk dk => fitsPlanS_p hl.up) (fun h26 => ?_) (fun h26 => ?_)
        · refine LJ.yd rfl (Yd.mvB rfl) ?_
          refine LJ.gF rfl rfl ?_
          refine LJ.gF rfl rfl ?_
          refine LJ.gF rfl rfl ?_
          refine LJ.gF rfl rfl ?_
          refine LJ.gF rfl rfl ?_
          refine LJ.gF rfl rfl ?_
          refine LJ.yd rfl (Yd.pickTB rfl rfl) ?_
          refine LJ.yd rfl (Yd.asB rfl) ?_
          refine LJ.nil ?_
          refine CJ.ret ?_
          refine Fin.V (Res.one (ResV.tmp (v := .bool true) rfl)) ?_
          refine congrArg Value.bool (Eq.symm ?_)
          first
            | (obtain ⟨p, hp⟩ := someC (l := ps) (j := k) (by omega)
               rw [fitP_at hp] at h26
               exact dB_T ⟨k, p, hp, by omega, .inl h26⟩)
            | (obtain ⟨p, hp⟩ := someC (l := ps) (j := k) (by omega)
               rw [fitP_at hp] at h33
               exact dB_T ⟨k, p, hp, by omega, .inr h33⟩)
            | (obtain ⟨p, hp⟩ := someC (l := ps) (j := k) (by omega)
               rw [fitP_at hp] at h26 h33
               refine dB_F fun ⟨i, q, hq, e, hf⟩ => ?_
               obtain rfl : k = i := pow_inj2 (by omega)
               rw [hp] at hq; cases hq
               rw [h26, h33] at hf
               rcases hf with hf | hf <;> cases hf)
            | (refine dB_F fun ⟨i, q, hq, e, hf⟩ => hj i (by have := (List.getElem?_eq_some_iff.1 hq).1; omega) e)
        · refine LJ.yd rfl (Yd.mvB rfl) ?_
          refine LJ.gT rfl ?_
          refine LJ.yd rfl (Yd.loadG (us := [_, _, _]) 0 rfl rfl rfl rfl) ?_
          refine LJ.gT rfl ?_
          refine LJ.yd rfl (Yd.mvI rfl) ?_
          refine LJ.gT rfl ?_
          refine LJ.yd rfl (Yd.build (cs := [_, _, _, _, _]) rfl) ?_
          refine LJ.gT rfl ?_
          refine LJ.yd rfl (Yd.mvI rfl) ?_
          refine LJ.gT rfl ?_
          refine LJ.yd rfl (Yd.mvI rfl) ?_
          refine LJ.gT rfl ?_
          refine LJ.callB rfl (fun k hk dk => fitsPlanS_p hl.up) (fun h33 => ?_) (fun h33 => ?_)
          · refine LJ.yd rfl (Yd.pickFB rfl rfl) ?_
            refine LJ.yd rfl (Yd.asB rfl) ?_
            refine LJ.nil ?_
            refine CJ.ret ?_
            refine Fin.V (Res.one (ResV.tmp (v := .bool true) rfl)) ?_
            refine congrArg Value.bool (Eq.symm ?_)
            first
              | (obtain ⟨p, hp⟩ := someC (l := ps) (j := k) (by omega)
                 rw [fitP_at hp] at h26
                 exact dB_T ⟨k, p, hp, by omega, .inl h26⟩)
              | (obtain ⟨p, hp⟩ := someC (l := ps) (j := k) (by omega)
                 rw [fitP_at hp] at h33
                 exact dB_T ⟨k, p, hp, by omega, .inr h33⟩)
              | (obtain ⟨p, hp⟩ := someC (l := ps) (j := k) (by omega)
                 rw [fitP_at hp] at h26 h33
                 refine dB_F fun ⟨i, q, hq, e, hf⟩ => ?_
                 obtain rfl : k = i := pow_inj2 (by omega)
                 rw [hp] at hq; cases hq
                 rw [h26, h33] at hf
                 rcases hf with hf | hf <;> cases hf)
              | (refine dB_F fun ⟨i, q, hq, e, hf⟩ => hj i (by have := (List.getElem?_eq_some_iff.1 hq).1; omega) e)
          · refine LJ.yd rfl (Yd.pickFB rfl rfl) ?_
            refine LJ.yd rfl (Yd.asB rfl) ?_
            refine LJ.nil ?_
            refine CJ.ret ?_
            refine Fin.V (Res.one (ResV.tmp (v := .bool false) rfl)) ?_
            refine congrArg Value.bool (Eq.symm ?_)
            first
              | (obtain ⟨p, hp⟩ := someC (l := ps) (j := k) (by omega)
                 rw [fitP_at hp] at h26
                 exact dB_T ⟨k, p, hp, by omega, .inl h26⟩)
              | (obtain ⟨p, hp⟩ := someC (l := ps) (j := k) (by omega)
                 rw [fitP_at hp] at h33
                 exact dB_T ⟨k, p, hp, by omega, .inr h33⟩)
              | (obtain ⟨p, hp⟩ := someC (l := ps) (j := k) (by omega)
                 rw [fitP_at hp] at h26 h33
                 refine dB_F fun ⟨i, q, hq, e, hf⟩ => ?_
                 obtain rfl : k = i := pow_inj2 (by omega)
                 rw [hp] at hq; cases hq
                 rw [h26, h33] at hf
                 rcases hf with hf | hf <;> cases hf)
              | (refine dB_F fun ⟨i, q, hq, e, hf⟩ => hj i (by have := (List.getElem?_eq_some_iff.1 hq).1; omega) e)
      · refine LJ.nil ?_
        refine CJ.condF rfl ?_
        refine CJ.skip ?_
        refine CJ.region ?_
        refine LJ.yd rfl (Yd.mvI rfl) ?_
        refine LJ.yd rfl (Yd.add rfl rfl (by unfold I64; omega)) ?_
        refine LJ.yd rfl (Yd.asI rfl) ?_
        refine LJ.nil ?_
        refine ⟨(k + 1), ?_, ⟨rfl, rfl, rfl, rfl, trivial⟩, ⟨rfl, trivial⟩, Ent.refl _, ?_⟩
        · refine ⟨by omega, ?_⟩
          intro j hj2
          by_cases e : j = k
          · subst e; omega
          · exact hj j (by omega)
        · first | omega | (dsimp only; omega) | (simp only []; omega)
    · refine LJ.nil ?_
      refine CJ.condF rfl ?_
      refine CJ.exit ?_
      refine CJ.seq ?_
      refine CJ.region ?_
      refine LJ.yd rfl (Yd.asB rfl) ?_
      refine LJ.nil ?_
      refine CJ.ret ?_
      refine Fin.V (Res.one (ResV.tmp (v := .bool false) rfl)) ?_
      refine congrArg Value.bool (Eq.symm ?_)
      first
        | (obtain ⟨p, hp⟩ := someC (l := ps) (j := k) (by omega)
           rw [fitP_at hp] at h26
           exact dB_T ⟨k, p, hp, by omega, .inl h26⟩)
        | (obtain ⟨p, hp⟩ := someC (l := ps) (j := k) (by omega)
           rw [fitP_at hp] at h33
           exact dB_T ⟨k, p, hp, by omega, .inr h33⟩)
        | (obtain ⟨p, hp⟩ := someC (l := ps) (j := k) (by omega)
           rw [fitP_at hp] at h26 h33
           refine dB_F fun ⟨i, q, hq, e, hf⟩ => ?_
           obtain rfl : k = i := pow_inj2 (by omega)
           rw [hp] at hq; cases hq
           rw [h26, h33] at hf
           rcases hf with hf | hf <;> cases hf)
        | (refine dB_F fun ⟨i, q, hq, e, hf⟩ => hj i (by have := (List.getElem?_eq_some_iff.1 hq).1; omega) e)
theorem mulb {x H : Nat} (hx : x ≤ 16) (hH : H ≤ 16) : ∃ q : Nat, q = x * (H + 1) ∧ (x : Int) * ((H : Int) + 1) = q ∧ q ≤ 272 := by
  have := Nat.mul_le_mul hx (show H + 1 ≤ 17 by omega)
  exact ⟨_, rfl, by push_cast; rfl, by omega⟩
theorem mulb2 {x w H : Nat} (hx : x ≤ w) (hw : w ≤ 16) (hH : H ≤ 16) : ∃ q : Nat, q = (w - x) * (H + 1) ∧ ((w : Int) - (x : Int)) * ((H : Int) + 1) = q ∧ q ≤ 272 := by
  obtain ⟨q, h1, h2, h3⟩ := mulb (x := w - x) (H := H) (by omega) hH
  exact ⟨q, h1, by rw [← h2]; congr 1; omega, h3⟩
theorem idx_lt {x W H h N : Nat} (hN : N = (W + 1) * (H + 1)) (hx : x ≤ W) (hh : h ≤ H) : x * (H + 1) + h < N := by
  have := Nat.mul_le_mul_right (H + 1) (show x + 1 ≤ W + 1 by omega)
  rw [Nat.add_mul, Nat.one_mul, ← hN] at this
  omega
theorem idx_ne {x y H h k : Nat} (hh : h ≤ H) (hk : k ≤ H) (e : x * (H + 1) + h = y * (H + 1) + k) : x = y ∧ h = k := by
  have key : ∀ {a b c d : Nat}, c ≤ H → d ≤ H → a < b → a * (H + 1) + c = b * (H + 1) + d → False := fun {a b c d} hc hd hab e => by
    have := Nat.mul_le_mul_right (H + 1) (show a + 1 ≤ b by omega)
    rw [Nat.add_mul, Nat.one_mul] at this
    omega
  rcases Nat.lt_trichotomy x y with q | q | q
  · exact (key hh hk q e).elim
  · subst q; exact ⟨rfl, by omega⟩
  · exact (key hk hh q e.symm).elim
/-- a row of values for one set, up to w, h -/
def RX (ps : List Pane) (W H s w h : Nat) (R : List Bool) : Prop := ∀ a b, 1 ≤ a → a ≤ W → 1 ≤ b → b ≤ H → (a < w ∨ (a = w ∧ b < h)) → R[a * (H + 1) + b]? = some (canB ps a b s)
theorem twoSets_ok {A : Amb} {W H N s w h : Nat} {v vo : Value} {ps : List Pane} {X : List (Rw Bool)} (hl : RdL encR 1 A.h vo X) (hx : ∀ u ∈ X, RdL encB 1 A.h (.slice u.a u.l.length u.c) u.l) (hN : N = (W + 1) * (H + 1)) (hX : ∀ j u, X[j]? = some u → j < s → u.l.length = N ∧ RX ps W H j (W + 1) 1 u.l)
    (hXl : s ≤ X.length) (hs : s ≤ 16) (hW : W ≤ 16) (hH : H ≤ 16) (hw : 1 ≤ w ∧ w ≤ W) (hh : 1 ≤ h ∧ h ≤ H) : Ctr Try.prog 94 #[.agg #[vI W, vI H, v], vo, vI s, vI w, vI h] A [] (Val (.bool (dB (Cut2 ps s w h)))) := by
  obtain ⟨la, lc, rfl, hlb, hl⟩ := hl.un
  refine Ctr.body (args := [_, _, _, _, _]) Try.func94 rfl Try.ntmps94 Try.results94 (by simp) ?_
  refine CJ.seq ?_
  refine CJ.region ?_
  refine LJ.boxG (vs := [_, _, _]) rfl rfl (fun b1 => ?_)
  refine LJ.yd rfl (Yd.asB rfl) ?_
  refine LJ.nil ?_
  refine CJ.seq ?_
  refine CJ.region ?_
  refine LJ.yd rfl (Yd.fieldAddr rfl) ?_
  refine LJ.yd rfl (Yd.loadC 0 rfl rfl rfl) ?_
  refine LJ.yd rfl (Yd.add rfl rfl (by unfold I64; omega)) ?_
  refine LJ.yd rfl (Yd.asI rfl) ?_
  refine LJ.nil ?_
  refine CJ.seq ?_
  refine CJ.seq ?_
  refine CJ.region ?_
  refine LJ.yd rfl (Yd.asI rfl) ?_
  refine LJ.nil ?_
  refine CJ.block ?_
  refine CJ.loopK [1, 2, 3, 4, 11] Nat (fun g => (g ≤ s ∨ s = 0) ∧ 1 ≤ g ∧ ∀ x, Sub x s → 0 < x → x < g → ¬ Two ps s w h x) (fun g => [(12, vI g)]) (fun g => s - g) (1) ?_ ⟨rfl, trivial⟩ ?_
  · exact ⟨by omega, by omega, fun x x1 x2 x3 => by omega⟩
  · rintro g σ ⟨hg5, hg6, hno⟩
    refine CJ.seq ?_
    refine CJ.seq ?_
    refine CJ.region ?_
    refine LJ.yd rfl (Yd.mvI rfl) ?_
    refine LJ.yd rfl (Yd.mvI rfl) ?_
    refine LJ.splitD rfl (Yd.lss rfl rfl) (fun h20 => ?_) (fun h20 => ?_)
    · refine LJ.nil ?_
      refine CJ.condT rfl ?_
      refine CJ.skip ?_
      refine CJ.seq ?_
      refine CJ.block ?_
      refine CJ.seq ?_
      refine CJ.seq ?_
      refine CJ.region ?_
      refine LJ.yd rfl (Yd.mvI rfl) ?_
      refine LJ.yd rfl (Yd.mvI rfl) ?_
      refine LJ.callB rfl (fun k hk dk => inside_ok (by omega) (by omega)) (fun h25 => ?_) (fun h25 => ?_)
      · refine LJ.yd rfl (Yd.not rfl) ?_
        refine LJ.nil ?_
        refine CJ.condF rfl ?_
        refine CJ.skip ?_
        refine CJ.seq ?_
        refine CJ.seq ?_
        refine CJ.region ?_
        refine LJ.yd rfl (Yd.asI rfl) ?_
        refine LJ.nil ?_
        refine CJ.block ?_
        refine CJ.loopK [1, 2, 3, 4, 11, 12, 18, 19, 20, 23, 24, 25, 26] Nat (fun x => x ≤ w ∧ 1 ≤ x ∧ ∀ z, 0 < z → z < x → ¬ (Can (sel ps g) z h ∧ Can (sel ps (s - g)) (w - z) h)) (fun x => [(13, vI x)]) (fun x => w - x) (1) ?_ ⟨rfl, trivial⟩ ?_
        · exact ⟨by omega, by omega, fun z z1 z2 => by omega⟩
        · rintro x σ ⟨hx5, hx6, hnx⟩
          refine CJ.seq ?_
          refine CJ.seq ?_
          refine CJ.region ?_
          refine LJ.yd rfl (Yd.mvI rfl) ?_
          refine LJ.yd rfl (Yd.mvI rfl) ?_
          refine LJ.splitD rfl (Yd.lss rfl rfl) (fun h29 => ?_) (fun h29 => ?_)
          · refine LJ.nil ?_
            refine CJ.condT rfl ?_
            refine CJ.skip ?_
            refine CJ.seq ?_
            refine CJ.block ?_
            refine CJ.seq ?_
            obtain ⟨q, hq, hqi, hq1⟩ := mulb (x := x) (H := H) (by omega) hH
            obtain ⟨q2, hq2, hq2i, hq3⟩ := mulb2 (x := x) (w := w) (H := H) (by omega) (by omega) hH
            have hlt := idx_lt (x := x) (h := h) hN (by omega) (by omega)
            have hlt2 := idx_lt (x := w - x) (h := h) hN (by omega) (by omega)
            rw [← hq] at hlt
            rw [← hq2] at hlt2
            refine CJ.region ?_
            refine LJ.yd rfl (Yd.mvS rfl) ?_
            refine LJ.yd rfl (Yd.mvI rfl) ?_
            refine LJ.idxA rfl hl rfl rfl (by omega) (by first | rfl | omega | (simp; done) | (simp; omega) | (simp [upN_len]; omega) | (simp [idxBy_len]; omega) | (simp [marks_len]; omega) | (simp [upN_len]; done) | (simp [idxBy_len]; done) | (simp [marks_len]; done) | (simp at *; omega)) (fun ib34 io34 ia34 ir34 => ?_)
            refine LJ.ldA 0 (fun u => .slice u.a u.l.length u.c) (fun _ => rfl) ir34 rfl rfl rfl (by first | rfl | omega | (simp; done) | (simp; omega) | (simp [upN_len]; omega) | (simp [idxBy_len]; omega) | (simp [marks_len]; omega) | (simp [upN_len]; done) | (simp [idxBy_len]; done) | (simp [marks_len]; done) | (simp at *; omega)) (fun u35 hu35 => ?_)
            try simp only [Int.toNat_natCast] at hu35
            obtain ⟨hl35, hv35⟩ := hX g u35 hu35 (by omega)
            refine LJ.yd rfl (Yd.mvI rfl) ?_
            refine LJ.yd rfl (Yd.mvI rfl) ?_
            refine LJ.yd rfl (Yd.mul rfl rfl (by unfold I64; omega)) ?_
            refine LJ.yd rfl (Yd.mvI rfl) ?_
            refine LJ.yd rfl (Yd.add rfl rfl (by unfold I64; omega)) ?_
            refine LJ.idxA rfl (hx u35 (List.mem_of_getElem? hu35)) rfl rfl (by omega) (by first | rfl | omega | (simp; done) | (simp; omega) | (simp [upN_len]; omega) | (simp [idxBy_len]; omega) | (simp [marks_len]; omega) | (simp [upN_len]; done) | (simp [idxBy_len]; done) | (simp [marks_len]; done) | (simp at *; omega)) (fun ib41 io41 ia41 ir41 => ?_)
            refine LJ.ldAB 0 (fun u => u) (fun _ => rfl) ir41 rfl rfl rfl (by first | rfl | omega | (simp; done) | (simp; omega) | (simp [upN_len]; omega) | (simp [idxBy_len]; omega) | (simp [marks_len]; omega) | (simp [upN_len]; done) | (simp [idxBy_len]; done) | (simp [marks_len]; done) | (simp at *; omega)) (fun u42 hu42 h42 => ?_) (fun u42 hu42 h42 => ?_)
            · try simp only [Int.toNat_natCast] at hu42
              rw [show ((x : Int) * ((H : Int) + 1) + (h : Int)).toNat = q + h by omega, hq, hv35 x h (by omega) (by omega) (by omega) (by omega) (by omega)] at hu42
              rw [← Option.some.inj hu42] at h42
              refine LJ.yd rfl (Yd.mvB rfl) ?_
              refine LJ.gT rfl ?_
              refine LJ.yd rfl (Yd.mvS rfl) ?_
              refine LJ.gT rfl ?_
              refine LJ.yd rfl (Yd.mvI rfl) ?_
              refine LJ.gT rfl ?_
              refine LJ.yd rfl (Yd.mvI rfl) ?_
              refine LJ.gT rfl ?_
              refine LJ.yd rfl (Yd.sub rfl rfl (by unfold I64; omega)) ?_
              refine LJ.gT rfl ?_
              refine LJ.idxA rfl hl rfl rfl (by omega) (by first | rfl | omega | (simp; done) | (simp; omega) | (simp [upN_len]; omega) | (simp [idxBy_len]; omega) | (simp [marks_len]; omega) | (simp [upN_len]; done) | (simp [idxBy_len]; done) | (simp [marks_len]; done) | (simp at *; omega)) (fun ib48 io48 ia48 ir48 => ?_)
              refine LJ.gT rfl ?_
              refine LJ.ldA 0 (fun u => .slice u.a u.l.length u.c) (fun _ => rfl) ir48 rfl rfl rfl (by first | rfl | omega | (simp; done) | (simp; omega) | (simp [upN_len]; omega) | (simp [idxBy_len]; omega) | (simp [marks_len]; omega) | (simp [upN_len]; done) | (simp [idxBy_len]; done) | (simp [marks_len]; done) | (simp at *; omega)) (fun u49 hu49 => ?_)
              try simp only [Int.toNat_natCast] at hu49
              rw [show ((s : Int) - (g : Int)).toNat = s - g by omega] at hu49
              obtain ⟨hl49, hv49⟩ := hX (s - g) u49 hu49 (by omega)
              refine LJ.gT rfl ?_
              refine LJ.yd rfl (Yd.mvI rfl) ?_
              refine LJ.gT rfl ?_
              refine LJ.yd rfl (Yd.mvI rfl) ?_
              refine LJ.gT rfl ?_
              refine LJ.yd rfl (Yd.sub rfl rfl (by unfold I64; omega)) ?_
              refine LJ.gT rfl ?_
              refine LJ.yd rfl (Yd.mvI rfl) ?_
              refine LJ.gT rfl ?_
              refine LJ.yd rfl (Yd.mul rfl rfl (by unfold I64; omega)) ?_
              refine LJ.gT rfl ?_
              refine LJ.yd rfl (Yd.mvI rfl) ?_
              refine LJ.gT rfl ?_
              refine LJ.yd rfl (Yd.add rfl rfl (by unfold I64; omega)) ?_
              refine LJ.gT rfl ?_
              refine LJ.idxA rfl (hx u49 (List.mem_of_getElem? hu49)) rfl rfl (by omega) (by first | rfl | omega | (simp; done) | (simp; omega) | (simp [upN_len]; omega) | (simp [idxBy_len]; omega) | (simp [marks_len]; omega) | (simp [upN_len]; done) | (simp [idxBy_len]; done) | (simp [marks_len]; done) | (simp at *; omega)) (fun ib57 io57 ia57 ir57 => ?_)
              refine LJ.gT rfl ?_
              refine LJ.ldAB 0 (fun u => u) (fun _ => rfl) ir57 rfl rfl rfl (by first | rfl | omega | (simp; done) | (simp; omega) | (simp [upN_len]; omega) | (simp [idxBy_len]; omega) | (simp [marks_len]; omega) | (simp [upN_len]; done) | (simp [idxBy_len]; done) | (simp [marks_len]; done) | (simp at *; omega)) (fun u58 hu58 h58 => ?_) (fun u58 hu58 h58 => ?_)
              · try simp only [Int.toNat_natCast] at hu58
                rw [show (((w : Int) - (x : Int)) * ((H : Int) + 1) + (h : Int)).toNat = q2 + h by omega, hq2, hv49 (w - x) h (by omega) (by omega) (by omega) (by omega) (by omega)] at hu58
                rw [← Option.some.inj hu58] at h58
                refine LJ.yd rfl (Yd.pickTB rfl rfl) ?_
                refine LJ.nil ?_
                refine CJ.condT rfl ?_
                refine CJ.seq ?_
                refine CJ.region ?_
                refine LJ.yd rfl (Yd.asB rfl) ?_
                refine LJ.nil ?_
                refine CJ.ret ?_
                refine Fin.V (Res.one (ResV.tmp (v := .bool true) rfl)) ?_
                refine congrArg Value.bool (Eq.symm ?_)
                first
                  | exact dB_T ⟨g, of_decide_eq_true h25, by omega, by omega, .inl ⟨x, by omega, by omega, canB_iff.1 h42, canB_iff.1 h58⟩⟩
                  | exact dB_T ⟨g, of_decide_eq_true h25, by omega, by omega, .inr ⟨y, by omega, by omega, canB_iff.1 h75, canB_iff.1 h91⟩⟩
                  | exact dB_F fun ⟨x, x1, x2, x3, x4⟩ => hno x x1 x2 (by omega) x4
              · try simp only [Int.toNat_natCast] at hu58
                rw [show (((w : Int) - (x : Int)) * ((H : Int) + 1) + (h : Int)).toNat = q2 + h by omega, hq2, hv49 (w - x) h (by omega) (by omega) (by omega) (by omega) (by omega)] at hu58
                rw [← Option.some.inj hu58] at h58
                refine LJ.yd rfl (Yd.pickTB rfl rfl) ?_
                refine LJ.nil ?_
                refine CJ.condF rfl ?_
                refine CJ.skip ?_
                refine CJ.region ?_
                refine LJ.yd rfl (Yd.mvI rfl) ?_
                refine LJ.yd rfl (Yd.add rfl rfl (by unfold I64; omega)) ?_
                refine LJ.yd rfl (Yd.asI rfl) ?_
                refine LJ.nil ?_
                refine ⟨(x + 1), ?_, ⟨rfl, rfl, rfl, rfl, rfl, rfl, rfl, rfl, rfl, rfl, rfl, rfl, rfl, trivial⟩, ⟨rfl, trivial⟩, Ent.refl _, ?_⟩
                · refine ⟨by omega, ?_⟩
                  refine ⟨by omega, fun z z1 z2 => ?_⟩
                  by_cases e : z = x
                  · subst e
                    rintro ⟨c1, c2⟩
                    first
                      | (rw [canB_iff.2 c1] at h42; cases h42; done)
                      | (rw [canB_iff.2 c2] at h58; cases h58; done)
                  · exact hnx z z1 (by omega)
                · first | omega | (dsimp only; omega) | (simp only []; omega)
            · try simp only [Int.toNat_natCast] at hu42
              rw [show ((x : Int) * ((H : Int) + 1) + (h : Int)).toNat = q + h by omega, hq, hv35 x h (by omega) (by omega) (by omega) (by omega) (by omega)] at hu42
              rw [← Option.some.inj hu42] at h42
              refine LJ.yd rfl (Yd.mvB rfl) ?_
              refine LJ.gF rfl rfl ?_
              refine LJ.gF rfl rfl ?_
              refine LJ.gF rfl rfl ?_
              refine LJ.gF rfl rfl ?_
              refine LJ.gF rfl rfl ?_
              refine LJ.gF rfl rfl ?_
              refine LJ.gF rfl rfl ?_
              refine LJ.gF rfl rfl ?_
              refine LJ.gF rfl rfl ?_
              refine LJ.gF rfl rfl ?_
              refine LJ.gF rfl rfl ?_
              refine LJ.gF rfl rfl ?_
              refine LJ.gF rfl rfl ?_
              refine LJ.gF rfl rfl ?_
              refine LJ.gF rfl rfl ?_
              refine LJ.yd rfl (Yd.pickFB rfl rfl) ?_
              refine LJ.nil ?_
              refine CJ.condF rfl ?_
              refine CJ.skip ?_
              refine CJ.region ?_
              refine LJ.yd rfl (Yd.mvI rfl) ?_
              refine LJ.yd rfl (Yd.add rfl rfl (by unfold I64; omega)) ?_
              refine LJ.yd rfl (Yd.asI rfl) ?_
              refine LJ.nil ?_
              refine ⟨(x + 1), ?_, ⟨rfl, rfl, rfl, rfl, rfl, rfl, rfl, rfl, rfl, rfl, rfl, rfl, rfl, trivial⟩, ⟨rfl, trivial⟩, Ent.refl _, ?_⟩
              · refine ⟨by omega, ?_⟩
                refine ⟨by omega, fun z z1 z2 => ?_⟩
                by_cases e : z = x
                · subst e
                  rintro ⟨c1, c2⟩
                  first
                    | (rw [canB_iff.2 c1] at h42; cases h42; done)
                    | (rw [canB_iff.2 c2] at h58; cases h58; done)
                · exact hnx z z1 (by omega)
              · first | omega | (dsimp only; omega) | (simp only []; omega)
          · refine LJ.nil ?_
            refine CJ.condF rfl ?_
            refine CJ.exit ?_
            refine CJ.seq ?_
            refine CJ.region ?_
            refine LJ.yd rfl (Yd.asI rfl) ?_
            refine LJ.nil ?_
            refine CJ.block ?_
            refine CJ.loopK [1, 2, 3, 4, 11, 12, 13, 18, 19, 20, 23, 24, 25, 26, 27, 28, 29] Nat (fun y => y ≤ h ∧ 1 ≤ y ∧ ∀ z, 0 < z → z < y → ¬ (Can (sel ps g) w z ∧ Can (sel ps (s - g)) w (h - z))) (fun y => [(14, vI y)]) (fun y => h - y) (1) ?_ ⟨rfl, trivial⟩ ?_
            · exact ⟨by omega, by omega, fun z z1 z2 => by omega⟩
            · rintro y σ ⟨hy5, hy6, hny⟩
              refine CJ.seq ?_
              refine CJ.seq ?_
              refine CJ.region ?_
              refine LJ.yd rfl (Yd.mvI rfl) ?_
              refine LJ.yd rfl (Yd.mvI rfl) ?_
              refine LJ.splitD rfl (Yd.lss rfl rfl) (fun h62 => ?_) (fun h62 => ?_)
              · refine LJ.nil ?_
                refine CJ.condT rfl ?_
                refine CJ.skip ?_
                refine CJ.seq ?_
                refine CJ.block ?_
                refine CJ.seq ?_
                obtain ⟨q, hq, hqi, hq1⟩ := mulb (x := w) (H := H) (by omega) hH
                have hlt := idx_lt (x := w) (h := y) hN (by omega) (by omega)
                have hlt2 := idx_lt (x := w) (h := h - y) hN (by omega) (by omega)
                rw [← hq] at hlt hlt2
                refine CJ.region ?_
                refine LJ.yd rfl (Yd.mvS rfl) ?_
                refine LJ.yd rfl (Yd.mvI rfl) ?_
                refine LJ.idxA rfl hl rfl rfl (by omega) (by first | rfl | omega | (simp; done) | (simp; omega) | (simp [upN_len]; omega) | (simp [idxBy_len]; omega) | (simp [marks_len]; omega) | (simp [upN_len]; done) | (simp [idxBy_len]; done) | (simp [marks_len]; done) | (simp at *; omega)) (fun ib67 io67 ia67 ir67 => ?_)
                refine LJ.ldA 0 (fun u => .slice u.a u.l.length u.c) (fun _ => rfl) ir67 rfl rfl rfl (by first | rfl | omega | (simp; done) | (simp; omega) | (simp [upN_len]; omega) | (simp [idxBy_len]; omega) | (simp [marks_len]; omega) | (simp [upN_len]; done) | (simp [idxBy_len]; done) | (simp [marks_len]; done) | (simp at *; omega)) (fun u68 hu68 => ?_)
                try simp only [Int.toNat_natCast] at hu68
                obtain ⟨hl68, hv68⟩ := hX g u68 hu68 (by omega)
                refine LJ.yd rfl (Yd.mvI rfl) ?_
                refine LJ.yd rfl (Yd.mvI rfl) ?_
                refine LJ.yd rfl (Yd.mul rfl rfl (by unfold I64; omega)) ?_
                refine LJ.yd rfl (Yd.mvI rfl) ?_
                refine LJ.yd rfl (Yd.add rfl rfl (by unfold I64; omega)) ?_
                refine LJ.idxA rfl (hx u68 (List.mem_of_getElem? hu68)) rfl rfl (by omega) (by first | rfl | omega | (simp; done) | (simp; omega) | (simp [upN_len]; omega) | (simp [idxBy_len]; omega) | (simp [marks_len]; omega) | (simp [upN_len]; done) | (simp [idxBy_len]; done) | (simp [marks_len]; done) | (simp at *; omega)) (fun ib74 io74 ia74 ir74 => ?_)
                refine LJ.ldAB 0 (fun u => u) (fun _ => rfl) ir74 rfl rfl rfl (by first | rfl | omega | (simp; done) | (simp; omega) | (simp [upN_len]; omega) | (simp [idxBy_len]; omega) | (simp [marks_len]; omega) | (simp [upN_len]; done) | (simp [idxBy_len]; done) | (simp [marks_len]; done) | (simp at *; omega)) (fun u75 hu75 h75 => ?_) (fun u75 hu75 h75 => ?_)
                · try simp only [Int.toNat_natCast] at hu75
                  rw [show ((w : Int) * ((H : Int) + 1) + (y : Int)).toNat = q + y by omega, hq, hv68 w y (by omega) (by omega) (by omega) (by omega) (by omega)] at hu75
                  rw [← Option.some.inj hu75] at h75
                  refine LJ.yd rfl (Yd.mvB rfl) ?_
                  refine LJ.gT rfl ?_
                  refine LJ.yd rfl (Yd.mvS rfl) ?_
                  refine LJ.gT rfl ?_
                  refine LJ.yd rfl (Yd.mvI rfl) ?_
                  refine LJ.gT rfl ?_
                  refine LJ.yd rfl (Yd.mvI rfl) ?_
                  refine LJ.gT rfl ?_
                  refine LJ.yd rfl (Yd.sub rfl rfl (by unfold I64; omega)) ?_
                  refine LJ.gT rfl ?_
                  refine LJ.idxA rfl hl rfl rfl (by omega) (by first | rfl | omega | (simp; done) | (simp; omega) | (simp [upN_len]; omega) | (simp [idxBy_len]; omega) | (simp [marks_len]; omega) | (simp [upN_len]; done) | (simp [idxBy_len]; done) | (simp [marks_len]; done) | (simp at *; omega)) (fun ib81 io81 ia81 ir81 => ?_)
                  refine LJ.gT rfl ?_
                  refine LJ.ldA 0 (fun u => .slice u.a u.l.length u.c) (fun _ => rfl) ir81 rfl rfl rfl (by first | rfl | omega | (simp; done) | (simp; omega) | (simp [upN_len]; omega) | (simp [idxBy_len]; omega) | (simp [marks_len]; omega) | (simp [upN_len]; done) | (simp [idxBy_len]; done) | (simp [marks_len]; done) | (simp at *; omega)) (fun u82 hu82 => ?_)
                  try simp only [Int.toNat_natCast] at hu82
                  rw [show ((s : Int) - (g : Int)).toNat = s - g by omega] at hu82
                  obtain ⟨hl82, hv82⟩ := hX (s - g) u82 hu82 (by omega)
                  refine LJ.gT rfl ?_
                  refine LJ.yd rfl (Yd.mvI rfl) ?_
                  refine LJ.gT rfl ?_
                  refine LJ.yd rfl (Yd.mvI rfl) ?_
                  refine LJ.gT rfl ?_
                  refine LJ.yd rfl (Yd.mul rfl rfl (by unfold I64; omega)) ?_
                  refine LJ.gT rfl ?_
                  refine LJ.yd rfl (Yd.mvI rfl) ?_
                  refine LJ.gT rfl ?_
                  refine LJ.yd rfl (Yd.add rfl rfl (by unfold I64; omega)) ?_
                  refine LJ.gT rfl ?_
                  refine LJ.yd rfl (Yd.mvI rfl) ?_
                  refine LJ.gT rfl ?_
                  refine LJ.yd rfl (Yd.sub rfl rfl (by unfold I64; omega)) ?_
                  refine LJ.gT rfl ?_
                  refine LJ.idxA rfl (hx u82 (List.mem_of_getElem? hu82)) rfl rfl (by omega) (by first | rfl | omega | (simp; done) | (simp; omega) | (simp [upN_len]; omega) | (simp [idxBy_len]; omega) | (simp [marks_len]; omega) | (simp [upN_len]; done) | (simp [idxBy_len]; done) | (simp [marks_len]; done) | (simp at *; omega)) (fun ib90 io90 ia90 ir90 => ?_)
                  refine LJ.gT rfl ?_
                  refine LJ.ldAB 0 (fun u => u) (fun _ => rfl) ir90 rfl rfl rfl (by first | rfl | omega | (simp; done) | (simp; omega) | (simp [upN_len]; omega) | (simp [idxBy_len]; omega) | (simp [marks_len]; omega) | (simp [upN_len]; done) | (simp [idxBy_len]; done) | (simp [marks_len]; done) | (simp at *; omega)) (fun u91 hu91 h91 => ?_) (fun u91 hu91 h91 => ?_)
                  · try simp only [Int.toNat_natCast] at hu91
                    rw [show ((w : Int) * ((H : Int) + 1) + (h : Int) - (y : Int)).toNat = q + (h - y) by omega, hq, hv82 w (h - y) (by omega) (by omega) (by omega) (by omega) (by omega)] at hu91
                    rw [← Option.some.inj hu91] at h91
                    refine LJ.yd rfl (Yd.pickTB rfl rfl) ?_
                    refine LJ.nil ?_
                    refine CJ.condT rfl ?_
                    refine CJ.seq ?_
                    refine CJ.region ?_
                    refine LJ.yd rfl (Yd.asB rfl) ?_
                    refine LJ.nil ?_
                    refine CJ.ret ?_
                    refine Fin.V (Res.one (ResV.tmp (v := .bool true) rfl)) ?_
                    refine congrArg Value.bool (Eq.symm ?_)
                    first
                      | exact dB_T ⟨g, of_decide_eq_true h25, by omega, by omega, .inl ⟨x, by omega, by omega, canB_iff.1 h42, canB_iff.1 h58⟩⟩
                      | exact dB_T ⟨g, of_decide_eq_true h25, by omega, by omega, .inr ⟨y, by omega, by omega, canB_iff.1 h75, canB_iff.1 h91⟩⟩
                      | exact dB_F fun ⟨x, x1, x2, x3, x4⟩ => hno x x1 x2 (by omega) x4
                  · try simp only [Int.toNat_natCast] at hu91
                    rw [show ((w : Int) * ((H : Int) + 1) + (h : Int) - (y : Int)).toNat = q + (h - y) by omega, hq, hv82 w (h - y) (by omega) (by omega) (by omega) (by omega) (by omega)] at hu91
                    rw [← Option.some.inj hu91] at h91
                    refine LJ.yd rfl (Yd.pickTB rfl rfl) ?_
                    refine LJ.nil ?_
                    refine CJ.condF rfl ?_
                    refine CJ.skip ?_
                    refine CJ.region ?_
                    refine LJ.yd rfl (Yd.mvI rfl) ?_
                    refine LJ.yd rfl (Yd.add rfl rfl (by unfold I64; omega)) ?_
                    refine LJ.yd rfl (Yd.asI rfl) ?_
                    refine LJ.nil ?_
                    refine ⟨(y + 1), ?_, ⟨rfl, rfl, rfl, rfl, rfl, rfl, rfl, rfl, rfl, rfl, rfl, rfl, rfl, rfl, rfl, rfl, rfl, trivial⟩, ⟨rfl, trivial⟩, Ent.refl _, ?_⟩
                    · refine ⟨by omega, ?_⟩
                      refine ⟨by omega, fun z z1 z2 => ?_⟩
                      by_cases e : z = y
                      · subst e
                        rintro ⟨c1, c2⟩
                        first
                          | (rw [canB_iff.2 c1] at h75; cases h75; done)
                          | (rw [canB_iff.2 c2] at h91; cases h91; done)
                      · exact hny z z1 (by omega)
                    · first | omega | (dsimp only; omega) | (simp only []; omega)
                · try simp only [Int.toNat_natCast] at hu75
                  rw [show ((w : Int) * ((H : Int) + 1) + (y : Int)).toNat = q + y by omega, hq, hv68 w y (by omega) (by omega) (by omega) (by omega) (by omega)] at hu75
                  rw [← Option.some.inj hu75] at h75
                  refine LJ.yd rfl (Yd.mvB rfl) ?_
                  refine LJ.gF rfl rfl ?_
                  refine LJ.gF rfl rfl ?_
                  refine LJ.gF rfl rfl ?_
                  refine LJ.gF rfl rfl ?_
                  refine LJ.gF rfl rfl ?_
                  refine LJ.gF rfl rfl ?_
                  refine LJ.gF rfl rfl ?_
                  refine LJ.gF rfl rfl ?_
                  refine LJ.gF rfl rfl ?_
                  refine LJ.gF rfl rfl ?_
                  refine LJ.gF rfl rfl ?_
                  refine LJ.gF rfl rfl ?_
                  refine LJ.gF rfl rfl ?_
                  refine LJ.gF rfl rfl ?_
                  refine LJ.gF rfl rfl ?_
                  refine LJ.yd rfl (Yd.pickFB rfl rfl) ?_
                  refine LJ.nil ?_
                  refine CJ.condF rfl ?_
                  refine CJ.skip ?_
                  refine CJ.region ?_
                  refine LJ.yd rfl (Yd.mvI rfl) ?_
                  refine LJ.yd rfl (Yd.add rfl rfl (by unfold I64; omega)) ?_
                  refine LJ.yd rfl (Yd.asI rfl) ?_
                  refine LJ.nil ?_
                  refine ⟨(y + 1), ?_, ⟨rfl, rfl, rfl, rfl, rfl, rfl, rfl, rfl, rfl, rfl, rfl, rfl, rfl, rfl, rfl, rfl, rfl, trivial⟩, ⟨rfl, trivial⟩, Ent.refl _, ?_⟩
                  · refine ⟨by omega, ?_⟩
                    refine ⟨by omega, fun z z1 z2 => ?_⟩
                    by_cases e : z = y
                    · subst e
                      rintro ⟨c1, c2⟩
                      first
                        | (rw [canB_iff.2 c1] at h75; cases h75; done)
                        | (rw [canB_iff.2 c2] at h91; cases h91; done)
                    · exact hny z z1 (by omega)
                  · first | omega | (dsimp only; omega) | (simp only []; omega)
              · refine LJ.nil ?_
                refine CJ.condF rfl ?_
                refine CJ.exit ?_
                refine CJ.region ?_
                refine LJ.yd rfl (Yd.mvI rfl) ?_
                refine LJ.yd rfl (Yd.add rfl rfl (by unfold I64; omega)) ?_
                refine LJ.yd rfl (Yd.asI rfl) ?_
                refine LJ.nil ?_
                refine ⟨(g + 1), ?_, ⟨rfl, rfl, rfl, rfl, rfl, trivial⟩, ⟨rfl, trivial⟩, Ent.refl _, ?_⟩
                · refine ⟨by omega, ?_⟩
                  refine ⟨by omega, fun x x1 x2 x3 => ?_⟩
                  by_cases e : x = g
                  · subst e
                    first
                      | exact absurd x1 (of_decide_eq_false h25)
                      | (rintro (⟨z, z1, z2, z3, z4⟩ | ⟨z, z1, z2, z3, z4⟩)
                         · exact hnx z z1 (by omega) ⟨z3, z4⟩
                         · exact hny z z1 (by omega) ⟨z3, z4⟩)
                  · exact hno x x1 x2 (by omega)
                · first | omega | (dsimp only; omega) | (simp only []; omega)
      · refine LJ.yd rfl (Yd.not rfl) ?_
        refine LJ.nil ?_
        refine CJ.condT rfl ?_
        refine CJ.exit ?_
        refine CJ.region ?_
        refine LJ.yd rfl (Yd.mvI rfl) ?_
        refine LJ.yd rfl (Yd.add rfl rfl (by unfold I64; omega)) ?_
        refine LJ.yd rfl (Yd.asI rfl) ?_
        refine LJ.nil ?_
        refine ⟨(g + 1), ?_, ⟨rfl, rfl, rfl, rfl, rfl, trivial⟩, ⟨rfl, trivial⟩, Ent.refl _, ?_⟩
        · refine ⟨by omega, ?_⟩
          refine ⟨by omega, fun x x1 x2 x3 => ?_⟩
          by_cases e : x = g
          · subst e
            first
              | exact absurd x1 (of_decide_eq_false h25)
              | (rintro (⟨z, z1, z2, z3, z4⟩ | ⟨z, z1, z2, z3, z4⟩)
                 · exact hnx z z1 (by omega) ⟨z3, z4⟩
                 · exact hny z z1 (by omega) ⟨z3, z4⟩)
          · exact hno x x1 x2 (by omega)
        · first | omega | (dsimp only; omega) | (simp only []; omega)
    · refine LJ.nil ?_
      refine CJ.condF rfl ?_
      refine CJ.exit ?_
      refine CJ.seq ?_
      refine CJ.region ?_
      refine LJ.yd rfl (Yd.asB rfl) ?_
      refine LJ.nil ?_
      refine CJ.ret ?_
      refine Fin.V (Res.one (ResV.tmp (v := .bool false) rfl)) ?_
      refine congrArg Value.bool (Eq.symm ?_)
      first
        | exact dB_T ⟨g, of_decide_eq_true h25, by omega, by omega, .inl ⟨x, by omega, by omega, canB_iff.1 h42, canB_iff.1 h58⟩⟩
        | exact dB_T ⟨g, of_decide_eq_true h25, by omega, by omega, .inr ⟨y, by omega, by omega, canB_iff.1 h75, canB_iff.1 h91⟩⟩
        | exact dB_F fun ⟨x, x1, x2, x3, x4⟩ => hno x x1 x2 (by omega) x4
end Go.Proofs.Ytkojheinklgdeaa
