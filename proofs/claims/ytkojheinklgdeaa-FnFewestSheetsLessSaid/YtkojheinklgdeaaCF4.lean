/-
  Contracts: the reference's table of cuts; all panes cut from a sheet.
-/
import Derived.Test.YtkojheinklgdeaaCF3
namespace Go.Proofs.Ytkojheinklgdeaa
open Go
set_option maxRecDepth 20000
set_option maxHeartbeats 1000000

theorem mulb1 {w H : Nat} (hx : 1 ≤ w) (hw : w ≤ 16) (hH : H ≤ 16) : ∃ q : Nat, q = (w - 1) * (H + 1) ∧ ((w : Int) - 1) * ((H : Int) + 1) = q ∧ q ≤ 272 := by
  obtain ⟨q, h1, h2, h3⟩ := mulb (x := w - 1) (H := H) (by omega) hH
  exact ⟨q, h1, by rw [← h2]; congr 1; omega, h3⟩
theorem RX.set {ps : List Pane} {W H s w h : Nat} {R : List Bool} {v : Bool} (r : RX ps W H s w h R) (hh : h ≤ H) (hl : w * (H + 1) + h < R.length) (hv : canB ps w h s = v) : RX ps W H s w (h + 1) (R.set (w * (H + 1) + h) v) := fun a b h1 h2 h3 h4 h5 => by
  by_cases e : a = w ∧ b = h
  · obtain ⟨rfl, rfl⟩ := e
    rw [List.getElem?_set_self hl, hv]
  · rw [List.getElem?_set_ne fun q => e (by have := idx_ne hh h4 q; exact ⟨this.1.symm, this.2.symm⟩)]
    exact r a b h1 h2 h3 h4 (by omega)
theorem RX.row {ps : List Pane} {W H s w : Nat} {R : List Bool} (r : RX ps W H s w (H + 1) R) : RX ps W H s (w + 1) 1 R := fun a b h1 h2 h3 h4 h5 => r a b h1 h2 h3 h4 (by omega)
theorem RX.init {ps : List Pane} {W H s : Nat} {R : List Bool} : RX ps W H s 1 1 R := fun a b h1 h2 h3 h4 h5 => by omega
theorem cut_no {ps : List Pane} {s w h : Nat} (hs : s < 2 ^ ps.length) (h0 : s ≠ 0) (hw : 1 ≤ w) (hh : 1 ≤ h) (hp : ∀ p ∈ ps, 1 ≤ p.W ∧ 1 ≤ p.H) (hA : 1 < w → canB ps (w - 1) h s = false) (hB : 1 < h → canB ps w (h - 1) s = false) (hC : dB (OnlyP ps s w h) = false) (hD : dB (Cut2 ps s w h) = false) : canB ps w h s = false := by
  refine canB_F fun c => ?_
  by_cases e : ∃ i, i < ps.length ∧ s = 2 ^ i
  · obtain ⟨i, hi, rfl⟩ := e
    obtain ⟨p, hpi⟩ := someC (l := ps) (j := i) hi
    have hpp := hp p (List.mem_of_getElem? hpi)
    rw [sel_bit hpi] at c
    have hwf := c.single
    have nA : 1 < w → ¬ wf p (w - 1) h := fun q r => by have := (canB_one (w := w - 1) (h := h) hpi).2 r; rw [hA q] at this; cases this
    have nB : 1 < h → ¬ wf p w (h - 1) := fun q r => by have := (canB_one (w := w) (h := h - 1) hpi).2 r; rw [hB q] at this; cases this
    have nC : ¬ OnlyP ps (2 ^ i) w h := fun q => by rw [dB_T q] at hC; cases hC
    unfold wf at hwf nA nB
    rcases hwf with ⟨a1, a2⟩ | ⟨a1, a2, a3, a4⟩
    · by_cases q1 : p.W < w
      · exact nA (by omega) (.inl (by omega))
      · by_cases q2 : p.H < h
        · exact nB (by omega) (.inl (by omega))
        · exact nC ⟨i, p, hpi, rfl, .inl (by simp only [paneFit, Bool.false_eq_true, if_false, Bool.and_eq_true, decide_eq_true_eq]; omega)⟩
    · by_cases q1 : p.H < w
      · exact nA (by omega) (.inr ⟨a1, a2, by omega, by omega⟩)
      · by_cases q2 : p.W < h
        · exact nB (by omega) (.inr ⟨a1, a2, by omega, by omega⟩)
        · exact nC ⟨i, p, hpi, rfl, .inr (by simp only [paneFit, if_true, Bool.and_eq_true, decide_eq_true_eq, Bool.not_eq_true', decide_eq_false_iff_not]; exact ⟨a1, a2, by omega, by omega⟩)⟩
  · have := (cut2_can hs h0 fun i hi h => e ⟨i, hi, h⟩).2 c
    rw [dB_T this] at hD; cases hD
theorem only_can {ps : List Pane} {s w h : Nat} (h1 : dB (OnlyP ps s w h) = true) : canB ps w h s = true := by
  obtain ⟨i, p, hp, rfl, hf⟩ := dB_iff.1 h1
  rw [canB_one hp]
  rcases hf with hf | hf
  · simp only [paneFit, Bool.false_eq_true, if_false, Bool.and_eq_true, decide_eq_true_eq] at hf
    exact .inl (by omega)
  · simp only [paneFit, if_true, Bool.and_eq_true, decide_eq_true_eq, Bool.not_eq_true', decide_eq_false_iff_not] at hf
    exact .inr ⟨hf.1, hf.2.1, by omega, by omega⟩
theorem two_can {ps : List Pane} {s w h : Nat} (hs : s < 2 ^ ps.length) (h1 : dB (Cut2 ps s w h) = true) : canB ps w h s = true := by
  obtain ⟨g, a, b, c, d⟩ := dB_iff.1 h1
  exact canB_iff.2 (d.can hs a b c)
theorem canB_mono {ps : List Pane} {s w h w' h' : Nat} (c : canB ps w h s = true) (h1 : w ≤ w') (h2 : h ≤ h') : canB ps w' h' s = true := canB_iff.2 ((canB_iff.1 c).mono h1 h2)
theorem lastR {α : Type} {X : List (Rw α)} {g : Option Addr} {n : Nat} {Z R : List α} (e : R.length = Z.length) : (X ++ [(⟨g, n, Z⟩ : Rw α)]).map encR = (X ++ [(⟨g, n, R⟩ : Rw α)]).map encR := by simp [encR, e]
theorem LR.lastR {α : Type} {E : TypeId} {a : Option Addr} {c : Nat} {X : List (Rw α)} {g : Option Addr} {n : Nat} {Z R : List α} {h : Hp} (e : R.length = Z.length) (r : LR encR E 1 a c (X ++ [⟨g, n, Z⟩]) h) : LR encR E 1 a c (X ++ [⟨g, n, R⟩]) h := by
  show Row E 1 a c ((X ++ [(⟨g, n, R⟩ : Rw α)]).map encR) h
  rw [← Go.Proofs.Ytkojheinklgdeaa.lastR e]; exact r
theorem twoX {A : Amb} {fr : List HProp} {k : Hp} {E E2 : TypeId} {a g : Option Addr} {c N : Nat} {X : List (Rw Bool)} {Z R : List Bool} (hk : Sts fr k) (dk : A.h.Dj k) (i j l : Nat) (hi : fr[i]? = some (LR encR E 1 a c (X ++ [⟨g, N, Z⟩]))) (hj : fr[j]? = some (INN (rowOf encB E2 1) X)) (hr : fr[l]? = some (LR encB E2 1 g N R))
    (e : R.length = Z.length) (hX : X.length ≤ 1000) (hXl : ∀ u ∈ X, u.l.length ≤ 1000) (hR : R.length ≤ 1000) : RdL encR 1 (A.ext k).h (.slice a (X ++ [(⟨g, N, Z⟩ : Rw Bool)]).length c) (X ++ [⟨g, N, R⟩]) ∧ ∀ u ∈ X ++ [(⟨g, N, R⟩ : Rw Bool)], RdL encB 1 (A.ext k).h (.slice u.a u.l.length u.c) u.l := by
  refine ⟨?_, fun u hu => ?_⟩
  · have := Sts.lr hk dk i (by simp; omega) hi
    unfold RdL at this ⊢
    rwa [← Go.Proofs.Ytkojheinklgdeaa.lastR e]
  · rcases List.mem_append.1 hu with hu | hu
    · obtain ⟨m, hm⟩ := List.getElem?_of_mem hu
      exact Sts.inn hk dk j hm (by have := hXl u hu; omega) hj
    · rw [List.mem_singleton.1 hu]
      exact Sts.lr hk dk l (by dsimp only; omega) hr
theorem cutTable_ok {A : Amb} {W H : Int} {v : Value} {ps : List Pane} (hl : RdL Pane.enc 4 A.h v ps) (hk : cfOk W H ps = true) : Ctr Try.prog 74 #[.agg #[vI W, vI H, v]] A [] (fun v gs => ∃ a c, ∃ X : List (Rw Bool), v = .slice a X.length c ∧ gs = [LR encR 91 1 a c X, INN (rowOf encB 4 1) X] ∧ X.length = 2 ^ ps.length ∧ ∀ j u, X[j]? = some u → u.l.length = (W.toNat + 1) * (H.toNat + 1) ∧ RX ps W.toNat H.toNat j (W.toNat + 1) 1 u.l) := by
  obtain ⟨hk1, hk2, hk3, hk4, hk5⟩ := cfOk_iff.1 hk
  obtain ⟨hw1, hw2, hw3, hw4, hw5, hw6⟩ := workOk_iff.1 hk1
  obtain ⟨W, rfl⟩ := Int.eq_ofNat_of_zero_le (show 0 ≤ W by omega)
  obtain ⟨H, rfl⟩ := Int.eq_ofNat_of_zero_le (show 0 ≤ H by omega)
  obtain ⟨hp1, hp2⟩ := pow4 hk2
  have hpp : ∀ p ∈ ps, 1 ≤ p.W ∧ 1 ≤ p.H := fun p hp => by have := Pane.ok_iff.1 (hw6 p hp); omega
  obtain ⟨N, hN⟩ : ∃ N, N = (W + 1) * (H + 1) := ⟨_, rfl⟩
  have hNi : ((W : Int) + 1) * ((H : Int) + 1) = (N : Int) := by rw [hN]; push_cast; rfl
  have hNb : N ≤ 289 := by rw [hN]; exact Nat.mul_le_mul (show W + 1 ≤ 17 by omega) (show H + 1 ≤ 17 by omega)
  simp only [Int.toNat_natCast]
  rw [← hN]
  obtain ⟨la, lc, rfl, hlb, hl⟩ := hl.un
  refine Ctr.body (args := [_]) Try.func74 rfl Try.ntmps74 Try.results74 (by simp) ?_
  refine CJ.seq ?_
  refine CJ.region ?_
  refine LJ.boxG (vs := [_, _, _]) rfl rfl (fun b1 => ?_)
  refine LJ.yd rfl (Yd.asS rfl) ?_
  refine LJ.nil ?_
  refine CJ.seq ?_
  refine CJ.region ?_
  refine LJ.yd rfl (Yd.fieldAddr rfl) ?_
  refine LJ.yd rfl (Yd.loadC 0 rfl rfl rfl) ?_
  refine LJ.yd rfl (Yd.len rfl) ?_
  refine LJ.callV rfl (fun k hk dk => power_ok (by omega)) ?_
  refine LJ.yd rfl (Yd.asI rfl) ?_
  refine LJ.nil ?_
  refine CJ.seq ?_
  refine CJ.region ?_
  refine LJ.yd rfl (Yd.fieldAddr rfl) ?_
  refine LJ.yd rfl (Yd.loadC 0 rfl rfl rfl) ?_
  refine LJ.yd rfl (Yd.add rfl rfl (by unfold I64; omega)) ?_
  refine LJ.yd rfl (Yd.asI rfl) ?_
  refine LJ.nil ?_
  refine CJ.seq ?_
  refine CJ.region ?_
  refine LJ.op rfl (OpR.buildSlice (cs := []) rfl rfl) ?_
  rintro _ _ ⟨b2, rfl, rfl⟩
  refine LJ.yd rfl (Yd.asS rfl) ?_
  refine LJ.nil ?_
  refine CJ.seq ?_
  refine CJ.seq ?_
  refine CJ.region ?_
  refine LJ.yd rfl (Yd.asI rfl) ?_
  refine LJ.nil ?_
  refine CJ.block ?_
  refine CJ.imp1 1 rfl (fun _ h => Cel.lr (enc := (encR (α := Bool))) (k := 1) (m := 0) [] rfl rfl rfl rfl h) ?_
  refine CJ.norm [_, _] rfl ?_
  refine CJ.ent (INN.ent (rowOf encB 4 1)) ?_
  refine CJ.norm [_, _, _] rfl ?_
  refine CJ.loopF [1, 2, 3, 4] (Nat × List (Rw Bool) × Option Addr × Nat × Nat) (fun ⟨s, X, XA, XN, XC⟩ => (XN = X.length) ∧ s ≤ 2 ^ ps.length ∧ X.length = s ∧ ∀ j u, X[j]? = some u → u.l.length = N ∧ RX ps W H j (W + 1) 1 u.l) (fun ⟨s, X, XA, XN, XC⟩ => [(6, vI s), (5, .slice XA XN XC)]) (fun ⟨s, X, XA, XN, XC⟩ => [LR encR 91 1 XA XC X, INN (rowOf encB 4 1) X]) (fun ⟨s, X, XA, XN, XC⟩ => 2 ^ ps.length - s) (0, [], _, _, _) [_] [0] [1, 2] rfl rfl rfl ?_ ⟨rfl, rfl, trivial⟩ ?_
  · exact ⟨(by first | rfl | omega | (simp; done) | (simp; omega) | (simp [upN_len]; omega) | (simp [idxBy_len]; omega) | (simp [marks_len]; omega) | (simp [upN_len]; done) | (simp [idxBy_len]; done) | (simp [marks_len]; done) | (simp at *; omega)), ⟨by omega, rfl, fun j u h => by simp at h⟩⟩
  · rintro ⟨s, X, XA, XN, XC⟩ σ ⟨hlNX, ⟨hs5, hXl, hX⟩⟩
    subst hlNX
    refine CJ.norm [_, _, _] rfl ?_
    refine CJ.seq ?_
    refine CJ.seq ?_
    refine CJ.region ?_
    refine LJ.yd rfl (Yd.mvI rfl) ?_
    refine LJ.yd rfl (Yd.mvI rfl) ?_
    refine LJ.splitD rfl (Yd.lss rfl rfl) (fun h20 => ?_) (fun h20 => ?_)
    · refine LJ.nil ?_
      refine CJ.condT rfl ?_
      refine CJ.skip ?_
      refine CJ.seq ?_
      refine CJ.block ?_
      refine CJ.seq ?_
      refine CJ.region ?_
      refine LJ.yd rfl (Yd.fieldAddr rfl) ?_
      refine LJ.yd rfl (Yd.loadC 0 rfl rfl rfl) ?_
      refine LJ.yd rfl (Yd.add rfl rfl (by unfold I64; omega)) ?_
      refine LJ.yd rfl (Yd.mvI rfl) ?_
      refine LJ.yd rfl (Yd.mul rfl rfl (by unfold I64; omega)) ?_
      refine LJ.op rfl (OpR.mkL (enc := encB) false (m := N) rfl (congrArg vI hNi) (congrArg vI hNi) (by first | rfl | omega | (simp; done) | (simp; omega) | (simp [upN_len]; omega) | (simp [idxBy_len]; omega) | (simp [marks_len]; omega) | (simp [upN_len]; done) | (simp [idxBy_len]; done) | (simp [marks_len]; done) | (simp at *; omega))) ?_
      rintro _ _ ⟨g28, Z28, hZ28, hZl28, rfl, rfl⟩
      refine LJ.norm [_, _, _, _] rfl ?_
      refine LJ.yd rfl (Yd.asS rfl) ?_
      refine LJ.nil ?_
      refine CJ.seq ?_
      refine CJ.region ?_
      refine LJ.yd rfl (Yd.mvS rfl) ?_
      refine LJ.yd rfl (Yd.mvS rfl) ?_
      refine LJ.op rfl (OpR.buildSlice (cs := [_]) rfl rfl) ?_
      rintro _ _ ⟨b5, rfl, rfl⟩
      refine LJ.op rfl (OpR.apT (enc := encR) [(⟨some ⟨g28, 0, none⟩, N, Z28⟩ : Rw Bool)] 1 4 rfl rfl rfl (by first | rfl | omega | (simp; done) | (simp; omega) | (simp [upN_len]; omega) | (simp [idxBy_len]; omega) | (simp [marks_len]; omega) | (simp [upN_len]; done) | (simp [idxBy_len]; done) | (simp [marks_len]; done) | (simp at *; omega)) rfl rfl rfl rfl rfl (by first | rfl | omega | (simp; done) | (simp; omega) | (simp [upN_len]; omega) | (simp [idxBy_len]; omega) | (simp [marks_len]; omega) | (simp [upN_len]; done) | (simp [idxBy_len]; done) | (simp [marks_len]; done) | (simp at *; omega))) ?_
      rintro _ _ ⟨ra32, rc32, rfl, rfl⟩
      refine LJ.norm [_, _, _, _, _] rfl ?_
      refine LJ.yd rfl (Yd.asS rfl) ?_
      refine LJ.nil ?_
      refine CJ.seq ?_
      refine CJ.region ?_
      refine LJ.yd rfl (Yd.asI rfl) ?_
      refine LJ.nil ?_
      refine CJ.block ?_
      refine CJ.loopF [1, 2, 3, 4, 5, 6, 7, 18, 19, 20, 23, 24, 25, 26, 27, 28, 29, 30, 31, 32] (Nat × List Bool) (fun ⟨w, R⟩ => w ≤ W + 1 ∧ 1 ≤ w ∧ R.length = N ∧ RX ps W H s w 1 R) (fun ⟨w, R⟩ => [(8, vI w)]) (fun ⟨w, R⟩ => [LR encB 4 1 (some ⟨g28, 0, none⟩) N R]) (fun ⟨w, R⟩ => W + 1 - w) (1, Z28) [_, _, _, _] [0, 1, 2, 4] [3] rfl rfl rfl ?_ ⟨rfl, trivial⟩ ?_
      · exact ⟨by omega, by omega, hZl28, RX.init⟩
      · rintro ⟨w, R⟩ σ ⟨hw5a, hw5b, hRl, hR⟩
        refine CJ.norm [_, _, _, _, _] rfl ?_
        refine CJ.seq ?_
        refine CJ.seq ?_
        refine CJ.region ?_
        refine LJ.yd rfl (Yd.mvI rfl) ?_
        refine LJ.yd rfl (Yd.fieldAddr rfl) ?_
        refine LJ.yd rfl (Yd.loadC 0 rfl rfl rfl) ?_
        refine LJ.splitD rfl (Yd.leq rfl rfl) (fun h36 => ?_) (fun h36 => ?_)
        · refine LJ.nil ?_
          refine CJ.condT rfl ?_
          refine CJ.skip ?_
          refine CJ.seq ?_
          refine CJ.block ?_
          refine CJ.seq ?_
          refine CJ.region ?_
          refine LJ.yd rfl (Yd.asI rfl) ?_
          refine LJ.nil ?_
          refine CJ.block ?_
          refine CJ.loopF [1, 2, 3, 4, 5, 6, 7, 8, 18, 19, 20, 23, 24, 25, 26, 27, 28, 29, 30, 31, 32, 33, 34, 35, 36] (Nat × List Bool) (fun ⟨h, R2⟩ => h ≤ H + 1 ∧ 1 ≤ h ∧ R2.length = N ∧ RX ps W H s w h R2) (fun ⟨h, R2⟩ => [(9, vI h)]) (fun ⟨h, R2⟩ => [LR encB 4 1 (some ⟨g28, 0, none⟩) N R2]) (fun ⟨h, R2⟩ => H + 1 - h) (1, R) [_, _, _, _] [0, 1, 2, 3] [4] rfl rfl rfl ?_ ⟨rfl, trivial⟩ ?_
          · exact ⟨by omega, by omega, hRl, hR⟩
          · rintro ⟨h, R2⟩ σ ⟨hh5a, hh5b, hR2l, hR2⟩
            refine CJ.norm [_, _, _, _, _] rfl ?_
            refine CJ.seq ?_
            refine CJ.seq ?_
            refine CJ.region ?_
            refine LJ.yd rfl (Yd.mvI rfl) ?_
            refine LJ.yd rfl (Yd.fieldAddr rfl) ?_
            refine LJ.yd rfl (Yd.loadC 0 rfl rfl rfl) ?_
            refine LJ.splitD rfl (Yd.leq rfl rfl) (fun h42 => ?_) (fun h42 => ?_)
            · refine LJ.nil ?_
              refine CJ.condT rfl ?_
              refine CJ.skip ?_
              refine CJ.seq ?_
              refine CJ.block ?_
              obtain ⟨q, hq, hqi, hqb⟩ := mulb (x := w) (H := H) (by omega) (by omega)
              obtain ⟨q1, hq1, hq1i, hq1b⟩ := mulb1 (w := w) (H := H) (by omega) (by omega) (by omega)
              have hlt := idx_lt (x := w) (h := h) hN (by omega) (by omega)
              have hlt1 := idx_lt (x := w - 1) (h := h) hN (by omega) (by omega)
              have hlt2 := idx_lt (x := w) (h := h - 1) hN (by omega) (by omega)
              rw [← hq] at hlt hlt2
              rw [← hq1] at hlt1
              have hXR : ∀ j u, (X ++ [(⟨some ⟨g28, 0, none⟩, N, R2⟩ : Rw Bool)])[j]? = some u → j < s → u.l.length = N ∧ RX ps W H j (W + 1) 1 u.l := fun j u hu hj => hX j u (by rwa [List.getElem?_append_left (by omega)] at hu)
              refine CJ.region ?_
              refine LJ.yd rfl (Yd.mvS rfl) ?_
              refine LJ.yd rfl (Yd.mvI rfl) ?_
              refine LJ.yd rfl (Yd.mvI rfl) ?_
              refine LJ.yd rfl (Yd.mul rfl rfl (by unfold I64; omega)) ?_
              refine LJ.yd rfl (Yd.mvI rfl) ?_
              refine LJ.yd rfl (Yd.add rfl rfl (by unfold I64; omega)) ?_
              refine LJ.yd rfl (Yd.mvI rfl) ?_
              refine LJ.splitD rfl (Yd.eql rfl rfl) (fun h52 => ?_) (fun h52 => ?_)
              · refine LJ.yd rfl (Yd.mvB rfl) ?_
                refine LJ.gF rfl rfl ?_
                refine LJ.gF rfl rfl ?_
                refine LJ.gF rfl rfl ?_
                refine LJ.gF rfl rfl ?_
                refine LJ.gF rfl rfl ?_
                refine LJ.gF rfl rfl ?_
                refine LJ.gF rfl rfl ?_
                refine LJ.gF rfl rfl ?_
                refine LJ.gF rfl rfl ?_
                refine LJ.gF rfl rfl ?_
                refine LJ.gF rfl rfl ?_
                refine LJ.gF rfl rfl ?_
                refine LJ.gF rfl rfl ?_
                refine LJ.yd rfl (Yd.pickTB rfl rfl) ?_
                refine LJ.yd rfl (Yd.mvB rfl) ?_
                refine LJ.gF rfl rfl ?_
                refine LJ.gF rfl rfl ?_
                refine LJ.gF rfl rfl ?_
                refine LJ.gF rfl rfl ?_
                refine LJ.gF rfl rfl ?_
                refine LJ.gF rfl rfl ?_
                refine LJ.gF rfl rfl ?_
                refine LJ.gF rfl rfl ?_
                refine LJ.gF rfl rfl ?_
                refine LJ.gF rfl rfl ?_
                refine LJ.gF rfl rfl ?_
                refine LJ.gF rfl rfl ?_
                refine LJ.gF rfl rfl ?_
                refine LJ.yd rfl (Yd.pickTB rfl rfl) ?_
                refine LJ.yd rfl (Yd.mvB rfl) ?_
                refine LJ.gF rfl rfl ?_
                refine LJ.gF rfl rfl ?_
                refine LJ.gF rfl rfl ?_
                refine LJ.gF rfl rfl ?_
                refine LJ.gF rfl rfl ?_
                refine LJ.yd rfl (Yd.pickTB rfl rfl) ?_
                refine LJ.yd rfl (Yd.mvB rfl) ?_
                refine LJ.gF rfl rfl ?_
                refine LJ.gF rfl rfl ?_
                refine LJ.gF rfl rfl ?_
                refine LJ.gF rfl rfl ?_
                refine LJ.gF rfl rfl ?_
                refine LJ.gF rfl rfl ?_
                refine LJ.yd rfl (Yd.pickTB rfl rfl) ?_
                refine LJ.idxR 4 rfl rfl rfl rfl (by omega) (by first | rfl | omega | (simp; done) | (simp; omega) | (simp [upN_len]; omega) | (simp [idxBy_len]; omega) | (simp [marks_len]; omega) | (simp [upN_len]; done) | (simp [idxBy_len]; done) | (simp [marks_len]; done) | (simp at *; omega)) (by first | rfl | omega | (simp; done) | (simp; omega) | (simp [upN_len]; omega) | (simp [idxBy_len]; omega) | (simp [marks_len]; omega) | (simp [upN_len]; done) | (simp [idxBy_len]; done) | (simp [marks_len]; done) | (simp at *; omega)) (fun ib98 ia98 => ?_)
                refine LJ.op rfl (OpR.st1 (enc := encB) (e1 := fun u => .bool u) 4 (fun _ => rfl) (fun _ => rfl) (fun _ => rfl) rfl ia98 rfl rfl rfl (by first | rfl | omega | (simp; done) | (simp; omega) | (simp [upN_len]; omega) | (simp [idxBy_len]; omega) | (simp [marks_len]; omega) | (simp [upN_len]; done) | (simp [idxBy_len]; done) | (simp [marks_len]; done) | (simp at *; omega))) ?_
                rintro _ _ ⟨rfl, rfl⟩
                refine LJ.norm [_, _, _, _, _] rfl ?_
                refine LJ.nil ?_
                refine CJ.region ?_
                refine LJ.yd rfl (Yd.mvI rfl) ?_
                refine LJ.yd rfl (Yd.add rfl rfl (by unfold I64; omega)) ?_
                refine LJ.yd rfl (Yd.asI rfl) ?_
                refine LJ.nil ?_
                refine ⟨(h + 1, _), ?_, ⟨rfl, rfl, rfl, rfl, rfl, rfl, rfl, rfl, rfl, rfl, rfl, rfl, rfl, rfl, rfl, rfl, rfl, rfl, rfl, rfl, rfl, rfl, rfl, rfl, rfl, trivial⟩, ⟨rfl, trivial⟩, Ent.refl _, ?_⟩
                · refine ⟨by omega, ?_⟩
                  rw [show ((w : Int) * ((H : Int) + 1) + (h : Int)).toNat = w * (H + 1) + h by omega]
                  refine ⟨by omega, by rw [List.length_set]; exact hR2l, hR2.set (by omega) (by omega) ?_⟩
                  first
                    | exact canB_mono h65 (by omega) (Nat.le_refl _)
                    | exact canB_mono h80 (Nat.le_refl _) (by omega)
                    | exact only_can h88
                    | exact two_can (by omega) h96
                    | exact cut_no (by omega) (by omega) (by omega) (by omega) hpp (fun q => by first | exact h65 | omega) (fun q => by first | exact h80 | omega) h88 h96
                    | (obtain rfl : s = 0 := by omega
                       exact canB_zero)
                · first | omega | (dsimp only; omega) | (simp only []; omega)
              · refine LJ.yd rfl (Yd.mvB rfl) ?_
                refine LJ.gT rfl ?_
                refine LJ.yd rfl (Yd.mvI rfl) ?_
                refine LJ.gT rfl ?_
                refine LJ.splitD rfl (Yd.gtr rfl rfl) (fun h55 => ?_) (fun h55 => ?_)
                · refine LJ.gT rfl ?_
                  refine LJ.yd rfl (Yd.mvB rfl) ?_
                  refine LJ.gT rfl ?_
                  refine LJ.yd rfl (Yd.mvS rfl) ?_
                  refine LJ.gT rfl ?_
                  refine LJ.yd rfl (Yd.mvI rfl) ?_
                  refine LJ.gT rfl ?_
                  refine LJ.yd rfl (Yd.sub rfl rfl (by unfold I64; omega)) ?_
                  refine LJ.gT rfl ?_
                  refine LJ.yd rfl (Yd.mvI rfl) ?_
                  refine LJ.gT rfl ?_
                  refine LJ.yd rfl (Yd.mul rfl rfl (by unfold I64; omega)) ?_
                  refine LJ.gT rfl ?_
                  refine LJ.yd rfl (Yd.mvI rfl) ?_
                  refine LJ.gT rfl ?_
                  refine LJ.yd rfl (Yd.add rfl rfl (by unfold I64; omega)) ?_
                  refine LJ.gT rfl ?_
                  refine LJ.idxR 4 rfl rfl rfl rfl (by omega) (by first | rfl | omega | (simp; done) | (simp; omega) | (simp [upN_len]; omega) | (simp [idxBy_len]; omega) | (simp [marks_len]; omega) | (simp [upN_len]; done) | (simp [idxBy_len]; done) | (simp [marks_len]; done) | (simp at *; omega)) (by first | rfl | omega | (simp; done) | (simp; omega) | (simp [upN_len]; omega) | (simp [idxBy_len]; omega) | (simp [marks_len]; omega) | (simp [upN_len]; done) | (simp [idxBy_len]; done) | (simp [marks_len]; done) | (simp at *; omega)) (fun ib64 ia64 => ?_)
                  refine LJ.gT rfl ?_
                  refine LJ.ldRB 4 0 (fun u => u) (fun _ => rfl) rfl ia64 rfl rfl rfl (by first | rfl | omega | (simp; done) | (simp; omega) | (simp [upN_len]; omega) | (simp [idxBy_len]; omega) | (simp [marks_len]; omega) | (simp [upN_len]; done) | (simp [idxBy_len]; done) | (simp [marks_len]; done) | (simp at *; omega)) (fun u65 hu65 h65 => ?_) (fun u65 hu65 h65 => ?_)
                  · try simp only [Int.toNat_natCast] at hu65
                    rw [show (((w : Int) - 1) * ((H : Int) + 1) + (h : Int)).toNat = q1 + h by omega, hq1, hR2 (w - 1) h (by omega) (by omega) (by omega) (by omega) (by omega)] at hu65
                    rw [← Option.some.inj hu65] at h65
                    refine LJ.gT rfl ?_
                    refine LJ.yd rfl (Yd.pickTB rfl rfl) ?_
                    refine LJ.yd rfl (Yd.pickFB rfl rfl) ?_
                    refine LJ.yd rfl (Yd.mvB rfl) ?_
                    refine LJ.gF rfl rfl ?_
                    refine LJ.gF rfl rfl ?_
                    refine LJ.gF rfl rfl ?_
                    refine LJ.gF rfl rfl ?_
                    refine LJ.gF rfl rfl ?_
                    refine LJ.gF rfl rfl ?_
                    refine LJ.gF rfl rfl ?_
                    refine LJ.gF rfl rfl ?_
                    refine LJ.gF rfl rfl ?_
                    refine LJ.gF rfl rfl ?_
                    refine LJ.gF rfl rfl ?_
                    refine LJ.gF rfl rfl ?_
                    refine LJ.gF rfl rfl ?_
                    refine LJ.yd rfl (Yd.pickTB rfl rfl) ?_
                    refine LJ.yd rfl (Yd.mvB rfl) ?_
                    refine LJ.gF rfl rfl ?_
                    refine LJ.gF rfl rfl ?_
                    refine LJ.gF rfl rfl ?_
                    refine LJ.gF rfl rfl ?_
                    refine LJ.gF rfl rfl ?_
                    refine LJ.yd rfl (Yd.pickTB rfl rfl) ?_
                    refine LJ.yd rfl (Yd.mvB rfl) ?_
                    refine LJ.gF rfl rfl ?_
                    refine LJ.gF rfl rfl ?_
                    refine LJ.gF rfl rfl ?_
                    refine LJ.gF rfl rfl ?_
                    refine LJ.gF rfl rfl ?_
                    refine LJ.gF rfl rfl ?_
                    refine LJ.yd rfl (Yd.pickTB rfl rfl) ?_
                    refine LJ.idxR 4 rfl rfl rfl rfl (by omega) (by first | rfl | omega | (simp; done) | (simp; omega) | (simp [upN_len]; omega) | (simp [idxBy_len]; omega) | (simp [marks_len]; omega) | (simp [upN_len]; done) | (simp [idxBy_len]; done) | (simp [marks_len]; done) | (simp at *; omega)) (by first | rfl | omega | (simp; done) | (simp; omega) | (simp [upN_len]; omega) | (simp [idxBy_len]; omega) | (simp [marks_len]; omega) | (simp [upN_len]; done) | (simp [idxBy_len]; done) | (simp [marks_len]; done) | (simp at *; omega)) (fun ib98 ia98 => ?_)
                    refine LJ.op rfl (OpR.st1 (enc := encB) (e1 := fun u => .bool u) 4 (fun _ => rfl) (fun _ => rfl) (fun _ => rfl) rfl ia98 rfl rfl rfl (by first | rfl | omega | (simp; done) | (simp; omega) | (simp [upN_len]; omega) | (simp [idxBy_len]; omega) | (simp [marks_len]; omega) | (simp [upN_len]; done) | (simp [idxBy_len]; done) | (simp [marks_len]; done) | (simp at *; omega))) ?_
                    rintro _ _ ⟨rfl, rfl⟩
                    refine LJ.norm [_, _, _, _, _] rfl ?_
                    refine LJ.nil ?_
                    refine CJ.region ?_
                    refine LJ.yd rfl (Yd.mvI rfl) ?_
                    refine LJ.yd rfl (Yd.add rfl rfl (by unfold I64; omega)) ?_
                    refine LJ.yd rfl (Yd.asI rfl) ?_
                    refine LJ.nil ?_
                    refine ⟨(h + 1, _), ?_, ⟨rfl, rfl, rfl, rfl, rfl, rfl, rfl, rfl, rfl, rfl, rfl, rfl, rfl, rfl, rfl, rfl, rfl, rfl, rfl, rfl, rfl, rfl, rfl, rfl, rfl, trivial⟩, ⟨rfl, trivial⟩, Ent.refl _, ?_⟩
                    · refine ⟨by omega, ?_⟩
                      rw [show ((w : Int) * ((H : Int) + 1) + (h : Int)).toNat = w * (H + 1) + h by omega]
                      refine ⟨by omega, by rw [List.length_set]; exact hR2l, hR2.set (by omega) (by omega) ?_⟩
                      first
                        | exact canB_mono h65 (by omega) (Nat.le_refl _)
                        | exact canB_mono h80 (Nat.le_refl _) (by omega)
                        | exact only_can h88
                        | exact two_can (by omega) h96
                        | exact cut_no (by omega) (by omega) (by omega) (by omega) hpp (fun q => by first | exact h65 | omega) (fun q => by first | exact h80 | omega) h88 h96
                        | (obtain rfl : s = 0 := by omega
                           exact canB_zero)
                    · first | omega | (dsimp only; omega) | (simp only []; omega)
                  · try simp only [Int.toNat_natCast] at hu65
                    rw [show (((w : Int) - 1) * ((H : Int) + 1) + (h : Int)).toNat = q1 + h by omega, hq1, hR2 (w - 1) h (by omega) (by omega) (by omega) (by omega) (by omega)] at hu65
                    rw [← Option.some.inj hu65] at h65
                    refine LJ.gT rfl ?_
                    refine LJ.yd rfl (Yd.pickTB rfl rfl) ?_
                    refine LJ.yd rfl (Yd.pickFB rfl rfl) ?_
                    refine LJ.yd rfl (Yd.mvB rfl) ?_
                    refine LJ.gT rfl ?_
                    refine LJ.yd rfl (Yd.mvI rfl) ?_
                    refine LJ.gT rfl ?_
                    refine LJ.splitD rfl (Yd.gtr rfl rfl) (fun h70 => ?_) (fun h70 => ?_)
                    · refine LJ.gT rfl ?_
                      refine LJ.yd rfl (Yd.mvB rfl) ?_
                      refine LJ.gT rfl ?_
                      refine LJ.yd rfl (Yd.mvS rfl) ?_
                      refine LJ.gT rfl ?_
                      refine LJ.yd rfl (Yd.mvI rfl) ?_
                      refine LJ.gT rfl ?_
                      refine LJ.yd rfl (Yd.mvI rfl) ?_
                      refine LJ.gT rfl ?_
                      refine LJ.yd rfl (Yd.mul rfl rfl (by unfold I64; omega)) ?_
                      refine LJ.gT rfl ?_
                      refine LJ.yd rfl (Yd.mvI rfl) ?_
                      refine LJ.gT rfl ?_
                      refine LJ.yd rfl (Yd.add rfl rfl (by unfold I64; omega)) ?_
                      refine LJ.gT rfl ?_
                      refine LJ.yd rfl (Yd.sub rfl rfl (by unfold I64; omega)) ?_
                      refine LJ.gT rfl ?_
                      refine LJ.idxR 4 rfl rfl rfl rfl (by omega) (by first | rfl | omega | (simp; done) | (simp; omega) | (simp [upN_len]; omega) | (simp [idxBy_len]; omega) | (simp [marks_len]; omega) | (simp [upN_len]; done) | (simp [idxBy_len]; done) | (simp [marks_len]; done) | (simp at *; omega)) (by first | rfl | omega | (simp; done) | (simp; omega) | (simp [upN_len]; omega) | (simp [idxBy_len]; omega) | (simp [marks_len]; omega) | (simp [upN_len]; done) | (simp [idxBy_len]; done) | (simp [marks_len]; done) | (simp at *; omega)) (fun ib79 ia79 => ?_)
                      refine LJ.gT rfl ?_
                      refine LJ.ldRB 4 0 (fun u => u) (fun _ => rfl) rfl ia79 rfl rfl rfl (by first | rfl | omega | (simp; done) | (simp; omega) | (simp [upN_len]; omega) | (simp [idxBy_len]; omega) | (simp [marks_len]; omega) | (simp [upN_len]; done) | (simp [idxBy_len]; done) | (simp [marks_len]; done) | (simp at *; omega)) (fun u80 hu80 h80 => ?_) (fun u80 hu80 h80 => ?_)
                      · try simp only [Int.toNat_natCast] at hu80
                        rw [show ((w : Int) * ((H : Int) + 1) + (h : Int) - 1).toNat = q + (h - 1) by omega, hq, hR2 w (h - 1) (by omega) (by omega) (by omega) (by omega) (by omega)] at hu80
                        rw [← Option.some.inj hu80] at h80
                        refine LJ.gT rfl ?_
                        refine LJ.yd rfl (Yd.pickTB rfl rfl) ?_
                        refine LJ.yd rfl (Yd.pickFB rfl rfl) ?_
                        refine LJ.yd rfl (Yd.mvB rfl) ?_
                        refine LJ.gF rfl rfl ?_
                        refine LJ.gF rfl rfl ?_
                        refine LJ.gF rfl rfl ?_
                        refine LJ.gF rfl rfl ?_
                        refine LJ.gF rfl rfl ?_
                        refine LJ.yd rfl (Yd.pickTB rfl rfl) ?_
                        refine LJ.yd rfl (Yd.mvB rfl) ?_
                        refine LJ.gF rfl rfl ?_
                        refine LJ.gF rfl rfl ?_
                        refine LJ.gF rfl rfl ?_
                        refine LJ.gF rfl rfl ?_
                        refine LJ.gF rfl rfl ?_
                        refine LJ.gF rfl rfl ?_
                        refine LJ.yd rfl (Yd.pickTB rfl rfl) ?_
                        refine LJ.idxR 4 rfl rfl rfl rfl (by omega) (by first | rfl | omega | (simp; done) | (simp; omega) | (simp [upN_len]; omega) | (simp [idxBy_len]; omega) | (simp [marks_len]; omega) | (simp [upN_len]; done) | (simp [idxBy_len]; done) | (simp [marks_len]; done) | (simp at *; omega)) (by first | rfl | omega | (simp; done) | (simp; omega) | (simp [upN_len]; omega) | (simp [idxBy_len]; omega) | (simp [marks_len]; omega) | (simp [upN_len]; done) | (simp [idxBy_len]; done) | (simp [marks_len]; done) | (simp at *; omega)) (fun ib98 ia98 => ?_)
                        refine LJ.op rfl (OpR.st1 (enc := encB) (e1 := fun u => .bool u) 4 (fun _ => rfl) (fun _ => rfl) (fun _ => rfl) rfl ia98 rfl rfl rfl (by first | rfl | omega | (simp; done) | (simp; omega) | (simp [upN_len]; omega) | (simp [idxBy_len]; omega) | (simp [marks_len]; omega) | (simp [upN_len]; done) | (simp [idxBy_len]; done) | (simp [marks_len]; done) | (simp at *; omega))) ?_
                        rintro _ _ ⟨rfl, rfl⟩
                        refine LJ.norm [_, _, _, _, _] rfl ?_
                        refine LJ.nil ?_
                        refine CJ.region ?_
                        refine LJ.yd rfl (Yd.mvI rfl) ?_
                        refine LJ.yd rfl (Yd.add rfl rfl (by unfold I64; omega)) ?_
                        refine LJ.yd rfl (Yd.asI rfl) ?_
                        refine LJ.nil ?_
                        refine ⟨(h + 1, _), ?_, ⟨rfl, rfl, rfl, rfl, rfl, rfl, rfl, rfl, rfl, rfl, rfl, rfl, rfl, rfl, rfl, rfl, rfl, rfl, rfl, rfl, rfl, rfl, rfl, rfl, rfl, trivial⟩, ⟨rfl, trivial⟩, Ent.refl _, ?_⟩
                        · refine ⟨by omega, ?_⟩
                          rw [show ((w : Int) * ((H : Int) + 1) + (h : Int)).toNat = w * (H + 1) + h by omega]
                          refine ⟨by omega, by rw [List.length_set]; exact hR2l, hR2.set (by omega) (by omega) ?_⟩
                          first
                            | exact canB_mono h65 (by omega) (Nat.le_refl _)
                            | exact canB_mono h80 (Nat.le_refl _) (by omega)
                            | exact only_can h88
                            | exact two_can (by omega) h96
                            | exact cut_no (by omega) (by omega) (by omega) (by omega) hpp (fun q => by first | exact h65 | omega) (fun q => by first | exact h80 | omega) h88 h96
                            | (obtain rfl : s = 0 := by omega
                               exact canB_zero)
                        · first | omega | (dsimp only; omega) | (simp only []; omega)
                      · try simp only [Int.toNat_natCast] at hu80
                        rw [show ((w : Int) * ((H : Int) + 1) + (h : Int) - 1).toNat = q + (h - 1) by omega, hq, hR2 w (h - 1) (by omega) (by omega) (by omega) (by omega) (by omega)] at hu80
                        rw [← Option.some.inj hu80] at h80
                        refine LJ.gT rfl ?_
                        refine LJ.yd rfl (Yd.pickTB rfl rfl) ?_
                        refine LJ.yd rfl (Yd.pickFB rfl rfl) ?_
                        refine LJ.yd rfl (Yd.mvB rfl) ?_
                        refine LJ.gT rfl ?_
                        refine LJ.yd rfl (Yd.loadG (us := [_, _, _]) 0 rfl rfl rfl rfl) ?_
                        refine LJ.gT rfl ?_
                        refine LJ.yd rfl (Yd.mvI rfl) ?_
                        refine LJ.gT rfl ?_
                        refine LJ.yd rfl (Yd.mvI rfl) ?_
                        refine LJ.gT rfl ?_
                        refine LJ.yd rfl (Yd.mvI rfl) ?_
                        refine LJ.gT rfl ?_
                        refine LJ.callB rfl (fun k hk dk => onlyPane_ok hl.up hk2) (fun h88 => ?_) (fun h88 => ?_)
                        · refine LJ.yd rfl (Yd.pickFB rfl rfl) ?_
                          refine LJ.yd rfl (Yd.mvB rfl) ?_
                          refine LJ.gF rfl rfl ?_
                          refine LJ.gF rfl rfl ?_
                          refine LJ.gF rfl rfl ?_
                          refine LJ.gF rfl rfl ?_
                          refine LJ.gF rfl rfl ?_
                          refine LJ.gF rfl rfl ?_
                          refine LJ.yd rfl (Yd.pickTB rfl rfl) ?_
                          refine LJ.idxR 4 rfl rfl rfl rfl (by omega) (by first | rfl | omega | (simp; done) | (simp; omega) | (simp [upN_len]; omega) | (simp [idxBy_len]; omega) | (simp [marks_len]; omega) | (simp [upN_len]; done) | (simp [idxBy_len]; done) | (simp [marks_len]; done) | (simp at *; omega)) (by first | rfl | omega | (simp; done) | (simp; omega) | (simp [upN_len]; omega) | (simp [idxBy_len]; omega) | (simp [marks_len]; omega) | (simp [upN_len]; done) | (simp [idxBy_len]; done) | (simp [marks_len]; done) | (simp at *; omega)) (fun ib98 ia98 => ?_)
                          refine LJ.op rfl (OpR.st1 (enc := encB) (e1 := fun u => .bool u) 4 (fun _ => rfl) (fun _ => rfl) (fun _ => rfl) rfl ia98 rfl rfl rfl (by first | rfl | omega | (simp; done) | (simp; omega) | (simp [upN_len]; omega) | (simp [idxBy_len]; omega) | (simp [marks_len]; omega) | (simp [upN_len]; done) | (simp [idxBy_len]; done) | (simp [marks_len]; done) | (simp at *; omega))) ?_
                          rintro _ _ ⟨rfl, rfl⟩
                          refine LJ.norm [_, _, _, _, _] rfl ?_
                          refine LJ.nil ?_
                          refine CJ.region ?_
                          refine LJ.yd rfl (Yd.mvI rfl) ?_
                          refine LJ.yd rfl (Yd.add rfl rfl (by unfold I64; omega)) ?_
                          refine LJ.yd rfl (Yd.asI rfl) ?_
                          refine LJ.nil ?_
                          refine ⟨(h + 1, _), ?_, ⟨rfl, rfl, rfl, rfl, rfl, rfl, rfl, rfl, rfl, rfl, rfl, rfl, rfl, rfl, rfl, rfl, rfl, rfl, rfl, rfl, rfl, rfl, rfl, rfl, rfl, trivial⟩, ⟨rfl, trivial⟩, Ent.refl _, ?_⟩
                          · refine ⟨by omega, ?_⟩
                            rw [show ((w : Int) * ((H : Int) + 1) + (h : Int)).toNat = w * (H + 1) + h by omega]
                            refine ⟨by omega, by rw [List.length_set]; exact hR2l, hR2.set (by omega) (by omega) ?_⟩
                            first
                              | exact canB_mono h65 (by omega) (Nat.le_refl _)
                              | exact canB_mono h80 (Nat.le_refl _) (by omega)
                              | exact only_can h88
                              | exact two_can (by omega) h96
                              | exact cut_no (by omega) (by omega) (by omega) (by omega) hpp (fun q => by first | exact h65 | omega) (fun q => by first | exact h80 | omega) h88 h96
                              | (obtain rfl : s = 0 := by omega
                                 exact canB_zero)
                          · first | omega | (dsimp only; omega) | (simp only []; omega)
                        · refine LJ.yd rfl (Yd.pickFB rfl rfl) ?_
                          refine LJ.yd rfl (Yd.mvB rfl) ?_
                          refine LJ.gT rfl ?_
                          refine LJ.yd rfl (Yd.loadG (us := [_, _, _]) 0 rfl rfl rfl rfl) ?_
                          refine LJ.gT rfl ?_
                          refine LJ.yd rfl (Yd.mvS rfl) ?_
                          refine LJ.gT rfl ?_
                          refine LJ.yd rfl (Yd.mvI rfl) ?_
                          refine LJ.gT rfl ?_
                          refine LJ.yd rfl (Yd.mvI rfl) ?_
                          refine LJ.gT rfl ?_
                          refine LJ.yd rfl (Yd.mvI rfl) ?_
                          refine LJ.gT rfl ?_
                          refine LJ.callB rfl (fun k hk dk => twoSets_ok (W := W) (twoX hk dk 1 2 4 rfl rfl rfl (by omega) (by omega) (fun u hu => by obtain ⟨m, hm⟩ := List.getElem?_of_mem hu; have := (hX m u hm).1; omega) (by omega)).1 (twoX hk dk 1 2 4 rfl rfl rfl (by omega) (by omega) (fun u hu => by obtain ⟨m, hm⟩ := List.getElem?_of_mem hu; have := (hX m u hm).1; omega) (by omega)).2 hN hXR (by simp; omega) (by omega) (by omega) (by omega) (by omega) (by omega)) (fun h96 => ?_) (fun h96 => ?_)
                          · refine LJ.yd rfl (Yd.pickFB rfl rfl) ?_
                            refine LJ.idxR 4 rfl rfl rfl rfl (by omega) (by first | rfl | omega | (simp; done) | (simp; omega) | (simp [upN_len]; omega) | (simp [idxBy_len]; omega) | (simp [marks_len]; omega) | (simp [upN_len]; done) | (simp [idxBy_len]; done) | (simp [marks_len]; done) | (simp at *; omega)) (by first | rfl | omega | (simp; done) | (simp; omega) | (simp [upN_len]; omega) | (simp [idxBy_len]; omega) | (simp [marks_len]; omega) | (simp [upN_len]; done) | (simp [idxBy_len]; done) | (simp [marks_len]; done) | (simp at *; omega)) (fun ib98 ia98 => ?_)
                            refine LJ.op rfl (OpR.st1 (enc := encB) (e1 := fun u => .bool u) 4 (fun _ => rfl) (fun _ => rfl) (fun _ => rfl) rfl ia98 rfl rfl rfl (by first | rfl | omega | (simp; done) | (simp; omega) | (simp [upN_len]; omega) | (simp [idxBy_len]; omega) | (simp [marks_len]; omega) | (simp [upN_len]; done) | (simp [idxBy_len]; done) | (simp [marks_len]; done) | (simp at *; omega))) ?_
                            rintro _ _ ⟨rfl, rfl⟩
                            refine LJ.norm [_, _, _, _, _] rfl ?_
                            refine LJ.nil ?_
                            refine CJ.region ?_
                            refine LJ.yd rfl (Yd.mvI rfl) ?_
                            refine LJ.yd rfl (Yd.add rfl rfl (by unfold I64; omega)) ?_
                            refine LJ.yd rfl (Yd.asI rfl) ?_
                            refine LJ.nil ?_
                            refine ⟨(h + 1, _), ?_, ⟨rfl, rfl, rfl, rfl, rfl, rfl, rfl, rfl, rfl, rfl, rfl, rfl, rfl, rfl, rfl, rfl, rfl, rfl, rfl, rfl, rfl, rfl, rfl, rfl, rfl, trivial⟩, ⟨rfl, trivial⟩, Ent.refl _, ?_⟩
                            · refine ⟨by omega, ?_⟩
                              rw [show ((w : Int) * ((H : Int) + 1) + (h : Int)).toNat = w * (H + 1) + h by omega]
                              refine ⟨by omega, by rw [List.length_set]; exact hR2l, hR2.set (by omega) (by omega) ?_⟩
                              first
                                | exact canB_mono h65 (by omega) (Nat.le_refl _)
                                | exact canB_mono h80 (Nat.le_refl _) (by omega)
                                | exact only_can h88
                                | exact two_can (by omega) h96
                                | exact cut_no (by omega) (by omega) (by omega) (by omega) hpp (fun q => by first | exact h65 | omega) (fun q => by first | exact h80 | omega) h88 h96
                                | (obtain rfl : s = 0 := by omega
                                   exact canB_zero)
                            · first | omega | (dsimp only; omega) | (simp only []; omega)
                          · refine LJ.yd rfl (Yd.pickFB rfl rfl) ?_
                            refine LJ.idxR 4 rfl rfl rfl rfl (by omega) (by first | rfl | omega | (simp; done) | (simp; omega) | (simp [upN_len]; omega) | (simp [idxBy_len]; omega) | (simp [marks_len]; omega) | (simp [upN_len]; done) | (simp [idxBy_len]; done) | (simp [marks_len]; done) | (simp at *; omega)) (by first | rfl | omega | (simp; done) | (simp; omega) | (simp [upN_len]; omega) | (simp [idxBy_len]; omega) | (simp [marks_len]; omega) | (simp [upN_len]; done) | (simp [idxBy_len]; done) | (simp [marks_len]; done) | (simp at *; omega)) (fun ib98 ia98 => ?_)
                            refine LJ.op rfl (OpR.st1 (enc := encB) (e1 := fun u => .bool u) 4 (fun _ => rfl) (fun _ => rfl) (fun _ => rfl) rfl ia98 rfl rfl rfl (by first | rfl | omega | (simp; done) | (simp; omega) | (simp [upN_len]; omega) | (simp [idxBy_len]; omega) | (simp [marks_len]; omega) | (simp [upN_len]; done) | (simp [idxBy_len]; done) | (simp [marks_len]; done) | (simp at *; omega))) ?_
                            rintro _ _ ⟨rfl, rfl⟩
                            refine LJ.norm [_, _, _, _, _] rfl ?_
                            refine LJ.nil ?_
                            refine CJ.region ?_
                            refine LJ.yd rfl (Yd.mvI rfl) ?_
                            refine LJ.yd rfl (Yd.add rfl rfl (by unfold I64; omega)) ?_
                            refine LJ.yd rfl (Yd.asI rfl) ?_
                            refine LJ.nil ?_
                            refine ⟨(h + 1, _), ?_, ⟨rfl, rfl, rfl, rfl, rfl, rfl, rfl, rfl, rfl, rfl, rfl, rfl, rfl, rfl, rfl, rfl, rfl, rfl, rfl, rfl, rfl, rfl, rfl, rfl, rfl, trivial⟩, ⟨rfl, trivial⟩, Ent.refl _, ?_⟩
                            · refine ⟨by omega, ?_⟩
                              rw [show ((w : Int) * ((H : Int) + 1) + (h : Int)).toNat = w * (H + 1) + h by omega]
                              refine ⟨by omega, by rw [List.length_set]; exact hR2l, hR2.set (by omega) (by omega) ?_⟩
                              first
                                | exact canB_mono h65 (by omega) (Nat.le_refl _)
                                | exact canB_mono h80 (Nat.le_refl _) (by omega)
                                | exact only_can h88
                                | exact two_can (by omega) h96
                                | exact cut_no (by omega) (by omega) (by omega) (by omega) hpp (fun q => by first | exact h65 | omega) (fun q => by first | exact h80 | omega) h88 h96
                                | (obtain rfl : s = 0 := by omega
                                   exact canB_zero)
                            · first | omega | (dsimp only; omega) | (simp only []; omega)
                    · refine LJ.gT rfl ?_
                      refine LJ.yd rfl (Yd.mvB rfl) ?_
                      refine LJ.gF rfl rfl ?_
                      refine LJ.gF rfl rfl ?_
                      refine LJ.gF rfl rfl ?_
                      refine LJ.gF rfl rfl ?_
                      refine LJ.gF rfl rfl ?_
                      refine LJ.gF rfl rfl ?_
                      refine LJ.gF rfl rfl ?_
                      refine LJ.gF rfl rfl ?_
                      refine LJ.gF rfl rfl ?_
                      refine LJ.gT rfl ?_
                      refine LJ.yd rfl (Yd.pickFB rfl rfl) ?_
                      refine LJ.yd rfl (Yd.pickFB rfl rfl) ?_
                      refine LJ.yd rfl (Yd.mvB rfl) ?_
                      refine LJ.gT rfl ?_
                      refine LJ.yd rfl (Yd.loadG (us := [_, _, _]) 0 rfl rfl rfl rfl) ?_
                      refine LJ.gT rfl ?_
                      refine LJ.yd rfl (Yd.mvI rfl) ?_
                      refine LJ.gT rfl ?_
                      refine LJ.yd rfl (Yd.mvI rfl) ?_
                      refine LJ.gT rfl ?_
                      refine LJ.yd rfl (Yd.mvI rfl) ?_
                      refine LJ.gT rfl ?_
                      refine LJ.callB rfl (fun k hk dk => onlyPane_ok hl.up hk2) (fun h88 => ?_) (fun h88 => ?_)
                      · refine LJ.yd rfl (Yd.pickFB rfl rfl) ?_
                        refine LJ.yd rfl (Yd.mvB rfl) ?_
                        refine LJ.gF rfl rfl ?_
                        refine LJ.gF rfl rfl ?_
                        refine LJ.gF rfl rfl ?_
                        refine LJ.gF rfl rfl ?_
                        refine LJ.gF rfl rfl ?_
                        refine LJ.gF rfl rfl ?_
                        refine LJ.yd rfl (Yd.pickTB rfl rfl) ?_
                        refine LJ.idxR 4 rfl rfl rfl rfl (by omega) (by first | rfl | omega | (simp; done) | (simp; omega) | (simp [upN_len]; omega) | (simp [idxBy_len]; omega) | (simp [marks_len]; omega) | (simp [upN_len]; done) | (simp [idxBy_len]; done) | (simp [marks_len]; done) | (simp at *; omega)) (by first | rfl | omega | (simp; done) | (simp; omega) | (simp [upN_len]; omega) | (simp [idxBy_len]; omega) | (simp [marks_len]; omega) | (simp [upN_len]; done) | (simp [idxBy_len]; done) | (simp [marks_len]; done) | (simp at *; omega)) (fun ib98 ia98 => ?_)
                        refine LJ.op rfl (OpR.st1 (enc := encB) (e1 := fun u => .bool u) 4 (fun _ => rfl) (fun _ => rfl) (fun _ => rfl) rfl ia98 rfl rfl rfl (by first | rfl | omega | (simp; done) | (simp; omega) | (simp [upN_len]; omega) | (simp [idxBy_len]; omega) | (simp [marks_len]; omega) | (simp [upN_len]; done) | (simp [idxBy_len]; done) | (simp [marks_len]; done) | (simp at *; omega))) ?_
                        rintro _ _ ⟨rfl, rfl⟩
                        refine LJ.norm [_, _, _, _, _] rfl ?_
                        refine LJ.nil ?_
                        refine CJ.region ?_
                        refine LJ.yd rfl (Yd.mvI rfl) ?_
                        refine LJ.yd rfl (Yd.add rfl rfl (by unfold I64; omega)) ?_
                        refine LJ.yd rfl (Yd.asI rfl) ?_
                        refine LJ.nil ?_
                        refine ⟨(h + 1, _), ?_, ⟨rfl, rfl, rfl, rfl, rfl, rfl, rfl, rfl, rfl, rfl, rfl, rfl, rfl, rfl, rfl, rfl, rfl, rfl, rfl, rfl, rfl, rfl, rfl, rfl, rfl, trivial⟩, ⟨rfl, trivial⟩, Ent.refl _, ?_⟩
                        · refine ⟨by omega, ?_⟩
                          rw [show ((w : Int) * ((H : Int) + 1) + (h : Int)).toNat = w * (H + 1) + h by omega]
                          refine ⟨by omega, by rw [List.length_set]; exact hR2l, hR2.set (by omega) (by omega) ?_⟩
                          first
                            | exact canB_mono h65 (by omega) (Nat.le_refl _)
                            | exact canB_mono h80 (Nat.le_refl _) (by omega)
                            | exact only_can h88
                            | exact two_can (by omega) h96
                            | exact cut_no (by omega) (by omega) (by omega) (by omega) hpp (fun q => by first | exact h65 | omega) (fun q => by first | exact h80 | omega) h88 h96
                            | (obtain rfl : s = 0 := by omega
                               exact canB_zero)
                        · first | omega | (dsimp only; omega) | (simp only []; omega)
                      · refine LJ.yd rfl (Yd.pickFB rfl rfl) ?_
                        refine LJ.yd rfl (Yd.mvB rfl) ?_
                        refine LJ.gT rfl ?_
                        refine LJ.yd rfl (Yd.loadG (us := [_, _, _]) 0 rfl rfl rfl rfl) ?_
                        refine LJ.gT rfl ?_
                        refine LJ.yd rfl (Yd.mvS rfl) ?_
                        refine LJ.gT rfl ?_
                        refine LJ.yd rfl (Yd.mvI rfl) ?_
                        refine LJ.gT rfl ?_
                        refine LJ.yd rfl (Yd.mvI rfl) ?_
                        refine LJ.gT rfl ?_
                        refine LJ.yd rfl (Yd.mvI rfl) ?_
                        refine LJ.gT rfl ?_
                        refine LJ.callB rfl (fun k hk dk => twoSets_ok (W := W) (twoX hk dk 1 2 4 rfl rfl rfl (by omega) (by omega) (fun u hu => by obtain ⟨m, hm⟩ := List.getElem?_of_mem hu; have := (hX m u hm).1; omega) (by omega)).1 (twoX hk dk 1 2 4 rfl rfl rfl (by omega) (by omega) (fun u hu => by obtain ⟨m, hm⟩ := List.getElem?_of_mem hu; have := (hX m u hm).1; omega) (by omega)).2 hN hXR (by simp; omega) (by omega) (by omega) (by omega) (by omega) (by omega)) (fun h96 => ?_) (fun h96 => ?_)
                        · refine LJ.yd rfl (Yd.pickFB rfl rfl) ?_
                          refine LJ.idxR 4 rfl rfl rfl rfl (by omega) (by first | rfl | omega | (simp; done) | (simp; omega) | (simp [upN_len]; omega) | (simp [idxBy_len]; omega) | (simp [marks_len]; omega) | (simp [upN_len]; done) | (simp [idxBy_len]; done) | (simp [marks_len]; done) | (simp at *; omega)) (by first | rfl | omega | (simp; done) | (simp; omega) | (simp [upN_len]; omega) | (simp [idxBy_len]; omega) | (simp [marks_len]; omega) | (simp [upN_len]; done) | (simp [idxBy_len]; done) | (simp [marks_len]; done) | (simp at *; omega)) (fun ib98 ia98 => ?_)
                          refine LJ.op rfl (OpR.st1 (enc := encB) (e1 := fun u => .bool u) 4 (fun _ => rfl) (fun _ => rfl) (fun _ => rfl) rfl ia98 rfl rfl rfl (by first | rfl | omega | (simp; done) | (simp; omega) | (simp [upN_len]; omega) | (simp [idxBy_len]; omega) | (simp [marks_len]; omega) | (simp [upN_len]; done) | (simp [idxBy_len]; done) | (simp [marks_len]; done) | (simp at *; omega))) ?_
                          rintro _ _ ⟨rfl, rfl⟩
                          refine LJ.norm [_, _, _, _, _] rfl ?_
                          refine LJ.nil ?_
                          refine CJ.region ?_
                          refine LJ.yd rfl (Yd.mvI rfl) ?_
                          refine LJ.yd rfl (Yd.add rfl rfl (by unfold I64; omega)) ?_
                          refine LJ.yd rfl (Yd.asI rfl) ?_
                          refine LJ.nil ?_
                          refine ⟨(h + 1, _), ?_, ⟨rfl, rfl, rfl, rfl, rfl, rfl, rfl, rfl, rfl, rfl, rfl, rfl, rfl, rfl, rfl, rfl, rfl, rfl, rfl, rfl, rfl, rfl, rfl, rfl, rfl, trivial⟩, ⟨rfl, trivial⟩, Ent.refl _, ?_⟩
                          · refine ⟨by omega, ?_⟩
                            rw [show ((w : Int) * ((H : Int) + 1) + (h : Int)).toNat = w * (H + 1) + h by omega]
                            refine ⟨by omega, by rw [List.length_set]; exact hR2l, hR2.set (by omega) (by omega) ?_⟩
                            first
                              | exact canB_mono h65 (by omega) (Nat.le_refl _)
                              | exact canB_mono h80 (Nat.le_refl _) (by omega)
                              | exact only_can h88
                              | exact two_can (by omega) h96
                              | exact cut_no (by omega) (by omega) (by omega) (by omega) hpp (fun q => by first | exact h65 | omega) (fun q => by first | exact h80 | omega) h88 h96
                              | (obtain rfl : s = 0 := by omega
                                 exact canB_zero)
                          · first | omega | (dsimp only; omega) | (simp only []; omega)
                        · refine LJ.yd rfl (Yd.pickFB rfl rfl) ?_
                          refine LJ.idxR 4 rfl rfl rfl rfl (by omega) (by first | rfl | omega | (simp; done) | (simp; omega) | (simp [upN_len]; omega) | (simp [idxBy_len]; omega) | (simp [marks_len]; omega) | (simp [upN_len]; done) | (simp [idxBy_len]; done) | (simp [marks_len]; done) | (simp at *; omega)) (by first | rfl | omega | (simp; done) | (simp; omega) | (simp [upN_len]; omega) | (simp [idxBy_len]; omega) | (simp [marks_len]; omega) | (simp [upN_len]; done) | (simp [idxBy_len]; done) | (simp [marks_len]; done) | (simp at *; omega)) (fun ib98 ia98 => ?_)
                          refine LJ.op rfl (OpR.st1 (enc := encB) (e1 := fun u => .bool u) 4 (fun _ => rfl) (fun _ => rfl) (fun _ => rfl) rfl ia98 rfl rfl rfl (by first | rfl | omega | (simp; done) | (simp; omega) | (simp [upN_len]; omega) | (simp [idxBy_len]; omega) | (simp [marks_len]; omega) | (simp [upN_len]; done) | (simp [idxBy_len]; done) | (simp [marks_len]; done) | (simp at *; omega))) ?_
                          rintro _ _ ⟨rfl, rfl⟩
                          refine LJ.norm [_, _, _, _, _] rfl ?_
                          refine LJ.nil ?_
                          refine CJ.region ?_
                          refine LJ.yd rfl (Yd.mvI rfl) ?_
                          refine LJ.yd rfl (Yd.add rfl rfl (by unfold I64; omega)) ?_
                          refine LJ.yd rfl (Yd.asI rfl) ?_
                          refine LJ.nil ?_
                          refine ⟨(h + 1, _), ?_, ⟨rfl, rfl, rfl, rfl, rfl, rfl, rfl, rfl, rfl, rfl, rfl, rfl, rfl, rfl, rfl, rfl, rfl, rfl, rfl, rfl, rfl, rfl, rfl, rfl, rfl, trivial⟩, ⟨rfl, trivial⟩, Ent.refl _, ?_⟩
                          · refine ⟨by omega, ?_⟩
                            rw [show ((w : Int) * ((H : Int) + 1) + (h : Int)).toNat = w * (H + 1) + h by omega]
                            refine ⟨by omega, by rw [List.length_set]; exact hR2l, hR2.set (by omega) (by omega) ?_⟩
                            first
                              | exact canB_mono h65 (by omega) (Nat.le_refl _)
                              | exact canB_mono h80 (Nat.le_refl _) (by omega)
                              | exact only_can h88
                              | exact two_can (by omega) h96
                              | exact cut_no (by omega) (by omega) (by omega) (by omega) hpp (fun q => by first | exact h65 | omega) (fun q => by first | exact h80 | omega) h88 h96
                              | (obtain rfl : s = 0 := by omega
                                 exact canB_zero)
                          · first | omega | (dsimp only; omega) | (simp only []; omega)
                · refine LJ.gT rfl ?_
                  refine LJ.yd rfl (Yd.mvB rfl) ?_
                  refine LJ.gF rfl rfl ?_
                  refine LJ.gF rfl rfl ?_
                  refine LJ.gF rfl rfl ?_
                  refine LJ.gF rfl rfl ?_
                  refine LJ.gF rfl rfl ?_
                  refine LJ.gF rfl rfl ?_
                  refine LJ.gF rfl rfl ?_
                  refine LJ.gF rfl rfl ?_
                  refine LJ.gF rfl rfl ?_
                  refine LJ.gT rfl ?_
                  refine LJ.yd rfl (Yd.pickFB rfl rfl) ?_
                  refine LJ.yd rfl (Yd.pickFB rfl rfl) ?_
                  refine LJ.yd rfl (Yd.mvB rfl) ?_
                  refine LJ.gT rfl ?_
                  refine LJ.yd rfl (Yd.mvI rfl) ?_
                  refine LJ.gT rfl ?_
                  refine LJ.splitD rfl (Yd.gtr rfl rfl) (fun h70 => ?_) (fun h70 => ?_)
                  · refine LJ.gT rfl ?_
                    refine LJ.yd rfl (Yd.mvB rfl) ?_
                    refine LJ.gT rfl ?_
                    refine LJ.yd rfl (Yd.mvS rfl) ?_
                    refine LJ.gT rfl ?_
                    refine LJ.yd rfl (Yd.mvI rfl) ?_
                    refine LJ.gT rfl ?_
                    refine LJ.yd rfl (Yd.mvI rfl) ?_
                    refine LJ.gT rfl ?_
                    refine LJ.yd rfl (Yd.mul rfl rfl (by unfold I64; omega)) ?_
                    refine LJ.gT rfl ?_
                    refine LJ.yd rfl (Yd.mvI rfl) ?_
                    refine LJ.gT rfl ?_
                    refine LJ.yd rfl (Yd.add rfl rfl (by unfold I64; omega)) ?_
                    refine LJ.gT rfl ?_
                    refine LJ.yd rfl (Yd.sub rfl rfl (by unfold I64; omega)) ?_
                    refine LJ.gT rfl ?_
                    refine LJ.idxR 4 rfl rfl rfl rfl (by omega) (by first | rfl | omega | (simp; done) | (simp; omega) | (simp [upN_len]; omega) | (simp [idxBy_len]; omega) | (simp [marks_len]; omega) | (simp [upN_len]; done) | (simp [idxBy_len]; done) | (simp [marks_len]; done) | (simp at *; omega)) (by first | rfl | omega | (simp; done) | (simp; omega) | (simp [upN_len]; omega) | (simp [idxBy_len]; omega) | (simp [marks_len]; omega) | (simp [upN_len]; done) | (simp [idxBy_len]; done) | (simp [marks_len]; done) | (simp at *; omega)) (fun ib79 ia79 => ?_)
                    refine LJ.gT rfl ?_
                    refine LJ.ldRB 4 0 (fun u => u) (fun _ => rfl) rfl ia79 rfl rfl rfl (by first | rfl | omega | (simp; done) | (simp; omega) | (simp [upN_len]; omega) | (simp [idxBy_len]; omega) | (simp [marks_len]; omega) | (simp [upN_len]; done) | (simp [idxBy_len]; done) | (simp [marks_len]; done) | (simp at *; omega)) (fun u80 hu80 h80 => ?_) (fun u80 hu80 h80 => ?_)
                    · try simp only [Int.toNat_natCast] at hu80
                      rw [show ((w : Int) * ((H : Int) + 1) + (h : Int) - 1).toNat = q + (h - 1) by omega, hq, hR2 w (h - 1) (by omega) (by omega) (by omega) (by omega) (by omega)] at hu80
                      rw [← Option.some.inj hu80] at h80
                      refine LJ.gT rfl ?_
                      refine LJ.yd rfl (Yd.pickTB rfl rfl) ?_
                      refine LJ.yd rfl (Yd.pickFB rfl rfl) ?_
                      refine LJ.yd rfl (Yd.mvB rfl) ?_
                      refine LJ.gF rfl rfl ?_
                      refine LJ.gF rfl rfl ?_
                      refine LJ.gF rfl rfl ?_
                      refine LJ.gF rfl rfl ?_
                      refine LJ.gF rfl rfl ?_
                      refine LJ.yd rfl (Yd.pickTB rfl rfl) ?_
                      refine LJ.yd rfl (Yd.mvB rfl) ?_
                      refine LJ.gF rfl rfl ?_
                      refine LJ.gF rfl rfl ?_
                      refine LJ.gF rfl rfl ?_
                      refine LJ.gF rfl rfl ?_
                      refine LJ.gF rfl rfl ?_
                      refine LJ.gF rfl rfl ?_
                      refine LJ.yd rfl (Yd.pickTB rfl rfl) ?_
                      refine LJ.idxR 4 rfl rfl rfl rfl (by omega) (by first | rfl | omega | (simp; done) | (simp; omega) | (simp [upN_len]; omega) | (simp [idxBy_len]; omega) | (simp [marks_len]; omega) | (simp [upN_len]; done) | (simp [idxBy_len]; done) | (simp [marks_len]; done) | (simp at *; omega)) (by first | rfl | omega | (simp; done) | (simp; omega) | (simp [upN_len]; omega) | (simp [idxBy_len]; omega) | (simp [marks_len]; omega) | (simp [upN_len]; done) | (simp [idxBy_len]; done) | (simp [marks_len]; done) | (simp at *; omega)) (fun ib98 ia98 => ?_)
                      refine LJ.op rfl (OpR.st1 (enc := encB) (e1 := fun u => .bool u) 4 (fun _ => rfl) (fun _ => rfl) (fun _ => rfl) rfl ia98 rfl rfl rfl (by first | rfl | omega | (simp; done) | (simp; omega) | (simp [upN_len]; omega) | (simp [idxBy_len]; omega) | (simp [marks_len]; omega) | (simp [upN_len]; done) | (simp [idxBy_len]; done) | (simp [marks_len]; done) | (simp at *; omega))) ?_
                      rintro _ _ ⟨rfl, rfl⟩
                      refine LJ.norm [_, _, _, _, _] rfl ?_
                      refine LJ.nil ?_
                      refine CJ.region ?_
                      refine LJ.yd rfl (Yd.mvI rfl) ?_
                      refine LJ.yd rfl (Yd.add rfl rfl (by unfold I64; omega)) ?_
                      refine LJ.yd rfl (Yd.asI rfl) ?_
                      refine LJ.nil ?_
                      refine ⟨(h + 1, _), ?_, ⟨rfl, rfl, rfl, rfl, rfl, rfl, rfl, rfl, rfl, rfl, rfl, rfl, rfl, rfl, rfl, rfl, rfl, rfl, rfl, rfl, rfl, rfl, rfl, rfl, rfl, trivial⟩, ⟨rfl, trivial⟩, Ent.refl _, ?_⟩
                      · refine ⟨by omega, ?_⟩
                        rw [show ((w : Int) * ((H : Int) + 1) + (h : Int)).toNat = w * (H + 1) + h by omega]
                        refine ⟨by omega, by rw [List.length_set]; exact hR2l, hR2.set (by omega) (by omega) ?_⟩
                        first
                          | exact canB_mono h65 (by omega) (Nat.le_refl _)
                          | exact canB_mono h80 (Nat.le_refl _) (by omega)
                          | exact only_can h88
                          | exact two_can (by omega) h96
                          | exact cut_no (by omega) (by omega) (by omega) (by omega) hpp (fun q => by first | exact h65 | omega) (fun q => by first | exact h80 | omega) h88 h96
                          | (obtain rfl : s = 0 := by omega
                             exact canB_zero)
                      · first | omega | (dsimp only; omega) | (simp only []; omega)
                    · try simp only [Int.toNat_natCast] at hu80
                      rw [show ((w : Int) * ((H : Int) + 1) + (h : Int) - 1).toNat = q + (h - 1) by omega, hq, hR2 w (h - 1) (by omega) (by omega) (by omega) (by omega) (by omega)] at hu80
                      rw [← Option.some.inj hu80] at h80
                      refine LJ.gT rfl ?_
                      refine LJ.yd rfl (Yd.pickTB rfl rfl) ?_
                      refine LJ.yd rfl (Yd.pickFB rfl rfl) ?_
                      refine LJ.yd rfl (Yd.mvB rfl) ?_
                      refine LJ.gT rfl ?_
                      refine LJ.yd rfl (Yd.loadG (us := [_, _, _]) 0 rfl rfl rfl rfl) ?_
                      refine LJ.gT rfl ?_
                      refine LJ.yd rfl (Yd.mvI rfl) ?_
                      refine LJ.gT rfl ?_
                      refine LJ.yd rfl (Yd.mvI rfl) ?_
                      refine LJ.gT rfl ?_
                      refine LJ.yd rfl (Yd.mvI rfl) ?_
                      refine LJ.gT rfl ?_
                      refine LJ.callB rfl (fun k hk dk => onlyPane_ok hl.up hk2) (fun h88 => ?_) (fun h88 => ?_)
                      · refine LJ.yd rfl (Yd.pickFB rfl rfl) ?_
                        refine LJ.yd rfl (Yd.mvB rfl) ?_
                        refine LJ.gF rfl rfl ?_
                        refine LJ.gF rfl rfl ?_
                        refine LJ.gF rfl rfl ?_
                        refine LJ.gF rfl rfl ?_
                        refine LJ.gF rfl rfl ?_
                        refine LJ.gF rfl rfl ?_
                        refine LJ.yd rfl (Yd.pickTB rfl rfl) ?_
                        refine LJ.idxR 4 rfl rfl rfl rfl (by omega) (by first | rfl | omega | (simp; done) | (simp; omega) | (simp [upN_len]; omega) | (simp [idxBy_len]; omega) | (simp [marks_len]; omega) | (simp [upN_len]; done) | (simp [idxBy_len]; done) | (simp [marks_len]; done) | (simp at *; omega)) (by first | rfl | omega | (simp; done) | (simp; omega) | (simp [upN_len]; omega) | (simp [idxBy_len]; omega) | (simp [marks_len]; omega) | (simp [upN_len]; done) | (simp [idxBy_len]; done) | (simp [marks_len]; done) | (simp at *; omega)) (fun ib98 ia98 => ?_)
                        refine LJ.op rfl (OpR.st1 (enc := encB) (e1 := fun u => .bool u) 4 (fun _ => rfl) (fun _ => rfl) (fun _ => rfl) rfl ia98 rfl rfl rfl (by first | rfl | omega | (simp; done) | (simp; omega) | (simp [upN_len]; omega) | (simp [idxBy_len]; omega) | (simp [marks_len]; omega) | (simp [upN_len]; done) | (simp [idxBy_len]; done) | (simp [marks_len]; done) | (simp at *; omega))) ?_
                        rintro _ _ ⟨rfl, rfl⟩
                        refine LJ.norm [_, _, _, _, _] rfl ?_
                        refine LJ.nil ?_
                        refine CJ.region ?_
                        refine LJ.yd rfl (Yd.mvI rfl) ?_
                        refine LJ.yd rfl (Yd.add rfl rfl (by unfold I64; omega)) ?_
                        refine LJ.yd rfl (Yd.asI rfl) ?_
                        refine LJ.nil ?_
                        refine ⟨(h + 1, _), ?_, ⟨rfl, rfl, rfl, rfl, rfl, rfl, rfl, rfl, rfl, rfl, rfl, rfl, rfl, rfl, rfl, rfl, rfl, rfl, rfl, rfl, rfl, rfl, rfl, rfl, rfl, trivial⟩, ⟨rfl, trivial⟩, Ent.refl _, ?_⟩
                        · refine ⟨by omega, ?_⟩
                          rw [show ((w : Int) * ((H : Int) + 1) + (h : Int)).toNat = w * (H + 1) + h by omega]
                          refine ⟨by omega, by rw [List.length_set]; exact hR2l, hR2.set (by omega) (by omega) ?_⟩
                          first
                            | exact canB_mono h65 (by omega) (Nat.le_refl _)
                            | exact canB_mono h80 (Nat.le_refl _) (by omega)
                            | exact only_can h88
                            | exact two_can (by omega) h96
                            | exact cut_no (by omega) (by omega) (by omega) (by omega) hpp (fun q => by first | exact h65 | omega) (fun q => by first | exact h80 | omega) h88 h96
                            | (obtain rfl : s = 0 := by omega
                               exact canB_zero)
                        · first | omega | (dsimp only; omega) | (simp only []; omega)
                      · refine LJ.yd rfl (Yd.pickFB rfl rfl) ?_
                        refine LJ.yd rfl (Yd.mvB rfl) ?_
                        refine LJ.gT rfl ?_
                        refine LJ.yd rfl (Yd.loadG (us := [_, _, _]) 0 rfl rfl rfl rfl) ?_
                        refine LJ.gT rfl ?_
                        refine LJ.yd rfl (Yd.mvS rfl) ?_
                        refine LJ.gT rfl ?_
                        refine LJ.yd rfl (Yd.mvI rfl) ?_
                        refine LJ.gT rfl ?_
                        refine LJ.yd rfl (Yd.mvI rfl) ?_
                        refine LJ.gT rfl ?_
                        refine LJ.yd rfl (Yd.mvI rfl) ?_
                        refine LJ.gT rfl ?_
                        refine LJ.callB rfl (fun k hk dk => twoSets_ok (W := W) (twoX hk dk 1 2 4 rfl rfl rfl (by omega) (by omega) (fun u hu => by obtain ⟨m, hm⟩ := List.getElem?_of_mem hu; have := (hX m u hm).1; omega) (by omega)).1 (twoX hk dk 1 2 4 rfl rfl rfl (by omega) (by omega) (fun u hu => by obtain ⟨m, hm⟩ := List.getElem?_of_mem hu; have := (hX m u hm).1; omega) (by omega)).2 hN hXR (by simp; omega) (by omega) (by omega) (by omega) (by omega) (by omega)) (fun h96 => ?_) (fun h96 => ?_)
                        · refine LJ.yd rfl (Yd.pickFB rfl rfl) ?_
                          refine LJ.idxR 4 rfl rfl rfl rfl (by omega) (by first | rfl | omega | (simp; done) | (simp; omega) | (simp [upN_len]; omega) | (simp [idxBy_len]; omega) | (simp [marks_len]; omega) | (simp [upN_len]; done) | (simp [idxBy_len]; done) | (simp [marks_len]; done) | (simp at *; omega)) (by first | rfl | omega | (simp; done) | (simp; omega) | (simp [upN_len]; omega) | (simp [idxBy_len]; omega) | (simp [marks_len]; omega) | (simp [upN_len]; done) | (simp [idxBy_len]; done) | (simp [marks_len]; done) | (simp at *; omega)) (fun ib98 ia98 => ?_)
                          refine LJ.op rfl (OpR.st1 (enc := encB) (e1 := fun u => .bool u) 4 (fun _ => rfl) (fun _ => rfl) (fun _ => rfl) rfl ia98 rfl rfl rfl (by first | rfl | omega | (simp; done) | (simp; omega) | (simp [upN_len]; omega) | (simp [idxBy_len]; omega) | (simp [marks_len]; omega) | (simp [upN_len]; done) | (simp [idxBy_len]; done) | (simp [marks_len]; done) | (simp at *; omega))) ?_
                          rintro _ _ ⟨rfl, rfl⟩
                          refine LJ.norm [_, _, _, _, _] rfl ?_
                          refine LJ.nil ?_
                          refine CJ.region ?_
                          refine LJ.yd rfl (Yd.mvI rfl) ?_
                          refine LJ.yd rfl (Yd.add rfl rfl (by unfold I64; omega)) ?_
                          refine LJ.yd rfl (Yd.asI rfl) ?_
                          refine LJ.nil ?_
                          refine ⟨(h + 1, _), ?_, ⟨rfl, rfl, rfl, rfl, rfl, rfl, rfl, rfl, rfl, rfl, rfl, rfl, rfl, rfl, rfl, rfl, rfl, rfl, rfl, rfl, rfl, rfl, rfl, rfl, rfl, trivial⟩, ⟨rfl, trivial⟩, Ent.refl _, ?_⟩
                          · refine ⟨by omega, ?_⟩
                            rw [show ((w : Int) * ((H : Int) + 1) + (h : Int)).toNat = w * (H + 1) + h by omega]
                            refine ⟨by omega, by rw [List.length_set]; exact hR2l, hR2.set (by omega) (by omega) ?_⟩
                            first
                              | exact canB_mono h65 (by omega) (Nat.le_refl _)
                              | exact canB_mono h80 (Nat.le_refl _) (by omega)
                              | exact only_can h88
                              | exact two_can (by omega) h96
                              | exact cut_no (by omega) (by omega) (by omega) (by omega) hpp (fun q => by first | exact h65 | omega) (fun q => by first | exact h80 | omega) h88 h96
                              | (obtain rfl : s = 0 := by omega
                                 exact canB_zero)
                          · first | omega | (dsimp only; omega) | (simp only []; omega)
                        · refine LJ.yd rfl (Yd.pickFB rfl rfl) ?_
                          refine LJ.idxR 4 rfl rfl rfl rfl (by omega) (by first | rfl | omega | (simp; done) | (simp; omega) | (simp [upN_len]; omega) | (simp [idxBy_len]; omega) | (simp [marks_len]; omega) | (simp [upN_len]; done) | (simp [idxBy_len]; done) | (simp [marks_len]; done) | (simp at *; omega)) (by first | rfl | omega | (simp; done) | (simp; omega) | (simp [upN_len]; omega) | (simp [idxBy_len]; omega) | (simp [marks_len]; omega) | (simp [upN_len]; done) | (simp [idxBy_len]; done) | (simp [marks_len]; done) | (simp at *; omega)) (fun ib98 ia98 => ?_)
                          refine LJ.op rfl (OpR.st1 (enc := encB) (e1 := fun u => .bool u) 4 (fun _ => rfl) (fun _ => rfl) (fun _ => rfl) rfl ia98 rfl rfl rfl (by first | rfl | omega | (simp; done) | (simp; omega) | (simp [upN_len]; omega) | (simp [idxBy_len]; omega) | (simp [marks_len]; omega) | (simp [upN_len]; done) | (simp [idxBy_len]; done) | (simp [marks_len]; done) | (simp at *; omega))) ?_
                          rintro _ _ ⟨rfl, rfl⟩
                          refine LJ.norm [_, _, _, _, _] rfl ?_
                          refine LJ.nil ?_
                          refine CJ.region ?_
                          refine LJ.yd rfl (Yd.mvI rfl) ?_
                          refine LJ.yd rfl (Yd.add rfl rfl (by unfold I64; omega)) ?_
                          refine LJ.yd rfl (Yd.asI rfl) ?_
                          refine LJ.nil ?_
                          refine ⟨(h + 1, _), ?_, ⟨rfl, rfl, rfl, rfl, rfl, rfl, rfl, rfl, rfl, rfl, rfl, rfl, rfl, rfl, rfl, rfl, rfl, rfl, rfl, rfl, rfl, rfl, rfl, rfl, rfl, trivial⟩, ⟨rfl, trivial⟩, Ent.refl _, ?_⟩
                          · refine ⟨by omega, ?_⟩
                            rw [show ((w : Int) * ((H : Int) + 1) + (h : Int)).toNat = w * (H + 1) + h by omega]
                            refine ⟨by omega, by rw [List.length_set]; exact hR2l, hR2.set (by omega) (by omega) ?_⟩
                            first
                              | exact canB_mono h65 (by omega) (Nat.le_refl _)
                              | exact canB_mono h80 (Nat.le_refl _) (by omega)
                              | exact only_can h88
                              | exact two_can (by omega) h96
                              | exact cut_no (by omega) (by omega) (by omega) (by omega) hpp (fun q => by first | exact h65 | omega) (fun q => by first | exact h80 | omega) h88 h96
                              | (obtain rfl : s = 0 := by omega
                                 exact canB_zero)
                          · first | omega | (dsimp only; omega) | (simp only []; omega)
                  · refine LJ.gT rfl ?_
                    refine LJ.yd rfl (Yd.mvB rfl) ?_
                    refine LJ.gF rfl rfl ?_
                    refine LJ.gF rfl rfl ?_
                    refine LJ.gF rfl rfl ?_
                    refine LJ.gF rfl rfl ?_
                    refine LJ.gF rfl rfl ?_
                    refine LJ.gF rfl rfl ?_
                    refine LJ.gF rfl rfl ?_
                    refine LJ.gF rfl rfl ?_
                    refine LJ.gF rfl rfl ?_
                    refine LJ.gT rfl ?_
                    refine LJ.yd rfl (Yd.pickFB rfl rfl) ?_
                    refine LJ.yd rfl (Yd.pickFB rfl rfl) ?_
                    refine LJ.yd rfl (Yd.mvB rfl) ?_
                    refine LJ.gT rfl ?_
                    refine LJ.yd rfl (Yd.loadG (us := [_, _, _]) 0 rfl rfl rfl rfl) ?_
                    refine LJ.gT rfl ?_
                    refine LJ.yd rfl (Yd.mvI rfl) ?_
                    refine LJ.gT rfl ?_
                    refine LJ.yd rfl (Yd.mvI rfl) ?_
                    refine LJ.gT rfl ?_
                    refine LJ.yd rfl (Yd.mvI rfl) ?_
                    refine LJ.gT rfl ?_
                    refine LJ.callB rfl (fun k hk dk => onlyPane_ok hl.up hk2) (fun h88 => ?_) (fun h88 => ?_)
                    · refine LJ.yd rfl (Yd.pickFB rfl rfl) ?_
                      refine LJ.yd rfl (Yd.mvB rfl) ?_
                      refine LJ.gF rfl rfl ?_
                      refine LJ.gF rfl rfl ?_
                      refine LJ.gF rfl rfl ?_
                      refine LJ.gF rfl rfl ?_
                      refine LJ.gF rfl rfl ?_
                      refine LJ.gF rfl rfl ?_
                      refine LJ.yd rfl (Yd.pickTB rfl rfl) ?_
                      refine LJ.idxR 4 rfl rfl rfl rfl (by omega) (by first | rfl | omega | (simp; done) | (simp; omega) | (simp [upN_len]; omega) | (simp [idxBy_len]; omega) | (simp [marks_len]; omega) | (simp [upN_len]; done) | (simp [idxBy_len]; done) | (simp [marks_len]; done) | (simp at *; omega)) (by first | rfl | omega | (simp; done) | (simp; omega) | (simp [upN_len]; omega) | (simp [idxBy_len]; omega) | (simp [marks_len]; omega) | (simp [upN_len]; done) | (simp [idxBy_len]; done) | (simp [marks_len]; done) | (simp at *; omega)) (fun ib98 ia98 => ?_)
                      refine LJ.op rfl (OpR.st1 (enc := encB) (e1 := fun u => .bool u) 4 (fun _ => rfl) (fun _ => rfl) (fun _ => rfl) rfl ia98 rfl rfl rfl (by first | rfl | omega | (simp; done) | (simp; omega) | (simp [upN_len]; omega) | (simp [idxBy_len]; omega) | (simp [marks_len]; omega) | (simp [upN_len]; done) | (simp [idxBy_len]; done) | (simp [marks_len]; done) | (simp at *; omega))) ?_
                      rintro _ _ ⟨rfl, rfl⟩
                      refine LJ.norm [_, _, _, _, _] rfl ?_
                      refine LJ.nil ?_
                      refine CJ.region ?_
                      refine LJ.yd rfl (Yd.mvI rfl) ?_
                      refine LJ.yd rfl (Yd.add rfl rfl (by unfold I64; omega)) ?_
                      refine LJ.yd rfl (Yd.asI rfl) ?_
                      refine LJ.nil ?_
                      refine ⟨(h + 1, _), ?_, ⟨rfl, rfl, rfl, rfl, rfl, rfl, rfl, rfl, rfl, rfl, rfl, rfl, rfl, rfl, rfl, rfl, rfl, rfl, rfl, rfl, rfl, rfl, rfl, rfl, rfl, trivial⟩, ⟨rfl, trivial⟩, Ent.refl _, ?_⟩
                      · refine ⟨by omega, ?_⟩
                        rw [show ((w : Int) * ((H : Int) + 1) + (h : Int)).toNat = w * (H + 1) + h by omega]
                        refine ⟨by omega, by rw [List.length_set]; exact hR2l, hR2.set (by omega) (by omega) ?_⟩
                        first
                          | exact canB_mono h65 (by omega) (Nat.le_refl _)
                          | exact canB_mono h80 (Nat.le_refl _) (by omega)
                          | exact only_can h88
                          | exact two_can (by omega) h96
                          | exact cut_no (by omega) (by omega) (by omega) (by omega) hpp (fun q => by first | exact h65 | omega) (fun q => by first | exact h80 | omega) h88 h96
                          | (obtain rfl : s = 0 := by omega
                             exact canB_zero)
                      · first | omega | (dsimp only; omega) | (simp only []; omega)
                    · refine LJ.yd rfl (Yd.pickFB rfl rfl) ?_
                      refine LJ.yd rfl (Yd.mvB rfl) ?_
                      refine LJ.gT rfl ?_
                      refine LJ.yd rfl (Yd.loadG (us := [_, _, _]) 0 rfl rfl rfl rfl) ?_
                      refine LJ.gT rfl ?_
                      refine LJ.yd rfl (Yd.mvS rfl) ?_
                      refine LJ.gT rfl ?_
                      refine LJ.yd rfl (Yd.mvI rfl) ?_
                      refine LJ.gT rfl ?_
                      refine LJ.yd rfl (Yd.mvI rfl) ?_
                      refine LJ.gT rfl ?_
                      refine LJ.yd rfl (Yd.mvI rfl) ?_
                      refine LJ.gT rfl ?_
                      refine LJ.callB rfl (fun k hk dk => twoSets_ok (W := W) (twoX hk dk 1 2 4 rfl rfl rfl (by omega) (by omega) (fun u hu => by obtain ⟨m, hm⟩ := List.getElem?_of_mem hu; have := (hX m u hm).1; omega) (by omega)).1 (twoX hk dk 1 2 4 rfl rfl rfl (by omega) (by omega) (fun u hu => by obtain ⟨m, hm⟩ := List.getElem?_of_mem hu; have := (hX m u hm).1; omega) (by omega)).2 hN hXR (by simp; omega) (by omega) (by omega) (by omega) (by omega) (by omega)) (fun h96 => ?_) (fun h96 => ?_)
                      · refine LJ.yd rfl (Yd.pickFB rfl rfl) ?_
                        refine LJ.idxR 4 rfl rfl rfl rfl (by omega) (by first | rfl | omega | (simp; done) | (simp; omega) | (simp [upN_len]; omega) | (simp [idxBy_len]; omega) | (simp [marks_len]; omega) | (simp [upN_len]; done) | (simp [idxBy_len]; done) | (simp [marks_len]; done) | (simp at *; omega)) (by first | rfl | omega | (simp; done) | (simp; omega) | (simp [upN_len]; omega) | (simp [idxBy_len]; omega) | (simp [marks_len]; omega) | (simp [upN_len]; done) | (simp [idxBy_len]; done) | (simp [marks_len]; done) | (simp at *; omega)) (fun ib98 ia98 => ?_)
                        refine LJ.op rfl (OpR.st1 (enc := encB) (e1 := fun u => .bool u) 4 (fun _ => rfl) (fun _ => rfl) (fun _ => rfl) rfl ia98 rfl rfl rfl (by first | rfl | omega | (simp; done) | (simp; omega) | (simp [upN_len]; omega) | (simp [idxBy_len]; omega) | (simp [marks_len]; omega) | (simp [upN_len]; done) | (simp [idxBy_len]; done) | (simp [marks_len]; done) | (simp at *; omega))) ?_
                        rintro _ _ ⟨rfl, rfl⟩
                        refine LJ.norm [_, _, _, _, _] rfl ?_
                        refine LJ.nil ?_
                        refine CJ.region ?_
                        refine LJ.yd rfl (Yd.mvI rfl) ?_
                        refine LJ.yd rfl (Yd.add rfl rfl (by unfold I64; omega)) ?_
                        refine LJ.yd rfl (Yd.asI rfl) ?_
                        refine LJ.nil ?_
                        refine ⟨(h + 1, _), ?_, ⟨rfl, rfl, rfl, rfl, rfl, rfl, rfl, rfl, rfl, rfl, rfl, rfl, rfl, rfl, rfl, rfl, rfl, rfl, rfl, rfl, rfl, rfl, rfl, rfl, rfl, trivial⟩, ⟨rfl, trivial⟩, Ent.refl _, ?_⟩
                        · refine ⟨by omega, ?_⟩
                          rw [show ((w : Int) * ((H : Int) + 1) + (h : Int)).toNat = w * (H + 1) + h by omega]
                          refine ⟨by omega, by rw [List.length_set]; exact hR2l, hR2.set (by omega) (by omega) ?_⟩
                          first
                            | exact canB_mono h65 (by omega) (Nat.le_refl _)
                            | exact canB_mono h80 (Nat.le_refl _) (by omega)
                            | exact only_can h88
                            | exact two_can (by omega) h96
                            | exact cut_no (by omega) (by omega) (by omega) (by omega) hpp (fun q => by first | exact h65 | omega) (fun q => by first | exact h80 | omega) h88 h96
                            | (obtain rfl : s = 0 := by omega
                               exact canB_zero)
                        · first | omega | (dsimp only; omega) | (simp only []; omega)
                      · refine LJ.yd rfl (Yd.pickFB rfl rfl) ?_
                        refine LJ.idxR 4 rfl rfl rfl rfl (by omega) (by first | rfl | omega | (simp; done) | (simp; omega) | (simp [upN_len]; omega) | (simp [idxBy_len]; omega) | (simp [marks_len]; omega) | (simp [upN_len]; done) | (simp [idxBy_len]; done) | (simp [marks_len]; done) | (simp at *; omega)) (by first | rfl | omega | (simp; done) | (simp; omega) | (simp [upN_len]; omega) | (simp [idxBy_len]; omega) | (simp [marks_len]; omega) | (simp [upN_len]; done) | (simp [idxBy_len]; done) | (simp [marks_len]; done) | (simp at *; omega)) (fun ib98 ia98 => ?_)
                        refine LJ.op rfl (OpR.st1 (enc := encB) (e1 := fun u => .bool u) 4 (fun _ => rfl) (fun _ => rfl) (fun _ => rfl) rfl ia98 rfl rfl rfl (by first | rfl | omega | (simp; done) | (simp; omega) | (simp [upN_len]; omega) | (simp [idxBy_len]; omega) | (simp [marks_len]; omega) | (simp [upN_len]; done) | (simp [idxBy_len]; done) | (simp [marks_len]; done) | (simp at *; omega))) ?_
                        rintro _ _ ⟨rfl, rfl⟩
                        refine LJ.norm [_, _, _, _, _] rfl ?_
                        refine LJ.nil ?_
                        refine CJ.region ?_
                        refine LJ.yd rfl (Yd.mvI rfl) ?_
                        refine LJ.yd rfl (Yd.add rfl rfl (by unfold I64; omega)) ?_
                        refine LJ.yd rfl (Yd.asI rfl) ?_
                        refine LJ.nil ?_
                        refine ⟨(h + 1, _), ?_, ⟨rfl, rfl, rfl, rfl, rfl, rfl, rfl, rfl, rfl, rfl, rfl, rfl, rfl, rfl, rfl, rfl, rfl, rfl, rfl, rfl, rfl, rfl, rfl, rfl, rfl, trivial⟩, ⟨rfl, trivial⟩, Ent.refl _, ?_⟩
                        · refine ⟨by omega, ?_⟩
                          rw [show ((w : Int) * ((H : Int) + 1) + (h : Int)).toNat = w * (H + 1) + h by omega]
                          refine ⟨by omega, by rw [List.length_set]; exact hR2l, hR2.set (by omega) (by omega) ?_⟩
                          first
                            | exact canB_mono h65 (by omega) (Nat.le_refl _)
                            | exact canB_mono h80 (Nat.le_refl _) (by omega)
                            | exact only_can h88
                            | exact two_can (by omega) h96
                            | exact cut_no (by omega) (by omega) (by omega) (by omega) hpp (fun q => by first | exact h65 | omega) (fun q => by first | exact h80 | omega) h88 h96
                            | (obtain rfl : s = 0 := by omega
                               exact canB_zero)
                        · first | omega | (dsimp only; omega) | (simp only []; omega)
            · refine LJ.nil ?_
              refine CJ.condF rfl ?_
              refine CJ.exit ?_
              refine CJ.region ?_
              refine LJ.yd rfl (Yd.mvI rfl) ?_
              refine LJ.yd rfl (Yd.add rfl rfl (by unfold I64; omega)) ?_
              refine LJ.yd rfl (Yd.asI rfl) ?_
              refine LJ.nil ?_
              refine ⟨(w + 1, R2), ?_, ⟨rfl, rfl, rfl, rfl, rfl, rfl, rfl, rfl, rfl, rfl, rfl, rfl, rfl, rfl, rfl, rfl, rfl, rfl, rfl, rfl, trivial⟩, ⟨rfl, trivial⟩, Ent.refl _, ?_⟩
              · refine ⟨by omega, ?_⟩
                obtain rfl : h = H + 1 := by omega
                exact ⟨by omega, hR2l, hR2.row⟩
              · first | omega | (dsimp only; omega) | (simp only []; omega)
        · refine LJ.nil ?_
          refine CJ.condF rfl ?_
          refine CJ.exit ?_
          refine CJ.ent (Ent.pickFold [0, 1, 3] [2, 4] [] rfl (fun _ s => INN.snoc (f := rowOf encB 4 1) (u := (⟨some ⟨g28, 0, none⟩, N, R⟩ : Rw Bool)) s)) ?_
          refine CJ.norm [_, _, _, _] rfl ?_
          refine CJ.imp1 (G := LR encR 91 1 ra32 rc32 (X ++ [(⟨some ⟨g28, 0, none⟩, N, R⟩ : Rw Bool)])) 1 rfl (fun _ r => LR.lastR (by omega) r) ?_
          refine CJ.norm [_, _, _, _] rfl ?_
          refine CJ.region ?_
          refine LJ.yd rfl (Yd.mvI rfl) ?_
          refine LJ.yd rfl (Yd.add rfl rfl (by unfold I64; omega)) ?_
          refine LJ.yd rfl (Yd.asI rfl) ?_
          refine LJ.nil ?_
          refine ⟨(s + 1, _, _, _, _), ?_, ⟨rfl, rfl, rfl, rfl, trivial⟩, ⟨rfl, rfl, trivial⟩, Ent.pick [0, 1, 3] [2] rfl, ?_⟩
          · refine ⟨(by first | rfl | omega | (simp; done) | (simp; omega) | (simp [upN_len]; omega) | (simp [idxBy_len]; omega) | (simp [marks_len]; omega) | (simp [upN_len]; done) | (simp [idxBy_len]; done) | (simp [marks_len]; done) | (simp at *; omega)), ?_⟩
            refine ⟨by omega, ?_⟩
            obtain rfl : w = W + 1 := by omega
            refine ⟨by simp [hXl], fun j u hu => ?_⟩
            rcases Nat.lt_or_ge j s with q | q
            · rw [List.getElem?_append_left (by omega)] at hu
              exact hX j u hu
            · rw [List.getElem?_append_right (by omega)] at hu
              obtain ⟨hlt, rfl⟩ := List.getElem?_eq_some_iff.1 hu
              simp at hlt
              obtain rfl : j = s := by omega
              simpa using ⟨hRl, hR⟩
          · first | omega | (dsimp only; omega) | (simp only []; omega)
    · refine LJ.nil ?_
      refine CJ.condF rfl ?_
      refine CJ.exit ?_
      refine CJ.seq ?_
      refine CJ.region ?_
      refine LJ.yd rfl (Yd.mvS rfl) ?_
      refine LJ.yd rfl (Yd.asS rfl) ?_
      refine LJ.nil ?_
      refine CJ.ret ?_
      obtain rfl : s = 2 ^ ps.length := by omega
      exact Fin.R [_, _] (Res.one (ResV.tmp (v := .slice _ _ _) rfl)) ⟨_, _, X, rfl, rfl, hXl, hX⟩ (Ent.pick [1, 2] [0] rfl)
end Go.Proofs.Ytkojheinklgdeaa
