/-
  The law on places that are taken away.
-/
import Derived.Test.YtlpjienaennmaaaVP2
import Derived.Test.YtlpjienaennmaaaPL4
namespace Go.Proofs.Ytlpjienaennmaaa
open Go
set_option maxRecDepth 20000
set_option maxHeartbeats 2000000

theorem Sts.planT {B : Amb} {fr : List HProp} {k : Hp} {cs : List Value} {b : BT} (hk : Sts fr k) (dk : B.h.Dj k) (i : Nat) (hi : fr[i]? = some (fun h => RdT h cs b)) : RdT (B.ext k).h cs b := by
  obtain ⟨m, hm, lm⟩ := hk.get hi
  exact hm.mono (lm.trans (Amb.ext_own dk))
def SomeR (rb : Nat) (a : Option Addr) (n c : Nat) (p : Int) (v : Value) (fs : List HProp) : Prop :=
  ∃ (W H : Int) (ka : Option Addr) (km kc : Nat) (ps : List Pane) (L : List Plc) (la : Option Addr) (lc : Nat) (q : Int), v = .tuple #[.agg #[vI W, vI H, .slice ka km kc], .slice la L.length lc] ∧
    fs = [Rd rb a n c q, fun h => RdPanes h (.slice ka km kc) ps, LR encPl 88 6 la lc L] ∧ p ≤ q ∧ q ≤ p + 500 ∧ (1 ≤ W ∧ W ≤ 30 ∧ 1 ≤ H ∧ H ≤ 30) ∧ L.length ≤ 9 ∧ ∀ u ∈ L, GOk u.b
theorem somePlaces_ok {A : Amb} {rb n c : Nat} {a : Option Addr} {p : Int} (hcode : RdCode A.h a n) (hp0 : 0 ≤ p) (hp1 : p ≤ 1000) :
    Ctr Try.prog 62 #[.pointer (some ⟨rb, 0, none⟩)] A [Rd rb a n c p] (SomeR rb a n c p) := by
  refine Ctr.body (args := [_]) Try.func62 rfl Try.ntmps62 Try.results62 (by simp) ?_
  refine CJ.seq ?_
  refine CJ.region ?_
  refine LJ.alloc ([_, _, _] : List Value) rfl rfl (fun b1 => ?_)
  refine LJ.yd rfl (Yd.asS rfl) ?_
  refine LJ.nil ?_
  refine CJ.seq ?_
  refine CJ.region ?_
  refine LJ.yd rfl (Yd.mvP rfl) ?_
  refine LJ.call (pickF _ [1]) (pickF _ [0]) rfl (perm_pickF _ [1] [0] rfl) (fun k hk dk => workPlanG_ok hcode.up (by omega) (by omega)) ?_
  rintro _ _ ⟨W, H, ka, km, kc, o, e, i, t, x, m, l, b, q2, ps, rfl, rfl, hq1, hq2, hW1, hW2, hH1, hH2, hl1, hw1, hz1, hg1⟩
  have hgk : GOk (shB W H) := by simp [GOk]; omega
  obtain ⟨hpl1, hpl2⟩ := plG_facts hgk hg1
  refine LJ.norm [_, _, _, _] rfl ?_
  refine LJ.yd rfl (Yd.mvU rfl) ?_
  refine LJ.yd rfl (Yd.extract rfl rfl) ?_
  refine LJ.yd rfl (Yd.extract rfl rfl) ?_
  refine LJ.alloc ([_, _, _] : List Value) rfl rfl (fun b2 => ?_)
  refine LJ.alloc ([_, _, _, _, _] : List Value) rfl rfl (fun b3 => ?_)
  refine LJ.store (v := .agg #[_, _, _]) (us := [_, _, _]) 4 rfl rfl rfl rfl rfl rfl rfl rfl ?_
  refine LJ.store (v := .agg #[_, _, _, _, _]) (us := [_, _, _, _, _]) 5 rfl rfl rfl rfl rfl rfl rfl rfl ?_
  refine LJ.nil ?_
  refine CJ.seq ?_
  refine CJ.region ?_
  refine LJ.yd rfl (Yd.loadG (us := [_, _, _]) 4 rfl rfl rfl rfl) ?_
  refine LJ.yd rfl (Yd.loadG (us := [_, _, _, _, _]) 5 rfl rfl rfl rfl) ?_
  refine LJ.call0 rfl (fun k hk dk => placesOfG_ok (by omega) hgk hg1 (Sts.planT hk dk 3 rfl)) ?_
  rintro _ _ ⟨ra16, rc16, rfl, rfl⟩
  refine LJ.norm [_, _, _, _, _, _, _] rfl ?_
  refine LJ.yd rfl (Yd.asS rfl) ?_
  refine LJ.nil ?_
  refine CJ.seq ?_
  refine CJ.region ?_
  refine LJ.op rfl (OpR.buildSlice (cs := []) rfl rfl) ?_
  rintro _ _ ⟨b4, rfl, rfl⟩
  refine LJ.yd rfl (Yd.asS rfl) ?_
  refine LJ.nil ?_
  refine CJ.seq ?_
  refine CJ.seq ?_
  refine CJ.region ?_
  refine LJ.yd rfl (Yd.asI rfl) ?_
  refine LJ.nil ?_
  refine CJ.block ?_
  refine CJ.imp1 7 rfl (fun _ h => Cel.lr (enc := encPl) (k := 6) (m := 0) [] rfl rfl rfl rfl h) ?_
  refine CJ.norm [_, _, _, _, _, _, _, _] rfl ?_
  refine CJ.loopF [0, 2, 3, 4, 6] (Nat × Int × List (Plc) × Option Addr × Nat × Nat) (fun ⟨kk, q, O, OA, ON, OC⟩ => (ON = O.length) ∧ kk ≤ (plG b W H).length ∧ q2 ≤ q ∧ q ≤ q2 + kk ∧ O.length ≤ 9 ∧ ∀ u ∈ O, GOk u.b) (fun ⟨kk, q, O, OA, ON, OC⟩ => [(8, vI kk), (7, .slice OA ON OC)]) (fun ⟨kk, q, O, OA, ON, OC⟩ => [LR encPl 88 6 OA OC O, Rd rb a n c q]) (fun ⟨kk, q, O, OA, ON, OC⟩ => (plG b W H).length - kk) (0, q2, [], _, _, _) [_, _, _, _, _, _] [0, 2, 3, 4, 5, 6] [7, 1] rfl rfl rfl ?_ ⟨rfl, rfl, trivial⟩ ?_
  · exact ⟨(by first | rfl | omega | (simp; done) | (simp; omega) | (simp [upN_len]; omega) | (simp [idxBy_len]; omega) | (simp [marks_len]; omega) | (simp [upN_len]; done) | (simp [idxBy_len]; done) | (simp [marks_len]; done) | (simp at *; omega)), ⟨by omega, by omega, by omega, by simp, by simp⟩⟩
  · rintro ⟨kk, q, O, OA, ON, OC⟩ σ ⟨hlNO, ⟨hk1, hq3, hq4, hOl, hO⟩⟩
    subst hlNO
    refine CJ.norm [_, _, _, _, _, _, _, _] rfl ?_
    refine CJ.seq ?_
    refine CJ.seq ?_
    refine CJ.region ?_
    refine LJ.yd rfl (Yd.mvI rfl) ?_
    refine LJ.yd rfl (Yd.mvS rfl) ?_
    refine LJ.yd rfl (Yd.len rfl) ?_
    refine LJ.splitD rfl (Yd.lss rfl rfl) (fun h21 => ?_) (fun h21 => ?_)
    · refine LJ.yd rfl (Yd.mvB rfl) ?_
      refine LJ.gT rfl ?_
      refine LJ.yd rfl (Yd.mvS rfl) ?_
      refine LJ.gT rfl ?_
      refine LJ.yd rfl (Yd.len rfl) ?_
      refine LJ.gT rfl ?_
      refine LJ.splitD rfl (Yd.lss rfl rfl) (fun h25 => ?_) (fun h25 => ?_)
      · refine LJ.yd rfl (Yd.pickTB rfl rfl) ?_
        refine LJ.nil ?_
        refine CJ.condT rfl ?_
        refine CJ.skip ?_
        refine CJ.seq ?_
        refine CJ.block ?_
        refine CJ.seq ?_
        refine CJ.region ?_
        refine LJ.yd rfl (Yd.mvP rfl) ?_
        refine LJ.call (pickF _ [0, 1, 2, 3, 4, 5, 6]) (pickF _ [7]) rfl (perm_pickF _ [0, 1, 2, 3, 4, 5, 6] [7] rfl) (fun k hk dk => pick_ok (hcode.up) (by omega) (by omega)) ?_
        rintro _ _ ⟨x30, rfl, hx30, hy30, rfl⟩
        refine LJ.norm [_, _, _, _, _, _, _, _] rfl ?_
        refine LJ.splitD rfl (Yd.gtr rfl rfl) (fun h31 => ?_) (fun h31 => ?_)
        · refine LJ.nil ?_
          refine CJ.condT rfl ?_
          refine CJ.region ?_
          refine LJ.yd rfl (Yd.mvS rfl) ?_
          refine LJ.yd rfl (Yd.mvS rfl) ?_
          refine LJ.yd rfl (Yd.mvS rfl) ?_
          refine LJ.yd rfl (Yd.len rfl) ?_
          refine LJ.yd rfl (Yd.sub rfl rfl (by unfold I64; omega)) ?_
          refine LJ.yd rfl (Yd.mvI rfl) ?_
          refine LJ.yd rfl (Yd.sub rfl rfl (by unfold I64; omega)) ?_
          refine LJ.idxR 5 rfl rfl rfl rfl (by omega) (by first | rfl | omega | (simp; done) | (simp; omega) | (simp [upN_len]; omega) | (simp [idxBy_len]; omega) | (simp [marks_len]; omega) | (simp [upN_len]; done) | (simp [idxBy_len]; done) | (simp [marks_len]; done) | (simp at *; omega)) (by first | rfl | omega | (simp; done) | (simp; omega) | (simp [upN_len]; omega) | (simp [idxBy_len]; omega) | (simp [marks_len]; omega) | (simp [upN_len]; done) | (simp [idxBy_len]; done) | (simp [marks_len]; done) | (simp at *; omega)) (fun ib39 ia39 => ?_)
          refine LJ.lgR 5 (enc := encPl) (fun u => [vI u.p, .bool u.t, vI u.b.X, vI u.b.Y, vI u.b.W, vI u.b.H]) (fun _ => rfl) (fun _ => rfl) rfl ia39 rfl rfl rfl (by first | rfl | omega | (simp; done) | (simp; omega) | (simp [upN_len]; omega) | (simp [idxBy_len]; omega) | (simp [marks_len]; omega) | (simp [upN_len]; done) | (simp [idxBy_len]; done) | (simp [marks_len]; done) | (simp at *; omega)) (fun u40 hu40 => ?_)
          try simp only [Int.toNat_natCast] at hu40
          refine LJ.op rfl (OpR.buildSlice (cs := [_, _, _, _, _, _]) rfl rfl) ?_
          rintro _ _ ⟨b5, rfl, rfl⟩
          refine LJ.op rfl (OpR.apT (enc := encPl) [⟨_, _, ⟨_, _, _, _⟩⟩] 6 8 rfl rfl rfl (by first | rfl | omega | (simp; done) | (simp; omega) | (simp [upN_len]; omega) | (simp [idxBy_len]; omega) | (simp [marks_len]; omega) | (simp [upN_len]; done) | (simp [idxBy_len]; done) | (simp [marks_len]; done) | (simp at *; omega)) rfl rfl rfl rfl rfl (by first | rfl | omega | (simp; done) | (simp; omega) | (simp [upN_len]; omega) | (simp [idxBy_len]; omega) | (simp [marks_len]; omega) | (simp [upN_len]; done) | (simp [idxBy_len]; done) | (simp [marks_len]; done) | (simp at *; omega))) ?_
          rintro _ _ ⟨ra42, rc42, rfl, rfl⟩
          refine LJ.norm [_, _, _, _, _, _, _, _, _] rfl ?_
          refine LJ.yd rfl (Yd.asS rfl) ?_
          refine LJ.nil ?_
          refine CJ.region ?_
          refine LJ.yd rfl (Yd.mvI rfl) ?_
          refine LJ.yd rfl (Yd.add rfl rfl (by unfold I64; omega)) ?_
          refine LJ.yd rfl (Yd.asI rfl) ?_
          refine LJ.nil ?_
          refine ⟨(kk + 1, _, _, _, _, _), ?_, ⟨rfl, rfl, rfl, rfl, rfl, trivial⟩, ⟨rfl, rfl, trivial⟩, Ent.pick [0, 1, 2, 3, 4, 5, 6, 7] [8] rfl, ?_⟩
          · refine ⟨(by first | rfl | omega | (simp; done) | (simp; omega) | (simp [upN_len]; omega) | (simp [idxBy_len]; omega) | (simp [marks_len]; omega) | (simp [upN_len]; done) | (simp [idxBy_len]; done) | (simp [marks_len]; done) | (simp at *; omega)), ?_⟩
            refine ⟨by omega, ?_⟩
            first
              | exact ⟨by omega, by omega, by simp; omega, fun u hu => by
                  rcases List.mem_append.1 hu with h | h
                  · exact hO u h
                  · rw [List.mem_singleton] at h
                    subst h
                    exact hpl2 _ (List.mem_of_getElem? hu40)⟩
              | exact ⟨by omega, by omega, hOl, hO⟩
          · first | omega | (dsimp only; omega) | (simp only []; omega)
        · refine LJ.nil ?_
          refine CJ.condF rfl ?_
          refine CJ.skip ?_
          refine CJ.region ?_
          refine LJ.yd rfl (Yd.mvI rfl) ?_
          refine LJ.yd rfl (Yd.add rfl rfl (by unfold I64; omega)) ?_
          refine LJ.yd rfl (Yd.asI rfl) ?_
          refine LJ.nil ?_
          refine ⟨(kk + 1, _, _, _, _, _), ?_, ⟨rfl, rfl, rfl, rfl, rfl, trivial⟩, ⟨rfl, rfl, trivial⟩, Ent.refl _, ?_⟩
          · refine ⟨(by first | rfl | omega | (simp; done) | (simp; omega) | (simp [upN_len]; omega) | (simp [idxBy_len]; omega) | (simp [marks_len]; omega) | (simp [upN_len]; done) | (simp [idxBy_len]; done) | (simp [marks_len]; done) | (simp at *; omega)), ?_⟩
            refine ⟨by omega, ?_⟩
            first
              | exact ⟨by omega, by omega, by simp; omega, fun u hu => by
                  rcases List.mem_append.1 hu with h | h
                  · exact hO u h
                  · rw [List.mem_singleton] at h
                    subst h
                    exact hpl2 _ (List.mem_of_getElem? hu40)⟩
              | exact ⟨by omega, by omega, hOl, hO⟩
          · first | omega | (dsimp only; omega) | (simp only []; omega)
      · refine LJ.yd rfl (Yd.pickTB rfl rfl) ?_
        refine LJ.nil ?_
        refine CJ.condF rfl ?_
        refine CJ.exit ?_
        refine CJ.seq ?_
        refine CJ.region ?_
        refine LJ.yd rfl (Yd.loadG (us := [_, _, _]) 3 rfl rfl rfl rfl) ?_
        refine LJ.yd rfl (Yd.mvS rfl) ?_
        refine LJ.store (v := .agg #[_, _, _]) (us := [_, _, _]) 0 rfl rfl rfl rfl rfl rfl rfl rfl ?_
        refine LJ.yd rfl (Yd.asS rfl) ?_
        refine LJ.nil ?_
        refine CJ.ret ?_
        exact Fin.R [_, _, _] (Res.two (ResV.cell (us := [_, _, _]) 0 rfl rfl rfl rfl) (ResV.tmp (v := .slice _ _ _) rfl)) ⟨_, _, _, _, _, _, _, _, _, _, rfl, rfl, by omega, by omega, by omega, hOl, hO⟩ (Ent.pick [7, 1, 6] [0, 2, 3, 4, 5] rfl)
    · refine LJ.yd rfl (Yd.mvB rfl) ?_
      refine LJ.gF rfl rfl ?_
      refine LJ.gF rfl rfl ?_
      refine LJ.gF rfl rfl ?_
      refine LJ.yd rfl (Yd.pickFB rfl rfl) ?_
      refine LJ.nil ?_
      refine CJ.condF rfl ?_
      refine CJ.exit ?_
      refine CJ.seq ?_
      refine CJ.region ?_
      refine LJ.yd rfl (Yd.loadG (us := [_, _, _]) 3 rfl rfl rfl rfl) ?_
      refine LJ.yd rfl (Yd.mvS rfl) ?_
      refine LJ.store (v := .agg #[_, _, _]) (us := [_, _, _]) 0 rfl rfl rfl rfl rfl rfl rfl rfl ?_
      refine LJ.yd rfl (Yd.asS rfl) ?_
      refine LJ.nil ?_
      refine CJ.ret ?_
      exact Fin.R [_, _, _] (Res.two (ResV.cell (us := [_, _, _]) 0 rfl rfl rfl rfl) (ResV.tmp (v := .slice _ _ _) rfl)) ⟨_, _, _, _, _, _, _, _, _, _, rfl, rfl, by omega, by omega, by omega, hOl, hO⟩ (Ent.pick [7, 1, 6] [0, 2, 3, 4, 5] rfl)
def DvpR (v : Value) (fs : List HProp) : Prop :=
  ∃ (W H : Int) (ka : Option Addr) (km kc : Nat) (ps : List Pane) (L : List Plc) (la : Option Addr) (lc : Nat), v = .tuple #[.agg #[vI W, vI H, .slice ka km kc], .slice la L.length lc] ∧
    fs = [fun h => RdPanes h (.slice ka km kc) ps, LR encPl 88 6 la lc L] ∧ (1 ≤ W ∧ W ≤ 30 ∧ 1 ≤ H ∧ H ≤ 30) ∧ L.length ≤ 10
theorem DrawValidPlaces_ok {A : Amb} {a : Option Addr} {n c : Nat} (h : Code A.h a n c) : Ctr Try.prog 29 #[.slice a n c] A [] DvpR := by
  obtain ⟨hcode, hn, ha, hs⟩ := h
  refine Ctr.body (args := [_]) Try.func29 rfl Try.ntmps29 Try.results29 (by simp) ?_
  refine CJ.seq ?_
  refine CJ.region ?_
  refine LJ.alloc ([_, _, _] : List Value) rfl rfl (fun b1 => ?_)
  refine LJ.yd rfl (Yd.asS rfl) ?_
  refine LJ.nil ?_
  refine CJ.seq ?_
  refine CJ.region ?_
  refine LJ.yd rfl (Yd.mvS rfl) ?_
  refine LJ.call0 rfl (fun k hk dk => newReader_ok hn hcode.up ha hs) ?_
  rintro _ _ ⟨rb, n2, rfl, hn1, hn2, rfl⟩
  have hcode2 := hcode.le hn2
  refine LJ.yd rfl (Yd.asP rfl) ?_
  refine LJ.nil ?_
  refine CJ.seq ?_
  refine CJ.region ?_
  refine LJ.yd rfl (Yd.mvP rfl) ?_
  refine LJ.call (pickF _ [0]) (pickF _ [1]) rfl (perm_pickF _ [0] [1] rfl) (fun k hk dk => somePlaces_ok hcode2.up (by omega) (by omega)) ?_
  rintro _ _ ⟨W, H, ka, km, kc, ps, L, la, lc, q, rfl, rfl, hq1, hq2, hWH, hLl, hLg⟩
  refine LJ.norm [_, _, _, _] rfl ?_
  refine LJ.yd rfl (Yd.mvU rfl) ?_
  refine LJ.yd rfl (Yd.extract rfl rfl) ?_
  refine LJ.yd rfl (Yd.extract rfl rfl) ?_
  refine LJ.alloc ([_, _, _] : List Value) rfl rfl (fun b2 => ?_)
  refine LJ.store (v := .agg #[_, _, _]) (us := [_, _, _]) 4 rfl rfl rfl rfl rfl rfl rfl rfl ?_
  refine LJ.yd rfl (Yd.asS rfl) ?_
  refine LJ.nil ?_
  refine CJ.seq ?_
  refine CJ.seq ?_
  refine CJ.region ?_
  refine LJ.yd rfl (Yd.mvS rfl) ?_
  refine LJ.yd rfl (Yd.len rfl) ?_
  refine LJ.splitD rfl (Yd.gtr rfl rfl) (fun h17 => ?_) (fun h17 => ?_)
  · refine LJ.nil ?_
    refine CJ.condT rfl ?_
    refine CJ.seq ?_
    refine CJ.region ?_
    refine LJ.yd rfl (Yd.mvP rfl) ?_
    refine LJ.yd rfl (Yd.mvS rfl) ?_
    refine LJ.yd rfl (Yd.len rfl) ?_
    refine LJ.call (pickF _ [0, 2, 3, 4]) (pickF _ [1]) rfl (perm_pickF _ [0, 2, 3, 4] [1] rfl) (fun k hk dk => pick_ok (hcode2.up) (by omega) (by omega)) ?_
    rintro _ _ ⟨x21, rfl, hx21, hy21, rfl⟩
    refine LJ.norm [_, _, _, _, _] rfl ?_
    refine LJ.yd rfl (Yd.asI rfl) ?_
    refine LJ.nil ?_
    refine CJ.seq ?_
    refine CJ.region ?_
    refine LJ.yd rfl (Yd.mvP rfl) ?_
    refine LJ.call (pickF _ [0, 1, 2, 3]) (pickF _ [4]) rfl (perm_pickF _ [0, 1, 2, 3] [4] rfl) (fun k hk dk => pick_ok (hcode2.up) (by omega) (by omega)) ?_
    rintro _ _ ⟨x23, rfl, hx23, hy23, rfl⟩
    refine LJ.norm [_, _, _, _, _] rfl ?_
    refine LJ.nil ?_
    refine CJ.block ?_
    refine CJ.seq ?_
    refine CJ.region ?_
    refine LJ.splitD rfl (Yd.eql rfl rfl) (fun h25 => ?_) (fun h25 => ?_)
    · refine LJ.yd rfl (Yd.asB rfl) ?_
      refine LJ.nil ?_
      refine CJ.condT rfl ?_
      refine CJ.region ?_
      refine LJ.yd rfl (Yd.mvS rfl) ?_
      refine LJ.yd rfl (Yd.mvI rfl) ?_
      refine LJ.yd rfl (Yd.mvS rfl) ?_
      refine LJ.yd rfl (Yd.mvI rfl) ?_
      refine LJ.idxR 2 rfl rfl rfl rfl (by omega) (by first | rfl | omega | (simp; done) | (simp; omega) | (simp [upN_len]; omega) | (simp [idxBy_len]; omega) | (simp [marks_len]; omega) | (simp [upN_len]; done) | (simp [idxBy_len]; done) | (simp [marks_len]; done) | (simp at *; omega)) (by first | rfl | omega | (simp; done) | (simp; omega) | (simp [upN_len]; omega) | (simp [idxBy_len]; omega) | (simp [marks_len]; omega) | (simp [upN_len]; done) | (simp [idxBy_len]; done) | (simp [marks_len]; done) | (simp at *; omega)) (fun ib30 ia30 => ?_)
      refine LJ.yd rfl (Yd.fieldAddr rfl) ?_
      refine LJ.yd rfl (Yd.fieldAddr rfl) ?_
      refine LJ.ldR 2 2 (fun u => vI u.b.X) (fun _ => rfl) rfl ia30 rfl rfl rfl (by first | rfl | omega | (simp; done) | (simp; omega) | (simp [upN_len]; omega) | (simp [idxBy_len]; omega) | (simp [marks_len]; omega) | (simp [upN_len]; done) | (simp [idxBy_len]; done) | (simp [marks_len]; done) | (simp at *; omega)) (fun u33 hu33 => ?_)
      try simp only [Int.toNat_natCast] at hu33
      have hg33 := hLg u33 (List.mem_of_getElem? hu33)
      unfold GOk at hg33
      refine LJ.yd rfl (Yd.add rfl rfl (by unfold I64; omega)) ?_
      refine LJ.idxR 2 rfl rfl rfl rfl (by omega) (by first | rfl | omega | (simp; done) | (simp; omega) | (simp [upN_len]; omega) | (simp [idxBy_len]; omega) | (simp [marks_len]; omega) | (simp [upN_len]; done) | (simp [idxBy_len]; done) | (simp [marks_len]; done) | (simp at *; omega)) (by first | rfl | omega | (simp; done) | (simp; omega) | (simp [upN_len]; omega) | (simp [idxBy_len]; omega) | (simp [marks_len]; omega) | (simp [upN_len]; done) | (simp [idxBy_len]; done) | (simp [marks_len]; done) | (simp at *; omega)) (fun ib35 ia35 => ?_)
      refine LJ.yd rfl (Yd.fieldAddr rfl) ?_
      refine LJ.yd rfl (Yd.fieldAddr rfl) ?_
      refine LJ.op rfl (OpR.stR (enc := encPl) (u' := ⟨u33.p, u33.t, ⟨u33.b.X + 1, u33.b.Y, u33.b.W, u33.b.H⟩⟩) 2 2 rfl ia35 rfl rfl hu33 rfl rfl rfl rfl rfl) ?_
      rintro _ _ ⟨rfl, rfl⟩
      refine LJ.norm [_, _, _, _, _] rfl ?_
      refine LJ.nil ?_
      refine CJ.seq ?_
      refine CJ.region ?_
      refine LJ.yd rfl (Yd.loadG (us := [_, _, _]) 3 rfl rfl rfl rfl) ?_
      refine LJ.yd rfl (Yd.mvS rfl) ?_
      refine LJ.store (v := .agg #[_, _, _]) (us := [_, _, _]) 0 rfl rfl rfl rfl rfl rfl rfl rfl ?_
      refine LJ.yd rfl (Yd.asS rfl) ?_
      refine LJ.nil ?_
      refine CJ.ret ?_
      exact Fin.R [_, _] (Res.two (ResV.cell (us := [_, _, _]) 0 rfl rfl rfl rfl) (ResV.tmp (v := .slice _ _ _) rfl)) ⟨W, H, ka, km, kc, ps, _, _, _, by first | rfl | simp, rfl, by omega, by first | omega | (simp; omega)⟩ (Ent.pick [1, 2] [0, 3, 4] rfl)
    · refine LJ.yd rfl (Yd.asB rfl) ?_
      refine LJ.nil ?_
      refine CJ.condF rfl ?_
      refine CJ.seq ?_
      refine CJ.region ?_
      refine LJ.splitD rfl (Yd.eql rfl rfl) (fun h39 => ?_) (fun h39 => ?_)
      · refine LJ.yd rfl (Yd.asB rfl) ?_
        refine LJ.nil ?_
        refine CJ.condT rfl ?_
        refine CJ.region ?_
        refine LJ.yd rfl (Yd.mvS rfl) ?_
        refine LJ.yd rfl (Yd.mvI rfl) ?_
        refine LJ.yd rfl (Yd.mvS rfl) ?_
        refine LJ.yd rfl (Yd.mvI rfl) ?_
        refine LJ.idxR 2 rfl rfl rfl rfl (by omega) (by first | rfl | omega | (simp; done) | (simp; omega) | (simp [upN_len]; omega) | (simp [idxBy_len]; omega) | (simp [marks_len]; omega) | (simp [upN_len]; done) | (simp [idxBy_len]; done) | (simp [marks_len]; done) | (simp at *; omega)) (by first | rfl | omega | (simp; done) | (simp; omega) | (simp [upN_len]; omega) | (simp [idxBy_len]; omega) | (simp [marks_len]; omega) | (simp [upN_len]; done) | (simp [idxBy_len]; done) | (simp [marks_len]; done) | (simp at *; omega)) (fun ib44 ia44 => ?_)
        refine LJ.yd rfl (Yd.fieldAddr rfl) ?_
        refine LJ.ldR 2 1 (fun u => .bool u.t) (fun _ => rfl) rfl ia44 rfl rfl rfl (by first | rfl | omega | (simp; done) | (simp; omega) | (simp [upN_len]; omega) | (simp [idxBy_len]; omega) | (simp [marks_len]; omega) | (simp [upN_len]; done) | (simp [idxBy_len]; done) | (simp [marks_len]; done) | (simp at *; omega)) (fun u46 hu46 => ?_)
        try simp only [Int.toNat_natCast] at hu46
        refine LJ.yd rfl (Yd.not rfl) ?_
        refine LJ.idxR 2 rfl rfl rfl rfl (by omega) (by first | rfl | omega | (simp; done) | (simp; omega) | (simp [upN_len]; omega) | (simp [idxBy_len]; omega) | (simp [marks_len]; omega) | (simp [upN_len]; done) | (simp [idxBy_len]; done) | (simp [marks_len]; done) | (simp at *; omega)) (by first | rfl | omega | (simp; done) | (simp; omega) | (simp [upN_len]; omega) | (simp [idxBy_len]; omega) | (simp [marks_len]; omega) | (simp [upN_len]; done) | (simp [idxBy_len]; done) | (simp [marks_len]; done) | (simp at *; omega)) (fun ib48 ia48 => ?_)
        refine LJ.yd rfl (Yd.fieldAddr rfl) ?_
        refine LJ.op rfl (OpR.stR (enc := encPl) (u' := ⟨u46.p, !u46.t, u46.b⟩) 2 1 rfl ia48 rfl rfl hu46 rfl rfl rfl rfl rfl) ?_
        rintro _ _ ⟨rfl, rfl⟩
        refine LJ.norm [_, _, _, _, _] rfl ?_
        refine LJ.nil ?_
        refine CJ.seq ?_
        refine CJ.region ?_
        refine LJ.yd rfl (Yd.loadG (us := [_, _, _]) 3 rfl rfl rfl rfl) ?_
        refine LJ.yd rfl (Yd.mvS rfl) ?_
        refine LJ.store (v := .agg #[_, _, _]) (us := [_, _, _]) 0 rfl rfl rfl rfl rfl rfl rfl rfl ?_
        refine LJ.yd rfl (Yd.asS rfl) ?_
        refine LJ.nil ?_
        refine CJ.ret ?_
        exact Fin.R [_, _] (Res.two (ResV.cell (us := [_, _, _]) 0 rfl rfl rfl rfl) (ResV.tmp (v := .slice _ _ _) rfl)) ⟨W, H, ka, km, kc, ps, _, _, _, by first | rfl | simp, rfl, by omega, by first | omega | (simp; omega)⟩ (Ent.pick [1, 2] [0, 3, 4] rfl)
      · refine LJ.yd rfl (Yd.asB rfl) ?_
        refine LJ.nil ?_
        refine CJ.condF rfl ?_
        refine CJ.seq ?_
        refine CJ.region ?_
        refine LJ.splitD rfl (Yd.eql rfl rfl) (fun h51 => ?_) (fun h51 => ?_)
        · refine LJ.yd rfl (Yd.asB rfl) ?_
          refine LJ.nil ?_
          refine CJ.condT rfl ?_
          refine CJ.region ?_
          refine LJ.yd rfl (Yd.mvS rfl) ?_
          refine LJ.yd rfl (Yd.mvS rfl) ?_
          refine LJ.yd rfl (Yd.mvI rfl) ?_
          refine LJ.idxR 2 rfl rfl rfl rfl (by omega) (by first | rfl | omega | (simp; done) | (simp; omega) | (simp [upN_len]; omega) | (simp [idxBy_len]; omega) | (simp [marks_len]; omega) | (simp [upN_len]; done) | (simp [idxBy_len]; done) | (simp [marks_len]; done) | (simp at *; omega)) (by first | rfl | omega | (simp; done) | (simp; omega) | (simp [upN_len]; omega) | (simp [idxBy_len]; omega) | (simp [marks_len]; omega) | (simp [upN_len]; done) | (simp [idxBy_len]; done) | (simp [marks_len]; done) | (simp at *; omega)) (fun ib55 ia55 => ?_)
          refine LJ.lgR 2 (enc := encPl) (fun u => [vI u.p, .bool u.t, vI u.b.X, vI u.b.Y, vI u.b.W, vI u.b.H]) (fun _ => rfl) (fun _ => rfl) rfl ia55 rfl rfl rfl (by first | rfl | omega | (simp; done) | (simp; omega) | (simp [upN_len]; omega) | (simp [idxBy_len]; omega) | (simp [marks_len]; omega) | (simp [upN_len]; done) | (simp [idxBy_len]; done) | (simp [marks_len]; done) | (simp at *; omega)) (fun u56 hu56 => ?_)
          try simp only [Int.toNat_natCast] at hu56
          refine LJ.op rfl (OpR.buildSlice (cs := [_, _, _, _, _, _]) rfl rfl) ?_
          rintro _ _ ⟨b3, rfl, rfl⟩
          refine LJ.op rfl (OpR.apT (enc := encPl) [⟨_, _, ⟨_, _, _, _⟩⟩] 2 5 rfl rfl rfl (by first | rfl | omega | (simp; done) | (simp; omega) | (simp [upN_len]; omega) | (simp [idxBy_len]; omega) | (simp [marks_len]; omega) | (simp [upN_len]; done) | (simp [idxBy_len]; done) | (simp [marks_len]; done) | (simp at *; omega)) rfl rfl rfl rfl rfl (by first | rfl | omega | (simp; done) | (simp; omega) | (simp [upN_len]; omega) | (simp [idxBy_len]; omega) | (simp [marks_len]; omega) | (simp [upN_len]; done) | (simp [idxBy_len]; done) | (simp [marks_len]; done) | (simp at *; omega))) ?_
          rintro _ _ ⟨ra58, rc58, rfl, rfl⟩
          refine LJ.norm [_, _, _, _, _, _] rfl ?_
          refine LJ.yd rfl (Yd.asS rfl) ?_
          refine LJ.nil ?_
          refine CJ.seq ?_
          refine CJ.region ?_
          refine LJ.yd rfl (Yd.loadG (us := [_, _, _]) 3 rfl rfl rfl rfl) ?_
          refine LJ.yd rfl (Yd.mvS rfl) ?_
          refine LJ.store (v := .agg #[_, _, _]) (us := [_, _, _]) 0 rfl rfl rfl rfl rfl rfl rfl rfl ?_
          refine LJ.yd rfl (Yd.asS rfl) ?_
          refine LJ.nil ?_
          refine CJ.ret ?_
          exact Fin.R [_, _] (Res.two (ResV.cell (us := [_, _, _]) 0 rfl rfl rfl rfl) (ResV.tmp (v := .slice _ _ _) rfl)) ⟨W, H, ka, km, kc, ps, _, _, _, by first | rfl | simp, rfl, by omega, by first | omega | (simp; omega)⟩ (Ent.pick [1, 2] [0, 3, 4, 5] rfl)
        · refine LJ.yd rfl (Yd.asB rfl) ?_
          refine LJ.nil ?_
          refine CJ.condF rfl ?_
          refine CJ.seq ?_
          refine CJ.region ?_
          refine LJ.splitD rfl (Yd.eql rfl rfl) (fun h60 => ?_) (fun h60 => ?_)
          · refine LJ.yd rfl (Yd.asB rfl) ?_
            refine LJ.nil ?_
            refine CJ.condT rfl ?_
            obtain ⟨u, hu⟩ := someC (l := L) (j := x21.toNat) (by omega)
            refine CJ.region ?_
            refine LJ.yd rfl (Yd.mvS rfl) ?_
            refine LJ.yd rfl (Yd.mvI rfl) ?_
            refine LJ.yd rfl (Yd.mvP rfl) ?_
            refine LJ.op rfl (OpR.buildSlice (cs := [_, _, _]) rfl rfl) ?_
            rintro _ _ ⟨b4, rfl, rfl⟩
            refine LJ.call (pickF _ [0, 1, 2, 3, 5]) (pickF _ [4]) rfl (perm_pickF _ [0, 1, 2, 3, 5] [4] rfl) (fun k hk dk => one_ok (l := [-1, 30, 0]) (hcode2.up) (LitAt.of (l := [-1, 30, 0]) hk dk 4 rfl) (by simp) (by omega) (by omega)) ?_
            rintro _ _ ⟨x65, rfl, hx65, rfl⟩
            simp only [List.mem_cons, List.not_mem_nil, or_false] at hx65
            refine LJ.norm [_, _, _, _, _, _] rfl ?_
            refine LJ.idxR 2 rfl rfl rfl rfl (by omega) (by first | rfl | omega | (simp; done) | (simp; omega) | (simp [upN_len]; omega) | (simp [idxBy_len]; omega) | (simp [marks_len]; omega) | (simp [upN_len]; done) | (simp [idxBy_len]; done) | (simp [marks_len]; done) | (simp at *; omega)) (by first | rfl | omega | (simp; done) | (simp; omega) | (simp [upN_len]; omega) | (simp [idxBy_len]; omega) | (simp [marks_len]; omega) | (simp [upN_len]; done) | (simp [idxBy_len]; done) | (simp [marks_len]; done) | (simp at *; omega)) (fun ib66 ia66 => ?_)
            refine LJ.yd rfl (Yd.fieldAddr rfl) ?_
            refine LJ.op rfl (OpR.stR (enc := encPl) (u' := ⟨x65, u.t, u.b⟩) 2 0 rfl ia66 rfl rfl hu rfl rfl rfl rfl rfl) ?_
            rintro _ _ ⟨rfl, rfl⟩
            refine LJ.norm [_, _, _, _, _, _] rfl ?_
            refine LJ.nil ?_
            refine CJ.seq ?_
            refine CJ.region ?_
            refine LJ.yd rfl (Yd.loadG (us := [_, _, _]) 3 rfl rfl rfl rfl) ?_
            refine LJ.yd rfl (Yd.mvS rfl) ?_
            refine LJ.store (v := .agg #[_, _, _]) (us := [_, _, _]) 0 rfl rfl rfl rfl rfl rfl rfl rfl ?_
            refine LJ.yd rfl (Yd.asS rfl) ?_
            refine LJ.nil ?_
            refine CJ.ret ?_
            exact Fin.R [_, _] (Res.two (ResV.cell (us := [_, _, _]) 0 rfl rfl rfl rfl) (ResV.tmp (v := .slice _ _ _) rfl)) ⟨W, H, ka, km, kc, ps, _, _, _, by first | rfl | simp, rfl, by omega, by first | omega | (simp; omega)⟩ (Ent.pick [1, 2] [0, 3, 4, 5] rfl)
          · refine LJ.yd rfl (Yd.asB rfl) ?_
            refine LJ.nil ?_
            refine CJ.condF rfl ?_
            refine CJ.skip ?_
            refine CJ.seq ?_
            refine CJ.region ?_
            refine LJ.yd rfl (Yd.loadG (us := [_, _, _]) 3 rfl rfl rfl rfl) ?_
            refine LJ.yd rfl (Yd.mvS rfl) ?_
            refine LJ.store (v := .agg #[_, _, _]) (us := [_, _, _]) 0 rfl rfl rfl rfl rfl rfl rfl rfl ?_
            refine LJ.yd rfl (Yd.asS rfl) ?_
            refine LJ.nil ?_
            refine CJ.ret ?_
            exact Fin.R [_, _] (Res.two (ResV.cell (us := [_, _, _]) 0 rfl rfl rfl rfl) (ResV.tmp (v := .slice _ _ _) rfl)) ⟨W, H, ka, km, kc, ps, _, _, _, by first | rfl | simp, rfl, by omega, by first | omega | (simp; omega)⟩ (Ent.pick [1, 2] [0, 3, 4] rfl)
  · refine LJ.nil ?_
    refine CJ.condF rfl ?_
    refine CJ.skip ?_
    refine CJ.seq ?_
    refine CJ.region ?_
    refine LJ.yd rfl (Yd.loadG (us := [_, _, _]) 4 rfl rfl rfl rfl) ?_
    refine LJ.yd rfl (Yd.mvS rfl) ?_
    refine LJ.store (v := .agg #[_, _, _]) (us := [_, _, _]) 0 rfl rfl rfl rfl rfl rfl rfl rfl ?_
    refine LJ.yd rfl (Yd.asS rfl) ?_
    refine LJ.nil ?_
    refine CJ.ret ?_
    exact Fin.R [_, _] (Res.two (ResV.cell (us := [_, _, _]) 0 rfl rfl rfl rfl) (ResV.tmp (v := .slice _ _ _) rfl)) ⟨W, H, ka, km, kc, ps, _, _, _, by first | rfl | simp, rfl, by omega, by first | omega | (simp; omega)⟩ (Ent.pick [2, 3] [0, 1, 4] rfl)
theorem vlP_wo {W H : Int} {ps : List Pane} {L : List Plc} {i : Nat} (h : vlP W H ps L = true) : vlP W H ps (L.take i ++ L.drop (i + 1)) = true := by
  obtain ⟨h1, h2, h3, h4⟩ := vlP_iff.1 h
  have hs : (L.take i ++ L.drop (i + 1)).Sublist L := by
    rw [← List.eraseIdx_eq_take_drop_succ]
    exact List.eraseIdx_sublist ..
  exact vlP_iff.2 ⟨h1, Nat.le_trans hs.length_le h2, fun u hu => h3 u (hs.subset hu), List.Pairwise.sublist (hs.map Plc.b) h4⟩
theorem ValidPlacesI_T {A : Amb} {W H : Int} {v w : Value} {ps : List Pane} {L : List Plc} (hp : RdPanes A.h v ps) (hl : RdL encPl 6 A.h w L) (h : vlP W H ps L = true) : Ctr Try.prog 30 #[.agg #[vI W, vI H, v], w] A [] (Val (.bool true)) := by
  have := ValidPlacesI_ok (W := W) (H := H) hp hl
  rwa [h] at this
theorem FnValidPlaces_ok {A : Amb} {a : Option Addr} {n c : Nat} (h : Code A.h a n c) : Ctr Try.prog 6 #[.slice a n c] A [] (Val (.bool true)) := by
  refine Ctr.body (args := [_]) Try.func6 rfl Try.ntmps6 Try.results6 (by simp) ?_
  refine CJ.seq ?_
  refine CJ.region ?_
  refine LJ.yd rfl (Yd.asB rfl) ?_
  refine LJ.nil ?_
  refine CJ.seq ?_
  refine CJ.seq ?_
  refine CJ.region ?_
  refine LJ.yd rfl (Yd.mvS rfl) ?_
  refine LJ.yd rfl (Yd.len rfl) ?_
  refine LJ.splitD rfl (Yd.gtr rfl rfl) (fun h9 => ?_) (fun h9 => ?_)
  · refine LJ.nil ?_
    refine CJ.condT rfl ?_
    refine CJ.seq ?_
    refine CJ.region ?_
    refine LJ.yd rfl (Yd.asB rfl) ?_
    refine LJ.nil ?_
    refine CJ.ret ?_
    refine Fin.V (Res.one (ResV.tmp (v := .bool true) rfl)) ?_
    rfl
  · refine LJ.nil ?_
    refine CJ.condF rfl ?_
    refine CJ.skip ?_
    refine CJ.seq ?_
    refine CJ.region ?_
    refine LJ.yd rfl (Yd.mvS rfl) ?_
    refine LJ.call0 rfl (fun k hk dk => DrawValidPlaces_ok h.up) ?_
    rintro _ _ ⟨W, H, ka, km, kc, ps, L, la, lc, rfl, rfl, hWH, hLl⟩
    refine LJ.norm [_, _] rfl ?_
    refine LJ.yd rfl (Yd.mvU rfl) ?_
    refine LJ.yd rfl (Yd.extract rfl rfl) ?_
    refine LJ.yd rfl (Yd.extract rfl rfl) ?_
    refine LJ.alloc ([_, _, _] : List Value) rfl rfl (fun b1 => ?_)
    refine LJ.store (v := .agg #[_, _, _]) (us := [_, _, _]) 2 rfl rfl rfl rfl rfl rfl rfl rfl ?_
    refine LJ.yd rfl (Yd.asS rfl) ?_
    refine LJ.nil ?_
    refine CJ.seq ?_
    refine CJ.amb (perm_pickF _ [1] [0, 2] rfl) (fun mlx wlx dlx => ?_)
    refine CJ.norm [_, _] rfl ?_
    have hlx := Row.toA (enc := encPl) wlx dlx (by first | rfl | omega | (simp; done) | (simp; omega) | (simp [upN_len]; omega) | (simp [idxBy_len]; omega) | (simp [marks_len]; omega) | (simp [upN_len]; done) | (simp [idxBy_len]; done) | (simp [marks_len]; done) | (simp at *; omega))
    refine CJ.amb (perm_pickF _ [0] [1] rfl) (fun m8 h8 d8 => ?_)
    refine CJ.norm [_] rfl ?_
    have hps : RdPanes ((A.ext mlx).ext m8).h (.slice ka km kc) ps := RdRow.mono h8 (Amb.ext_own d8)
    replace hlx : RdL encPl 6 ((A.ext mlx).ext m8).h (.slice la L.length lc) L := RdRow.up hlx
    refine CJ.region ?_
    refine LJ.yd rfl (Yd.loadG (us := [_, _, _]) 0 rfl rfl rfl rfl) ?_
    refine LJ.yd rfl (Yd.mvS rfl) ?_
    refine LJ.callV rfl (fun k hk dk => ValidPlacesI_ok hps.up (RdRow.up hlx)) ?_
    refine LJ.split rfl (Yd.asB rfl) (fun h5 => ?_) (fun h5 => ?_)
    · refine LJ.nil ?_
      refine CJ.seq ?_
      refine CJ.seq ?_
      refine CJ.region ?_
      refine LJ.yd rfl (Yd.mvB rfl) ?_
      refine LJ.yd rfl (Yd.loadG (us := [_, _, _]) 0 rfl rfl rfl rfl) ?_
      refine LJ.yd rfl (Yd.mvS rfl) ?_
      refine LJ.callV rfl (fun k hk dk => ValidPlacesS_ok hps.up (RdRow.up hlx) (by unfold I64; omega) (by unfold I64; omega) (by omega)) ?_
      refine LJ.yd rfl (Yd.cmpNF (Yd.neqB rfl rfl) (by simp [h5])) ?_
      refine LJ.yd rfl (Yd.mvB rfl) ?_
      refine LJ.gT rfl ?_
      refine LJ.yd rfl (Yd.mvB rfl) ?_
      refine LJ.gT rfl ?_
      refine LJ.yd rfl (Yd.not rfl) ?_
      refine LJ.yd rfl (Yd.pickFB rfl rfl) ?_
      refine LJ.nil ?_
      refine CJ.condF rfl ?_
      refine CJ.skip ?_
      refine CJ.seq ?_
      refine CJ.seq ?_
      refine CJ.region ?_
      refine LJ.yd rfl (Yd.asI rfl) ?_
      refine LJ.nil ?_
      refine CJ.block ?_
      refine CJ.loopK [3, 4] Nat (fun i => i ≤ L.length) (fun i => [(6, vI i)]) (fun i => L.length - i) (0) ?_ ⟨rfl, trivial⟩ ?_
      · exact by omega
      · rintro i σ hk1
        refine CJ.seq ?_
        refine CJ.seq ?_
        refine CJ.region ?_
        refine LJ.yd rfl (Yd.mvI rfl) ?_
        refine LJ.yd rfl (Yd.mvS rfl) ?_
        refine LJ.yd rfl (Yd.len rfl) ?_
        refine LJ.splitD rfl (Yd.lss rfl rfl) (fun h35 => ?_) (fun h35 => ?_)
        · refine LJ.nil ?_
          refine CJ.condT rfl ?_
          refine CJ.skip ?_
          refine CJ.seq ?_
          refine CJ.block ?_
          refine CJ.seq ?_
          refine CJ.regionD [0] [] (by kernel_rfl) rfl ?_
          refine DJ.norm [_] [] rfl rfl ?_
          refine DJ.yd 0 rfl (by kernel_rfl) (by kernel_rfl) (by kernel_rfl) rfl rfl (Yd.loadG (us := [_, _, _]) 0 rfl rfl rfl rfl) ?_
          refine DJ.yd 2 rfl (by kernel_rfl) (by kernel_rfl) (by kernel_rfl) rfl rfl (Yd.mvS rfl) ?_
          refine DJ.yd 3 rfl (by kernel_rfl) (by kernel_rfl) (by kernel_rfl) rfl rfl (Yd.mvI rfl) ?_
          refine DJ.slHA 4 rfl (by kernel_rfl) (by kernel_rfl) (by kernel_rfl) rfl rfl hlx rfl rfl (by omega) (by first | rfl | omega | (simp; done) | (simp; omega) | (simp [upN_len]; omega) | (simp [idxBy_len]; omega) | (simp [marks_len]; omega) | (simp [upN_len]; done) | (simp [idxBy_len]; done) | (simp [marks_len]; done) | (simp at *; omega)) (Row.none_cap wlx) (Row.spot wlx) (fun sm42 hsm42 hs42 => ?_)
          refine DJ.yd 6 rfl (by kernel_rfl) (by kernel_rfl) (by kernel_rfl) rfl rfl (Yd.mvS rfl) ?_
          refine DJ.yd 7 rfl (by kernel_rfl) (by kernel_rfl) (by kernel_rfl) rfl rfl (Yd.mvI rfl) ?_
          refine DJ.yd 8 rfl (by kernel_rfl) (by kernel_rfl) (by kernel_rfl) rfl rfl (Yd.add rfl rfl (by unfold I64; omega)) ?_
          refine DJ.slLA 9 rfl (by kernel_rfl) (by kernel_rfl) (by kernel_rfl) rfl rfl hlx rfl rfl (by omega) (by first | rfl | omega | (simp; done) | (simp; omega) | (simp [upN_len]; omega) | (simp [idxBy_len]; omega) | (simp [marks_len]; omega) | (simp [upN_len]; done) | (simp [idxBy_len]; done) | (simp [marks_len]; done) | (simp at *; omega)) (Row.adr wlx) (fun sa47 sm47 sc47 hsm47 hs47 => ?_)
          refine DJ.one (i := 1) (by kernel_rfl) ?_
          refine DO.op rfl rfl rfl (fun k0 hk0 dk0 => OpR.buildSlice (cs := []) rfl rfl) ?_
          rintro _ _ ⟨b2, rfl, rfl⟩
          refine DJ.one (i := 5) (by kernel_rfl) ?_
          refine DO.imp1 0 rfl (fun _ h => Cel.lr (enc := encPl) (k := 6) (m := 0) [] rfl rfl rfl rfl h) ?_
          refine DO.norm [_] rfl ?_
          refine DO.op rfl rfl rfl (fun k0 hk0 dk0 => OpR.apA (enc := encPl) 0 rfl (RdRow.up hs42) rfl (by first | rfl | omega | (simp; done) | (simp; omega) | (simp [upN_len]; omega) | (simp [idxBy_len]; omega) | (simp [marks_len]; omega) | (simp [upN_len]; done) | (simp [idxBy_len]; done) | (simp [marks_len]; done) | (simp at *; omega)) rfl (fun _ => rfl) (by first | rfl | omega | (simp; done) | (simp; omega) | (simp [upN_len]; omega) | (simp [idxBy_len]; omega) | (simp [marks_len]; omega) | (simp [upN_len]; done) | (simp [idxBy_len]; done) | (simp [marks_len]; done) | (simp at *; omega))) ?_
          rintro _ _ ⟨ra43, rc43, rfl, rfl⟩
          refine DJ.norm [_] [_] rfl rfl ?_
          refine DJ.one (i := 10) (by kernel_rfl) ?_
          refine DO.op rfl rfl rfl (fun k0 hk0 dk0 => OpR.apA (enc := encPl) 0 rfl (RdRow.up hs47) rfl (by first | rfl | omega | (simp; done) | (simp; omega) | (simp [upN_len]; omega) | (simp [idxBy_len]; omega) | (simp [marks_len]; omega) | (simp [upN_len]; done) | (simp [idxBy_len]; done) | (simp [marks_len]; done) | (simp at *; omega)) rfl (fun _ => rfl) (by first | rfl | omega | (simp; done) | (simp; omega) | (simp [upN_len]; omega) | (simp [idxBy_len]; omega) | (simp [marks_len]; omega) | (simp [upN_len]; done) | (simp [idxBy_len]; done) | (simp [marks_len]; done) | (simp at *; omega))) ?_
          rintro _ _ ⟨ra48, rc48, rfl, rfl⟩
          refine DJ.norm [_] [_] rfl rfl ?_
          refine DJ.one (i := 11) (by kernel_rfl) ?_
          refine DO.callV rfl rfl rfl (fun k0 hk0 dk0 k hk dk => ValidPlacesI_T hps.up (Sts.lr hk dk 0 (by simp; omega) rfl) (by rw [List.nil_append, show sm42 = i by omega, show ((i : Int) + 1).toNat = i + 1 by omega]; exact vlP_wo h5)) ?_
          refine DJ.yd 12 rfl (by kernel_rfl) (by kernel_rfl) (by kernel_rfl) rfl rfl (Yd.not rfl) ?_
          refine DJ.done (by kernel_rfl) ?_
          refine CJ.condF rfl ?_
          refine CJ.skip ?_
          refine CJ.region ?_
          refine LJ.yd rfl (Yd.mvI rfl) ?_
          refine LJ.yd rfl (Yd.add rfl rfl (by unfold I64; omega)) ?_
          refine LJ.yd rfl (Yd.asI rfl) ?_
          refine LJ.nil ?_
          refine ⟨(i + 1), ?_, ⟨rfl, rfl, trivial⟩, ⟨rfl, trivial⟩, Ent.pick [0] [1] rfl, ?_⟩
          · omega
          · first | omega | (dsimp only; omega) | (simp only []; omega)
        · refine LJ.nil ?_
          refine CJ.condF rfl ?_
          refine CJ.exit ?_
          refine CJ.seq ?_
          refine CJ.region ?_
          refine LJ.yd rfl (Yd.asB rfl) ?_
          refine LJ.nil ?_
          refine CJ.ret ?_
          refine Fin.V (Res.one (ResV.tmp (v := .bool true) rfl)) ?_
          rfl
    · refine LJ.nil ?_
      refine CJ.seq ?_
      refine CJ.seq ?_
      refine CJ.region ?_
      refine LJ.yd rfl (Yd.mvB rfl) ?_
      refine LJ.yd rfl (Yd.loadG (us := [_, _, _]) 0 rfl rfl rfl rfl) ?_
      refine LJ.yd rfl (Yd.mvS rfl) ?_
      refine LJ.callV rfl (fun k hk dk => ValidPlacesS_ok hps.up (RdRow.up hlx) (by unfold I64; omega) (by unfold I64; omega) (by omega)) ?_
      refine LJ.yd rfl (Yd.cmpNF (Yd.neqB rfl rfl) (by simp [h5])) ?_
      refine LJ.yd rfl (Yd.mvB rfl) ?_
      refine LJ.gT rfl ?_
      refine LJ.yd rfl (Yd.mvB rfl) ?_
      refine LJ.gT rfl ?_
      refine LJ.yd rfl (Yd.not rfl) ?_
      refine LJ.yd rfl (Yd.pickFB rfl rfl) ?_
      refine LJ.nil ?_
      refine CJ.condT rfl ?_
      refine CJ.seq ?_
      refine CJ.region ?_
      refine LJ.yd rfl (Yd.mvB rfl) ?_
      refine LJ.yd rfl (Yd.loadG (us := [_, _, _]) 0 rfl rfl rfl rfl) ?_
      refine LJ.yd rfl (Yd.mvS rfl) ?_
      refine LJ.callV rfl (fun k hk dk => ValidPlacesS_ok hps.up (RdRow.up hlx) (by unfold I64; omega) (by unfold I64; omega) (by omega)) ?_
      refine LJ.yd rfl (Yd.cmpT (Yd.eqlB rfl rfl) (by simp [h5])) ?_
      refine LJ.yd rfl (Yd.asB rfl) ?_
      refine LJ.nil ?_
      refine CJ.ret ?_
      refine Fin.V (Res.one (ResV.tmp (v := .bool true) rfl)) ?_
      rfl
end Go.Proofs.Ytlpjienaennmaaa
