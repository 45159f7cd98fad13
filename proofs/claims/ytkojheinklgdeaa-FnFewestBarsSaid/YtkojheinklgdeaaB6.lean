/-
  The least number of bars; the law on it.
-/
import Derived.Test.YtkojheinklgdeaaB5
import Derived.Test.YtkojheinklgdeaaA9
namespace Go.Proofs.Ytkojheinklgdeaa
open Go
set_option maxRecDepth 20000
set_option maxHeartbeats 1000000

/-- the least number of bars -/
noncomputable def fbR (l : List Int) (bar : Int) : Int := if barsOk 7 l bar = true then fewN (okB l bar) (2 ^ l.length - 1) else -1
theorem bars7 {l : List Int} {bar : Int} : barsOk 7 l bar = true ↔ barsOk 20 l bar = true ∧ l.length ≤ 7 := by
  simp only [barsOk_iff]
  constructor
  · rintro ⟨⟨h1, h2, h3⟩, h4⟩; exact ⟨⟨⟨h1, h2, by omega⟩, h4⟩, by omega⟩
  · rintro ⟨⟨⟨h1, h2, h3⟩, h4⟩, h5⟩; exact ⟨⟨h1, h2, by omega⟩, h4⟩
theorem fewFit {A : Amb} {b1 b2 lc : Nat} {la : Option Addr} {l : List Int} {bar : Int} (hc1 : A.h.cell ⟨b1, 0, none⟩ = some (.slice la l.length lc)) (hc2 : A.h.cell ⟨b2, 0, none⟩ = some (vI bar)) (hl : RdL encI 1 A.h (.slice la l.length lc) l) (hb : ∀ u ∈ l, 0 ≤ u ∧ u ≤ 1000) (hn : l.length ≤ 7) :
    Fits A 59 [.pointer (some ⟨b1, 0, none⟩), .pointer (some ⟨b2, 0, none⟩)] l.length (okB l bar) := by
  intro B hB g hg hg2
  obtain ⟨hp1, hp2⟩ := pow_b hn
  replace hl : RdL encI 1 B.h (.slice la l.length lc) l := hl.up
  replace hc1 := Hp.cell_le hB.le hc1
  replace hc2 := Hp.cell_le hB.le hc2
  refine Ctr.body (args := [_, _, _]) Try.func59 rfl Try.ntmps59 Try.results59 (by simp) ?_
  refine CJ.seq ?_
  refine CJ.region ?_
  refine LJ.yd rfl (Yd.asB rfl) ?_
  refine LJ.nil ?_
  refine CJ.seq ?_
  refine CJ.regionD [] [] (by kernel_rfl) rfl ?_
  refine DJ.norm [] [] rfl rfl ?_
  refine DJ.yd 0 rfl (by kernel_rfl) (by kernel_rfl) (by kernel_rfl) rfl rfl (Yd.load rfl (Rdc.amb hc1)) ?_
  refine DJ.yd 1 rfl (by kernel_rfl) (by kernel_rfl) (by kernel_rfl) rfl rfl (Yd.mvI rfl) ?_
  refine DJ.yd 3 rfl (by kernel_rfl) (by kernel_rfl) (by kernel_rfl) rfl rfl (Yd.load rfl (Rdc.amb hc2)) ?_
  refine DJ.one (i := 2) (by kernel_rfl) ?_
  refine DO.callV rfl rfl rfl (fun k0 hk0 dk0 k hk dk => sumIn_ok (RdRow.up hl) hb (by omega) (by omega)) ?_
  refine DJ.yd 4 rfl (by kernel_rfl) (by kernel_rfl) (by kernel_rfl) rfl rfl (Yd.leq rfl rfl) ?_
  refine DJ.yd 5 rfl (by kernel_rfl) (by kernel_rfl) (by kernel_rfl) rfl rfl (Yd.asB rfl) ?_
  refine DJ.done (by kernel_rfl) ?_
  refine CJ.ret ?_
  refine Fin.V (Res.one (ResV.tmp (v := .bool _) rfl)) ?_
  rfl
theorem FewestBarsI_ok {A : Amb} {v : Value} {l : List Int} {bar : Int} (hl : RdL encI 1 A.h v l) : Ctr Try.prog 19 #[v, vI bar] A [] (Val (vI (fbR l bar))) := by
  obtain ⟨la, lc, rfl, hlb, hl⟩ := hl.un
  refine Ctr.body (args := [_, _]) Try.func19 rfl Try.ntmps19 Try.results19 (by simp) ?_
  refine CJ.seq ?_
  refine CJ.region ?_
  refine LJ.box1 (v := .slice _ _ _) rfl rfl rfl (fun b1 => ?_)
  refine LJ.box1 (v := .int _ _) rfl rfl rfl (fun b2 => ?_)
  refine LJ.yd rfl (Yd.asI rfl) ?_
  refine LJ.nil ?_
  refine CJ.seq ?_
  refine CJ.seq ?_
  refine CJ.region ?_
  refine LJ.yd rfl (Yd.loadC 0 rfl rfl rfl) ?_
  refine LJ.yd rfl (Yd.loadC 1 rfl rfl rfl) ?_
  refine LJ.callB rfl (fun k hk dk => barLengths_ok (RdRow.up hl)) (fun h7 => ?_) (fun h7 => ?_)
  · refine LJ.yd rfl (Yd.not rfl) ?_
    refine LJ.nil ?_
    refine CJ.condF rfl ?_
    refine CJ.skip ?_
    refine CJ.seq ?_
    obtain ⟨⟨hbk1, hbk2, hbk3⟩, hbk4⟩ := barsOk_iff.1 h7
    refine CJ.region ?_
    refine LJ.yd rfl (Yd.loadC 0 rfl rfl rfl) ?_
    refine LJ.yd rfl (Yd.len rfl) ?_
    refine LJ.yd rfl (Yd.makeFunc rfl) ?_
    refine LJ.callV rfl (fun k hk dk => fewestGroups_ok (fewFit (Sts.cel hk dk 0 rfl rfl) (Sts.cel hk dk 1 rfl rfl) hl.up (fun u hu => by have := hbk4 u hu; omega) (by omega)) (by omega)) ?_
    refine LJ.yd rfl (Yd.asI rfl) ?_
    refine LJ.nil ?_
    refine CJ.ret ?_
    refine Fin.V (Res.one (ResV.tmp (v := .int _ _) rfl)) ?_
    first
      | (rw [fbR, if_neg (by rw [h7]; simp)]; done)
      | (rw [fbR, if_pos h7]; done)
  · refine LJ.yd rfl (Yd.not rfl) ?_
    refine LJ.nil ?_
    refine CJ.condT rfl ?_
    refine CJ.seq ?_
    refine CJ.region ?_
    refine LJ.yd rfl (Yd.asI rfl) ?_
    refine LJ.nil ?_
    refine CJ.ret ?_
    refine Fin.V (Res.one (ResV.tmp (v := .int _ _) rfl)) ?_
    first
      | (rw [fbR, if_neg (by rw [h7]; simp)]; done)
      | (rw [fbR, if_pos h7]; done)
theorem FewestBarsS_ok {A : Amb} {v : Value} {l : List Int} {bar : Int} (hl : RdL encI 1 A.h v l) : Ctr Try.prog 20 #[v, vI bar] A [] (Val (vI (fbR l bar))) := by
  obtain ⟨la, lc, rfl, hlb, hl⟩ := hl.un
  refine Ctr.body (args := [_, _]) Try.func20 rfl Try.ntmps20 Try.results20 (by simp) ?_
  refine CJ.seq ?_
  refine CJ.region ?_
  refine LJ.yd rfl (Yd.asI rfl) ?_
  refine LJ.nil ?_
  refine CJ.seq ?_
  refine CJ.seq ?_
  refine CJ.region ?_
  refine LJ.yd rfl (Yd.mvS rfl) ?_
  refine LJ.yd rfl (Yd.mvI rfl) ?_
  refine LJ.callB rfl (fun k hk dk => validBars_ok (RdRow.up hl)) (fun h8 => ?_) (fun h8 => ?_)
  · refine LJ.yd rfl (Yd.not rfl) ?_
    refine LJ.yd rfl (Yd.mvB rfl) ?_
    refine LJ.gT rfl ?_
    refine LJ.yd rfl (Yd.mvS rfl) ?_
    refine LJ.gT rfl ?_
    refine LJ.yd rfl (Yd.len rfl) ?_
    refine LJ.gT rfl ?_
    refine LJ.splitD rfl (Yd.gtr rfl rfl) (fun h13 => ?_) (fun h13 => ?_)
    · refine LJ.yd rfl (Yd.pickFB rfl rfl) ?_
      refine LJ.nil ?_
      refine CJ.condT rfl ?_
      refine CJ.seq ?_
      refine CJ.region ?_
      refine LJ.yd rfl (Yd.asI rfl) ?_
      refine LJ.nil ?_
      refine CJ.ret ?_
      refine Fin.V (Res.one (ResV.tmp (v := .int _ _) rfl)) ?_
      first
        | (rw [fbR, if_neg (fun h => by have h2 := bars7.1 h; first | (rw [h2.1] at h8; cases h8; done) | omega)]; done)
        | (rw [fbR, if_pos h7, e23]; done)
    · refine LJ.yd rfl (Yd.pickFB rfl rfl) ?_
      refine LJ.nil ?_
      refine CJ.condF rfl ?_
      refine CJ.skip ?_
      refine CJ.seq ?_
      have h7 : barsOk 7 l bar = true := bars7.2 ⟨h8, by omega⟩
      obtain ⟨⟨hbk1, hbk2, hbk3⟩, hbk4⟩ := barsOk_iff.1 h7
      obtain ⟨hp1, hp2⟩ := pow_b (n := l.length) (by omega)
      refine CJ.region ?_
      refine LJ.yd rfl (Yd.mvS rfl) ?_
      refine LJ.yd rfl (Yd.mvI rfl) ?_
      refine LJ.call0 rfl (fun k hk dk => fewest_ok (RdRow.up hl) hbk4 (by omega) (by omega)) ?_
      rintro _ _ ⟨oa, oc, O, rfl, rfl, hOl, hO⟩
      refine LJ.norm [_] rfl ?_
      refine LJ.yd rfl (Yd.asS rfl) ?_
      refine LJ.nil ?_
      refine CJ.seq ?_
      refine CJ.region ?_
      refine LJ.yd rfl (Yd.mvS rfl) ?_
      refine LJ.yd rfl (Yd.mvS rfl) ?_
      refine LJ.yd rfl (Yd.len rfl) ?_
      refine LJ.yd rfl (Yd.sub rfl rfl (by unfold I64; omega)) ?_
      refine LJ.idxR 0 rfl rfl rfl rfl (by omega) (by first | rfl | omega | (simp; done) | (simp; omega) | (simp [upN_len]; omega) | (simp [idxBy_len]; omega) | (simp [marks_len]; omega) | (simp [upN_len]; done) | (simp [idxBy_len]; done) | (simp [marks_len]; done) | (simp at *; omega)) (by first | rfl | omega | (simp; done) | (simp; omega) | (simp [upN_len]; omega) | (simp [idxBy_len]; omega) | (simp [marks_len]; omega) | (simp [upN_len]; done) | (simp [idxBy_len]; done) | (simp [marks_len]; done) | (simp at *; omega)) (fun ib22 ia22 => ?_)
      refine LJ.ldR 0 0 (fun u => vI u) (fun _ => rfl) rfl ia22 rfl rfl rfl (by first | rfl | omega | (simp; done) | (simp; omega) | (simp [upN_len]; omega) | (simp [idxBy_len]; omega) | (simp [marks_len]; omega) | (simp [upN_len]; done) | (simp [idxBy_len]; done) | (simp [marks_len]; done) | (simp at *; omega)) (fun u23 hu23 => ?_)
      try simp only [Int.toNat_natCast] at hu23
      rw [show ((O.length : Int) - 1).toNat = 2 ^ l.length - 1 by omega, hO _ (by omega)] at hu23
      have e23 := Option.some.inj hu23
      refine LJ.yd rfl (Yd.asI rfl) ?_
      refine LJ.nil ?_
      refine CJ.ret ?_
      refine Fin.V (Res.one (ResV.tmp (v := .int _ _) rfl)) ?_
      first
        | (rw [fbR, if_neg (fun h => by have h2 := bars7.1 h; first | (rw [h2.1] at h8; cases h8; done) | omega)]; done)
        | (rw [fbR, if_pos h7, e23]; done)
  · refine LJ.yd rfl (Yd.not rfl) ?_
    refine LJ.yd rfl (Yd.mvB rfl) ?_
    refine LJ.gF rfl rfl ?_
    refine LJ.gF rfl rfl ?_
    refine LJ.gF rfl rfl ?_
    refine LJ.yd rfl (Yd.pickTB rfl rfl) ?_
    refine LJ.nil ?_
    refine CJ.condT rfl ?_
    refine CJ.seq ?_
    refine CJ.region ?_
    refine LJ.yd rfl (Yd.asI rfl) ?_
    refine LJ.nil ?_
    refine CJ.ret ?_
    refine Fin.V (Res.one (ResV.tmp (v := .int _ _) rfl)) ?_
    first
      | (rw [fbR, if_neg (fun h => by have h2 := bars7.1 h; first | (rw [h2.1] at h8; cases h8; done) | omega)]; done)
      | (rw [fbR, if_pos h7, e23]; done)
theorem sumL_drop {l : List Int} {k : Nat} {u : Int} (h : l[k]? = some u) : sumL (l.drop k) = u + sumL (l.drop (k + 1)) := by rw [dropC h]; rfl
theorem totalB_ok {A : Amb} {v : Value} {l : List Int} (hl : RdL encI 1 A.h v l) (hb : ∀ u ∈ l, 0 ≤ u ∧ u ≤ 1000) (hn : l.length ≤ 1000) : Ctr Try.prog 24 #[v] A [] (Val (vI (sumL l))) := by
  obtain ⟨la, lc, rfl, hlb, hl⟩ := hl.un
  refine Ctr.body (args := [_]) Try.func24 rfl Try.ntmps24 Try.results24 (by simp) ?_
  refine CJ.seq ?_
  refine CJ.region ?_
  refine LJ.yd rfl (Yd.asI rfl) ?_
  refine LJ.nil ?_
  refine CJ.seq ?_
  refine CJ.region ?_
  refine LJ.yd rfl (Yd.asI rfl) ?_
  refine LJ.nil ?_
  refine CJ.seq ?_
  refine CJ.seq ?_
  refine CJ.region ?_
  refine LJ.yd rfl (Yd.asI rfl) ?_
  refine LJ.nil ?_
  refine CJ.block ?_
  refine CJ.loopK [0, 2] (Nat × Int) (fun ⟨k, x⟩ => k ≤ l.length ∧ 0 ≤ x ∧ x ≤ 1000 * k ∧ x + sumL (l.drop k) = sumL l) (fun ⟨k, x⟩ => [(4, vI k), (3, vI x)]) (fun ⟨k, x⟩ => l.length - k) (0, 0) ?_ ⟨rfl, rfl, trivial⟩ ?_
  · exact ⟨by omega, by omega, by omega, by simp⟩
  · rintro ⟨k, x⟩ σ ⟨hk1, hx0, hx1, hx⟩
    refine CJ.seq ?_
    refine CJ.seq ?_
    refine CJ.region ?_
    refine LJ.yd rfl (Yd.mvI rfl) ?_
    refine LJ.yd rfl (Yd.mvS rfl) ?_
    refine LJ.yd rfl (Yd.len rfl) ?_
    refine LJ.splitD rfl (Yd.lss rfl rfl) (fun h8 => ?_) (fun h8 => ?_)
    · refine LJ.nil ?_
      refine CJ.condT rfl ?_
      refine CJ.skip ?_
      refine CJ.seq ?_
      refine CJ.block ?_
      refine CJ.region ?_
      refine LJ.yd rfl (Yd.mvI rfl) ?_
      refine LJ.yd rfl (Yd.mvS rfl) ?_
      refine LJ.yd rfl (Yd.mvI rfl) ?_
      refine LJ.idxA rfl hl rfl rfl (by omega) (by first | rfl | omega | (simp; done) | (simp; omega) | (simp [upN_len]; omega) | (simp [idxBy_len]; omega) | (simp [marks_len]; omega) | (simp [upN_len]; done) | (simp [idxBy_len]; done) | (simp [marks_len]; done) | (simp at *; omega)) (fun ib14 io14 ia14 ir14 => ?_)
      refine LJ.ldA 0 (fun u => vI u) (fun _ => rfl) ir14 rfl rfl rfl (by first | rfl | omega | (simp; done) | (simp; omega) | (simp [upN_len]; omega) | (simp [idxBy_len]; omega) | (simp [marks_len]; omega) | (simp [upN_len]; done) | (simp [idxBy_len]; done) | (simp [marks_len]; done) | (simp at *; omega)) (fun u15 hu15 => ?_)
      try simp only [Int.toNat_natCast] at hu15
      have hf15 := hb u15 (List.mem_of_getElem? hu15)
      refine LJ.yd rfl (Yd.add rfl rfl (by unfold I64; omega)) ?_
      refine LJ.yd rfl (Yd.asI rfl) ?_
      refine LJ.nil ?_
      refine CJ.region ?_
      refine LJ.yd rfl (Yd.mvI rfl) ?_
      refine LJ.yd rfl (Yd.add rfl rfl (by unfold I64; omega)) ?_
      refine LJ.yd rfl (Yd.asI rfl) ?_
      refine LJ.nil ?_
      refine ⟨(k + 1, _), ?_, ⟨rfl, rfl, trivial⟩, ⟨rfl, rfl, trivial⟩, Ent.refl _, ?_⟩
      · refine ⟨by omega, ?_⟩
        rw [sumL_drop hu15] at hx
        exact ⟨by omega, by omega, by omega⟩
      · first | omega | (dsimp only; omega) | (simp only []; omega)
    · refine LJ.nil ?_
      refine CJ.condF rfl ?_
      refine CJ.exit ?_
      refine CJ.seq ?_
      refine CJ.region ?_
      refine LJ.yd rfl (Yd.mvI rfl) ?_
      refine LJ.yd rfl (Yd.asI rfl) ?_
      refine LJ.nil ?_
      refine CJ.ret ?_
      refine Fin.V (Res.one (ResV.tmp (v := .int _ _) rfl)) ?_
      rw [List.drop_of_length_le (by omega)] at hx; rw [← hx]; simp [sumL]
theorem DrawFewestBars_ok {A : Amb} {a : Option Addr} {n c : Nat} (h : Code A.h a n c) : Ctr Try.prog 18 #[.slice a n c] A [] BarsL := by
  obtain ⟨hcode, hn, ha, hs⟩ := h
  refine Ctr.body (args := [_]) Try.func18 rfl Try.ntmps18 Try.results18 (by simp) ?_
  refine CJ.seq ?_
  refine CJ.region ?_
  refine LJ.yd rfl (Yd.asS rfl) ?_
  refine LJ.yd rfl (Yd.asI rfl) ?_
  refine LJ.nil ?_
  refine CJ.seq ?_
  refine CJ.region ?_
  refine LJ.yd rfl (Yd.mvS rfl) ?_
  refine LJ.call0 rfl (fun k hk dk => newReader_ok hn hcode.up ha hs) ?_
  rintro _ _ ⟨rb, n2, rfl, hn1, hn2, rfl⟩
  have hcode2 := hcode.le hn2
  refine LJ.yd rfl (Yd.asP rfl) ?_
  refine LJ.nil ?_
  refine CJ.seq ?_
  refine CJ.region ?_
  refine LJ.yd rfl (Yd.mvP rfl) ?_
  refine LJ.call (pickF _ []) (pickF _ [0]) rfl (perm_pickF _ [] [0] rfl) (fun k hk dk => barLengthsS_ok hcode2.up (by omega) (by omega)) ?_
  rintro _ _ ⟨l, bar, aa, m, cc, q, rfl, rfl, rfl, hq0, hq1, hl1, hb0, hb1, hl2⟩
  refine LJ.norm [_, _] rfl ?_
  refine LJ.yd rfl (Yd.mvU rfl) ?_
  refine LJ.yd rfl (Yd.extract rfl rfl) ?_
  refine LJ.yd rfl (Yd.extract rfl rfl) ?_
  refine LJ.yd rfl (Yd.asS rfl) ?_
  refine LJ.yd rfl (Yd.asI rfl) ?_
  refine LJ.nil ?_
  refine CJ.seq ?_
  refine CJ.seq ?_
  refine CJ.region ?_
  refine LJ.yd rfl (Yd.mvS rfl) ?_
  refine LJ.yd rfl (Yd.len rfl) ?_
  refine LJ.splitD rfl (Yd.gtr rfl rfl) (fun h16 => ?_) (fun h16 => ?_)
  · refine LJ.yd rfl (Yd.mvB rfl) ?_
    refine LJ.gT rfl ?_
    refine LJ.yd rfl (Yd.mvP rfl) ?_
    refine LJ.gT rfl ?_
    refine LJ.call (pickF _ [1]) (pickF _ [0]) rfl (perm_pickF _ [1] [0] rfl) (fun k hk dk => pick_ok (hcode2.up) (by omega) (by omega)) ?_
    rintro _ _ ⟨x19, rfl, hx19, hy19, rfl⟩
    refine LJ.norm [_, _] rfl ?_
    refine LJ.gT rfl ?_
    refine LJ.splitD rfl (Yd.gtr rfl rfl) (fun h20 => ?_) (fun h20 => ?_)
    · refine LJ.yd rfl (Yd.pickTB rfl rfl) ?_
      refine LJ.nil ?_
      refine CJ.condT rfl ?_
      refine CJ.region ?_
      refine LJ.yd rfl (Yd.mvS rfl) ?_
      refine LJ.slHR 0 rfl rfl rfl rfl (by omega) (by first | rfl | omega | (simp; done) | (simp; omega) | (simp [upN_len]; omega) | (simp [idxBy_len]; omega) | (simp [marks_len]; omega) | (simp [upN_len]; done) | (simp [idxBy_len]; done) | (simp [marks_len]; done) | (simp at *; omega)) (fun sm23 hsm23 hs23 => ?_)
      refine LJ.yd rfl (Yd.asS rfl) ?_
      refine LJ.nil ?_
      refine CJ.seq ?_
      refine CJ.region ?_
      refine LJ.yd rfl (Yd.mvS rfl) ?_
      refine LJ.yd rfl (Yd.mvI rfl) ?_
      refine LJ.yd rfl (Yd.asS rfl) ?_
      refine LJ.yd rfl (Yd.asI rfl) ?_
      refine LJ.nil ?_
      refine CJ.ret ?_
      exact Fin.R [_] (Res.two (ResV.tmp (v := .slice _ _ _) rfl) (ResV.tmp (v := .int _ _) rfl)) ⟨l.take sm23, _, _, _, _, rfl, rfl, by simp; omega, by simp; omega, hb0, hb1, fun u hu => hl2 u (List.mem_of_mem_take hu)⟩ (Ent.thn (Ent.impAt 0 rfl (fun _ r => Row.shorten sm23 (by omega) r)) (Ent.pick [0] [1] rfl))
    · refine LJ.yd rfl (Yd.pickTB rfl rfl) ?_
      refine LJ.nil ?_
      refine CJ.condF rfl ?_
      refine CJ.skip ?_
      refine CJ.seq ?_
      refine CJ.region ?_
      refine LJ.yd rfl (Yd.mvS rfl) ?_
      refine LJ.yd rfl (Yd.mvI rfl) ?_
      refine LJ.yd rfl (Yd.asS rfl) ?_
      refine LJ.yd rfl (Yd.asI rfl) ?_
      refine LJ.nil ?_
      refine CJ.ret ?_
      exact Fin.R [_] (Res.two (ResV.tmp (v := .slice _ _ _) rfl) (ResV.tmp (v := .int _ _) rfl)) ⟨_, _, _, _, _, rfl, rfl, rfl, hl1, hb0, hb1, hl2⟩ (Ent.pick [0] [1] rfl)
  · refine LJ.yd rfl (Yd.mvB rfl) ?_
    refine LJ.gF rfl rfl ?_
    refine LJ.gF rfl rfl ?_
    refine LJ.gF rfl rfl ?_
    refine LJ.yd rfl (Yd.pickFB rfl rfl) ?_
    refine LJ.nil ?_
    refine CJ.condF rfl ?_
    refine CJ.skip ?_
    refine CJ.seq ?_
    refine CJ.region ?_
    refine LJ.yd rfl (Yd.mvS rfl) ?_
    refine LJ.yd rfl (Yd.mvI rfl) ?_
    refine LJ.yd rfl (Yd.asS rfl) ?_
    refine LJ.yd rfl (Yd.asI rfl) ?_
    refine LJ.nil ?_
    refine CJ.ret ?_
    exact Fin.R [_] (Res.two (ResV.tmp (v := .slice _ _ _) rfl) (ResV.tmp (v := .int _ _) rfl)) ⟨_, _, _, _, _, rfl, rfl, rfl, hl1, hb0, hb1, hl2⟩ (Ent.pick [1] [0] rfl)
theorem FirstFitI_b {A : Amb} {v : Value} {l : List Int} {bar : Int} (hl : RdL encI 1 A.h v l) (hb : barsOk 20 l bar = true) : Ctr Try.prog 22 #[v, vI bar] A [] (RLP encI 3 1 (ffit l bar (upN l.length))) := by
  have := FirstFitI_ok (bar := bar) hl
  rwa [if_pos hb] at this
theorem FirstFitDownI_b {A : Amb} {v : Value} {l : List Int} {bar : Int} (hl : RdL encI 1 A.h v l) (hb : barsOk 20 l bar = true) : Ctr Try.prog 23 #[v, vI bar] A [] (RLP encI 3 1 (ffit l bar (idxBy (ltF l) l.length))) := by
  have := FirstFitDownI_ok (bar := bar) hl
  rwa [if_pos hb] at this
theorem highest_b {A : Amb} {v : Value} {l : List Int} {x : Int} (hl : RdL encI 1 A.h v l) (e : mx l = x) : Ctr Try.prog 21 #[v] A [] (Val (vI x)) := e ▸ highest_ok hl
/-- what is told of the least number of bars -/
theorem fb_facts {l : List Int} {bar : Int} (h : ¬ fbR l bar < 1) : barsOk 20 l bar = true ∧ 0 < l.length ∧ fbR l bar ≤ 7 ∧
    mx (ffit l bar (upN l.length)) = ((ffS l bar (upN l.length)).length : Int) - 1 ∧ mx (ffit l bar (idxBy (ltF l) l.length)) = ((ffS l bar (idxBy (ltF l) l.length)).length : Int) - 1 ∧
    fbR l bar ≤ (ffS l bar (upN l.length)).length ∧ fbR l bar ≤ (ffS l bar (idxBy (ltF l) l.length)).length ∧
    2 * ((ffS l bar (idxBy (ltF l) l.length)).length : Int) ≤ 3 * fbR l bar ∧ 10 * ((ffS l bar (upN l.length)).length : Int) ≤ 17 * fbR l bar ∧ sumL l ≤ fbR l bar * bar := by
  by_cases h7 : barsOk 7 l bar = true
  · have e : fbR l bar = fewN (okB l bar) (2 ^ l.length - 1) := if_pos h7
    rw [e] at h ⊢
    have hf := fewN_ok (okB l bar) (2 ^ l.length - 1)
    generalize fewN (okB l bar) (2 ^ l.length - 1) = v at *
    obtain ⟨h20, hn⟩ := bars7.1 h7
    have hm := (barsOk_iff.1 h7).2
    have h0 : 0 < l.length := by
      rcases Nat.eq_zero_or_pos l.length with h0 | h0
      · rw [h0] at hf
        have := hf.uniq Few.zero
        omega
      · exact h0
    have p1 := List.Perm.refl (upN l.length)
    have p2 := idxBy_perm (ltF l) l.length
    have hb := hf.bound (n := l.length) (by have := Nat.one_le_two_pow (n := l.length); omega)
    obtain ⟨m, hv, hpt, _⟩ := hf.resolve_left fun h => by omega
    refine ⟨h20, h0, by omega, ff_mx hm p1 h0 0 (by omega), ff_mx hm p2 h0 0 (by omega), ff_few hm p1 hf, ff_few hm p2 hf, ?_, ff_ratio hm p1 hn hf (by omega), by rw [hv]; exact few_sum hpt⟩
    rw [ffS_V]
    exact ffd_ratio hm (falling_dn l) (vals_perm p2) hf (by omega)
  · exfalso; rw [fbR, if_neg h7] at h; omega
theorem FnFewestBars_ok {A : Amb} {a : Option Addr} {n c : Nat} (hc : Code A.h a n c) : Ctr Try.prog 5 #[.slice a n c] A [] (Val (.bool true)) := by
  have hcc := hc
  obtain ⟨hcode, hn, ha, hs⟩ := hcc
  refine Ctr.body (args := [_]) Try.func5 rfl Try.ntmps5 Try.results5 (by simp) ?_
  refine CJ.seq ?_
  refine CJ.region ?_
  refine LJ.yd rfl (Yd.asB rfl) ?_
  refine LJ.nil ?_
  refine CJ.seq ?_
  refine CJ.seq ?_
  refine CJ.region ?_
  refine LJ.yd rfl (Yd.mvS rfl) ?_
  refine LJ.yd rfl (Yd.len rfl) ?_
  refine LJ.splitD rfl (Yd.gtr rfl rfl) (fun h10 => ?_) (fun h10 => ?_)
  · refine LJ.nil ?_
    refine CJ.condT rfl ?_
    refine CJ.seq ?_
    refine CJ.region ?_
    refine LJ.yd rfl (Yd.asB rfl) ?_
    refine LJ.nil ?_
    refine CJ.ret ?_
    refine Fin.V (Res.one (ResV.tmp (v := .bool true) rfl)) ?_
    first
      | rfl
      | (refine congrArg Value.bool (decide_eq_true ?_); first | rfl | omega)
  · refine LJ.nil ?_
    refine CJ.condF rfl ?_
    refine CJ.skip ?_
    refine CJ.seq ?_
    refine CJ.region ?_
    refine LJ.yd rfl (Yd.mvS rfl) ?_
    refine LJ.call0 rfl (fun k hk dk => DrawFewestBars_ok hc.up) ?_
    rintro _ _ ⟨l, bar, aa, m, cc, rfl, rfl, rfl, hl1, hb0, hb1, hl2⟩
    refine LJ.norm [_] rfl ?_
    refine LJ.yd rfl (Yd.mvU rfl) ?_
    refine LJ.yd rfl (Yd.extract rfl rfl) ?_
    refine LJ.yd rfl (Yd.extract rfl rfl) ?_
    refine LJ.yd rfl (Yd.asS rfl) ?_
    refine LJ.yd rfl (Yd.asI rfl) ?_
    refine LJ.nil ?_
    refine CJ.seq ?_
    refine CJ.region ?_
    refine LJ.yd rfl (Yd.mvS rfl) ?_
    refine LJ.yd rfl (Yd.mvI rfl) ?_
    refine LJ.callV rfl (fun k hk dk => FewestBarsI_ok (Sts.lrm hk dk 0 (by first | omega | (rw [ffit_len]; omega)) (by first | rfl | omega | (simp; done) | (simp; omega) | (simp [upN_len]; omega) | (simp [idxBy_len]; omega) | (simp [marks_len]; omega) | (simp [upN_len]; done) | (simp [idxBy_len]; done) | (simp [marks_len]; done) | (simp at *; omega)) rfl)) ?_
    refine LJ.yd rfl (Yd.asI rfl) ?_
    refine LJ.nil ?_
    refine CJ.seq ?_
    refine CJ.seq ?_
    refine CJ.region ?_
    refine LJ.yd rfl (Yd.mvI rfl) ?_
    refine LJ.yd rfl (Yd.mvS rfl) ?_
    refine LJ.yd rfl (Yd.mvI rfl) ?_
    refine LJ.callV rfl (fun k hk dk => FewestBarsS_ok (Sts.lrm hk dk 0 (by first | omega | (rw [ffit_len]; omega)) (by first | rfl | omega | (simp; done) | (simp; omega) | (simp [upN_len]; omega) | (simp [idxBy_len]; omega) | (simp [marks_len]; omega) | (simp [upN_len]; done) | (simp [idxBy_len]; done) | (simp [marks_len]; done) | (simp at *; omega)) rfl)) ?_
    refine LJ.yd rfl (Yd.cmpNF (Yd.neq rfl rfl) (by omega)) ?_
    refine LJ.yd rfl (Yd.mvB rfl) ?_
    refine LJ.gT rfl ?_
    refine LJ.yd rfl (Yd.mvI rfl) ?_
    refine LJ.gT rfl ?_
    refine LJ.splitD rfl (Yd.lss rfl rfl) (fun h26 => ?_) (fun h26 => ?_)
    · refine LJ.yd rfl (Yd.pickFB rfl rfl) ?_
      refine LJ.nil ?_
      refine CJ.condT rfl ?_
      refine CJ.seq ?_
      refine CJ.region ?_
      refine LJ.yd rfl (Yd.mvI rfl) ?_
      refine LJ.yd rfl (Yd.mvS rfl) ?_
      refine LJ.yd rfl (Yd.mvI rfl) ?_
      refine LJ.callV rfl (fun k hk dk => FewestBarsS_ok (Sts.lrm hk dk 0 (by first | omega | (rw [ffit_len]; omega)) (by first | rfl | omega | (simp; done) | (simp; omega) | (simp [upN_len]; omega) | (simp [idxBy_len]; omega) | (simp [marks_len]; omega) | (simp [upN_len]; done) | (simp [idxBy_len]; done) | (simp [marks_len]; done) | (simp at *; omega)) rfl)) ?_
      refine LJ.yd rfl (Yd.eql rfl rfl) ?_
      refine LJ.yd rfl (Yd.asB rfl) ?_
      refine LJ.nil ?_
      refine CJ.ret ?_
      refine Fin.V (Res.one (ResV.tmp (v := .bool _) rfl)) ?_
      first
        | rfl
        | (refine congrArg Value.bool (decide_eq_true ?_); first | rfl | omega)
    · refine LJ.yd rfl (Yd.pickFB rfl rfl) ?_
      refine LJ.nil ?_
      refine CJ.condF rfl ?_
      refine CJ.skip ?_
      refine CJ.seq ?_
      obtain ⟨hbo, h0l, hf7, hm1, hm2, hq1, hq2, hq3, hq4, hq5⟩ := fb_facts h26
      have hle1 := ffS_le l bar (upN l.length)
      have hle2 := ffS_le l bar (idxBy (ltF l) l.length)
      rw [upN_len] at hle1
      rw [idxBy_len] at hle2
      have hmu1 : fbR l bar * bar ≤ 7 * bar := Int.mul_le_mul_of_nonneg_right hf7 (by omega)
      have hmu0 : 0 * bar ≤ fbR l bar * bar := Int.mul_le_mul_of_nonneg_right (by omega) (by omega)
      refine CJ.region ?_
      refine LJ.yd rfl (Yd.mvS rfl) ?_
      refine LJ.yd rfl (Yd.mvI rfl) ?_
      refine LJ.call0 rfl (fun k hk dk => FirstFitI_b (Sts.lrm hk dk 0 (by first | omega | (rw [ffit_len]; omega)) (by first | rfl | omega | (simp; done) | (simp; omega) | (simp [upN_len]; omega) | (simp [idxBy_len]; omega) | (simp [marks_len]; omega) | (simp [upN_len]; done) | (simp [idxBy_len]; done) | (simp [marks_len]; done) | (simp at *; omega)) rfl) hbo) ?_
      rintro _ _ ⟨ra35, rc35, rfl, rfl⟩
      refine LJ.norm [_, _] rfl ?_
      refine LJ.callV rfl (fun k hk dk => highest_b (Sts.lrm hk dk 1 (by first | omega | (rw [ffit_len]; omega)) (by first | rfl | omega | (simp; done) | (simp; omega) | (simp [upN_len]; omega) | (simp [idxBy_len]; omega) | (simp [marks_len]; omega) | (simp [upN_len]; done) | (simp [idxBy_len]; done) | (simp [marks_len]; done) | (simp at *; omega)) rfl) hm1) ?_
      refine LJ.yd rfl (Yd.add rfl rfl (by unfold I64; omega)) ?_
      refine LJ.yd rfl (Yd.asI rfl) ?_
      refine LJ.nil ?_
      refine CJ.seq ?_
      refine CJ.region ?_
      refine LJ.yd rfl (Yd.mvS rfl) ?_
      refine LJ.yd rfl (Yd.mvI rfl) ?_
      refine LJ.call0 rfl (fun k hk dk => FirstFitDownI_b (Sts.lrm hk dk 0 (by first | omega | (rw [ffit_len]; omega)) (by first | rfl | omega | (simp; done) | (simp; omega) | (simp [upN_len]; omega) | (simp [idxBy_len]; omega) | (simp [marks_len]; omega) | (simp [upN_len]; done) | (simp [idxBy_len]; done) | (simp [marks_len]; done) | (simp at *; omega)) rfl) hbo) ?_
      rintro _ _ ⟨ra40, rc40, rfl, rfl⟩
      refine LJ.norm [_, _, _] rfl ?_
      refine LJ.callV rfl (fun k hk dk => highest_b (Sts.lrm hk dk 2 (by first | omega | (rw [ffit_len]; omega)) (by first | rfl | omega | (simp; done) | (simp; omega) | (simp [upN_len]; omega) | (simp [idxBy_len]; omega) | (simp [marks_len]; omega) | (simp [upN_len]; done) | (simp [idxBy_len]; done) | (simp [marks_len]; done) | (simp at *; omega)) rfl) hm2) ?_
      refine LJ.yd rfl (Yd.add rfl rfl (by unfold I64; omega)) ?_
      refine LJ.yd rfl (Yd.asI rfl) ?_
      refine LJ.nil ?_
      refine CJ.seq ?_
      refine CJ.region ?_
      refine LJ.yd rfl (Yd.mvI rfl) ?_
      refine LJ.yd rfl (Yd.mvI rfl) ?_
      refine LJ.yd rfl (Yd.cmpT (Yd.leq rfl rfl) (by omega)) ?_
      refine LJ.yd rfl (Yd.mvB rfl) ?_
      refine LJ.gT rfl ?_
      refine LJ.yd rfl (Yd.mvI rfl) ?_
      refine LJ.gT rfl ?_
      refine LJ.yd rfl (Yd.mvI rfl) ?_
      refine LJ.gT rfl ?_
      refine LJ.yd rfl (Yd.cmpT (Yd.leq rfl rfl) (by omega)) ?_
      refine LJ.yd rfl (Yd.pickTB rfl rfl) ?_
      refine LJ.yd rfl (Yd.mvB rfl) ?_
      refine LJ.gT rfl ?_
      refine LJ.yd rfl (Yd.mvI rfl) ?_
      refine LJ.gT rfl ?_
      refine LJ.yd rfl (Yd.mul rfl rfl (by unfold I64; omega)) ?_
      refine LJ.gT rfl ?_
      refine LJ.yd rfl (Yd.mvI rfl) ?_
      refine LJ.gT rfl ?_
      refine LJ.yd rfl (Yd.mul rfl rfl (by unfold I64; omega)) ?_
      refine LJ.gT rfl ?_
      refine LJ.yd rfl (Yd.cmpT (Yd.leq rfl rfl) (by omega)) ?_
      refine LJ.yd rfl (Yd.pickTB rfl rfl) ?_
      refine LJ.yd rfl (Yd.mvB rfl) ?_
      refine LJ.gT rfl ?_
      refine LJ.yd rfl (Yd.mvI rfl) ?_
      refine LJ.gT rfl ?_
      refine LJ.yd rfl (Yd.mul rfl rfl (by unfold I64; omega)) ?_
      refine LJ.gT rfl ?_
      refine LJ.yd rfl (Yd.mvI rfl) ?_
      refine LJ.gT rfl ?_
      refine LJ.yd rfl (Yd.mul rfl rfl (by unfold I64; omega)) ?_
      refine LJ.gT rfl ?_
      refine LJ.yd rfl (Yd.cmpT (Yd.leq rfl rfl) (by omega)) ?_
      refine LJ.yd rfl (Yd.pickTB rfl rfl) ?_
      refine LJ.yd rfl (Yd.mvB rfl) ?_
      refine LJ.gT rfl ?_
      refine LJ.yd rfl (Yd.mvI rfl) ?_
      refine LJ.gT rfl ?_
      refine LJ.yd rfl (Yd.mvI rfl) ?_
      refine LJ.gT rfl ?_
      refine LJ.yd rfl (Yd.mul rfl rfl (by unfold I64; omega)) ?_
      refine LJ.gT rfl ?_
      refine LJ.yd rfl (Yd.mvS rfl) ?_
      refine LJ.gT rfl ?_
      refine LJ.callV rfl (fun k hk dk => totalB_ok (Sts.lrm hk dk 0 (by first | omega | (rw [ffit_len]; omega)) (by first | rfl | omega | (simp; done) | (simp; omega) | (simp [upN_len]; omega) | (simp [idxBy_len]; omega) | (simp [marks_len]; omega) | (simp [upN_len]; done) | (simp [idxBy_len]; done) | (simp [marks_len]; done) | (simp at *; omega)) rfl) (fun u hu => by have := hl2 u hu; omega) (by omega)) ?_
      refine LJ.gT rfl ?_
      refine LJ.yd rfl (Yd.geq rfl rfl) ?_
      refine LJ.yd rfl (Yd.pickTB rfl rfl) ?_
      refine LJ.yd rfl (Yd.asB rfl) ?_
      refine LJ.nil ?_
      refine CJ.ret ?_
      refine Fin.V (Res.one (ResV.tmp (v := .bool _) rfl)) ?_
      first
        | rfl
        | (refine congrArg Value.bool (decide_eq_true ?_); first | rfl | omega)
end Go.Proofs.Ytkojheinklgdeaa
