/-
  All panes cut from a sheet: the exact law.
-/
import Derived.Test.YtkojheinklgdeaaCF4
import Derived.Test.YtkojheinklgdeaaEW
namespace Go.Proofs.Ytkojheinklgdeaa
open Go
set_option maxRecDepth 20000
set_option maxHeartbeats 1000000

theorem CutsFromS_ok {A : Amb} {W H : Int} {v : Value} {ps : List Pane} (hl : RdL Pane.enc 4 A.h v ps) : Ctr Try.prog 34 #[.agg #[vI W, vI H, v]] A [] (Val (.bool (cfR W H ps))) := by
  obtain ⟨la, lc, rfl, hlb, hl⟩ := hl.un
  refine Ctr.body (args := [_]) Try.func34 rfl Try.ntmps34 Try.results34 (by simp) ?_
  refine CJ.seq ?_
  refine CJ.region ?_
  refine LJ.boxG (vs := [_, _, _]) rfl rfl (fun b1 => ?_)
  refine LJ.yd rfl (Yd.asB rfl) ?_
  refine LJ.nil ?_
  refine CJ.seq ?_
  refine CJ.seq ?_
  refine CJ.region ?_
  refine LJ.yd rfl (Yd.loadG (us := [_, _, _]) 0 rfl rfl rfl rfl) ?_
  refine LJ.callB rfl (fun k hk dk => validFew_ok hl.up) (fun h5 => ?_) (fun h5 => ?_)
  · refine LJ.yd rfl (Yd.not rfl) ?_
    refine LJ.nil ?_
    refine CJ.condF rfl ?_
    refine CJ.skip ?_
    refine CJ.seq ?_
    obtain ⟨hk1, hk2, hk3, hk4, hk5⟩ := cfOk_iff.1 h5
    obtain ⟨hw1, hw2, hw3, hw4, hw5, hw6⟩ := workOk_iff.1 hk1
    obtain ⟨hp1, hp2⟩ := pow4 hk2
    obtain ⟨W, rfl⟩ := Int.eq_ofNat_of_zero_le (show 0 ≤ W by omega)
    obtain ⟨H, rfl⟩ := Int.eq_ofNat_of_zero_le (show 0 ≤ H by omega)
    obtain ⟨N, hN⟩ : ∃ N, N = (W + 1) * (H + 1) := ⟨_, rfl⟩
    obtain ⟨q, hq, hqi, hqb⟩ := mulb (x := W) (H := H) (by omega) (by omega)
    have hlt := idx_lt (x := W) (h := H) hN (by omega) (by omega)
    rw [← hq] at hlt
    refine CJ.region ?_
    refine LJ.yd rfl (Yd.loadG (us := [_, _, _]) 0 rfl rfl rfl rfl) ?_
    refine LJ.call0 rfl (fun k hk dk => cutTable_ok hl.up h5) ?_
    rintro _ _ ⟨ta, tc, X, rfl, rfl, hXl, hX⟩
    refine LJ.norm [_, _, _] rfl ?_
    refine LJ.yd rfl (Yd.asS rfl) ?_
    refine LJ.nil ?_
    refine CJ.seq ?_
    rw [Int.toNat_natCast, Int.toNat_natCast, ← hN] at hX
    refine CJ.regionD [0, 1, 2] [] (by kernel_rfl) rfl ?_
    refine DJ.norm [_, _, _] [] rfl rfl ?_
    refine DJ.yd 0 rfl (by kernel_rfl) (by kernel_rfl) (by kernel_rfl) rfl rfl (Yd.mvS rfl) ?_
    refine DJ.yd 1 rfl (by kernel_rfl) (by kernel_rfl) (by kernel_rfl) rfl rfl (Yd.mvS rfl) ?_
    refine DJ.yd 2 rfl (by kernel_rfl) (by kernel_rfl) (by kernel_rfl) rfl rfl (Yd.len rfl) ?_
    refine DJ.yd 3 rfl (by kernel_rfl) (by kernel_rfl) (by kernel_rfl) rfl rfl (Yd.sub rfl rfl (by unfold I64; omega)) ?_
    refine DJ.idxF 1 rfl 4 rfl (by kernel_rfl) (by kernel_rfl) (by kernel_rfl) rfl rfl rfl rfl (by omega) (by first | rfl | omega | (simp; done) | (simp; omega) | (simp [upN_len]; omega) | (simp [idxBy_len]; omega) | (simp [marks_len]; omega) | (simp [upN_len]; done) | (simp [idxBy_len]; done) | (simp [marks_len]; done) | (simp at *; omega)) (by first | rfl | omega | (simp; done) | (simp; omega) | (simp [upN_len]; omega) | (simp [idxBy_len]; omega) | (simp [marks_len]; omega) | (simp [upN_len]; done) | (simp [idxBy_len]; done) | (simp [marks_len]; done) | (simp at *; omega)) (fun ib13 ia13 => ?_)
    refine DJ.ldF 5 rfl (by kernel_rfl) (by kernel_rfl) (by kernel_rfl) rfl rfl 1 0 (fun u => .slice u.a u.l.length u.c) (fun _ => rfl) rfl ia13 rfl rfl (by first | rfl | omega | (simp; done) | (simp; omega) | (simp [upN_len]; omega) | (simp [idxBy_len]; omega) | (simp [marks_len]; omega) | (simp [upN_len]; done) | (simp [idxBy_len]; done) | (simp [marks_len]; done) | (simp at *; omega)) (fun u14 hu14 => ?_)
    try simp only [Int.toNat_natCast] at hu14
    rw [show ((X.length : Int) - 1).toNat = 2 ^ ps.length - 1 by omega] at hu14
    obtain ⟨hl14, hv14⟩ := hX _ _ hu14
    refine DJ.yd 6 rfl (by kernel_rfl) (by kernel_rfl) (by kernel_rfl) rfl rfl (Yd.fieldAddr rfl) ?_
    refine DJ.yd 7 rfl (by kernel_rfl) (by kernel_rfl) (by kernel_rfl) rfl rfl (Yd.loadC 0 rfl rfl rfl) ?_
    refine DJ.yd 8 rfl (by kernel_rfl) (by kernel_rfl) (by kernel_rfl) rfl rfl (Yd.fieldAddr rfl) ?_
    refine DJ.yd 9 rfl (by kernel_rfl) (by kernel_rfl) (by kernel_rfl) rfl rfl (Yd.loadC 0 rfl rfl rfl) ?_
    refine DJ.yd 10 rfl (by kernel_rfl) (by kernel_rfl) (by kernel_rfl) rfl rfl (Yd.add rfl rfl (by unfold I64; omega)) ?_
    refine DJ.yd 11 rfl (by kernel_rfl) (by kernel_rfl) (by kernel_rfl) rfl rfl (Yd.mul rfl rfl (by unfold I64; omega)) ?_
    refine DJ.yd 12 rfl (by kernel_rfl) (by kernel_rfl) (by kernel_rfl) rfl rfl (Yd.fieldAddr rfl) ?_
    refine DJ.yd 13 rfl (by kernel_rfl) (by kernel_rfl) (by kernel_rfl) rfl rfl (Yd.loadC 0 rfl rfl rfl) ?_
    refine DJ.yd 14 rfl (by kernel_rfl) (by kernel_rfl) (by kernel_rfl) rfl rfl (Yd.add rfl rfl (by unfold I64; omega)) ?_
    refine DJ.idxN (enc := encB) 2 rfl hu14 15 rfl (by kernel_rfl) (by kernel_rfl) (by kernel_rfl) rfl rfl rfl rfl (by omega) (by first | rfl | omega | (simp; done) | (simp; omega) | (simp [upN_len]; omega) | (simp [idxBy_len]; omega) | (simp [marks_len]; omega) | (simp [upN_len]; done) | (simp [idxBy_len]; done) | (simp [marks_len]; done) | (simp at *; omega)) (fun ib24 ia24 => ?_)
    refine DJ.ldN (i := 16) (enc := encB) rfl (by kernel_rfl) (by kernel_rfl) (by kernel_rfl) rfl rfl 2 0 (fun u => .bool u) (fun _ => rfl) rfl hu14 ia24 rfl rfl (by first | rfl | omega | (simp; done) | (simp; omega) | (simp [upN_len]; omega) | (simp [idxBy_len]; omega) | (simp [marks_len]; omega) | (simp [upN_len]; done) | (simp [idxBy_len]; done) | (simp [marks_len]; done) | (simp at *; omega)) (fun u25 hu25 => ?_)
    try simp only [Int.toNat_natCast] at hu25
    refine DJ.yd 17 rfl (by kernel_rfl) (by kernel_rfl) (by kernel_rfl) rfl rfl (Yd.asB rfl) ?_
    refine DJ.done (by kernel_rfl) ?_
    refine CJ.ret ?_
    refine Fin.V (Res.one (ResV.tmp (v := .bool _) rfl)) ?_
    first
      | (rw [cfR, h5]; rfl)
      | (have := hv14 W H (by omega) (by omega) (by omega) (by omega) (by omega)
         rw [show ((W : Int) * ((H : Int) + 1) + (H : Int)).toNat = W * (H + 1) + H by omega, this] at hu25
         rw [cfR, h5, Int.toNat_natCast, Int.toNat_natCast, ← Option.some.inj hu25]; rfl)
  · refine LJ.yd rfl (Yd.not rfl) ?_
    refine LJ.nil ?_
    refine CJ.condT rfl ?_
    refine CJ.seq ?_
    refine CJ.region ?_
    refine LJ.yd rfl (Yd.asB rfl) ?_
    refine LJ.nil ?_
    refine CJ.ret ?_
    refine Fin.V (Res.one (ResV.tmp (v := .bool false) rfl)) ?_
    first
      | (rw [cfR, h5]; rfl)
      | (have := hv14 W H (by omega) (by omega) (by omega) (by omega) (by omega)
         rw [show ((W : Int) * ((H : Int) + 1) + (H : Int)).toNat = W * (H + 1) + H by omega, this] at hu25
         rw [cfR, h5, Int.toNat_natCast, Int.toNat_natCast, ← Option.some.inj hu25]; rfl)
theorem FnExactCutsFrom_ok {A : Amb} {W H : Int} {a : Option Addr} {n c : Nat} {ps : List Pane} (hn : n ≤ 9223372036854775807) (hp : n ≤ 1048576 → RdL Pane.enc 4 A.h (.slice a n c) ps ∧ n = ps.length) :
    Ctr Try.prog 9 #[.agg #[vI W, vI H, .slice a n c]] A [] (Val (.bool true)) := by
  refine Ctr.body (args := [_]) Try.func9 rfl Try.ntmps9 Try.results9 (by simp) ?_
  refine CJ.seq ?_
  refine CJ.region ?_
  refine LJ.boxG (vs := [_, _, _]) rfl rfl (fun b1 => ?_)
  refine LJ.yd rfl (Yd.asB rfl) ?_
  refine LJ.nil ?_
  refine CJ.seq ?_
  refine CJ.region ?_
  refine LJ.yd rfl (Yd.asI rfl) ?_
  refine LJ.nil ?_
  refine CJ.seq ?_
  refine CJ.region ?_
  refine LJ.yd rfl (Yd.loadG (us := [_, _, _]) 0 rfl rfl rfl rfl) ?_
  refine LJ.yd rfl (Yd.mvI rfl) ?_
  refine LJ.callV rfl (fun k hk dk => szWork_ok hn (by omega) (by omega)) ?_
  refine LJ.yd rfl (Yd.asI rfl) ?_
  refine LJ.nil ?_
  refine CJ.seq ?_
  refine CJ.seq ?_
  refine CJ.region ?_
  refine LJ.yd rfl (Yd.mvI rfl) ?_
  refine LJ.splitD rfl (Yd.lss rfl rfl) (fun h11 => ?_) (fun h11 => ?_)
  · refine LJ.nil ?_
    refine CJ.condT rfl ?_
    refine CJ.seq ?_
    refine CJ.region ?_
    refine LJ.yd rfl (Yd.asB rfl) ?_
    refine LJ.nil ?_
    refine CJ.ret ?_
    refine Fin.V (Res.one (ResV.tmp (v := .bool true) rfl)) ?_
    rfl
  · refine LJ.nil ?_
    refine CJ.condF rfl ?_
    refine CJ.skip ?_
    refine CJ.seq ?_
    have hn1 : n ≤ 1048576 := by by_cases hz : (1048576 : Int) - n < 0 <;> omega
    obtain ⟨hps, hnl⟩ := hp hn1
    refine CJ.region ?_
    refine LJ.yd rfl (Yd.loadG (us := [_, _, _]) 0 rfl rfl rfl rfl) ?_
    refine LJ.call0 rfl (fun k hk dk => toWork_ok hps.up (by omega)) ?_
    rintro _ _ ⟨xa13, xc13, rfl, rfl⟩
    refine LJ.norm [_, _] rfl ?_
    refine LJ.callV rfl (fun k hk dk => CutsFromS_ok (Sts.lr hk dk 1 (by omega) rfl)) ?_
    refine LJ.yd rfl (Yd.asB rfl) ?_
    refine LJ.nil ?_
    refine CJ.seq ?_
    refine CJ.region ?_
    refine LJ.yd rfl (Yd.loadG (us := [_, _, _]) 0 rfl rfl rfl rfl) ?_
    refine LJ.call0 rfl (fun k hk dk => toWork_ok hps.up (by omega)) ?_
    rintro _ _ ⟨xa16, xc16, rfl, rfl⟩
    refine LJ.norm [_, _, _] rfl ?_
    refine LJ.alloc ([_, _, _] : List Value) rfl rfl (fun b2 => ?_)
    refine LJ.store (v := .agg #[_, _, _]) (us := [_, _, _]) 3 rfl rfl rfl rfl rfl rfl rfl rfl ?_
    refine LJ.nil ?_
    refine CJ.seq ?_
    refine CJ.region ?_
    refine LJ.yd rfl (Yd.loadG (us := [_, _, _]) 3 rfl rfl rfl rfl) ?_
    refine LJ.callV rfl (fun k hk dk => CutsFromI_ok (Sts.lr hk dk 2 (by omega) rfl)) ?_
    refine LJ.yd rfl (Yd.asB rfl) ?_
    refine LJ.nil ?_
    refine CJ.seq ?_
    refine CJ.seq ?_
    refine CJ.region ?_
    refine LJ.yd rfl (Yd.mvB rfl) ?_
    refine LJ.yd rfl (Yd.mvB rfl) ?_
    refine LJ.yd rfl (Yd.cmpNF (Yd.neqB rfl rfl) (by simp)) ?_
    refine LJ.nil ?_
    refine CJ.condF rfl ?_
    refine CJ.skip ?_
    refine CJ.seq ?_
    refine CJ.seq ?_
    refine CJ.regionD [0, 1, 2, 3] [] (by kernel_rfl) rfl ?_
    refine DJ.norm [_, _, _, _] [] rfl rfl ?_
    refine DJ.yd 0 rfl (by kernel_rfl) (by kernel_rfl) (by kernel_rfl) rfl rfl (Yd.loadG (us := [_, _, _]) 3 rfl rfl rfl rfl) ?_
    refine DJ.yd 1 rfl (by kernel_rfl) (by kernel_rfl) (by kernel_rfl) rfl rfl (Yd.loadG (us := [_, _, _]) 0 rfl rfl rfl rfl) ?_
    refine DJ.one (i := 2) (by kernel_rfl) ?_
    refine DO.call0 rfl rfl rfl (fun k0 hk0 dk0 k hk dk => toWork_ok hps.up (by omega)) ?_
    rintro _ _ ⟨xa24, xc24, rfl, rfl⟩
    refine DJ.norm [_, _, _, _] [_] rfl rfl ?_
    refine DJ.one (i := 3) (by kernel_rfl) ?_
    refine DO.callV rfl rfl rfl (fun k0 hk0 dk0 k hk dk => eqWork_T ((Sts.lr hk0 dk0 2 (by omega) rfl).up) (Sts.lr hk dk 0 (by omega) rfl)) ?_
    refine DJ.yd 4 rfl (by kernel_rfl) (by kernel_rfl) (by kernel_rfl) rfl rfl (Yd.not rfl) ?_
    refine DJ.done (by kernel_rfl) ?_
    refine CJ.condF rfl ?_
    refine CJ.skip ?_
    refine CJ.seq ?_
    refine CJ.region ?_
    refine LJ.yd rfl (Yd.asB rfl) ?_
    refine LJ.nil ?_
    refine CJ.ret ?_
    refine Fin.V (Res.one (ResV.tmp (v := .bool true) rfl)) ?_
    rfl
end Go.Proofs.Ytkojheinklgdeaa
