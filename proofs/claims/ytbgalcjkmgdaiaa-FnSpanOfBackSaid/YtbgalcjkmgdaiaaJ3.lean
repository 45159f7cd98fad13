/-
  The exact law on best orders.
-/
import Derived.Test.YtbgalcjkmgdaiaaJ2
namespace Go.Proofs.Ytbgalcjkmgdaiaa
open Go
set_option maxRecDepth 20000
set_option maxHeartbeats 1000000

theorem BestOrderS_ok {A : Amb} {v : Value} {l : List Job} (hl : RdL Job.enc 2 A.h v l) : Ctr Try.prog 32 #[v] A [] (RLP encI 3 1 (boR l)) := by
  obtain ⟨la, lc, rfl, hlb, hl⟩ := hl.un
  refine Ctr.body (args := [_]) Try.func32 rfl Try.ntmps32 Try.results32 (by simp) ?_
  refine CJ.seq ?_
  refine CJ.region ?_
  refine LJ.yd rfl (Yd.asS rfl) ?_
  refine LJ.nil ?_
  refine CJ.seq ?_
  refine CJ.seq ?_
  refine CJ.region ?_
  refine LJ.yd rfl (Yd.mvS rfl) ?_
  refine LJ.callB rfl (fun k hk dk => validJobs_ok (RdRow.up hl)) (fun h4 => ?_) (fun h4 => ?_)
  · refine LJ.yd rfl (Yd.not rfl) ?_
    refine LJ.nil ?_
    refine CJ.condF rfl ?_
    refine CJ.skip ?_
    refine CJ.seq ?_
    refine CJ.region ?_
    refine LJ.yd rfl (Yd.mvS rfl) ?_
    refine LJ.call0 rfl (fun k hk dk => bestOrder_ok (RdRow.up hl) (by have := (jobsOk_iff.1 h4).1; omega)) ?_
    rintro _ _ ⟨ra7, rc7, rfl, rfl⟩
    refine LJ.norm [_] rfl ?_
    refine LJ.yd rfl (Yd.asS rfl) ?_
    refine LJ.nil ?_
    refine CJ.ret ?_
    refine Fin.RL 0 (Res.one (ResV.tmp (v := .slice _ _ _) rfl)) rfl (by first | rfl | omega | (simp; done) | (simp; omega) | (simp [upN_len]; omega) | (simp [idxBy_len]; omega) | (simp [marks_len]; omega) | (simp [upN_len]; done) | (simp [idxBy_len]; done) | (simp [marks_len]; done) | (simp at *; omega)) ?_
    first
      | (unfold boR; rw [if_pos h4]; done)
      | (unfold boR; rw [if_neg (by rw [h4]; simp)]; done)
  · refine LJ.yd rfl (Yd.not rfl) ?_
    refine LJ.nil ?_
    refine CJ.condT rfl ?_
    refine CJ.seq ?_
    refine CJ.region ?_
    refine LJ.yd rfl (Yd.asS rfl) ?_
    refine LJ.nil ?_
    refine CJ.ret ?_
    refine Fin.RN (Res.one (ResV.tmp (v := .slice _ _ _) rfl)) ?_
    first
      | (unfold boR; rw [if_pos h4]; done)
      | (unfold boR; rw [if_neg (by rw [h4]; simp)]; done)
theorem toJob_ok {A : Amb} {u : Job} : Ctr Try.prog 59 #[.agg #[vI u.Cut, vI u.Heat]] A [] (Val (.agg #[vI u.Cut, vI u.Heat])) := by
  refine Ctr.body (args := [_]) Try.func59 rfl Try.ntmps59 Try.results59 (by simp) ?_
  refine CJ.seq ?_
  refine CJ.region ?_
  refine LJ.boxG (vs := [_, _]) rfl rfl (fun b1 => ?_)
  refine LJ.alloc ([_, _] : List Value) rfl rfl (fun b2 => ?_)
  refine LJ.nil ?_
  refine CJ.seq ?_
  refine CJ.region ?_
  refine LJ.alloc ([_, _] : List Value) rfl rfl (fun b3 => ?_)
  refine LJ.nil ?_
  refine CJ.seq ?_
  refine CJ.region ?_
  refine LJ.yd rfl (Yd.fieldAddr rfl) ?_
  refine LJ.yd rfl (Yd.loadC 0 rfl rfl rfl) ?_
  refine LJ.yd rfl (Yd.fieldAddr rfl) ?_
  refine LJ.store (v := .int _ _) (us := [_, _]) 2 rfl rfl rfl rfl rfl rfl rfl rfl ?_
  refine LJ.nil ?_
  refine CJ.seq ?_
  refine CJ.region ?_
  refine LJ.yd rfl (Yd.fieldAddr rfl) ?_
  refine LJ.yd rfl (Yd.loadC 0 rfl rfl rfl) ?_
  refine LJ.yd rfl (Yd.fieldAddr rfl) ?_
  refine LJ.store (v := .int _ _) (us := [_, _]) 2 rfl rfl rfl rfl rfl rfl rfl rfl ?_
  refine LJ.nil ?_
  refine CJ.seq ?_
  refine CJ.region ?_
  refine LJ.yd rfl (Yd.loadG (us := [_, _]) 2 rfl rfl rfl rfl) ?_
  refine LJ.store (v := .agg #[_, _]) (us := [_, _]) 1 rfl rfl rfl rfl rfl rfl rfl rfl ?_
  refine LJ.nil ?_
  refine CJ.ret ?_
  refine Fin.V (Res.one (ResV.cell (us := [_, _]) 1 rfl rfl rfl rfl)) ?_
  rfl
theorem toJobS_ok {A : Amb} {v : Value} {l : List Job} (hl : RdL Job.enc 2 A.h v l) (hn : l.length ≤ 2000000) : Ctr Try.prog 33 #[v] A [] (RLP Job.enc 41 2 l) := by
  obtain ⟨la, lc, rfl, hlb, hl⟩ := hl.un
  refine Ctr.body (args := [_]) Try.func33 rfl Try.ntmps33 Try.results33 (by simp) ?_
  refine CJ.seq ?_
  refine CJ.region ?_
  refine LJ.yd rfl (Yd.asS rfl) ?_
  refine LJ.nil ?_
  refine CJ.seq ?_
  refine CJ.region ?_
  refine LJ.yd rfl (Yd.mvS rfl) ?_
  refine LJ.yd rfl (Yd.len rfl) ?_
  refine LJ.op rfl (OpR.mk (enc := Job.enc) (⟨0, 0⟩ : Job) (m := l.length) rfl rfl rfl (by first | rfl | omega | (simp; done) | (simp; omega) | (simp [upN_len]; omega) | (simp [idxBy_len]; omega) | (simp [marks_len]; omega) | (simp [upN_len]; done) | (simp [idxBy_len]; done) | (simp [marks_len]; done) | (simp at *; omega))) ?_
  rintro _ _ ⟨g7, rfl, rfl⟩
  refine LJ.norm [_] rfl ?_
  refine LJ.yd rfl (Yd.asS rfl) ?_
  refine LJ.nil ?_
  refine CJ.seq ?_
  refine CJ.seq ?_
  refine CJ.region ?_
  refine LJ.yd rfl (Yd.asI rfl) ?_
  refine LJ.nil ?_
  refine CJ.block ?_
  refine CJ.norm [LR Job.enc 41 2 (some ⟨g7, 0, none⟩) l.length (l.take 0 ++ List.replicate (l.length - 0) ⟨0, 0⟩)] rfl ?_
  refine CJ.loopF [0, 2, 3] Nat (fun k => k ≤ l.length) (fun k => [(4, vI k)]) (fun k => [LR Job.enc 41 2 (some ⟨g7, 0, none⟩) l.length (l.take k ++ List.replicate (l.length - k) ⟨0, 0⟩)]) (fun k => l.length - k) (0) [] [] [0] rfl rfl rfl ?_ ⟨rfl, trivial⟩ ?_
  · exact by omega
  · rintro k σ hk1
    refine CJ.norm [_] rfl ?_
    refine CJ.seq ?_
    refine CJ.seq ?_
    refine CJ.region ?_
    refine LJ.yd rfl (Yd.mvI rfl) ?_
    refine LJ.yd rfl (Yd.mvS rfl) ?_
    refine LJ.yd rfl (Yd.len rfl) ?_
    refine LJ.splitD rfl (Yd.lss rfl rfl) (fun h11 => ?_) (fun h11 => ?_)
    · refine LJ.nil ?_
      refine CJ.condT rfl ?_
      refine CJ.skip ?_
      refine CJ.seq ?_
      refine CJ.block ?_
      refine CJ.region ?_
      refine LJ.yd rfl (Yd.mvS rfl) ?_
      refine LJ.yd rfl (Yd.mvI rfl) ?_
      refine LJ.yd rfl (Yd.mvS rfl) ?_
      refine LJ.yd rfl (Yd.mvI rfl) ?_
      refine LJ.idxA rfl hl rfl rfl (by omega) (by first | rfl | omega | (simp; done) | (simp; omega) | (simp [upN_len]; omega) | (simp [idxBy_len]; omega) | (simp [marks_len]; omega) | (simp [upN_len]; done) | (simp [idxBy_len]; done) | (simp [marks_len]; done) | (simp at *; omega)) (fun ib18 io18 ia18 ir18 => ?_)
      refine LJ.lgA (enc := Job.enc) (fun u => [vI u.Cut, vI u.Heat]) (fun _ => rfl) (fun _ => rfl) ir18 rfl rfl rfl (by first | rfl | omega | (simp; done) | (simp; omega) | (simp [upN_len]; omega) | (simp [idxBy_len]; omega) | (simp [marks_len]; omega) | (simp [upN_len]; done) | (simp [idxBy_len]; done) | (simp [marks_len]; done) | (simp at *; omega)) (fun u19 hu19 => ?_)
      try simp only [Int.toNat_natCast] at hu19
      refine LJ.callV rfl (fun k hk dk => toJob_ok) ?_
      refine LJ.idxR 0 rfl rfl rfl rfl (by omega) (by first | rfl | omega | (simp; done) | (simp; omega) | (simp [upN_len]; omega) | (simp [idxBy_len]; omega) | (simp [marks_len]; omega) | (simp [upN_len]; done) | (simp [idxBy_len]; done) | (simp [marks_len]; done) | (simp at *; omega)) (by first | rfl | omega | (simp; done) | (simp; omega) | (simp [upN_len]; omega) | (simp [idxBy_len]; omega) | (simp [marks_len]; omega) | (simp [upN_len]; done) | (simp [idxBy_len]; done) | (simp [marks_len]; done) | (simp at *; omega)) (fun ib21 ia21 => ?_)
      refine LJ.op rfl (OpR.stG (enc := Job.enc) (u' := ⟨_, _⟩) 0 rfl ia21 rfl rfl rfl (fun _ => rfl) rfl rfl (by first | rfl | omega | (simp; done) | (simp; omega) | (simp [upN_len]; omega) | (simp [idxBy_len]; omega) | (simp [marks_len]; omega) | (simp [upN_len]; done) | (simp [idxBy_len]; done) | (simp [marks_len]; done) | (simp at *; omega))) ?_
      rintro _ _ ⟨rfl, rfl⟩
      refine LJ.norm [_] rfl ?_
      refine LJ.nil ?_
      refine CJ.norm [LR Job.enc 41 2 (some ⟨g7, 0, none⟩) l.length (l.take (k + 1) ++ List.replicate (l.length - (k + 1)) ⟨0, 0⟩)] (by rw [← take_rep hu19]; rfl) ?_
      refine CJ.region ?_
      refine LJ.yd rfl (Yd.mvI rfl) ?_
      refine LJ.yd rfl (Yd.add rfl rfl (by unfold I64; omega)) ?_
      refine LJ.yd rfl (Yd.asI rfl) ?_
      refine LJ.nil ?_
      refine ⟨(k + 1), ?_, ⟨rfl, rfl, rfl, trivial⟩, ⟨rfl, trivial⟩, Ent.refl _, ?_⟩
      · omega
      · first | omega | (dsimp only; omega) | (simp only []; omega)
    · refine LJ.nil ?_
      refine CJ.condF rfl ?_
      refine CJ.exit ?_
      refine CJ.seq ?_
      refine CJ.region ?_
      refine LJ.yd rfl (Yd.mvS rfl) ?_
      refine LJ.yd rfl (Yd.asS rfl) ?_
      refine LJ.nil ?_
      refine CJ.ret ?_
      refine Fin.RL 0 (Res.one (ResV.tmp (v := .slice _ _ _) rfl)) rfl (by simp; omega) ?_
      simp [show k = l.length by omega]
theorem eqJob_ok {A : Amb} {u w : Job} : Ctr Try.prog 60 #[.agg #[vI u.Cut, vI u.Heat], .agg #[vI w.Cut, vI w.Heat]] A [] (Val (.bool (decide (u = w)))) := by
  refine Ctr.body (args := [_, _]) Try.func60 rfl Try.ntmps60 Try.results60 (by simp) ?_
  refine CJ.seq ?_
  refine CJ.region ?_
  refine LJ.boxG (vs := [_, _]) rfl rfl (fun b1 => ?_)
  refine LJ.boxG (vs := [_, _]) rfl rfl (fun b2 => ?_)
  refine LJ.yd rfl (Yd.asB rfl) ?_
  refine LJ.nil ?_
  refine CJ.seq ?_
  refine CJ.seq ?_
  refine CJ.region ?_
  refine LJ.yd rfl (Yd.fieldAddr rfl) ?_
  refine LJ.yd rfl (Yd.loadC 0 rfl rfl rfl) ?_
  refine LJ.yd rfl (Yd.fieldAddr rfl) ?_
  refine LJ.yd rfl (Yd.loadC 1 rfl rfl rfl) ?_
  refine LJ.splitN rfl (Yd.neq rfl rfl) (fun h9 => ?_) (fun h9 => ?_)
  · refine LJ.nil ?_
    refine CJ.condT rfl ?_
    refine CJ.seq ?_
    refine CJ.region ?_
    refine LJ.yd rfl (Yd.asB rfl) ?_
    refine LJ.nil ?_
    refine CJ.ret ?_
    refine Fin.V (Res.one (ResV.tmp (v := .bool false) rfl)) ?_
    refine congrArg Value.bool (Eq.symm ?_)
    first
      | (refine decide_eq_false fun e => ?_; subst e; first | exact h9 rfl | exact h14 rfl)
      | (refine decide_eq_true ?_; cases u; cases w; simp_all)
  · refine LJ.nil ?_
    refine CJ.condF rfl ?_
    refine CJ.skip ?_
    refine CJ.seq ?_
    refine CJ.seq ?_
    refine CJ.region ?_
    refine LJ.yd rfl (Yd.fieldAddr rfl) ?_
    refine LJ.yd rfl (Yd.loadC 0 rfl rfl rfl) ?_
    refine LJ.yd rfl (Yd.fieldAddr rfl) ?_
    refine LJ.yd rfl (Yd.loadC 1 rfl rfl rfl) ?_
    refine LJ.splitN rfl (Yd.neq rfl rfl) (fun h14 => ?_) (fun h14 => ?_)
    · refine LJ.nil ?_
      refine CJ.condT rfl ?_
      refine CJ.seq ?_
      refine CJ.region ?_
      refine LJ.yd rfl (Yd.asB rfl) ?_
      refine LJ.nil ?_
      refine CJ.ret ?_
      refine Fin.V (Res.one (ResV.tmp (v := .bool false) rfl)) ?_
      refine congrArg Value.bool (Eq.symm ?_)
      first
        | (refine decide_eq_false fun e => ?_; subst e; first | exact h9 rfl | exact h14 rfl)
        | (refine decide_eq_true ?_; cases u; cases w; simp_all)
    · refine LJ.nil ?_
      refine CJ.condF rfl ?_
      refine CJ.skip ?_
      refine CJ.seq ?_
      refine CJ.region ?_
      refine LJ.yd rfl (Yd.asB rfl) ?_
      refine LJ.nil ?_
      refine CJ.ret ?_
      refine Fin.V (Res.one (ResV.tmp (v := .bool true) rfl)) ?_
      refine congrArg Value.bool (Eq.symm ?_)
      first
        | (refine decide_eq_false fun e => ?_; subst e; first | exact h9 rfl | exact h14 rfl)
        | (refine decide_eq_true ?_; cases u; cases w; simp_all)
theorem eqJobS_eq {A : Amb} {v w : Value} {l : List Job} (hl : RdL Job.enc 2 A.h v l) (hl2 : RdL Job.enc 2 A.h w l) : Ctr Try.prog 34 #[v, w] A [] (Val (.bool true)) := by
  obtain ⟨la, lc, rfl, hlb, hl⟩ := hl.un
  obtain ⟨la2, lc2, rfl, hlb2, hl2⟩ := hl2.un
  refine Ctr.body (args := [_, _]) Try.func34 rfl Try.ntmps34 Try.results34 (by simp) ?_
  refine CJ.seq ?_
  refine CJ.region ?_
  refine LJ.yd rfl (Yd.asB rfl) ?_
  refine LJ.nil ?_
  refine CJ.seq ?_
  refine CJ.seq ?_
  refine CJ.region ?_
  refine LJ.yd rfl (Yd.mvS rfl) ?_
  refine LJ.yd rfl (Yd.len rfl) ?_
  refine LJ.yd rfl (Yd.mvS rfl) ?_
  refine LJ.yd rfl (Yd.len rfl) ?_
  refine LJ.splitN rfl (Yd.neq rfl rfl) (fun h10 => ?_) (fun h10 => ?_)
  · exfalso; first | omega | (rw [hu20] at hu24; cases hu24; simp at h25)
  · refine LJ.nil ?_
    refine CJ.condF rfl ?_
    refine CJ.skip ?_
    refine CJ.seq ?_
    refine CJ.seq ?_
    refine CJ.region ?_
    refine LJ.yd rfl (Yd.asI rfl) ?_
    refine LJ.nil ?_
    refine CJ.block ?_
    refine CJ.loopK [0, 1] Nat (fun k => k ≤ l.length) (fun k => [(5, vI k)]) (fun k => l.length - k) (0) ?_ ⟨rfl, trivial⟩ ?_
    · exact by omega
    · rintro k σ hk1
      refine CJ.seq ?_
      refine CJ.seq ?_
      refine CJ.region ?_
      refine LJ.yd rfl (Yd.mvI rfl) ?_
      refine LJ.yd rfl (Yd.mvS rfl) ?_
      refine LJ.yd rfl (Yd.len rfl) ?_
      refine LJ.splitD rfl (Yd.lss rfl rfl) (fun h14 => ?_) (fun h14 => ?_)
      · refine LJ.nil ?_
        refine CJ.condT rfl ?_
        refine CJ.skip ?_
        refine CJ.seq ?_
        refine CJ.block ?_
        refine CJ.seq ?_
        refine CJ.regionD [] [] (by kernel_rfl) rfl ?_
        refine DJ.norm [] [] rfl rfl ?_
        refine DJ.yd 0 rfl (by kernel_rfl) (by kernel_rfl) (by kernel_rfl) rfl rfl (Yd.mvS rfl) ?_
        refine DJ.yd 1 rfl (by kernel_rfl) (by kernel_rfl) (by kernel_rfl) rfl rfl (Yd.mvI rfl) ?_
        refine DJ.idxA 2 rfl (by kernel_rfl) (by kernel_rfl) (by kernel_rfl) rfl rfl hl rfl rfl (by omega) (by first | rfl | omega | (simp; done) | (simp; omega) | (simp [upN_len]; omega) | (simp [idxBy_len]; omega) | (simp [marks_len]; omega) | (simp [upN_len]; done) | (simp [idxBy_len]; done) | (simp [marks_len]; done) | (simp at *; omega)) (fun ib19 io19 ia19 ir19 => ?_)
        refine DJ.lgA 3 rfl (by kernel_rfl) (by kernel_rfl) (by kernel_rfl) rfl rfl (enc := Job.enc) (fun u => [vI u.Cut, vI u.Heat]) (fun _ => rfl) (fun _ => rfl) ir19 rfl rfl (by first | rfl | omega | (simp; done) | (simp; omega) | (simp [upN_len]; omega) | (simp [idxBy_len]; omega) | (simp [marks_len]; omega) | (simp [upN_len]; done) | (simp [idxBy_len]; done) | (simp [marks_len]; done) | (simp at *; omega)) (fun u20 hu20 => ?_)
        try simp only [Int.toNat_natCast] at hu20
        refine DJ.yd 4 rfl (by kernel_rfl) (by kernel_rfl) (by kernel_rfl) rfl rfl (Yd.mvS rfl) ?_
        refine DJ.yd 5 rfl (by kernel_rfl) (by kernel_rfl) (by kernel_rfl) rfl rfl (Yd.mvI rfl) ?_
        refine DJ.idxA 6 rfl (by kernel_rfl) (by kernel_rfl) (by kernel_rfl) rfl rfl hl2 rfl rfl (by omega) (by first | rfl | omega | (simp; done) | (simp; omega) | (simp [upN_len]; omega) | (simp [idxBy_len]; omega) | (simp [marks_len]; omega) | (simp [upN_len]; done) | (simp [idxBy_len]; done) | (simp [marks_len]; done) | (simp at *; omega)) (fun ib23 io23 ia23 ir23 => ?_)
        refine DJ.lgA 7 rfl (by kernel_rfl) (by kernel_rfl) (by kernel_rfl) rfl rfl (enc := Job.enc) (fun u => [vI u.Cut, vI u.Heat]) (fun _ => rfl) (fun _ => rfl) ir23 rfl rfl (by first | rfl | omega | (simp; done) | (simp; omega) | (simp [upN_len]; omega) | (simp [idxBy_len]; omega) | (simp [marks_len]; omega) | (simp [upN_len]; done) | (simp [idxBy_len]; done) | (simp [marks_len]; done) | (simp at *; omega)) (fun u24 hu24 => ?_)
        try simp only [Int.toNat_natCast] at hu24
        refine DJ.one (i := 8) (by kernel_rfl) ?_
        refine DO.callB rfl rfl rfl (fun k0 hk0 dk0 k hk dk => eqJob_ok) (fun h25 => ?_) (fun h25 => ?_)
        · refine DJ.yd 9 rfl (by kernel_rfl) (by kernel_rfl) (by kernel_rfl) rfl rfl (Yd.not rfl) ?_
          refine DJ.done (by kernel_rfl) ?_
          refine CJ.condF rfl ?_
          refine CJ.skip ?_
          refine CJ.region ?_
          refine LJ.yd rfl (Yd.mvI rfl) ?_
          refine LJ.yd rfl (Yd.add rfl rfl (by unfold I64; omega)) ?_
          refine LJ.yd rfl (Yd.asI rfl) ?_
          refine LJ.nil ?_
          refine ⟨(k + 1), ?_, ⟨rfl, rfl, trivial⟩, ⟨rfl, trivial⟩, Ent.refl _, ?_⟩
          · omega
          · first | omega | (dsimp only; omega) | (simp only []; omega)
        · exfalso; first | omega | (rw [hu20] at hu24; cases hu24; simp at h25)
      · refine LJ.nil ?_
        refine CJ.condF rfl ?_
        refine CJ.exit ?_
        refine CJ.seq ?_
        refine CJ.region ?_
        refine LJ.yd rfl (Yd.asB rfl) ?_
        refine LJ.nil ?_
        refine CJ.ret ?_
        refine Fin.V (Res.one (ResV.tmp (v := .bool true) rfl)) ?_
        rfl
theorem szJobS_ok {A : Amb} {a : Option Addr} {n c : Nat} {q : Int} (hq : 0 ≤ q) (hq1 : q ≤ 10000000) (hn : n ≤ 9223372036854775807) : Ctr Try.prog 31 #[.slice a n c, vI q] A [] (Val (vI (if q - n < 0 then -1 else q - n))) := by
  refine Ctr.body (args := [_, _]) Try.func31 rfl Try.ntmps31 Try.results31 (by simp) ?_
  refine CJ.seq ?_
  refine CJ.region ?_
  refine LJ.yd rfl (Yd.asI rfl) ?_
  refine LJ.nil ?_
  refine CJ.seq ?_
  refine CJ.region ?_
  refine LJ.yd rfl (Yd.mvI rfl) ?_
  refine LJ.yd rfl (Yd.mvS rfl) ?_
  refine LJ.yd rfl (Yd.len rfl) ?_
  refine LJ.yd rfl (Yd.sub rfl rfl (by unfold I64; omega)) ?_
  refine LJ.yd rfl (Yd.asI rfl) ?_
  refine LJ.nil ?_
  refine CJ.seq ?_
  refine CJ.seq ?_
  refine CJ.region ?_
  refine LJ.yd rfl (Yd.mvI rfl) ?_
  refine LJ.splitD rfl (Yd.lss rfl rfl) (fun h10 => ?_) (fun h10 => ?_)
  · refine LJ.nil ?_
    refine CJ.condT rfl ?_
    refine CJ.seq ?_
    refine CJ.region ?_
    refine LJ.yd rfl (Yd.asI rfl) ?_
    refine LJ.nil ?_
    refine CJ.ret ?_
    refine Fin.V (Res.one (ResV.tmp (v := .int _ _) rfl)) ?_
    first | rw [if_pos h10] | rw [if_neg h10]
  · refine LJ.nil ?_
    refine CJ.condF rfl ?_
    refine CJ.skip ?_
    refine CJ.seq ?_
    refine CJ.region ?_
    refine LJ.yd rfl (Yd.mvI rfl) ?_
    refine LJ.yd rfl (Yd.asI rfl) ?_
    refine LJ.nil ?_
    refine CJ.ret ?_
    refine Fin.V (Res.one (ResV.tmp (v := .int _ _) rfl)) ?_
    first | rw [if_pos h10] | rw [if_neg h10]
theorem markJobS_ok {A : Amb} {l : List Job} {a : Option Addr} {c m : Nat} {q : Int} (hm : m = l.length) (hn : l.length ≤ 2000000) (hq : 0 ≤ q) (hq' : q ≤ 2000000) :
    Ctr Try.prog 35 #[.slice a m c, vI q] A [LR Job.enc 41 2 a c l] (fun v gs => ∃ L : List Job, v = vI (q + 2 * l.length) ∧ gs = [LR Job.enc 41 2 a c L] ∧ L.length = l.length) := by
  subst hm
  refine Ctr.body (args := [_, _]) Try.func35 rfl Try.ntmps35 Try.results35 (by simp) ?_
  refine CJ.seq ?_
  refine CJ.region ?_
  refine LJ.yd rfl (Yd.asI rfl) ?_
  refine LJ.nil ?_
  refine CJ.seq ?_
  refine CJ.seq ?_
  refine CJ.region ?_
  refine LJ.yd rfl (Yd.asI rfl) ?_
  refine LJ.nil ?_
  refine CJ.block ?_
  refine CJ.loopF [0, 4] (Nat × Int × List Job) (fun ⟨k, x, L⟩ => k ≤ l.length ∧ x = q + 2 * k ∧ L.length = l.length) (fun ⟨k, x, L⟩ => [(5, vI k), (1, vI x)]) (fun ⟨k, x, L⟩ => [LR Job.enc 41 2 a c L]) (fun ⟨k, x, L⟩ => l.length - k) (0, q, l) [] [] [0] rfl rfl rfl ?_ ⟨rfl, rfl, trivial⟩ ?_
  · exact ⟨by omega, by omega, rfl⟩
  · rintro ⟨k, x, L⟩ σ ⟨hk1, hx, hL⟩
    refine CJ.norm [_] rfl ?_
    refine CJ.seq ?_
    refine CJ.seq ?_
    refine CJ.region ?_
    refine LJ.yd rfl (Yd.mvI rfl) ?_
    refine LJ.yd rfl (Yd.mvS rfl) ?_
    refine LJ.yd rfl (Yd.len rfl) ?_
    refine LJ.splitD rfl (Yd.lss rfl rfl) (fun h9 => ?_) (fun h9 => ?_)
    · refine LJ.nil ?_
      refine CJ.condT rfl ?_
      refine CJ.skip ?_
      refine CJ.seq ?_
      refine CJ.block ?_
      refine CJ.seq ?_
      obtain ⟨w4, hw4⟩ := someC (l := L) (j := k) (by omega)
      refine CJ.region ?_
      refine LJ.yd rfl (Yd.mvS rfl) ?_
      refine LJ.yd rfl (Yd.mvI rfl) ?_
      refine LJ.yd rfl (Yd.mvI rfl) ?_
      refine LJ.idxR 0 rfl rfl rfl rfl (by omega) (by first | rfl | omega | (simp; done) | (simp; omega) | (simp [upN_len]; omega) | (simp [idxBy_len]; omega) | (simp [marks_len]; omega) | (simp [upN_len]; done) | (simp [idxBy_len]; done) | (simp [marks_len]; done) | (simp at *; omega)) (by first | rfl | omega | (simp; done) | (simp; omega) | (simp [upN_len]; omega) | (simp [idxBy_len]; omega) | (simp [marks_len]; omega) | (simp [upN_len]; done) | (simp [idxBy_len]; done) | (simp [marks_len]; done) | (simp at *; omega)) (fun ib15 ia15 => ?_)
      refine LJ.yd rfl (Yd.fieldAddr rfl) ?_
      refine LJ.op rfl (OpR.stR (enc := Job.enc) (u' := ⟨x, w4.Heat⟩) 0 0 rfl ia15 rfl rfl hw4 rfl rfl rfl rfl rfl) ?_
      rintro _ _ ⟨rfl, rfl⟩
      refine LJ.norm [_] rfl ?_
      refine LJ.nil ?_
      refine CJ.seq ?_
      refine CJ.region ?_
      refine LJ.yd rfl (Yd.mvI rfl) ?_
      refine LJ.yd rfl (Yd.add rfl rfl (by unfold I64; omega)) ?_
      refine LJ.yd rfl (Yd.asI rfl) ?_
      refine LJ.nil ?_
      refine CJ.seq ?_
      have hw6 : (L.set k ⟨x, w4.Heat⟩)[k]? = some ⟨x, w4.Heat⟩ := by rw [List.getElem?_set]; simp; omega
      refine CJ.region ?_
      refine LJ.yd rfl (Yd.mvS rfl) ?_
      refine LJ.yd rfl (Yd.mvI rfl) ?_
      refine LJ.yd rfl (Yd.mvI rfl) ?_
      refine LJ.idxR 0 rfl rfl rfl rfl (by omega) (by first | rfl | omega | (simp; done) | (simp; omega) | (simp [upN_len]; omega) | (simp [idxBy_len]; omega) | (simp [marks_len]; omega) | (simp [upN_len]; done) | (simp [idxBy_len]; done) | (simp [marks_len]; done) | (simp at *; omega)) (by first | rfl | omega | (simp; done) | (simp; omega) | (simp [upN_len]; omega) | (simp [idxBy_len]; omega) | (simp [marks_len]; omega) | (simp [upN_len]; done) | (simp [idxBy_len]; done) | (simp [marks_len]; done) | (simp at *; omega)) (fun ib22 ia22 => ?_)
      refine LJ.yd rfl (Yd.fieldAddr rfl) ?_
      refine LJ.op rfl (OpR.stR (enc := Job.enc) (u' := ⟨x, x + 1⟩) 0 1 rfl ia22 rfl rfl hw6 rfl rfl rfl rfl rfl) ?_
      rintro _ _ ⟨rfl, rfl⟩
      refine LJ.norm [_] rfl ?_
      refine LJ.nil ?_
      refine CJ.region ?_
      refine LJ.yd rfl (Yd.mvI rfl) ?_
      refine LJ.yd rfl (Yd.add rfl rfl (by unfold I64; omega)) ?_
      refine LJ.yd rfl (Yd.asI rfl) ?_
      refine LJ.nil ?_
      refine CJ.region ?_
      refine LJ.yd rfl (Yd.mvI rfl) ?_
      refine LJ.yd rfl (Yd.add rfl rfl (by unfold I64; omega)) ?_
      refine LJ.yd rfl (Yd.asI rfl) ?_
      refine LJ.nil ?_
      refine ⟨(k + 1, _, _), ?_, ⟨rfl, rfl, trivial⟩, ⟨rfl, rfl, trivial⟩, Ent.refl _, ?_⟩
      · refine ⟨by omega, ?_⟩
        exact ⟨by omega, by simp [hL]⟩
      · first | omega | (dsimp only; omega) | (simp only []; omega)
    · refine LJ.nil ?_
      refine CJ.condF rfl ?_
      refine CJ.exit ?_
      refine CJ.seq ?_
      refine CJ.region ?_
      refine LJ.yd rfl (Yd.mvI rfl) ?_
      refine LJ.yd rfl (Yd.asI rfl) ?_
      refine LJ.nil ?_
      refine CJ.ret ?_
      exact Fin.R [_] (Res.one (ResV.tmp (v := .int _ _) rfl)) ⟨L, by rw [hx]; congr 1; omega, rfl, hL⟩ (Ent.refl _)
theorem eqIntS_eq {A : Amb} {v w : Value} {l : List Int} (hl : RdL encI 1 A.h v l) (hl2 : RdL encI 1 A.h w l) : Ctr Try.prog 16 #[v, w] A [] (Val (.bool true)) := by
  have := eqIntS_ok hl hl2
  rwa [decide_eq_true rfl] at this
theorem FnExactBestOrder_ok {A : Amb} {a : Option Addr} {n c : Nat} {l : List Job} (hn0 : n ≤ 9223372036854775807) (hl : n ≤ 1048576 → RdL Job.enc 2 A.h (.slice a n c) l ∧ n = l.length) : Ctr Try.prog 10 #[.slice a n c] A [] (Val (.bool true)) := by
  have hR : 1048576 < l.length ∨ (boR l).length ≤ 1048576 := by
    unfold boR
    split
    · rw [idxBy_len]; omega
    · simp
  refine Ctr.body (args := [_]) Try.func10 rfl Try.ntmps10 Try.results10 (by simp) ?_
  refine CJ.seq ?_
  refine CJ.region ?_
  refine LJ.yd rfl (Yd.asB rfl) ?_
  refine LJ.nil ?_
  refine CJ.seq ?_
  refine CJ.region ?_
  refine LJ.yd rfl (Yd.asI rfl) ?_
  refine LJ.nil ?_
  refine CJ.seq ?_
  refine CJ.region ?_
  refine LJ.yd rfl (Yd.mvS rfl) ?_
  refine LJ.yd rfl (Yd.mvI rfl) ?_
  refine LJ.callV rfl (fun k hk dk => szJobS_ok (by omega) (by omega) hn0) ?_
  refine LJ.yd rfl (Yd.asI rfl) ?_
  refine LJ.nil ?_
  refine CJ.seq ?_
  refine CJ.seq ?_
  refine CJ.region ?_
  refine LJ.yd rfl (Yd.mvI rfl) ?_
  refine LJ.splitD rfl (Yd.lss rfl rfl) (fun h15 => ?_) (fun h15 => ?_)
  · refine LJ.nil ?_
    refine CJ.condT rfl ?_
    refine CJ.seq ?_
    refine CJ.region ?_
    refine LJ.yd rfl (Yd.asB rfl) ?_
    refine LJ.nil ?_
    refine CJ.ret ?_
    refine Fin.V (Res.one (ResV.tmp (v := .bool true) rfl)) ?_
    rfl
  · refine LJ.nil ?_
    refine CJ.condF rfl ?_
    refine CJ.skip ?_
    refine CJ.seq ?_
    have hn1 : n ≤ 1048576 := by split at h15 <;> omega
    obtain ⟨hl, rfl⟩ := hl hn1
    refine CJ.region ?_
    refine LJ.yd rfl (Yd.mvS rfl) ?_
    refine LJ.call0 rfl (fun k hk dk => toJobS_ok (RdRow.up hl) (by omega)) ?_
    rintro _ _ ⟨ra17, rc17, rfl, rfl⟩
    refine LJ.norm [_] rfl ?_
    refine LJ.call0 rfl (fun k hk dk => BestOrderS_ok (Sts.lrm hk dk 0 (by first | rfl | omega | (simp; done) | (simp; omega) | (simp [upN_len]; omega) | (simp [idxBy_len]; omega) | (simp [marks_len]; omega) | (simp [upN_len]; done) | (simp [idxBy_len]; done) | (simp [marks_len]; done) | (simp at *; omega)) (by first | rfl | omega | (simp; done) | (simp; omega) | (simp [upN_len]; omega) | (simp [idxBy_len]; omega) | (simp [marks_len]; omega) | (simp [upN_len]; done) | (simp [idxBy_len]; done) | (simp [marks_len]; done) | (simp at *; omega)) rfl)) ?_
    rintro _ _ ⟨ra18, rc18, rfl, rfl⟩
    refine LJ.norm [_, _] rfl ?_
    refine LJ.yd rfl (Yd.asS rfl) ?_
    refine LJ.nil ?_
    refine CJ.seq ?_
    refine CJ.region ?_
    refine LJ.yd rfl (Yd.mvS rfl) ?_
    refine LJ.call0 rfl (fun k hk dk => toJobS_ok (RdRow.up hl) (by omega)) ?_
    rintro _ _ ⟨ra20, rc20, rfl, rfl⟩
    refine LJ.norm [_, _, _] rfl ?_
    refine LJ.yd rfl (Yd.asS rfl) ?_
    refine LJ.nil ?_
    refine CJ.seq ?_
    refine CJ.region ?_
    refine LJ.yd rfl (Yd.mvS rfl) ?_
    refine LJ.call0 rfl (fun k hk dk => BestOrderI_ok (Sts.lrm hk dk 2 (by first | rfl | omega | (simp; done) | (simp; omega) | (simp [upN_len]; omega) | (simp [idxBy_len]; omega) | (simp [marks_len]; omega) | (simp [upN_len]; done) | (simp [idxBy_len]; done) | (simp [marks_len]; done) | (simp at *; omega)) (by first | rfl | omega | (simp; done) | (simp; omega) | (simp [upN_len]; omega) | (simp [idxBy_len]; omega) | (simp [marks_len]; omega) | (simp [upN_len]; done) | (simp [idxBy_len]; done) | (simp [marks_len]; done) | (simp at *; omega)) rfl)) ?_
    rintro _ _ ⟨ra22, rc22, rfl, rfl⟩
    refine LJ.norm [_, _, _, _] rfl ?_
    refine LJ.yd rfl (Yd.asS rfl) ?_
    refine LJ.nil ?_
    refine CJ.seq ?_
    refine CJ.seq ?_
    refine CJ.region ?_
    refine LJ.yd rfl (Yd.mvS rfl) ?_
    refine LJ.yd rfl (Yd.mvS rfl) ?_
    refine LJ.callV rfl (fun k hk dk => eqIntS_eq (Sts.lrm hk dk 3 (by first | rfl | omega | (simp; done) | (simp; omega) | (simp [upN_len]; omega) | (simp [idxBy_len]; omega) | (simp [marks_len]; omega) | (simp [upN_len]; done) | (simp [idxBy_len]; done) | (simp [marks_len]; done) | (simp at *; omega)) (by first | rfl | omega | (simp; done) | (simp; omega) | (simp [upN_len]; omega) | (simp [idxBy_len]; omega) | (simp [marks_len]; omega) | (simp [upN_len]; done) | (simp [idxBy_len]; done) | (simp [marks_len]; done) | (simp at *; omega)) rfl) (Sts.lrm hk dk 1 (by first | rfl | omega | (simp; done) | (simp; omega) | (simp [upN_len]; omega) | (simp [idxBy_len]; omega) | (simp [marks_len]; omega) | (simp [upN_len]; done) | (simp [idxBy_len]; done) | (simp [marks_len]; done) | (simp at *; omega)) (by first | rfl | omega | (simp; done) | (simp; omega) | (simp [upN_len]; omega) | (simp [idxBy_len]; omega) | (simp [marks_len]; omega) | (simp [upN_len]; done) | (simp [idxBy_len]; done) | (simp [marks_len]; done) | (simp at *; omega)) rfl)) ?_
    refine LJ.yd rfl (Yd.not rfl) ?_
    refine LJ.nil ?_
    refine CJ.condF rfl ?_
    refine CJ.skip ?_
    refine CJ.seq ?_
    refine CJ.seq ?_
    refine CJ.region ?_
    refine LJ.yd rfl (Yd.mvS rfl) ?_
    refine LJ.yd rfl (Yd.mvS rfl) ?_
    refine LJ.call0 rfl (fun k hk dk => toJobS_ok (RdRow.up hl) (by omega)) ?_
    rintro _ _ ⟨ra29, rc29, rfl, rfl⟩
    refine LJ.norm [_, _, _, _, _] rfl ?_
    refine LJ.callV rfl (fun k hk dk => eqJobS_eq (Sts.lrm hk dk 2 (by first | rfl | omega | (simp; done) | (simp; omega) | (simp [upN_len]; omega) | (simp [idxBy_len]; omega) | (simp [marks_len]; omega) | (simp [upN_len]; done) | (simp [idxBy_len]; done) | (simp [marks_len]; done) | (simp at *; omega)) (by first | rfl | omega | (simp; done) | (simp; omega) | (simp [upN_len]; omega) | (simp [idxBy_len]; omega) | (simp [marks_len]; omega) | (simp [upN_len]; done) | (simp [idxBy_len]; done) | (simp [marks_len]; done) | (simp at *; omega)) rfl) (Sts.lrm hk dk 4 (by first | rfl | omega | (simp; done) | (simp; omega) | (simp [upN_len]; omega) | (simp [idxBy_len]; omega) | (simp [marks_len]; omega) | (simp [upN_len]; done) | (simp [idxBy_len]; done) | (simp [marks_len]; done) | (simp at *; omega)) (by first | rfl | omega | (simp; done) | (simp; omega) | (simp [upN_len]; omega) | (simp [idxBy_len]; omega) | (simp [marks_len]; omega) | (simp [upN_len]; done) | (simp [idxBy_len]; done) | (simp [marks_len]; done) | (simp at *; omega)) rfl)) ?_
    refine LJ.yd rfl (Yd.not rfl) ?_
    refine LJ.nil ?_
    refine CJ.condF rfl ?_
    refine CJ.skip ?_
    refine CJ.seq ?_
    refine CJ.region ?_
    refine LJ.yd rfl (Yd.asI rfl) ?_
    refine LJ.nil ?_
    refine CJ.seq ?_
    refine CJ.region ?_
    refine LJ.yd rfl (Yd.mvS rfl) ?_
    refine LJ.yd rfl (Yd.mvI rfl) ?_
    refine LJ.call (pickF _ [0, 1, 3, 4]) (pickF _ [2]) rfl (perm_pickF _ [0, 1, 3, 4] [2] rfl) (fun k hk dk => markJobS_ok rfl (by omega) (by omega) (by omega)) ?_
    rintro _ _ ⟨L34, rfl, rfl, hL34⟩
    refine LJ.norm [_, _, _, _, _] rfl ?_
    refine LJ.yd rfl (Yd.asI rfl) ?_
    refine LJ.nil ?_
    refine CJ.seq ?_
    refine CJ.seq ?_
    refine CJ.region ?_
    refine LJ.yd rfl (Yd.mvI rfl) ?_
    refine LJ.splitD rfl (Yd.lss rfl rfl) (fun h36 => ?_) (fun h36 => ?_)
    · exfalso; omega
    · refine LJ.yd rfl (Yd.mvB rfl) ?_
      refine LJ.gT rfl ?_
      refine LJ.yd rfl (Yd.mvS rfl) ?_
      refine LJ.gT rfl ?_
      refine LJ.yd rfl (Yd.mvS rfl) ?_
      refine LJ.gT rfl ?_
      refine LJ.callV rfl (fun k hk dk => eqIntS_eq (Sts.lrm hk dk 2 (by first | rfl | omega | (simp; done) | (simp; omega) | (simp [upN_len]; omega) | (simp [idxBy_len]; omega) | (simp [marks_len]; omega) | (simp [upN_len]; done) | (simp [idxBy_len]; done) | (simp [marks_len]; done) | (simp at *; omega)) (by first | rfl | omega | (simp; done) | (simp; omega) | (simp [upN_len]; omega) | (simp [idxBy_len]; omega) | (simp [marks_len]; omega) | (simp [upN_len]; done) | (simp [idxBy_len]; done) | (simp [marks_len]; done) | (simp at *; omega)) rfl) (Sts.lrm hk dk 1 (by first | rfl | omega | (simp; done) | (simp; omega) | (simp [upN_len]; omega) | (simp [idxBy_len]; omega) | (simp [marks_len]; omega) | (simp [upN_len]; done) | (simp [idxBy_len]; done) | (simp [marks_len]; done) | (simp at *; omega)) (by first | rfl | omega | (simp; done) | (simp; omega) | (simp [upN_len]; omega) | (simp [idxBy_len]; omega) | (simp [marks_len]; omega) | (simp [upN_len]; done) | (simp [idxBy_len]; done) | (simp [marks_len]; done) | (simp at *; omega)) rfl)) ?_
      refine LJ.gT rfl ?_
      refine LJ.yd rfl (Yd.not rfl) ?_
      refine LJ.yd rfl (Yd.pickFB rfl rfl) ?_
      refine LJ.nil ?_
      refine CJ.condF rfl ?_
      refine CJ.skip ?_
      refine CJ.seq ?_
      refine CJ.region ?_
      refine LJ.yd rfl (Yd.asI rfl) ?_
      refine LJ.nil ?_
      refine CJ.seq ?_
      refine CJ.region ?_
      refine LJ.yd rfl (Yd.mvS rfl) ?_
      refine LJ.yd rfl (Yd.mvI rfl) ?_
      refine LJ.call (pickF _ [0, 1, 3, 4]) (pickF _ [2]) rfl (perm_pickF _ [0, 1, 3, 4] [2] rfl) (fun k hk dk => markIntS_ok rfl (by omega) (by omega) (by omega)) ?_
      rintro _ _ ⟨rfl, rfl⟩
      refine LJ.norm [_, _, _, _, _] rfl ?_
      refine LJ.yd rfl (Yd.asI rfl) ?_
      refine LJ.nil ?_
      refine CJ.seq ?_
      refine CJ.region ?_
      refine LJ.yd rfl (Yd.asI rfl) ?_
      refine LJ.nil ?_
      refine CJ.seq ?_
      refine CJ.region ?_
      refine LJ.yd rfl (Yd.mvS rfl) ?_
      refine LJ.yd rfl (Yd.mvI rfl) ?_
      refine LJ.callV rfl (fun k hk dk => heldIntS_ok (Sts.lrm hk dk 4 (by first | rfl | omega | (simp; done) | (simp; omega) | (simp [upN_len]; omega) | (simp [idxBy_len]; omega) | (simp [marks_len]; omega) | (simp [upN_len]; done) | (simp [idxBy_len]; done) | (simp [marks_len]; done) | (simp at *; omega)) (by first | rfl | omega | (simp; done) | (simp; omega) | (simp [upN_len]; omega) | (simp [idxBy_len]; omega) | (simp [marks_len]; omega) | (simp [upN_len]; done) | (simp [idxBy_len]; done) | (simp [marks_len]; done) | (simp at *; omega)) rfl) (by omega) (by omega) (by omega)) ?_
      refine LJ.yd rfl (Yd.asI rfl) ?_
      refine LJ.nil ?_
      refine CJ.seq ?_
      refine CJ.seq ?_
      refine CJ.region ?_
      refine LJ.yd rfl (Yd.mvI rfl) ?_
      refine LJ.splitD rfl (Yd.lss rfl rfl) (fun h50 => ?_) (fun h50 => ?_)
      · exfalso; omega
      · refine LJ.nil ?_
        refine CJ.condF rfl ?_
        refine CJ.skip ?_
        refine CJ.seq ?_
        refine CJ.seq ?_
        refine CJ.region ?_
        refine LJ.yd rfl (Yd.mvI rfl) ?_
        refine LJ.yd rfl (Yd.mvI rfl) ?_
        refine LJ.splitN rfl (Yd.neq rfl rfl) (fun h53 => ?_) (fun h53 => ?_)
        · exfalso; omega
        · refine LJ.nil ?_
          refine CJ.condF rfl ?_
          refine CJ.skip ?_
          refine CJ.seq ?_
          refine CJ.region ?_
          refine LJ.yd rfl (Yd.mvS rfl) ?_
          refine LJ.call0 rfl (fun k hk dk => toJobS_ok (RdRow.up hl) (by omega)) ?_
          rintro _ _ ⟨ra55, rc55, rfl, rfl⟩
          refine LJ.norm [_, _, _, _, _, _] rfl ?_
          refine LJ.call0 rfl (fun k hk dk => BestOrderI_ok (Sts.lrm hk dk 5 (by first | rfl | omega | (simp; done) | (simp; omega) | (simp [upN_len]; omega) | (simp [idxBy_len]; omega) | (simp [marks_len]; omega) | (simp [upN_len]; done) | (simp [idxBy_len]; done) | (simp [marks_len]; done) | (simp at *; omega)) (by first | rfl | omega | (simp; done) | (simp; omega) | (simp [upN_len]; omega) | (simp [idxBy_len]; omega) | (simp [marks_len]; omega) | (simp [upN_len]; done) | (simp [idxBy_len]; done) | (simp [marks_len]; done) | (simp at *; omega)) rfl)) ?_
          rintro _ _ ⟨ra56, rc56, rfl, rfl⟩
          refine LJ.norm [_, _, _, _, _, _, _] rfl ?_
          refine LJ.yd rfl (Yd.asS rfl) ?_
          refine LJ.nil ?_
          refine CJ.seq ?_
          refine CJ.seq ?_
          refine CJ.region ?_
          refine LJ.yd rfl (Yd.mvS rfl) ?_
          refine LJ.yd rfl (Yd.mvS rfl) ?_
          refine LJ.callV rfl (fun k hk dk => eqIntS_eq (Sts.lrm hk dk 6 (by first | rfl | omega | (simp; done) | (simp; omega) | (simp [upN_len]; omega) | (simp [idxBy_len]; omega) | (simp [marks_len]; omega) | (simp [upN_len]; done) | (simp [idxBy_len]; done) | (simp [marks_len]; done) | (simp at *; omega)) (by first | rfl | omega | (simp; done) | (simp; omega) | (simp [upN_len]; omega) | (simp [idxBy_len]; omega) | (simp [marks_len]; omega) | (simp [upN_len]; done) | (simp [idxBy_len]; done) | (simp [marks_len]; done) | (simp at *; omega)) rfl) (Sts.lrm hk dk 1 (by first | rfl | omega | (simp; done) | (simp; omega) | (simp [upN_len]; omega) | (simp [idxBy_len]; omega) | (simp [marks_len]; omega) | (simp [upN_len]; done) | (simp [idxBy_len]; done) | (simp [marks_len]; done) | (simp at *; omega)) (by first | rfl | omega | (simp; done) | (simp; omega) | (simp [upN_len]; omega) | (simp [idxBy_len]; omega) | (simp [marks_len]; omega) | (simp [upN_len]; done) | (simp [idxBy_len]; done) | (simp [marks_len]; done) | (simp at *; omega)) rfl)) ?_
          refine LJ.yd rfl (Yd.not rfl) ?_
          refine LJ.nil ?_
          refine CJ.condF rfl ?_
          refine CJ.skip ?_
          refine CJ.seq ?_
          refine CJ.region ?_
          refine LJ.yd rfl (Yd.asI rfl) ?_
          refine LJ.nil ?_
          refine CJ.seq ?_
          refine CJ.region ?_
          refine LJ.yd rfl (Yd.mvS rfl) ?_
          refine LJ.yd rfl (Yd.mvI rfl) ?_
          refine LJ.callV rfl (fun k hk dk => heldIntS_ok (Sts.lrm hk dk 4 (by first | rfl | omega | (simp; done) | (simp; omega) | (simp [upN_len]; omega) | (simp [idxBy_len]; omega) | (simp [marks_len]; omega) | (simp [upN_len]; done) | (simp [idxBy_len]; done) | (simp [marks_len]; done) | (simp at *; omega)) (by first | rfl | omega | (simp; done) | (simp; omega) | (simp [upN_len]; omega) | (simp [idxBy_len]; omega) | (simp [marks_len]; omega) | (simp [upN_len]; done) | (simp [idxBy_len]; done) | (simp [marks_len]; done) | (simp at *; omega)) rfl) (by omega) (by omega) (by omega)) ?_
          refine LJ.yd rfl (Yd.asI rfl) ?_
          refine LJ.nil ?_
          refine CJ.seq ?_
          refine CJ.seq ?_
          refine CJ.region ?_
          refine LJ.yd rfl (Yd.mvI rfl) ?_
          refine LJ.splitD rfl (Yd.lss rfl rfl) (fun h65 => ?_) (fun h65 => ?_)
          · exfalso; omega
          · refine LJ.nil ?_
            refine CJ.condF rfl ?_
            refine CJ.skip ?_
            refine CJ.seq ?_
            refine CJ.seq ?_
            refine CJ.region ?_
            refine LJ.yd rfl (Yd.mvI rfl) ?_
            refine LJ.yd rfl (Yd.mvI rfl) ?_
            refine LJ.splitN rfl (Yd.neq rfl rfl) (fun h68 => ?_) (fun h68 => ?_)
            · exfalso; omega
            · refine LJ.nil ?_
              refine CJ.condF rfl ?_
              refine CJ.skip ?_
              refine CJ.seq ?_
              refine CJ.region ?_
              refine LJ.yd rfl (Yd.asB rfl) ?_
              refine LJ.nil ?_
              refine CJ.ret ?_
              refine Fin.V (Res.one (ResV.tmp (v := .bool true) rfl)) ?_
              rfl
end Go.Proofs.Ytbgalcjkmgdaiaa
