/-
  Contracts: the numbers of cuts, and the cuts above them.
-/
import Derived.Test.YtfnnhekbgjofoaaP1
import Derived.Test.YtfnnhekbgjofoaaK1
import Derived.Test.YtfnnhekbgjofoaaLL
namespace Go.Proofs.Ytfnnhekbgjofoaa
open Go
set_option maxRecDepth 20000
set_option maxHeartbeats 1000000

abbrev encK (q : Int × Int) : List Value := [vI q.1, vI q.2]
theorem isCutS_c (A : Amb) (d : Bool) (a p : Int) (t : Bool) (v : Value) : Ctr Try.prog 85 #[.agg #[vI (opOf d), vI a, vI p, .bool t, v]] A [] (Val (.bool true)) := by
  have := isCutS_ok A (opOf d) a p t v
  cases d <;> exact this
theorem isCutI_c (A : Amb) (d : Bool) (a p : Int) (t : Bool) (v : Value) : Ctr Try.prog 86 #[.agg #[vI (opOf d), vI a, vI p, .bool t, v]] A [] (Val (.bool true)) := by
  have := isCutI_ok A (opOf d) a p t v
  cases d <;> exact this
theorem planSizeS_BT {A : Amb} {cs : List Value} {b : BT} (h : RdT A.h cs b) (hz : b.sz ≤ 255) : Ctr Try.prog 56 #[.agg cs.toArray] A [] (Val (vI b.sz)) := by
  have := planSizeS_ok (RdPlan.of_BT h)
  rwa [psz_BT, if_pos hz] at this
theorem PlanSizeI_BT {A : Amb} {cs : List Value} {b : BT} (h : RdT A.h cs b) (hz : b.sz ≤ 255) : Ctr Try.prog 19 #[.agg cs.toArray] A [] (Val (vI b.sz)) := by
  have := PlanSizeI_ok (RdPlan.of_BT h)
  rwa [psz_BT, if_pos hz] at this
theorem knots_len' {b : BT} {n ab : Int} (hz : b.sz ≤ 255) : (b.knots n ab).length ≤ 127 := by
  have := b.knots_len n ab
  have := b.sz_cuts
  omega
theorem innerNodes_ok (b : BT) : ∀ (A : Amb) (cs : List Value) (n ab : Int), 0 ≤ n → n ≤ 1000 → n + b.sz ≤ 1000 → b.sz ≤ 255 → RdT A.h cs b → Ctr Try.prog 58 #[.agg cs.toArray, vI n] A [] (RLP encI 3 1 ((b.knots n ab).map Prod.fst)) := by
  induction b with
  | w =>
    intro A cs n ab hn hn1 hn2 hz hr
    cases hr
    refine Ctr.body (args := [_, _]) Try.func58 rfl Try.ntmps58 Try.results58 (by simp) ?_
    refine CJ.seq ?_
    refine CJ.region ?_
    refine LJ.boxG (vs := [_, _, _, _, _]) rfl rfl (fun b1 => ?_)
    refine LJ.yd rfl (Yd.asS rfl) ?_
    refine LJ.nil ?_
    refine CJ.seq ?_
    refine CJ.seq ?_
    refine CJ.region ?_
    refine LJ.yd rfl (Yd.loadG (us := [_, _, _, _, _]) 0 rfl rfl rfl rfl) ?_
    refine LJ.callV rfl (fun k hk dk => isCutS_ok _ _ _ _ _ _) ?_
    refine LJ.yd rfl (Yd.not rfl) ?_
    refine LJ.nil ?_
    refine CJ.condT rfl ?_
    refine CJ.seq ?_
    refine CJ.region ?_
    refine LJ.op rfl (OpR.buildSlice (cs := []) rfl rfl) ?_
    rintro _ _ ⟨b2, rfl, rfl⟩
    refine LJ.yd rfl (Yd.asS rfl) ?_
    refine LJ.nil ?_
    refine CJ.ret ?_
    refine Fin.RS 1 [] (Res.one (ResV.tmp (v := .slice _ _ _) rfl)) rfl rfl rfl rfl rfl ?_
    rfl
  | p i t =>
    intro A cs n ab hn hn1 hn2 hz hr
    cases hr
    refine Ctr.body (args := [_, _]) Try.func58 rfl Try.ntmps58 Try.results58 (by simp) ?_
    refine CJ.seq ?_
    refine CJ.region ?_
    refine LJ.boxG (vs := [_, _, _, _, _]) rfl rfl (fun b1 => ?_)
    refine LJ.yd rfl (Yd.asS rfl) ?_
    refine LJ.nil ?_
    refine CJ.seq ?_
    refine CJ.seq ?_
    refine CJ.region ?_
    refine LJ.yd rfl (Yd.loadG (us := [_, _, _, _, _]) 0 rfl rfl rfl rfl) ?_
    refine LJ.callV rfl (fun k hk dk => isCutS_ok _ _ _ _ _ _) ?_
    refine LJ.yd rfl (Yd.not rfl) ?_
    refine LJ.nil ?_
    refine CJ.condT rfl ?_
    refine CJ.seq ?_
    refine CJ.region ?_
    refine LJ.op rfl (OpR.buildSlice (cs := []) rfl rfl) ?_
    rintro _ _ ⟨b2, rfl, rfl⟩
    refine LJ.yd rfl (Yd.asS rfl) ?_
    refine LJ.nil ?_
    refine CJ.ret ?_
    refine Fin.RS 1 [] (Res.one (ResV.tmp (v := .slice _ _ _) rfl)) rfl rfl rfl rfl rfl ?_
    rfl
  | c d a l r ihl ihr =>
    intro A cs n ab hn hn1 hn2 hz hr
    obtain _ | _ | ⟨ha, hcap, hrow, hl, hr⟩ := hr
    simp only [BT.sz] at hz hn2
    have p1 := l.sz_pos
    have p2 := r.sz_pos
    have k1 := knots_len' (b := l) (n := n + 1) (ab := n) (by omega)
    have k2 := knots_len' (b := r) (n := n + 1 + l.sz) (ab := n) (by omega)
    refine Ctr.body (args := [_, _]) Try.func58 rfl Try.ntmps58 Try.results58 (by simp) ?_
    refine CJ.seq ?_
    refine CJ.region ?_
    refine LJ.boxG (vs := [_, _, _, _, _]) rfl rfl (fun b1 => ?_)
    refine LJ.yd rfl (Yd.asS rfl) ?_
    refine LJ.nil ?_
    refine CJ.seq ?_
    refine CJ.seq ?_
    refine CJ.region ?_
    refine LJ.yd rfl (Yd.loadG (us := [_, _, _, _, _]) 0 rfl rfl rfl rfl) ?_
    refine LJ.callV rfl (fun k hk dk => isCutS_c _ _ _ _ _ _) ?_
    refine LJ.yd rfl (Yd.not rfl) ?_
    refine LJ.nil ?_
    refine CJ.condF rfl ?_
    refine CJ.skip ?_
    refine CJ.seq ?_
    refine CJ.region ?_
    refine LJ.yd rfl (Yd.mvI rfl) ?_
    refine LJ.op rfl (OpR.buildSlice (cs := [_]) rfl rfl) ?_
    rintro _ _ ⟨b2, rfl, rfl⟩
    refine LJ.yd rfl (Yd.fieldAddr rfl) ?_
    refine LJ.yd rfl (Yd.loadC 0 rfl rfl rfl) ?_
    refine LJ.yd rfl (Yd.indexAddr rfl rfl (by omega) (by simp)) ?_
    refine LJ.yd rfl (Yd.loadRow (i := 0) hrow.up rfl (by simp) rfl hl.len) ?_
    refine LJ.yd rfl (Yd.mvI rfl) ?_
    refine LJ.yd rfl (Yd.add rfl rfl (by unfold I64; omega)) ?_
    refine LJ.call0 rfl (fun k hk dk => ihl _ _ _ n (by omega) (by omega) (by omega) (by omega) hl.up) ?_
    rintro _ _ ⟨ra18, rc18, rfl, rfl⟩
    refine LJ.norm [_, _, _] rfl ?_
    refine LJ.imp1 1 rfl (fun _ h => Cel.lr (enc := encI) (k := 1) (m := 1) [_] rfl rfl rfl rfl h) ?_
    refine LJ.norm [_, _, _] rfl ?_
    refine LJ.op rfl (OpR.apR (enc := encI) 1 2 rfl rfl rfl (by first | rfl | omega | (simp; done) | (simp; omega) | (simp [upN_len]; omega) | (simp [idxBy_len]; omega) | (simp [marks_len]; omega) | (simp [upN_len]; done) | (simp [idxBy_len]; done) | (simp [marks_len]; done) | (simp at *; omega)) rfl (by first | rfl | omega | (simp; done) | (simp; omega) | (simp [upN_len]; omega) | (simp [idxBy_len]; omega) | (simp [marks_len]; omega) | (simp [upN_len]; done) | (simp [idxBy_len]; done) | (simp [marks_len]; done) | (simp at *; omega)) (fun _ => rfl) (by first | rfl | omega | (simp; done) | (simp; omega) | (simp [upN_len]; omega) | (simp [idxBy_len]; omega) | (simp [marks_len]; omega) | (simp [upN_len]; done) | (simp [idxBy_len]; done) | (simp [marks_len]; done) | (simp at *; omega))) ?_
    rintro _ _ ⟨ra19, rc19, rfl, rfl⟩
    refine LJ.norm [_, _, _] rfl ?_
    refine LJ.yd rfl (Yd.asS rfl) ?_
    refine LJ.nil ?_
    refine CJ.seq ?_
    refine CJ.regionD [0, 2] [1] (by kernel_rfl) rfl ?_
    refine DJ.norm [_, _] [_] rfl rfl ?_
    refine DJ.yd 0 rfl (by kernel_rfl) (by kernel_rfl) (by kernel_rfl) rfl rfl (Yd.mvS rfl) ?_
    refine DJ.yd 1 rfl (by kernel_rfl) (by kernel_rfl) (by kernel_rfl) rfl rfl (Yd.fieldAddr rfl) ?_
    refine DJ.yd 2 rfl (by kernel_rfl) (by kernel_rfl) (by kernel_rfl) rfl rfl (Yd.loadC 0 rfl rfl rfl) ?_
    refine DJ.yd 3 rfl (by kernel_rfl) (by kernel_rfl) (by kernel_rfl) rfl rfl (Yd.indexAddr rfl rfl (by omega) (by simp)) ?_
    refine DJ.yd 4 rfl (by kernel_rfl) (by kernel_rfl) (by kernel_rfl) rfl rfl (Yd.loadRow (i := 1) hrow.up rfl (by simp) rfl hr.len) ?_
    refine DJ.yd 5 rfl (by kernel_rfl) (by kernel_rfl) (by kernel_rfl) rfl rfl (Yd.mvI rfl) ?_
    refine DJ.yd 6 rfl (by kernel_rfl) (by kernel_rfl) (by kernel_rfl) rfl rfl (Yd.add rfl rfl (by unfold I64; omega)) ?_
    refine DJ.yd 7 rfl (by kernel_rfl) (by kernel_rfl) (by kernel_rfl) rfl rfl (Yd.fieldAddr rfl) ?_
    refine DJ.yd 8 rfl (by kernel_rfl) (by kernel_rfl) (by kernel_rfl) rfl rfl (Yd.loadC 0 rfl rfl rfl) ?_
    refine DJ.yd 9 rfl (by kernel_rfl) (by kernel_rfl) (by kernel_rfl) rfl rfl (Yd.indexAddr rfl rfl (by omega) (by simp)) ?_
    refine DJ.yd 10 rfl (by kernel_rfl) (by kernel_rfl) (by kernel_rfl) rfl rfl (Yd.loadRow (i := 0) hrow.up rfl (by simp) rfl hl.len) ?_
    refine DJ.one (i := 11) (by kernel_rfl) ?_
    refine DO.callV rfl rfl rfl (fun k0 hk0 dk0 k hk dk => planSizeS_BT hl.up (by omega)) ?_
    refine DJ.yd 12 rfl (by kernel_rfl) (by kernel_rfl) (by kernel_rfl) rfl rfl (Yd.add rfl rfl (by unfold I64; omega)) ?_
    refine DJ.one (i := 13) (by kernel_rfl) ?_
    refine DO.call0 rfl rfl rfl (fun k0 hk0 dk0 k hk dk => ihr _ _ _ n (by omega) (by omega) (by omega) (by omega) hr.up) ?_
    rintro _ _ ⟨ra33, rc33, rfl, rfl⟩
    refine DJ.norm [_, _] [_, _] rfl rfl ?_
    refine DJ.one (i := 14) (by kernel_rfl) ?_
    refine DO.op rfl rfl rfl (fun k0 hk0 dk0 => OpR.apR (enc := encI) 0 1 rfl rfl rfl (by first | rfl | omega | (simp; done) | (simp; omega) | (simp [upN_len]; omega) | (simp [idxBy_len]; omega) | (simp [marks_len]; omega) | (simp [upN_len]; done) | (simp [idxBy_len]; done) | (simp [marks_len]; done) | (simp at *; omega)) rfl (by first | rfl | omega | (simp; done) | (simp; omega) | (simp [upN_len]; omega) | (simp [idxBy_len]; omega) | (simp [marks_len]; omega) | (simp [upN_len]; done) | (simp [idxBy_len]; done) | (simp [marks_len]; done) | (simp at *; omega)) (fun _ => rfl) (by first | rfl | omega | (simp; done) | (simp; omega) | (simp [upN_len]; omega) | (simp [idxBy_len]; omega) | (simp [marks_len]; omega) | (simp [upN_len]; done) | (simp [idxBy_len]; done) | (simp [marks_len]; done) | (simp at *; omega))) ?_
    rintro _ _ ⟨ra34, rc34, rfl, rfl⟩
    refine DJ.norm [_, _] [_, _] rfl rfl ?_
    refine DJ.yd 15 rfl (by kernel_rfl) (by kernel_rfl) (by kernel_rfl) rfl rfl (Yd.asS rfl) ?_
    refine DJ.done (by kernel_rfl) ?_
    refine CJ.ret ?_
    refine Fin.RL 2 (Res.one (ResV.tmp (v := .slice _ _ _) rfl)) rfl (by first | rfl | omega | (simp; done) | (simp; omega) | (simp [upN_len]; omega) | (simp [idxBy_len]; omega) | (simp [marks_len]; omega) | (simp [upN_len]; done) | (simp [idxBy_len]; done) | (simp [marks_len]; done) | (simp at *; omega)) ?_
    simp [BT.knots]
theorem aboves_ok (b : BT) : ∀ (A : Amb) (cs : List Value) (n ab : Int), 0 ≤ n → n ≤ 1000 → n + b.sz ≤ 1000 → b.sz ≤ 255 → RdT A.h cs b → Ctr Try.prog 59 #[.agg cs.toArray, vI n, vI ab] A [] (RLP encI 3 1 ((b.knots n ab).map Prod.snd)) := by
  induction b with
  | w =>
    intro A cs n ab hn hn1 hn2 hz hr
    cases hr
    refine Ctr.body (args := [_, _, _]) Try.func59 rfl Try.ntmps59 Try.results59 (by simp) ?_
    refine CJ.seq ?_
    refine CJ.region ?_
    refine LJ.boxG (vs := [_, _, _, _, _]) rfl rfl (fun b1 => ?_)
    refine LJ.yd rfl (Yd.asS rfl) ?_
    refine LJ.nil ?_
    refine CJ.seq ?_
    refine CJ.seq ?_
    refine CJ.region ?_
    refine LJ.yd rfl (Yd.loadG (us := [_, _, _, _, _]) 0 rfl rfl rfl rfl) ?_
    refine LJ.callV rfl (fun k hk dk => isCutS_ok _ _ _ _ _ _) ?_
    refine LJ.yd rfl (Yd.not rfl) ?_
    refine LJ.nil ?_
    refine CJ.condT rfl ?_
    refine CJ.seq ?_
    refine CJ.region ?_
    refine LJ.op rfl (OpR.buildSlice (cs := []) rfl rfl) ?_
    rintro _ _ ⟨b2, rfl, rfl⟩
    refine LJ.yd rfl (Yd.asS rfl) ?_
    refine LJ.nil ?_
    refine CJ.ret ?_
    refine Fin.RS 1 [] (Res.one (ResV.tmp (v := .slice _ _ _) rfl)) rfl rfl rfl rfl rfl ?_
    rfl
  | p i t =>
    intro A cs n ab hn hn1 hn2 hz hr
    cases hr
    refine Ctr.body (args := [_, _, _]) Try.func59 rfl Try.ntmps59 Try.results59 (by simp) ?_
    refine CJ.seq ?_
    refine CJ.region ?_
    refine LJ.boxG (vs := [_, _, _, _, _]) rfl rfl (fun b1 => ?_)
    refine LJ.yd rfl (Yd.asS rfl) ?_
    refine LJ.nil ?_
    refine CJ.seq ?_
    refine CJ.seq ?_
    refine CJ.region ?_
    refine LJ.yd rfl (Yd.loadG (us := [_, _, _, _, _]) 0 rfl rfl rfl rfl) ?_
    refine LJ.callV rfl (fun k hk dk => isCutS_ok _ _ _ _ _ _) ?_
    refine LJ.yd rfl (Yd.not rfl) ?_
    refine LJ.nil ?_
    refine CJ.condT rfl ?_
    refine CJ.seq ?_
    refine CJ.region ?_
    refine LJ.op rfl (OpR.buildSlice (cs := []) rfl rfl) ?_
    rintro _ _ ⟨b2, rfl, rfl⟩
    refine LJ.yd rfl (Yd.asS rfl) ?_
    refine LJ.nil ?_
    refine CJ.ret ?_
    refine Fin.RS 1 [] (Res.one (ResV.tmp (v := .slice _ _ _) rfl)) rfl rfl rfl rfl rfl ?_
    rfl
  | c d a l r ihl ihr =>
    intro A cs n ab hn hn1 hn2 hz hr
    obtain _ | _ | ⟨ha, hcap, hrow, hl, hr⟩ := hr
    simp only [BT.sz] at hz hn2
    have p1 := l.sz_pos
    have p2 := r.sz_pos
    have k1 := knots_len' (b := l) (n := n + 1) (ab := n) (by omega)
    have k2 := knots_len' (b := r) (n := n + 1 + l.sz) (ab := n) (by omega)
    refine Ctr.body (args := [_, _, _]) Try.func59 rfl Try.ntmps59 Try.results59 (by simp) ?_
    refine CJ.seq ?_
    refine CJ.region ?_
    refine LJ.boxG (vs := [_, _, _, _, _]) rfl rfl (fun b1 => ?_)
    refine LJ.yd rfl (Yd.asS rfl) ?_
    refine LJ.nil ?_
    refine CJ.seq ?_
    refine CJ.seq ?_
    refine CJ.region ?_
    refine LJ.yd rfl (Yd.loadG (us := [_, _, _, _, _]) 0 rfl rfl rfl rfl) ?_
    refine LJ.callV rfl (fun k hk dk => isCutS_c _ _ _ _ _ _) ?_
    refine LJ.yd rfl (Yd.not rfl) ?_
    refine LJ.nil ?_
    refine CJ.condF rfl ?_
    refine CJ.skip ?_
    refine CJ.seq ?_
    refine CJ.region ?_
    refine LJ.yd rfl (Yd.mvI rfl) ?_
    refine LJ.op rfl (OpR.buildSlice (cs := [_]) rfl rfl) ?_
    rintro _ _ ⟨b2, rfl, rfl⟩
    refine LJ.yd rfl (Yd.fieldAddr rfl) ?_
    refine LJ.yd rfl (Yd.loadC 0 rfl rfl rfl) ?_
    refine LJ.yd rfl (Yd.indexAddr rfl rfl (by omega) (by simp)) ?_
    refine LJ.yd rfl (Yd.loadRow (i := 0) hrow.up rfl (by simp) rfl hl.len) ?_
    refine LJ.yd rfl (Yd.mvI rfl) ?_
    refine LJ.yd rfl (Yd.add rfl rfl (by unfold I64; omega)) ?_
    refine LJ.yd rfl (Yd.mvI rfl) ?_
    refine LJ.call0 rfl (fun k hk dk => ihl _ _ _ n (by omega) (by omega) (by omega) (by omega) hl.up) ?_
    rintro _ _ ⟨ra21, rc21, rfl, rfl⟩
    refine LJ.norm [_, _, _] rfl ?_
    refine LJ.imp1 1 rfl (fun _ h => Cel.lr (enc := encI) (k := 1) (m := 1) [_] rfl rfl rfl rfl h) ?_
    refine LJ.norm [_, _, _] rfl ?_
    refine LJ.op rfl (OpR.apR (enc := encI) 1 2 rfl rfl rfl (by first | rfl | omega | (simp; done) | (simp; omega) | (simp [upN_len]; omega) | (simp [idxBy_len]; omega) | (simp [marks_len]; omega) | (simp [upN_len]; done) | (simp [idxBy_len]; done) | (simp [marks_len]; done) | (simp at *; omega)) rfl (by first | rfl | omega | (simp; done) | (simp; omega) | (simp [upN_len]; omega) | (simp [idxBy_len]; omega) | (simp [marks_len]; omega) | (simp [upN_len]; done) | (simp [idxBy_len]; done) | (simp [marks_len]; done) | (simp at *; omega)) (fun _ => rfl) (by first | rfl | omega | (simp; done) | (simp; omega) | (simp [upN_len]; omega) | (simp [idxBy_len]; omega) | (simp [marks_len]; omega) | (simp [upN_len]; done) | (simp [idxBy_len]; done) | (simp [marks_len]; done) | (simp at *; omega))) ?_
    rintro _ _ ⟨ra22, rc22, rfl, rfl⟩
    refine LJ.norm [_, _, _] rfl ?_
    refine LJ.yd rfl (Yd.asS rfl) ?_
    refine LJ.nil ?_
    refine CJ.seq ?_
    refine CJ.regionD [0, 2] [1] (by kernel_rfl) rfl ?_
    refine DJ.norm [_, _] [_] rfl rfl ?_
    refine DJ.yd 0 rfl (by kernel_rfl) (by kernel_rfl) (by kernel_rfl) rfl rfl (Yd.mvS rfl) ?_
    refine DJ.yd 1 rfl (by kernel_rfl) (by kernel_rfl) (by kernel_rfl) rfl rfl (Yd.fieldAddr rfl) ?_
    refine DJ.yd 2 rfl (by kernel_rfl) (by kernel_rfl) (by kernel_rfl) rfl rfl (Yd.loadC 0 rfl rfl rfl) ?_
    refine DJ.yd 3 rfl (by kernel_rfl) (by kernel_rfl) (by kernel_rfl) rfl rfl (Yd.indexAddr rfl rfl (by omega) (by simp)) ?_
    refine DJ.yd 4 rfl (by kernel_rfl) (by kernel_rfl) (by kernel_rfl) rfl rfl (Yd.loadRow (i := 1) hrow.up rfl (by simp) rfl hr.len) ?_
    refine DJ.yd 5 rfl (by kernel_rfl) (by kernel_rfl) (by kernel_rfl) rfl rfl (Yd.mvI rfl) ?_
    refine DJ.yd 6 rfl (by kernel_rfl) (by kernel_rfl) (by kernel_rfl) rfl rfl (Yd.add rfl rfl (by unfold I64; omega)) ?_
    refine DJ.yd 7 rfl (by kernel_rfl) (by kernel_rfl) (by kernel_rfl) rfl rfl (Yd.fieldAddr rfl) ?_
    refine DJ.yd 8 rfl (by kernel_rfl) (by kernel_rfl) (by kernel_rfl) rfl rfl (Yd.loadC 0 rfl rfl rfl) ?_
    refine DJ.yd 9 rfl (by kernel_rfl) (by kernel_rfl) (by kernel_rfl) rfl rfl (Yd.indexAddr rfl rfl (by omega) (by simp)) ?_
    refine DJ.yd 10 rfl (by kernel_rfl) (by kernel_rfl) (by kernel_rfl) rfl rfl (Yd.loadRow (i := 0) hrow.up rfl (by simp) rfl hl.len) ?_
    refine DJ.yd 13 rfl (by kernel_rfl) (by kernel_rfl) (by kernel_rfl) rfl rfl (Yd.mvI rfl) ?_
    refine DJ.one (i := 11) (by kernel_rfl) ?_
    refine DO.callV rfl rfl rfl (fun k0 hk0 dk0 k hk dk => planSizeS_BT hl.up (by omega)) ?_
    refine DJ.yd 12 rfl (by kernel_rfl) (by kernel_rfl) (by kernel_rfl) rfl rfl (Yd.add rfl rfl (by unfold I64; omega)) ?_
    refine DJ.one (i := 14) (by kernel_rfl) ?_
    refine DO.call0 rfl rfl rfl (fun k0 hk0 dk0 k hk dk => ihr _ _ _ n (by omega) (by omega) (by omega) (by omega) hr.up) ?_
    rintro _ _ ⟨ra37, rc37, rfl, rfl⟩
    refine DJ.norm [_, _] [_, _] rfl rfl ?_
    refine DJ.one (i := 15) (by kernel_rfl) ?_
    refine DO.op rfl rfl rfl (fun k0 hk0 dk0 => OpR.apR (enc := encI) 0 1 rfl rfl rfl (by first | rfl | omega | (simp; done) | (simp; omega) | (simp [upN_len]; omega) | (simp [idxBy_len]; omega) | (simp [marks_len]; omega) | (simp [upN_len]; done) | (simp [idxBy_len]; done) | (simp [marks_len]; done) | (simp at *; omega)) rfl (by first | rfl | omega | (simp; done) | (simp; omega) | (simp [upN_len]; omega) | (simp [idxBy_len]; omega) | (simp [marks_len]; omega) | (simp [upN_len]; done) | (simp [idxBy_len]; done) | (simp [marks_len]; done) | (simp at *; omega)) (fun _ => rfl) (by first | rfl | omega | (simp; done) | (simp; omega) | (simp [upN_len]; omega) | (simp [idxBy_len]; omega) | (simp [marks_len]; omega) | (simp [upN_len]; done) | (simp [idxBy_len]; done) | (simp [marks_len]; done) | (simp at *; omega))) ?_
    rintro _ _ ⟨ra38, rc38, rfl, rfl⟩
    refine DJ.norm [_, _] [_, _] rfl rfl ?_
    refine DJ.yd 16 rfl (by kernel_rfl) (by kernel_rfl) (by kernel_rfl) rfl rfl (Yd.asS rfl) ?_
    refine DJ.done (by kernel_rfl) ?_
    refine CJ.ret ?_
    refine Fin.RL 2 (Res.one (ResV.tmp (v := .slice _ _ _) rfl)) rfl (by first | rfl | omega | (simp; done) | (simp; omega) | (simp [upN_len]; omega) | (simp [idxBy_len]; omega) | (simp [marks_len]; omega) | (simp [upN_len]; done) | (simp [idxBy_len]; done) | (simp [marks_len]; done) | (simp at *; omega)) ?_
    simp [BT.knots]
theorem placeIn_ok {A : Amb} {v : Value} {l : List Int} {x : Int} (hl : RdL encI 1 A.h v l) : Ctr Try.prog 57 #[v, vI x] A [] (Val (vI (plc x l 0))) := by
  obtain ⟨la, lc, rfl, hlb, hl⟩ := hl.un
  refine Ctr.body (args := [_, _]) Try.func57 rfl Try.ntmps57 Try.results57 (by simp) ?_
  refine CJ.seq ?_
  refine CJ.region ?_
  refine LJ.yd rfl (Yd.asI rfl) ?_
  refine LJ.nil ?_
  refine CJ.seq ?_
  refine CJ.seq ?_
  refine CJ.region ?_
  refine LJ.yd rfl (Yd.asI rfl) ?_
  refine LJ.nil ?_
  refine CJ.block ?_
  refine CJ.loopK [0, 1] Nat (fun k => k ≤ l.length ∧ plc x (l.drop k) k = plc x l 0) (fun k => [(5, vI k)]) (fun k => l.length - k) (0) ?_ ⟨rfl, trivial⟩ ?_
  · exact ⟨by omega, by rfl⟩
  · rintro k σ ⟨hk1, hi1⟩
    refine CJ.seq ?_
    refine CJ.seq ?_
    refine CJ.region ?_
    refine LJ.yd rfl (Yd.mvI rfl) ?_
    refine LJ.yd rfl (Yd.mvS rfl) ?_
    refine LJ.yd rfl (Yd.len rfl) ?_
    refine LJ.splitD rfl (Yd.lss rfl rfl) (fun h9 => ?_) (fun h9 => ?_)
    · refine LJ.nil ?_
      refine CJ.condT rfl ?_
      refine CJ.skip ?_
      refine CJ.seq ?_
      refine CJ.block ?_
      refine CJ.seq ?_
      refine CJ.region ?_
      refine LJ.yd rfl (Yd.mvS rfl) ?_
      refine LJ.yd rfl (Yd.mvI rfl) ?_
      refine LJ.idxA rfl hl rfl rfl (by omega) (by first | rfl | omega | (simp; done) | (simp; omega) | (simp [upN_len]; omega) | (simp [idxBy_len]; omega) | (simp [marks_len]; omega) | (simp [upN_len]; done) | (simp [idxBy_len]; done) | (simp [marks_len]; done) | (simp at *; omega)) (fun ib14 io14 ia14 ir14 => ?_)
      refine LJ.ldA 0 (fun u => vI u) (fun _ => rfl) ir14 rfl rfl rfl (by first | rfl | omega | (simp; done) | (simp; omega) | (simp [upN_len]; omega) | (simp [idxBy_len]; omega) | (simp [marks_len]; omega) | (simp [upN_len]; done) | (simp [idxBy_len]; done) | (simp [marks_len]; done) | (simp at *; omega)) (fun u15 hu15 => ?_)
      try simp only [Int.toNat_natCast] at hu15
      refine LJ.yd rfl (Yd.mvI rfl) ?_
      refine LJ.splitD rfl (Yd.eql rfl rfl) (fun h17 => ?_) (fun h17 => ?_)
      · refine LJ.nil ?_
        refine CJ.condT rfl ?_
        refine CJ.seq ?_
        refine CJ.region ?_
        refine LJ.yd rfl (Yd.mvI rfl) ?_
        refine LJ.yd rfl (Yd.asI rfl) ?_
        refine LJ.nil ?_
        refine CJ.ret ?_
        refine Fin.V (Res.one (ResV.tmp (v := .int _ _) rfl)) ?_
        first
          | (rw [dropC hu15, plc, if_pos h17] at hi1; rw [← hi1]; done)
          | (rw [List.drop_of_length_le (by omega), plc] at hi1; rw [← hi1])
      · refine LJ.nil ?_
        refine CJ.condF rfl ?_
        refine CJ.skip ?_
        refine CJ.region ?_
        refine LJ.yd rfl (Yd.mvI rfl) ?_
        refine LJ.yd rfl (Yd.add rfl rfl (by unfold I64; omega)) ?_
        refine LJ.yd rfl (Yd.asI rfl) ?_
        refine LJ.nil ?_
        refine ⟨(k + 1), ?_, ⟨rfl, rfl, trivial⟩, ⟨rfl, trivial⟩, Ent.refl _, ?_⟩
        · refine ⟨by omega, ?_⟩
          rw [dropC hu15, plc, if_neg h17] at hi1; exact hi1
        · first | omega | (dsimp only; omega) | (simp only []; omega)
    · refine LJ.nil ?_
      refine CJ.condF rfl ?_
      refine CJ.exit ?_
      refine CJ.seq ?_
      refine CJ.region ?_
      refine LJ.yd rfl (Yd.asI rfl) ?_
      refine LJ.nil ?_
      refine CJ.ret ?_
      refine Fin.V (Res.one (ResV.tmp (v := .int _ _) rfl)) ?_
      first
        | (rw [dropC hu15, plc, if_pos h17] at hi1; rw [← hi1]; done)
        | (rw [List.drop_of_length_le (by omega), plc] at hi1; rw [← hi1])
end Go.Proofs.Ytfnnhekbgjofoaa
