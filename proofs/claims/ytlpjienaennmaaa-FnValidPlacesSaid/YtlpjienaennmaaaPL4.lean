/-
  The law on lost area.
-/
import Derived.Test.YtlpjienaennmaaaPL3
import Derived.Test.YtlpjienaennmaaaG5
namespace Go.Proofs.Ytlpjienaennmaaa
open Go
set_option maxRecDepth 20000
set_option maxHeartbeats 1000000

/-- a work and a plan that are drawn -/
def WP2 (v : Value) (fs : List HProp) : Prop :=
  ∃ (W H : Int) (ka : Option Addr) (km kc : Nat) (o e i : Int) (t : Bool) (x : Option Addr) (m l : Nat) (pl : Plan) (ps : List Pane), v = .tuple #[.agg #[vI W, vI H, .slice ka km kc], .agg #[vI o, vI e, vI i, .bool t, .slice x m l]] ∧
    fs = [fun h => RdPanes h (.slice ka km kc) ps, fun h => RdPlan h [vI o, vI e, vI i, .bool t, .slice x m l] pl] ∧ (-1000 ≤ W ∧ W ≤ 1000 ∧ -1000 ≤ H ∧ H ≤ 1000) ∧ ps.length ≤ 24 ∧ ∀ z ∈ ps, z.wf
theorem DrawCutLengths_ok {A : Amb} {a : Option Addr} {n c : Nat} (h : Code A.h a n c) : Ctr Try.prog 10 #[.slice a n c] A [] WP2 := by
  obtain ⟨hcode, hn, ha, hs⟩ := h
  refine Ctr.body (args := [_]) Try.func10 rfl Try.ntmps10 Try.results10 (by simp) ?_
  refine CJ.seq ?_
  refine CJ.region ?_
  refine LJ.alloc ([_, _, _] : List Value) rfl rfl (fun b1 => ?_)
  refine LJ.alloc ([_, _, _, _, _] : List Value) rfl rfl (fun b2 => ?_)
  refine LJ.nil ?_
  refine CJ.seq ?_
  refine CJ.region ?_
  refine LJ.yd rfl (Yd.mvS rfl) ?_
  refine LJ.call0 rfl (fun k hk dk => newReader_ok hn hcode.up ha hs) ?_
  rintro _ _ ⟨rb, n2, rfl, hn1, hn2, rfl⟩
  have hcode2 := hcode.le hn2
  refine LJ.call (pickF _ [0, 1]) (pickF _ [2]) rfl (perm_pickF _ [0, 1] [2] rfl) (fun k hk dk => anyPlan_ok hcode2.up (by omega) (by omega)) ?_
  rintro _ _ ⟨W, H, ka, km, kc, o, e, i, t, x, m, l, pl, q, ps, rfl, rfl, hq1, hq2, hW1, hW2, hH1, hH2, hl1, hw1⟩
  refine LJ.norm [_, _, _, _, _] rfl ?_
  refine LJ.yd rfl (Yd.extract rfl rfl) ?_
  refine LJ.yd rfl (Yd.extract rfl rfl) ?_
  refine LJ.store (v := .agg #[_, _, _]) (us := [_, _, _]) 0 rfl rfl rfl rfl rfl rfl rfl rfl ?_
  refine LJ.store (v := .agg #[_, _, _, _, _]) (us := [_, _, _, _, _]) 1 rfl rfl rfl rfl rfl rfl rfl rfl ?_
  refine LJ.nil ?_
  refine CJ.ret ?_
  exact Fin.R [_, _] (Res.two (ResV.cell (us := [_, _, _]) 0 rfl rfl rfl rfl) (ResV.cell (us := [_, _, _, _, _]) 1 rfl rfl rfl rfl)) ⟨_, _, _, _, _, _, _, _, _, _, _, _, _, _, rfl, rfl, by omega, hl1, hw1⟩ (Ent.pick [3, 4] [0, 1, 2] rfl)
theorem DrawMirrorPlan_ok {A : Amb} {a : Option Addr} {n c : Nat} (h : Code A.h a n c) : Ctr Try.prog 20 #[.slice a n c] A [] WP2 := by
  obtain ⟨hcode, hn, ha, hs⟩ := h
  refine Ctr.body (args := [_]) Try.func20 rfl Try.ntmps20 Try.results20 (by simp) ?_
  refine CJ.seq ?_
  refine CJ.region ?_
  refine LJ.alloc ([_, _, _] : List Value) rfl rfl (fun b1 => ?_)
  refine LJ.alloc ([_, _, _, _, _] : List Value) rfl rfl (fun b2 => ?_)
  refine LJ.nil ?_
  refine CJ.seq ?_
  refine CJ.region ?_
  refine LJ.yd rfl (Yd.mvS rfl) ?_
  refine LJ.call0 rfl (fun k hk dk => newReader_ok hn hcode.up ha hs) ?_
  rintro _ _ ⟨rb, n2, rfl, hn1, hn2, rfl⟩
  have hcode2 := hcode.le hn2
  refine LJ.call (pickF _ [0, 1]) (pickF _ [2]) rfl (perm_pickF _ [0, 1] [2] rfl) (fun k hk dk => anyPlan_ok hcode2.up (by omega) (by omega)) ?_
  rintro _ _ ⟨W, H, ka, km, kc, o, e, i, t, x, m, l, pl, q, ps, rfl, rfl, hq1, hq2, hW1, hW2, hH1, hH2, hl1, hw1⟩
  refine LJ.norm [_, _, _, _, _] rfl ?_
  refine LJ.yd rfl (Yd.extract rfl rfl) ?_
  refine LJ.yd rfl (Yd.extract rfl rfl) ?_
  refine LJ.store (v := .agg #[_, _, _]) (us := [_, _, _]) 0 rfl rfl rfl rfl rfl rfl rfl rfl ?_
  refine LJ.store (v := .agg #[_, _, _, _, _]) (us := [_, _, _, _, _]) 1 rfl rfl rfl rfl rfl rfl rfl rfl ?_
  refine LJ.nil ?_
  refine CJ.ret ?_
  exact Fin.R [_, _] (Res.two (ResV.cell (us := [_, _, _]) 0 rfl rfl rfl rfl) (ResV.cell (us := [_, _, _, _, _]) 1 rfl rfl rfl rfl)) ⟨_, _, _, _, _, _, _, _, _, _, _, _, _, _, rfl, rfl, by omega, hl1, hw1⟩ (Ent.pick [3, 4] [0, 1, 2] rfl)
def WP3 (v : Value) (fs : List HProp) : Prop :=
  ∃ (W H : Int) (ka : Option Addr) (km kc : Nat) (o e i : Int) (t : Bool) (x : Option Addr) (m l : Nat) (pl : Plan) (ps : List Pane) (least : Int), v = .tuple #[.agg #[vI W, vI H, .slice ka km kc], .agg #[vI o, vI e, vI i, .bool t, .slice x m l], vI least] ∧
    fs = [fun h => RdPanes h (.slice ka km kc) ps, fun h => RdPlan h [vI o, vI e, vI i, .bool t, .slice x m l] pl] ∧ 0 ≤ least ∧ least ≤ 200
theorem DrawLostArea_ok {A : Amb} {a : Option Addr} {n c : Nat} (h : Code A.h a n c) : Ctr Try.prog 25 #[.slice a n c] A [] WP3 := by
  obtain ⟨hcode, hn, ha, hs⟩ := h
  refine Ctr.body (args := [_]) Try.func25 rfl Try.ntmps25 Try.results25 (by simp) ?_
  refine CJ.seq ?_
  refine CJ.region ?_
  refine LJ.alloc ([_, _, _] : List Value) rfl rfl (fun b1 => ?_)
  refine LJ.alloc ([_, _, _, _, _] : List Value) rfl rfl (fun b2 => ?_)
  refine LJ.yd rfl (Yd.asI rfl) ?_
  refine LJ.nil ?_
  refine CJ.seq ?_
  refine CJ.region ?_
  refine LJ.yd rfl (Yd.mvS rfl) ?_
  refine LJ.call0 rfl (fun k hk dk => newReader_ok hn hcode.up ha hs) ?_
  rintro _ _ ⟨rb, n2, rfl, hn1, hn2, rfl⟩
  have hcode2 := hcode.le hn2
  refine LJ.yd rfl (Yd.asP rfl) ?_
  refine LJ.nil ?_
  refine CJ.seq ?_
  refine CJ.region ?_
  refine LJ.yd rfl (Yd.mvP rfl) ?_
  refine LJ.call (pickF _ [0, 1]) (pickF _ [2]) rfl (perm_pickF _ [0, 1] [2] rfl) (fun k hk dk => anyPlan_ok hcode2.up (by omega) (by omega)) ?_
  rintro _ _ ⟨W, H, ka, km, kc, o, e, i, t, x, m, l, pl, q, ps, rfl, rfl, hq1, hq2, hW1, hW2, hH1, hH2, hl1, hw1⟩
  refine LJ.norm [_, _, _, _, _] rfl ?_
  refine LJ.yd rfl (Yd.mvU rfl) ?_
  refine LJ.yd rfl (Yd.extract rfl rfl) ?_
  refine LJ.yd rfl (Yd.extract rfl rfl) ?_
  refine LJ.alloc ([_, _, _] : List Value) rfl rfl (fun b3 => ?_)
  refine LJ.alloc ([_, _, _, _, _] : List Value) rfl rfl (fun b4 => ?_)
  refine LJ.store (v := .agg #[_, _, _]) (us := [_, _, _]) 5 rfl rfl rfl rfl rfl rfl rfl rfl ?_
  refine LJ.store (v := .agg #[_, _, _, _, _]) (us := [_, _, _, _, _]) 6 rfl rfl rfl rfl rfl rfl rfl rfl ?_
  refine LJ.nil ?_
  refine CJ.seq ?_
  refine CJ.regionD [3, 4, 5, 6] [0, 1, 2] (by kernel_rfl) rfl ?_
  refine DJ.norm [_, _, _, _] [_, _, _] rfl rfl ?_
  refine DJ.yd 0 rfl (by kernel_rfl) (by kernel_rfl) (by kernel_rfl) rfl rfl (Yd.loadG (us := [_, _, _]) 2 rfl rfl rfl rfl) ?_
  refine DJ.yd 1 rfl (by kernel_rfl) (by kernel_rfl) (by kernel_rfl) rfl rfl (Yd.loadG (us := [_, _, _, _, _]) 3 rfl rfl rfl rfl) ?_
  refine DJ.yd 2 rfl (by kernel_rfl) (by kernel_rfl) (by kernel_rfl) rfl rfl (Yd.mvP rfl) ?_
  refine DJ.one (i := 3) (by kernel_rfl) ?_
  refine DO.op rfl rfl rfl (fun k0 hk0 dk0 => OpR.buildSlice (cs := [_, _, _, _, _, _]) rfl rfl) ?_
  rintro _ _ ⟨b5, rfl, rfl⟩
  refine DJ.one (i := 4) (by kernel_rfl) ?_
  refine DO.call (pickF _ [0, 1, 3]) (pickF _ [2]) rfl rfl rfl (perm_pickF _ [0, 1, 3] [2] rfl) (fun k0 hk0 dk0 k hk dk => one_ok (l := [1, 2, 3, 5, 0, 200]) (hcode2.up) (LitAt.of (l := [1, 2, 3, 5, 0, 200]) hk dk 2 rfl) (by simp) (by omega) (by omega)) ?_
  rintro _ _ ⟨x19, rfl, hx19, rfl⟩
  simp only [List.mem_cons, List.not_mem_nil, or_false] at hx19
  refine DJ.norm [_, _, _, _] [_, _, _, _] rfl rfl ?_
  refine DJ.one (i := 5) (by kernel_rfl) ?_
  refine DO.store (v := .agg #[_, _, _]) (us := [_, _, _]) 0 rfl rfl rfl rfl rfl rfl rfl rfl rfl rfl ?_
  refine DJ.one (i := 6) (by kernel_rfl) ?_
  refine DO.store (v := .agg #[_, _, _, _, _]) (us := [_, _, _, _, _]) 1 rfl rfl rfl rfl rfl rfl rfl rfl rfl rfl ?_
  refine DJ.yd 7 rfl (by kernel_rfl) (by kernel_rfl) (by kernel_rfl) rfl rfl (Yd.asI rfl) ?_
  refine DJ.done (by kernel_rfl) ?_
  refine CJ.ret ?_
  exact Fin.R [_, _] (Res.three (ResV.cell (us := [_, _, _]) 4 rfl rfl rfl rfl) (ResV.cell (us := [_, _, _, _, _]) 5 rfl rfl rfl rfl) (ResV.tmp (v := .int _ _) rfl)) ⟨_, _, _, _, _, _, _, _, _, _, _, _, _, _, _, rfl, rfl, by omega, by omega⟩ (Ent.pick [0, 1] [2, 3, 4, 5, 6, 7] rfl)
def arS : List Box → Int
  | [] => 0
  | b :: r => b.W * b.H + arS r
theorem arS_drop {L : List Box} {k : Nat} {u : Box} (h : L[k]? = some u) : arS (L.drop k) = u.W * u.H + arS (L.drop (k + 1)) := by rw [dropC h]; rfl
theorem area_ok {A : Amb} {v : Value} {L : List Box} (hl : RdL Box.enc 4 A.h v L) (hs : SdB L) (hn : L.length ≤ 255) : Ctr Try.prog 28 #[v] A [] (Val (vI (arS L))) := by
  obtain ⟨la, lc, rfl, hlb, hl⟩ := hl.un
  refine Ctr.body (args := [_]) Try.func28 rfl Try.ntmps28 Try.results28 (by simp) ?_
  refine CJ.seq ?_
  refine CJ.region ?_
  refine LJ.yd rfl (Yd.asI rfl) ?_
  refine LJ.nil ?_
  refine CJ.seq ?_
  refine CJ.region ?_
  refine LJ.yd rfl (Yd.asI rfl) ?_
  refine LJ.nil ?_
  refine CJ.seq ?_
  refine CJ.seq ?_
  refine CJ.region ?_
  refine LJ.yd rfl (Yd.asI rfl) ?_
  refine LJ.nil ?_
  refine CJ.block ?_
  refine CJ.loopK [0, 2] (Nat × Int) (fun ⟨k, x⟩ => k ≤ L.length ∧ 0 ≤ x ∧ x ≤ 40000 * k ∧ x + arS (L.drop k) = arS L) (fun ⟨k, x⟩ => [(4, vI k), (3, vI x)]) (fun ⟨k, x⟩ => L.length - k) (0, 0) ?_ ⟨rfl, rfl, trivial⟩ ?_
  · exact ⟨by omega, by omega, by omega, by simp⟩
  · rintro ⟨k, x⟩ σ ⟨hk1, hx0, hx1, hx⟩
    refine CJ.seq ?_
    refine CJ.seq ?_
    refine CJ.region ?_
    refine LJ.yd rfl (Yd.mvI rfl) ?_
    refine LJ.yd rfl (Yd.mvS rfl) ?_
    refine LJ.yd rfl (Yd.len rfl) ?_
    refine LJ.splitD rfl (Yd.lss rfl rfl) (fun h8 => ?_) (fun h8 => ?_)
    · refine LJ.nil ?_
      refine CJ.condT rfl ?_
      refine CJ.skip ?_
      refine CJ.seq ?_
      refine CJ.block ?_
      refine CJ.regionD [] [] (by kernel_rfl) rfl ?_
      refine DJ.norm [] [] rfl rfl ?_
      refine DJ.yd 0 rfl (by kernel_rfl) (by kernel_rfl) (by kernel_rfl) rfl rfl (Yd.mvI rfl) ?_
      refine DJ.yd 1 rfl (by kernel_rfl) (by kernel_rfl) (by kernel_rfl) rfl rfl (Yd.mvS rfl) ?_
      refine DJ.yd 2 rfl (by kernel_rfl) (by kernel_rfl) (by kernel_rfl) rfl rfl (Yd.mvI rfl) ?_
      refine DJ.idxA 3 rfl (by kernel_rfl) (by kernel_rfl) (by kernel_rfl) rfl rfl hl rfl rfl (by omega) (by first | rfl | omega | (simp; done) | (simp; omega) | (simp [upN_len]; omega) | (simp [idxBy_len]; omega) | (simp [marks_len]; omega) | (simp [upN_len]; done) | (simp [idxBy_len]; done) | (simp [marks_len]; done) | (simp at *; omega)) (fun ib14 io14 ia14 ir14 => ?_)
      refine DJ.yd 4 rfl (by kernel_rfl) (by kernel_rfl) (by kernel_rfl) rfl rfl (Yd.fieldAddr rfl) ?_
      refine DJ.ldA 5 rfl (by kernel_rfl) (by kernel_rfl) (by kernel_rfl) rfl rfl 2 (fun u => vI u.W) (fun _ => rfl) ir14 rfl rfl (by first | rfl | omega | (simp; done) | (simp; omega) | (simp [upN_len]; omega) | (simp [idxBy_len]; omega) | (simp [marks_len]; omega) | (simp [upN_len]; done) | (simp [idxBy_len]; done) | (simp [marks_len]; done) | (simp at *; omega)) (fun u16 hu16 => ?_)
      try simp only [Int.toNat_natCast] at hu16
      have hs16 := hs u16 (List.mem_of_getElem? hu16)
      have ha16 := area_s hs16.1 hs16.2.1 hs16.2.2.1 hs16.2.2.2
      refine DJ.yd 6 rfl (by kernel_rfl) (by kernel_rfl) (by kernel_rfl) rfl rfl (Yd.mvS rfl) ?_
      refine DJ.yd 7 rfl (by kernel_rfl) (by kernel_rfl) (by kernel_rfl) rfl rfl (Yd.mvI rfl) ?_
      refine DJ.idxA 8 rfl (by kernel_rfl) (by kernel_rfl) (by kernel_rfl) rfl rfl hl rfl rfl (by omega) (by first | rfl | omega | (simp; done) | (simp; omega) | (simp [upN_len]; omega) | (simp [idxBy_len]; omega) | (simp [marks_len]; omega) | (simp [upN_len]; done) | (simp [idxBy_len]; done) | (simp [marks_len]; done) | (simp at *; omega)) (fun ib19 io19 ia19 ir19 => ?_)
      refine DJ.yd 9 rfl (by kernel_rfl) (by kernel_rfl) (by kernel_rfl) rfl rfl (Yd.fieldAddr rfl) ?_
      refine DJ.ldA 10 rfl (by kernel_rfl) (by kernel_rfl) (by kernel_rfl) rfl rfl 3 (fun u => vI u.H) (fun _ => rfl) ir19 rfl rfl (by first | rfl | omega | (simp; done) | (simp; omega) | (simp [upN_len]; omega) | (simp [idxBy_len]; omega) | (simp [marks_len]; omega) | (simp [upN_len]; done) | (simp [idxBy_len]; done) | (simp [marks_len]; done) | (simp at *; omega)) (fun u21 hu21 => ?_)
      try simp only [Int.toNat_natCast] at hu21
      obtain rfl : u16 = u21 := by rw [hu16] at hu21; exact Option.some.inj hu21
      refine DJ.yd 11 rfl (by kernel_rfl) (by kernel_rfl) (by kernel_rfl) rfl rfl (Yd.mul rfl rfl (by unfold I64; omega)) ?_
      refine DJ.yd 12 rfl (by kernel_rfl) (by kernel_rfl) (by kernel_rfl) rfl rfl (Yd.add rfl rfl (by unfold I64; omega)) ?_
      refine DJ.yd 13 rfl (by kernel_rfl) (by kernel_rfl) (by kernel_rfl) rfl rfl (Yd.asI rfl) ?_
      refine DJ.done (by kernel_rfl) ?_
      refine CJ.region ?_
      refine LJ.yd rfl (Yd.mvI rfl) ?_
      refine LJ.yd rfl (Yd.add rfl rfl (by unfold I64; omega)) ?_
      refine LJ.yd rfl (Yd.asI rfl) ?_
      refine LJ.nil ?_
      refine ⟨(k + 1, _), ?_, ⟨rfl, rfl, trivial⟩, ⟨rfl, rfl, trivial⟩, Ent.refl _, ?_⟩
      · refine ⟨by omega, ?_⟩
        rw [arS_drop hu16] at hx
        exact ⟨by omega, by omega, by omega⟩
      · first | omega | (dsimp only; omega) | (simp only []; omega)
    · refine LJ.nil ?_
      refine CJ.condF rfl ?_
      refine CJ.exit ?_
      refine CJ.seq ?_
      refine CJ.region ?_
      refine LJ.yd rfl (Yd.mvI rfl) ?_
      refine LJ.yd rfl (Yd.asI rfl) ?_
      refine LJ.nil ?_
      refine CJ.ret ?_
      refine Fin.V (Res.one (ResV.tmp (v := .int _ _) rfl)) ?_
      rw [List.drop_of_length_le (by omega), arS] at hx; rw [← hx]; congr 1; omega
theorem loS_one : ∀ {L : List Box}, SdB L → loS 1 L = 0
  | [], _ => rfl
  | b :: r, h => by
    have := h b List.mem_cons_self
    rw [loS, if_neg (by omega), loS_one fun x hx => h x (List.mem_cons_of_mem _ hx)]; rfl
theorem loS_mono {least : Int} : ∀ {L : List Box}, SdB L → loS least L ≤ loS (least + 1) L ∧ loS least L ≤ arS L ∧ 0 ≤ loS least L
  | [], _ => ⟨Int.le_refl _, Int.le_refl _, Int.le_refl _⟩
  | b :: r, h => by
    have h1 := h b List.mem_cons_self
    have h2 := area_s h1.1 h1.2.1 h1.2.2.1 h1.2.2.2
    obtain ⟨a1, a2, a3⟩ := loS_mono (least := least) (L := r) fun x hx => h x (List.mem_cons_of_mem _ hx)
    simp only [loS, arS]
    split <;> split <;> omega
theorem lo_facts {W H : Int} {ps : List Pane} {q : Plan} {least : Int} (h : ¬ loP W H ps q least < 0) : vpOk W H ps q = true ∧ SdB (wsP W H ps q) ∧ (wsP W H ps q).length ≤ 255 ∧ loP W H ps q 1 = 0 ∧ (least < 200 → loP W H ps q least ≤ loP W H ps q (least + 1)) ∧ loP W H ps q least ≤ arS (wsP W H ps q) := by
  by_cases hc : vpOk W H ps q = true ∧ 1 ≤ least ∧ least ≤ 200
  · obtain ⟨h1, h2, h3⟩ := wsP_facts hc.1
    obtain ⟨m1, m2, m3⟩ := loS_mono (least := least) h2
    rw [h1]
    refine ⟨hc.1, h2, h3, ?_, fun hl => ?_, ?_⟩
    · rw [loP, if_pos ⟨hc.1, by omega, by omega⟩]; exact loS_one h2
    · rw [loP, loP, if_pos hc, if_pos ⟨hc.1, by omega, by omega⟩]; exact m1
    · rw [loP, if_pos hc]; exact m2
  · exact absurd (by rw [loP, if_neg hc]; omega) h
theorem FnLostArea_ok {A : Amb} {a : Option Addr} {n c : Nat} (h : Code A.h a n c) : Ctr Try.prog 5 #[.slice a n c] A [] (Val (.bool true)) := by
  refine Ctr.body (args := [_]) Try.func5 rfl Try.ntmps5 Try.results5 (by simp) ?_
  refine CJ.seq ?_
  refine CJ.region ?_
  refine LJ.yd rfl (Yd.asB rfl) ?_
  refine LJ.nil ?_
  refine CJ.seq ?_
  refine CJ.seq ?_
  refine CJ.region ?_
  refine LJ.yd rfl (Yd.mvS rfl) ?_
  refine LJ.yd rfl (Yd.len rfl) ?_
  refine LJ.splitD rfl (Yd.gtr rfl rfl) (fun h9 => ?_) (fun h9 => ?_)
  · refine LJ.nil ?_
    refine CJ.condT rfl ?_
    refine CJ.seq ?_
    refine CJ.region ?_
    refine LJ.yd rfl (Yd.asB rfl) ?_
    refine LJ.nil ?_
    refine CJ.ret ?_
    refine Fin.V (Res.one (ResV.tmp (v := .bool true) rfl)) ?_
    first
      | rfl
      | (refine congrArg Value.bool (decide_eq_true ?_); first | rfl | omega)
  · refine LJ.nil ?_
    refine CJ.condF rfl ?_
    refine CJ.skip ?_
    refine CJ.seq ?_
    refine CJ.region ?_
    refine LJ.yd rfl (Yd.mvS rfl) ?_
    refine LJ.call0 rfl (fun k hk dk => DrawLostArea_ok h.up) ?_
    rintro _ _ ⟨W, H, ka, km, kc, o, e, i, t, x, m, l, pl, ps, least, rfl, rfl, hle0, hle1⟩
    refine LJ.yd rfl (Yd.mvU rfl) ?_
    refine LJ.yd rfl (Yd.extract rfl rfl) ?_
    refine LJ.yd rfl (Yd.extract rfl rfl) ?_
    refine LJ.yd rfl (Yd.extract rfl rfl) ?_
    refine LJ.alloc ([_, _, _] : List Value) rfl rfl (fun b1 => ?_)
    refine LJ.alloc ([_, _, _, _, _] : List Value) rfl rfl (fun b2 => ?_)
    refine LJ.store (v := .agg #[_, _, _]) (us := [_, _, _]) 2 rfl rfl rfl rfl rfl rfl rfl rfl ?_
    refine LJ.store (v := .agg #[_, _, _, _, _]) (us := [_, _, _, _, _]) 3 rfl rfl rfl rfl rfl rfl rfl rfl ?_
    refine LJ.yd rfl (Yd.asI rfl) ?_
    refine LJ.nil ?_
    refine CJ.seq ?_
    refine CJ.amb (perm_pickF _ [0] [1, 2, 3] rfl) (fun m8 h8 d8 => ?_)
    refine CJ.norm [_, _, _] rfl ?_
    refine CJ.amb (perm_pickF _ [0] [1, 2] rfl) (fun m9 h9 d9 => ?_)
    refine CJ.norm [_, _] rfl ?_
    have hps : RdPanes ((A.ext m8).ext m9).h (.slice ka km kc) ps := RdRow.mono (RdRow.mono h8 (Amb.ext_own d8)) Amb.ext_up
    have hpl : RdPlan ((A.ext m8).ext m9).h [vI o, vI e, vI i, .bool t, .slice x m l] pl := RdPlan.mono (Amb.ext_own d9) h9
    refine CJ.region ?_
    refine LJ.yd rfl (Yd.loadG (us := [_, _, _]) 0 rfl rfl rfl rfl) ?_
    refine LJ.yd rfl (Yd.loadG (us := [_, _, _, _, _]) 1 rfl rfl rfl rfl) ?_
    refine LJ.yd rfl (Yd.mvI rfl) ?_
    refine LJ.callV rfl (fun k hk dk => LostAreaI_ok hps.up hpl.up) ?_
    refine LJ.yd rfl (Yd.asI rfl) ?_
    refine LJ.nil ?_
    refine CJ.seq ?_
    refine CJ.seq ?_
    refine CJ.region ?_
    refine LJ.yd rfl (Yd.mvI rfl) ?_
    refine LJ.yd rfl (Yd.loadG (us := [_, _, _]) 0 rfl rfl rfl rfl) ?_
    refine LJ.yd rfl (Yd.loadG (us := [_, _, _, _, _]) 1 rfl rfl rfl rfl) ?_
    refine LJ.yd rfl (Yd.mvI rfl) ?_
    refine LJ.callV rfl (fun k hk dk => LostAreaS_ok hps.up hpl.up) ?_
    refine LJ.yd rfl (Yd.cmpNF (Yd.neq rfl rfl) (by omega)) ?_
    refine LJ.yd rfl (Yd.mvB rfl) ?_
    refine LJ.gT rfl ?_
    refine LJ.yd rfl (Yd.mvI rfl) ?_
    refine LJ.gT rfl ?_
    refine LJ.splitD rfl (Yd.lss rfl rfl) (fun h28 => ?_) (fun h28 => ?_)
    · refine LJ.yd rfl (Yd.pickFB rfl rfl) ?_
      refine LJ.nil ?_
      refine CJ.condT rfl ?_
      refine CJ.seq ?_
      refine CJ.region ?_
      refine LJ.yd rfl (Yd.mvI rfl) ?_
      refine LJ.yd rfl (Yd.loadG (us := [_, _, _]) 0 rfl rfl rfl rfl) ?_
      refine LJ.yd rfl (Yd.loadG (us := [_, _, _, _, _]) 1 rfl rfl rfl rfl) ?_
      refine LJ.yd rfl (Yd.mvI rfl) ?_
      refine LJ.callV rfl (fun k hk dk => LostAreaS_ok hps.up hpl.up) ?_
      refine LJ.yd rfl (Yd.eql rfl rfl) ?_
      refine LJ.yd rfl (Yd.asB rfl) ?_
      refine LJ.nil ?_
      refine CJ.ret ?_
      refine Fin.V (Res.one (ResV.tmp (v := .bool _) rfl)) ?_
      first
        | rfl
        | (refine congrArg Value.bool (decide_eq_true ?_); first | rfl | omega)
    · refine LJ.yd rfl (Yd.pickFB rfl rfl) ?_
      refine LJ.nil ?_
      refine CJ.condF rfl ?_
      refine CJ.skip ?_
      refine CJ.seq ?_
      obtain ⟨hf1, hf2, hf3, hf4, hf5, hf6⟩ := lo_facts h28
      refine CJ.region ?_
      refine LJ.yd rfl (Yd.loadG (us := [_, _, _]) 0 rfl rfl rfl rfl) ?_
      refine LJ.yd rfl (Yd.loadG (us := [_, _, _, _, _]) 1 rfl rfl rfl rfl) ?_
      refine LJ.callV rfl (fun k hk dk => LostAreaI_ok hps.up hpl.up) ?_
      refine LJ.yd rfl (Yd.cmpT (Yd.eql rfl rfl) (by omega)) ?_
      refine LJ.yd rfl (Yd.mvB rfl) ?_
      refine LJ.gT rfl ?_
      refine LJ.yd rfl (Yd.mvI rfl) ?_
      refine LJ.gT rfl ?_
      refine LJ.splitD rfl (Yd.eql rfl rfl) (fun h42 => ?_) (fun h42 => ?_)
      · refine LJ.gT rfl ?_
        refine LJ.yd rfl (Yd.mvB rfl) ?_
        refine LJ.gF rfl rfl ?_
        refine LJ.gF rfl rfl ?_
        refine LJ.gF rfl rfl ?_
        refine LJ.gF rfl rfl ?_
        refine LJ.gF rfl rfl ?_
        refine LJ.gF rfl rfl ?_
        refine LJ.gF rfl rfl ?_
        refine LJ.gT rfl ?_
        refine LJ.yd rfl (Yd.pickTB rfl rfl) ?_
        refine LJ.yd rfl (Yd.pickTB rfl rfl) ?_
        refine LJ.yd rfl (Yd.mvB rfl) ?_
        refine LJ.gT rfl ?_
        refine LJ.yd rfl (Yd.mvI rfl) ?_
        refine LJ.gT rfl ?_
        refine LJ.yd rfl (Yd.loadG (us := [_, _, _]) 0 rfl rfl rfl rfl) ?_
        refine LJ.gT rfl ?_
        refine LJ.yd rfl (Yd.loadG (us := [_, _, _, _, _]) 1 rfl rfl rfl rfl) ?_
        refine LJ.gT rfl ?_
        refine LJ.call0 rfl (fun k hk dk => WastesOfI_ok hps.up hpl.up) ?_
        rintro _ _ ⟨ra57, rc57, rfl, rfl⟩
        refine LJ.norm [_, _, _] rfl ?_
        refine LJ.gT rfl ?_
        refine LJ.callV rfl (fun k hk dk => area_ok (Sts.lrm hk dk 2 (by first | rfl | omega | (simp; done) | (simp; omega) | (simp [upN_len]; omega) | (simp [idxBy_len]; omega) | (simp [marks_len]; omega) | (simp [upN_len]; done) | (simp [idxBy_len]; done) | (simp [marks_len]; done) | (simp at *; omega)) (by first | rfl | omega | (simp; done) | (simp; omega) | (simp [upN_len]; omega) | (simp [idxBy_len]; omega) | (simp [marks_len]; omega) | (simp [upN_len]; done) | (simp [idxBy_len]; done) | (simp [marks_len]; done) | (simp at *; omega)) rfl) hf2 hf3) ?_
        refine LJ.gT rfl ?_
        refine LJ.yd rfl (Yd.leq rfl rfl) ?_
        refine LJ.yd rfl (Yd.pickTB rfl rfl) ?_
        refine LJ.yd rfl (Yd.asB rfl) ?_
        refine LJ.nil ?_
        refine CJ.ret ?_
        refine Fin.V (Res.one (ResV.tmp (v := .bool _) rfl)) ?_
        first
          | rfl
          | (refine congrArg Value.bool (decide_eq_true ?_); first | rfl | omega)
      · refine LJ.gT rfl ?_
        refine LJ.yd rfl (Yd.mvB rfl) ?_
        refine LJ.gT rfl ?_
        refine LJ.yd rfl (Yd.loadG (us := [_, _, _]) 0 rfl rfl rfl rfl) ?_
        refine LJ.gT rfl ?_
        refine LJ.yd rfl (Yd.loadG (us := [_, _, _, _, _]) 1 rfl rfl rfl rfl) ?_
        refine LJ.gT rfl ?_
        refine LJ.yd rfl (Yd.mvI rfl) ?_
        refine LJ.gT rfl ?_
        refine LJ.yd rfl (Yd.add rfl rfl (by unfold I64; omega)) ?_
        refine LJ.gT rfl ?_
        refine LJ.callV rfl (fun k hk dk => LostAreaI_ok hps.up hpl.up) ?_
        refine LJ.gT rfl ?_
        refine LJ.yd rfl (Yd.mvI rfl) ?_
        refine LJ.gT rfl ?_
        refine LJ.yd rfl (Yd.cmpT (Yd.geq rfl rfl) (by have := hf5 (by omega); omega)) ?_
        refine LJ.gT rfl ?_
        refine LJ.yd rfl (Yd.pickFB rfl rfl) ?_
        refine LJ.yd rfl (Yd.pickTB rfl rfl) ?_
        refine LJ.yd rfl (Yd.mvB rfl) ?_
        refine LJ.gT rfl ?_
        refine LJ.yd rfl (Yd.mvI rfl) ?_
        refine LJ.gT rfl ?_
        refine LJ.yd rfl (Yd.loadG (us := [_, _, _]) 0 rfl rfl rfl rfl) ?_
        refine LJ.gT rfl ?_
        refine LJ.yd rfl (Yd.loadG (us := [_, _, _, _, _]) 1 rfl rfl rfl rfl) ?_
        refine LJ.gT rfl ?_
        refine LJ.call0 rfl (fun k hk dk => WastesOfI_ok hps.up hpl.up) ?_
        rintro _ _ ⟨ra57, rc57, rfl, rfl⟩
        refine LJ.norm [_, _, _] rfl ?_
        refine LJ.gT rfl ?_
        refine LJ.callV rfl (fun k hk dk => area_ok (Sts.lrm hk dk 2 (by first | rfl | omega | (simp; done) | (simp; omega) | (simp [upN_len]; omega) | (simp [idxBy_len]; omega) | (simp [marks_len]; omega) | (simp [upN_len]; done) | (simp [idxBy_len]; done) | (simp [marks_len]; done) | (simp at *; omega)) (by first | rfl | omega | (simp; done) | (simp; omega) | (simp [upN_len]; omega) | (simp [idxBy_len]; omega) | (simp [marks_len]; omega) | (simp [upN_len]; done) | (simp [idxBy_len]; done) | (simp [marks_len]; done) | (simp at *; omega)) rfl) hf2 hf3) ?_
        refine LJ.gT rfl ?_
        refine LJ.yd rfl (Yd.leq rfl rfl) ?_
        refine LJ.yd rfl (Yd.pickTB rfl rfl) ?_
        refine LJ.yd rfl (Yd.asB rfl) ?_
        refine LJ.nil ?_
        refine CJ.ret ?_
        refine Fin.V (Res.one (ResV.tmp (v := .bool _) rfl)) ?_
        first
          | rfl
          | (refine congrArg Value.bool (decide_eq_true ?_); first | rfl | omega)
end Go.Proofs.Ytlpjienaennmaaa
