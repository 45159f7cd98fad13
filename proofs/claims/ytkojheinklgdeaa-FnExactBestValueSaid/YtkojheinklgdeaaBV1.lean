/-
  Contracts: values of panes, the greatest values of plans.
-/
import Derived.Test.YtkojheinklgdeaaBV0
import Derived.Test.YtkojheinklgdeaaLN
import Derived.Test.YtkojheinklgdeaaEW
namespace Go.Proofs.Ytkojheinklgdeaa
open Go
set_option maxRecDepth 20000
set_option maxHeartbeats 1000000

theorem getDC {s : List Int} {k : Nat} {u : Int} (h : s[k]? = some u) : s.getD k 0 = u := by simp [List.getD_eq_getElem?_getD, h]
theorem ftC {j : Nat} {u : Bool} (h : [false, true][j]? = some u) : u = decide ((j : Int) = 1) := by
  match j, h with
  | 0, h => cases h; rfl
  | 1, h => cases h; rfl
def PnV (m : Int) (v : Value) (gs : List HProp) : Prop := ∃ (o p : Int) (t : Bool), v = .tuple #[.agg #[vI o, vI 0, vI p, .bool t, .slice none 0 0], vI m] ∧ gs = []
theorem leafValue_ok {A : Amb} {W H w h : Int} {v vl : Value} {ps : List Pane} {l : List Int} (hp : RdPanes A.h v ps) (hl : RdL encI 1 A.h vl l) (hn : l.length ≤ 7) : Ctr Try.prog 87 #[.agg #[vI W, vI H, v], vl, vI w, vI h] A [] (PnV (lfV ps l w h l.length)) := by
  have hp2 := hp
  obtain ⟨⟨sa, sc, rfl, hm, hrow⟩, hlen⟩ := hp2
  obtain ⟨la, lc, rfl, hlb, hl⟩ := hl.un
  refine Ctr.body (args := [_, _, _, _]) Try.func87 rfl Try.ntmps87 Try.results87 (by simp) ?_
  refine CJ.seq ?_
  refine CJ.region ?_
  refine LJ.boxG (vs := [_, _, _]) rfl rfl (fun b1 => ?_)
  refine LJ.alloc ([_, _, _, _, _] : List Value) rfl rfl (fun b2 => ?_)
  refine LJ.yd rfl (Yd.asI rfl) ?_
  refine LJ.nil ?_
  refine CJ.seq ?_
  refine CJ.region ?_
  refine LJ.yd rfl (Yd.build (cs := [_, _, _, _, _]) rfl) ?_
  refine LJ.alloc ([_, _, _, _, _] : List Value) rfl rfl (fun b3 => ?_)
  refine LJ.store (v := .agg #[_, _, _, _, _]) (us := [_, _, _, _, _]) 2 rfl rfl rfl rfl rfl rfl rfl rfl ?_
  refine LJ.nil ?_
  refine CJ.seq ?_
  refine CJ.region ?_
  refine LJ.yd rfl (Yd.asI rfl) ?_
  refine LJ.nil ?_
  refine CJ.seq ?_
  refine CJ.seq ?_
  refine CJ.region ?_
  refine LJ.yd rfl (Yd.asI rfl) ?_
  refine LJ.nil ?_
  refine CJ.block ?_
  refine CJ.loopF [1, 2, 3, 4, 8, 9, 10] (Nat × Int × Int × Int × Bool) (fun ⟨k, o, q⟩ => k ≤ l.length ∧ o = lfV ps l w h k) (fun ⟨k, o, q⟩ => [(12, vI k), (11, vI o)]) (fun ⟨k, o, q⟩ => [Cel b3 99 [vI q.1, vI 0, vI q.2.1, .bool q.2.2, .slice none 0 0]]) (fun ⟨k, o, q⟩ => l.length - k) (0, 0, (0, 0, false)) [_, _] [0, 1] [2] rfl rfl rfl ?_ ⟨rfl, rfl, trivial⟩ ?_
  · exact ⟨by omega, rfl⟩
  · rintro ⟨k, o, q⟩ σ ⟨hk1, ho⟩
    refine CJ.norm [_, _, _] rfl ?_
    refine CJ.seq ?_
    refine CJ.seq ?_
    refine CJ.region ?_
    refine LJ.yd rfl (Yd.mvI rfl) ?_
    refine LJ.yd rfl (Yd.mvS rfl) ?_
    refine LJ.yd rfl (Yd.len rfl) ?_
    refine LJ.splitD rfl (Yd.lss rfl rfl) (fun h19 => ?_) (fun h19 => ?_)
    · refine LJ.nil ?_
      refine CJ.condT rfl ?_
      refine CJ.skip ?_
      refine CJ.seq ?_
      refine CJ.block ?_
      refine CJ.seq ?_
      refine CJ.region ?_
      refine LJ.yd rfl (Yd.asI rfl) ?_
      refine LJ.nil ?_
      refine CJ.block ?_
      refine CJ.loopF [1, 2, 3, 4, 8, 9, 10, 12, 16, 17, 18, 19] (Nat × Int × Int × Int × Bool) (fun ⟨j, o2, q2⟩ => j ≤ 2 ∧ o2 = lfT ps w h k (l.getD k 0) o j) (fun ⟨j, o2, q2⟩ => [(13, vI j), (11, vI o2)]) (fun ⟨j, o2, q2⟩ => [Cel b3 99 [vI q2.1, vI 0, vI q2.2.1, .bool q2.2.2, .slice none 0 0]]) (fun ⟨j, o2, q2⟩ => 2 - j) (0, o, q) [_, _] [0, 1] [2] rfl rfl rfl ?_ ⟨rfl, rfl, trivial⟩ ?_
      · exact ⟨by omega, rfl⟩
      · rintro ⟨j, o2, q2⟩ σ ⟨hj1, ho2⟩
        refine CJ.norm [_, _, _] rfl ?_
        refine CJ.seq ?_
        refine CJ.seq ?_
        refine CJ.region ?_
        refine LJ.yd rfl (Yd.mvI rfl) ?_
        refine LJ.splitD rfl (Yd.lss rfl rfl) (fun h23 => ?_) (fun h23 => ?_)
        · refine LJ.nil ?_
          refine CJ.condT rfl ?_
          refine CJ.skip ?_
          refine CJ.seq ?_
          refine CJ.block ?_
          refine CJ.seq ?_
          refine CJ.region ?_
          refine LJ.yd rfl (Yd.mvI rfl) ?_
          refine LJ.yd rfl (Yd.mvI rfl) ?_
          refine LJ.yd rfl (Yd.eql rfl rfl) ?_
          refine LJ.yd rfl (Yd.build (cs := [_, _, _, _, _]) rfl) ?_
          refine LJ.alloc ([_, _, _, _, _] : List Value) rfl rfl (fun b4 => ?_)
          refine LJ.store (v := .agg #[_, _, _, _, _]) (us := [_, _, _, _, _]) 3 rfl rfl rfl rfl rfl rfl rfl rfl ?_
          refine LJ.nil ?_
          refine CJ.seq ?_
          refine CJ.region ?_
          refine LJ.yd rfl (Yd.mvS rfl) ?_
          refine LJ.yd rfl (Yd.mvI rfl) ?_
          refine LJ.idxA rfl hl rfl rfl (by omega) (by first | rfl | omega | (simp; done) | (simp; omega) | (simp [upN_len]; omega) | (simp [idxBy_len]; omega) | (simp [marks_len]; omega) | (simp [upN_len]; done) | (simp [idxBy_len]; done) | (simp [marks_len]; done) | (simp at *; omega)) (fun ib32 io32 ia32 ir32 => ?_)
          refine LJ.ldA 0 (fun u => vI u) (fun _ => rfl) ir32 rfl rfl rfl (by first | rfl | omega | (simp; done) | (simp; omega) | (simp [upN_len]; omega) | (simp [idxBy_len]; omega) | (simp [marks_len]; omega) | (simp [upN_len]; done) | (simp [idxBy_len]; done) | (simp [marks_len]; done) | (simp at *; omega)) (fun u33 hu33 => ?_)
          try simp only [Int.toNat_natCast] at hu33
          refine LJ.yd rfl (Yd.mvI rfl) ?_
          refine LJ.splitD rfl (Yd.gtr rfl rfl) (fun h35 => ?_) (fun h35 => ?_)
          · refine LJ.yd rfl (Yd.mvB rfl) ?_
            refine LJ.gT rfl ?_
            refine LJ.yd rfl (Yd.loadG (us := [_, _, _]) 0 rfl rfl rfl rfl) ?_
            refine LJ.gT rfl ?_
            refine LJ.yd rfl (Yd.loadG (us := [_, _, _, _, _]) 3 rfl rfl rfl rfl) ?_
            refine LJ.gT rfl ?_
            refine LJ.yd rfl (Yd.mvI rfl) ?_
            refine LJ.gT rfl ?_
            refine LJ.yd rfl (Yd.mvI rfl) ?_
            refine LJ.gT rfl ?_
            refine LJ.callB rfl (fun k hk dk => fitsPlanS_p hp.up) (fun h41 => ?_) (fun h41 => ?_)
            · refine LJ.yd rfl (Yd.pickTB rfl rfl) ?_
              refine LJ.nil ?_
              refine CJ.condT rfl ?_
              refine CJ.seq ?_
              refine CJ.region ?_
              refine LJ.yd rfl (Yd.loadG (us := [_, _, _, _, _]) 3 rfl rfl rfl rfl) ?_
              refine LJ.store (v := .agg #[_, _, _, _, _]) (us := [_, _, _, _, _]) 2 rfl rfl rfl rfl rfl rfl rfl rfl ?_
              refine LJ.nil ?_
              refine CJ.region ?_
              refine LJ.yd rfl (Yd.mvS rfl) ?_
              refine LJ.yd rfl (Yd.mvI rfl) ?_
              refine LJ.idxA rfl hl rfl rfl (by omega) (by first | rfl | omega | (simp; done) | (simp; omega) | (simp [upN_len]; omega) | (simp [idxBy_len]; omega) | (simp [marks_len]; omega) | (simp [upN_len]; done) | (simp [idxBy_len]; done) | (simp [marks_len]; done) | (simp at *; omega)) (fun ib46 io46 ia46 ir46 => ?_)
              refine LJ.ldA 0 (fun u => vI u) (fun _ => rfl) ir46 rfl rfl rfl (by first | rfl | omega | (simp; done) | (simp; omega) | (simp [upN_len]; omega) | (simp [idxBy_len]; omega) | (simp [marks_len]; omega) | (simp [upN_len]; done) | (simp [idxBy_len]; done) | (simp [marks_len]; done) | (simp at *; omega)) (fun u47 hu47 => ?_)
              try simp only [Int.toNat_natCast] at hu47
              refine LJ.yd rfl (Yd.asI rfl) ?_
              refine LJ.nil ?_
              refine CJ.region ?_
              refine LJ.yd rfl (Yd.mvI rfl) ?_
              refine LJ.yd rfl (Yd.add rfl rfl (by unfold I64; omega)) ?_
              refine LJ.yd rfl (Yd.asI rfl) ?_
              refine LJ.nil ?_
              refine ⟨(j + 1, u47, (1, (k : Int), decide ((j : Int) = 1))), ?_, ⟨rfl, rfl, rfl, rfl, rfl, rfl, rfl, rfl, rfl, rfl, rfl, rfl, trivial⟩, ⟨rfl, rfl, trivial⟩, Ent.pick [0, 1, 2] [3] rfl, ?_⟩
              · refine ⟨by omega, ?_⟩
                rw [lfT, ← ho2, getDC hu33]
                rw [if_pos ⟨by omega, h41⟩]
                rw [hu33] at hu47; exact (Option.some.inj hu47).symm
              · first | omega | (dsimp only; omega) | (simp only []; omega)
            · refine LJ.yd rfl (Yd.pickTB rfl rfl) ?_
              refine LJ.nil ?_
              refine CJ.condF rfl ?_
              refine CJ.skip ?_
              refine CJ.region ?_
              refine LJ.yd rfl (Yd.mvI rfl) ?_
              refine LJ.yd rfl (Yd.add rfl rfl (by unfold I64; omega)) ?_
              refine LJ.yd rfl (Yd.asI rfl) ?_
              refine LJ.nil ?_
              refine ⟨(j + 1, o2, q2), ?_, ⟨rfl, rfl, rfl, rfl, rfl, rfl, rfl, rfl, rfl, rfl, rfl, rfl, trivial⟩, ⟨rfl, rfl, trivial⟩, Ent.pick [0, 1, 2] [3] rfl, ?_⟩
              · refine ⟨by omega, ?_⟩
                rw [lfT, ← ho2, getDC hu33]
                rw [if_neg (by rintro ⟨h1, h2⟩; first | omega | (rw [h41] at h2; cases h2))]
              · first | omega | (dsimp only; omega) | (simp only []; omega)
          · refine LJ.yd rfl (Yd.mvB rfl) ?_
            refine LJ.gF rfl rfl ?_
            refine LJ.gF rfl rfl ?_
            refine LJ.gF rfl rfl ?_
            refine LJ.gF rfl rfl ?_
            refine LJ.gF rfl rfl ?_
            refine LJ.yd rfl (Yd.pickFB rfl rfl) ?_
            refine LJ.nil ?_
            refine CJ.condF rfl ?_
            refine CJ.skip ?_
            refine CJ.region ?_
            refine LJ.yd rfl (Yd.mvI rfl) ?_
            refine LJ.yd rfl (Yd.add rfl rfl (by unfold I64; omega)) ?_
            refine LJ.yd rfl (Yd.asI rfl) ?_
            refine LJ.nil ?_
            refine ⟨(j + 1, o2, q2), ?_, ⟨rfl, rfl, rfl, rfl, rfl, rfl, rfl, rfl, rfl, rfl, rfl, rfl, trivial⟩, ⟨rfl, rfl, trivial⟩, Ent.pick [0, 1, 2] [3] rfl, ?_⟩
            · refine ⟨by omega, ?_⟩
              rw [lfT, ← ho2, getDC hu33]
              rw [if_neg (by rintro ⟨h1, h2⟩; first | omega | (rw [h41] at h2; cases h2))]
            · first | omega | (dsimp only; omega) | (simp only []; omega)
        · refine LJ.nil ?_
          refine CJ.condF rfl ?_
          refine CJ.exit ?_
          refine CJ.region ?_
          refine LJ.yd rfl (Yd.mvI rfl) ?_
          refine LJ.yd rfl (Yd.add rfl rfl (by unfold I64; omega)) ?_
          refine LJ.yd rfl (Yd.asI rfl) ?_
          refine LJ.nil ?_
          refine ⟨(k + 1, o2, q2), ?_, ⟨rfl, rfl, rfl, rfl, rfl, rfl, rfl, trivial⟩, ⟨rfl, rfl, trivial⟩, Ent.refl _, ?_⟩
          · refine ⟨by omega, ?_⟩
            rw [lfV, ← ho, ho2, show j = 2 by omega]
          · first | omega | (dsimp only; omega) | (simp only []; omega)
    · refine LJ.nil ?_
      refine CJ.condF rfl ?_
      refine CJ.exit ?_
      refine CJ.seq ?_
      refine CJ.region ?_
      refine LJ.yd rfl (Yd.loadG (us := [_, _, _, _, _]) 2 rfl rfl rfl rfl) ?_
      refine LJ.yd rfl (Yd.mvI rfl) ?_
      refine LJ.store (v := .agg #[_, _, _, _, _]) (us := [_, _, _, _, _]) 1 rfl rfl rfl rfl rfl rfl rfl rfl ?_
      refine LJ.yd rfl (Yd.asI rfl) ?_
      refine LJ.nil ?_
      refine CJ.ret ?_
      rw [show l.length = k by omega, ← ho]
      exact Fin.R [] (Res.two (ResV.cell (us := [_, _, _, _, _]) 1 rfl rfl rfl rfl) (ResV.tmp (v := .int _ _) rfl)) ⟨_, _, _, rfl, rfl⟩ (Ent.pick [] [0, 1, 2] rfl)
theorem bestPane_ok {A : Amb} {W H w h : Int} {v vl : Value} {ps : List Pane} {l : List Int} (hp : RdPanes A.h v ps) (hl : RdL encI 1 A.h vl l) (hn : l.length ≤ 7) : Ctr Try.prog 88 #[.agg #[vI W, vI H, v], vl, vI w, vI h] A [] (PnV (lfV ps l w h l.length)) := by
  have hp2 := hp
  obtain ⟨⟨sa, sc, rfl, hm, hrow⟩, hlen⟩ := hp2
  obtain ⟨la, lc, rfl, hlb, hl⟩ := hl.un
  refine Ctr.body (args := [_, _, _, _]) Try.func88 rfl Try.ntmps88 Try.results88 (by simp) ?_
  refine CJ.seq ?_
  refine CJ.region ?_
  refine LJ.boxG (vs := [_, _, _]) rfl rfl (fun b1 => ?_)
  refine LJ.alloc ([_, _, _, _, _] : List Value) rfl rfl (fun b2 => ?_)
  refine LJ.yd rfl (Yd.asI rfl) ?_
  refine LJ.nil ?_
  refine CJ.seq ?_
  refine CJ.region ?_
  refine LJ.yd rfl (Yd.build (cs := [_, _, _, _, _]) rfl) ?_
  refine LJ.alloc ([_, _, _, _, _] : List Value) rfl rfl (fun b3 => ?_)
  refine LJ.store (v := .agg #[_, _, _, _, _]) (us := [_, _, _, _, _]) 2 rfl rfl rfl rfl rfl rfl rfl rfl ?_
  refine LJ.yd rfl (Yd.asI rfl) ?_
  refine LJ.nil ?_
  refine CJ.seq ?_
  refine CJ.seq ?_
  refine CJ.region ?_
  refine LJ.yd rfl (Yd.mvS rfl) ?_
  refine LJ.yd rfl (Yd.len rfl) ?_
  refine LJ.yd rfl (Yd.mvI rfl) ?_
  refine LJ.nil ?_
  refine CJ.block ?_
  refine CJ.loopF [2, 3, 4, 8, 9, 10, 17, 18] (Nat × Int × Int × Int × Bool) (fun ⟨k, o, q⟩ => k ≤ l.length ∧ o = lfV ps l w h k) (fun ⟨k, o, q⟩ => [(19, vI k), (11, vI o)]) (fun ⟨k, o, q⟩ => [Cel b3 99 [vI q.1, vI 0, vI q.2.1, .bool q.2.2, .slice none 0 0]]) (fun ⟨k, o, q⟩ => l.length - k) (0, 0, (0, 0, false)) [_, _] [0, 1] [2] rfl rfl rfl ?_ ⟨rfl, rfl, trivial⟩ ?_
  · exact ⟨by omega, rfl⟩
  · rintro ⟨k, o, q⟩ σ ⟨hk1, ho⟩
    refine CJ.norm [_, _, _] rfl ?_
    refine CJ.seq ?_
    refine CJ.region ?_
    refine LJ.splitD rfl (Yd.lss rfl rfl) (fun h20 => ?_) (fun h20 => ?_)
    · refine LJ.nil ?_
      refine CJ.seq ?_
      refine CJ.condT rfl ?_
      refine CJ.skip ?_
      refine CJ.seq ?_
      refine CJ.block ?_
      refine CJ.seq ?_
      refine CJ.region ?_
      refine LJ.yd rfl (Yd.mvI rfl) ?_
      refine LJ.idxA rfl hl rfl rfl (by omega) (by first | rfl | omega | (simp; done) | (simp; omega) | (simp [upN_len]; omega) | (simp [idxBy_len]; omega) | (simp [marks_len]; omega) | (simp [upN_len]; done) | (simp [idxBy_len]; done) | (simp [marks_len]; done) | (simp at *; omega)) (fun ib22 io22 ia22 ir22 => ?_)
      refine LJ.ldA 0 (fun u => vI u) (fun _ => rfl) ir22 rfl rfl rfl (by first | rfl | omega | (simp; done) | (simp; omega) | (simp [upN_len]; omega) | (simp [idxBy_len]; omega) | (simp [marks_len]; omega) | (simp [upN_len]; done) | (simp [idxBy_len]; done) | (simp [marks_len]; done) | (simp at *; omega)) (fun u23 hu23 => ?_)
      try simp only [Int.toNat_natCast] at hu23
      refine LJ.yd rfl (Yd.asI rfl) ?_
      refine LJ.yd rfl (Yd.asI rfl) ?_
      refine LJ.nil ?_
      refine CJ.seq ?_
      refine CJ.region ?_
      refine LJ.op rfl (OpR.buildSlice (cs := [_, _]) rfl rfl) ?_
      rintro _ _ ⟨b4, rfl, rfl⟩
      refine LJ.yd rfl (Yd.len rfl) ?_
      refine LJ.yd rfl (Yd.mvI rfl) ?_
      refine LJ.nil ?_
      refine CJ.block ?_
      refine CJ.imp1 3 rfl (fun _ h => Cel.lr (enc := encB) (k := 1) (m := 2) [_, _] rfl rfl rfl rfl h) ?_
      refine CJ.norm [_, _, _, _] rfl ?_
      refine CJ.loopF [2, 3, 4, 8, 9, 10, 12, 13, 17, 18, 19, 20, 21, 22, 23, 24, 25] (Nat × Int × Int × Int × Bool) (fun ⟨j, o2, q2⟩ => j ≤ 2 ∧ o2 = lfT ps w h k u23 o j) (fun ⟨j, o2, q2⟩ => [(26, vI j), (11, vI o2)]) (fun ⟨j, o2, q2⟩ => [Cel b3 99 [vI q2.1, vI 0, vI q2.2.1, .bool q2.2.2, .slice none 0 0]]) (fun ⟨j, o2, q2⟩ => 2 - j) (0, o, q) [_, _, _] [0, 1, 3] [2] rfl rfl rfl ?_ ⟨rfl, rfl, trivial⟩ ?_
      · exact ⟨by omega, rfl⟩
      · rintro ⟨j, o2, q2⟩ σ ⟨hj1, ho2⟩
        refine CJ.norm [_, _, _, _] rfl ?_
        refine CJ.seq ?_
        refine CJ.region ?_
        refine LJ.splitD rfl (Yd.lss rfl rfl) (fun h27 => ?_) (fun h27 => ?_)
        · refine LJ.nil ?_
          refine CJ.seq ?_
          refine CJ.condT rfl ?_
          refine CJ.skip ?_
          refine CJ.seq ?_
          refine CJ.block ?_
          refine CJ.seq ?_
          refine CJ.region ?_
          refine LJ.idxR 2 rfl rfl rfl rfl (by omega) (by first | rfl | omega | (simp; done) | (simp; omega) | (simp [upN_len]; omega) | (simp [idxBy_len]; omega) | (simp [marks_len]; omega) | (simp [upN_len]; done) | (simp [idxBy_len]; done) | (simp [marks_len]; done) | (simp at *; omega)) (by first | rfl | omega | (simp; done) | (simp; omega) | (simp [upN_len]; omega) | (simp [idxBy_len]; omega) | (simp [marks_len]; omega) | (simp [upN_len]; done) | (simp [idxBy_len]; done) | (simp [marks_len]; done) | (simp at *; omega)) (fun ib28 ia28 => ?_)
          refine LJ.ldR 2 0 (fun u => .bool u) (fun _ => rfl) rfl ia28 rfl rfl rfl (by first | rfl | omega | (simp; done) | (simp; omega) | (simp [upN_len]; omega) | (simp [idxBy_len]; omega) | (simp [marks_len]; omega) | (simp [upN_len]; done) | (simp [idxBy_len]; done) | (simp [marks_len]; done) | (simp at *; omega)) (fun u29 hu29 => ?_)
          try simp only [Int.toNat_natCast] at hu29
          refine LJ.yd rfl (Yd.asB rfl) ?_
          refine LJ.nil ?_
          refine CJ.seq ?_
          refine CJ.region ?_
          refine LJ.yd rfl (Yd.mvI rfl) ?_
          refine LJ.yd rfl (Yd.mvI rfl) ?_
          refine LJ.splitD rfl (Yd.gtr rfl rfl) (fun h32 => ?_) (fun h32 => ?_)
          · refine LJ.yd rfl (Yd.mvB rfl) ?_
            refine LJ.gT rfl ?_
            refine LJ.yd rfl (Yd.loadG (us := [_, _, _]) 0 rfl rfl rfl rfl) ?_
            refine LJ.gT rfl ?_
            refine LJ.yd rfl (Yd.mvI rfl) ?_
            refine LJ.gT rfl ?_
            refine LJ.yd rfl (Yd.mvB rfl) ?_
            refine LJ.gT rfl ?_
            refine LJ.yd rfl (Yd.mvI rfl) ?_
            refine LJ.gT rfl ?_
            refine LJ.yd rfl (Yd.mvI rfl) ?_
            refine LJ.gT rfl ?_
            refine LJ.callB rfl (fun k hk dk => paneFills_ok hp.up) (fun h39 => ?_) (fun h39 => ?_)
            · refine LJ.yd rfl (Yd.pickTB rfl rfl) ?_
              refine LJ.nil ?_
              refine CJ.condT rfl ?_
              refine CJ.region ?_
              refine LJ.yd rfl (Yd.mvI rfl) ?_
              refine LJ.yd rfl (Yd.mvB rfl) ?_
              refine LJ.yd rfl (Yd.build (cs := [_, _, _, _, _]) rfl) ?_
              refine LJ.yd rfl (Yd.mvI rfl) ?_
              refine LJ.store (v := .agg #[_, _, _, _, _]) (us := [_, _, _, _, _]) 3 rfl rfl rfl rfl rfl rfl rfl rfl ?_
              refine LJ.yd rfl (Yd.asI rfl) ?_
              refine LJ.nil ?_
              refine CJ.region ?_
              refine LJ.yd rfl (Yd.add rfl rfl (by unfold I64; omega)) ?_
              refine LJ.yd rfl (Yd.mvI rfl) ?_
              refine LJ.nil ?_
              refine ⟨(j + 1, u23, (1, (k : Int), u29)), ?_, ⟨rfl, rfl, rfl, rfl, rfl, rfl, rfl, rfl, rfl, rfl, rfl, rfl, rfl, rfl, rfl, rfl, rfl, trivial⟩, ⟨rfl, rfl, trivial⟩, Ent.refl _, ?_⟩
              · refine ⟨by omega, ?_⟩
                rw [lfT, ← ho2, ← ftC hu29]
                rw [if_pos ⟨by omega, h39⟩]
              · first | omega | (dsimp only; omega) | (simp only []; omega)
            · refine LJ.yd rfl (Yd.pickTB rfl rfl) ?_
              refine LJ.nil ?_
              refine CJ.condF rfl ?_
              refine CJ.skip ?_
              refine CJ.region ?_
              refine LJ.yd rfl (Yd.add rfl rfl (by unfold I64; omega)) ?_
              refine LJ.yd rfl (Yd.mvI rfl) ?_
              refine LJ.nil ?_
              refine ⟨(j + 1, o2, q2), ?_, ⟨rfl, rfl, rfl, rfl, rfl, rfl, rfl, rfl, rfl, rfl, rfl, rfl, rfl, rfl, rfl, rfl, rfl, trivial⟩, ⟨rfl, rfl, trivial⟩, Ent.refl _, ?_⟩
              · refine ⟨by omega, ?_⟩
                rw [lfT, ← ho2, ← ftC hu29]
                rw [if_neg (by rintro ⟨h1, h2⟩; first | omega | (rw [h39] at h2; cases h2))]
              · first | omega | (dsimp only; omega) | (simp only []; omega)
          · refine LJ.yd rfl (Yd.mvB rfl) ?_
            refine LJ.gF rfl rfl ?_
            refine LJ.gF rfl rfl ?_
            refine LJ.gF rfl rfl ?_
            refine LJ.gF rfl rfl ?_
            refine LJ.gF rfl rfl ?_
            refine LJ.gF rfl rfl ?_
            refine LJ.yd rfl (Yd.pickFB rfl rfl) ?_
            refine LJ.nil ?_
            refine CJ.condF rfl ?_
            refine CJ.skip ?_
            refine CJ.region ?_
            refine LJ.yd rfl (Yd.add rfl rfl (by unfold I64; omega)) ?_
            refine LJ.yd rfl (Yd.mvI rfl) ?_
            refine LJ.nil ?_
            refine ⟨(j + 1, o2, q2), ?_, ⟨rfl, rfl, rfl, rfl, rfl, rfl, rfl, rfl, rfl, rfl, rfl, rfl, rfl, rfl, rfl, rfl, rfl, trivial⟩, ⟨rfl, rfl, trivial⟩, Ent.refl _, ?_⟩
            · refine ⟨by omega, ?_⟩
              rw [lfT, ← ho2, ← ftC hu29]
              rw [if_neg (by rintro ⟨h1, h2⟩; first | omega | (rw [h39] at h2; cases h2))]
            · first | omega | (dsimp only; omega) | (simp only []; omega)
        · refine LJ.nil ?_
          refine CJ.seq ?_
          refine CJ.condF rfl ?_
          refine CJ.exit ?_
          refine CJ.region ?_
          refine LJ.yd rfl (Yd.add rfl rfl (by unfold I64; omega)) ?_
          refine LJ.yd rfl (Yd.mvI rfl) ?_
          refine LJ.nil ?_
          refine ⟨(k + 1, o2, q2), ?_, ⟨rfl, rfl, rfl, rfl, rfl, rfl, rfl, rfl, trivial⟩, ⟨rfl, rfl, trivial⟩, Ent.pick [0, 1, 3] [2] rfl, ?_⟩
          · refine ⟨by omega, ?_⟩
            rw [lfV, ← ho, ho2, show j = 2 by omega, getDC hu23]
          · first | omega | (dsimp only; omega) | (simp only []; omega)
    · refine LJ.nil ?_
      refine CJ.seq ?_
      refine CJ.condF rfl ?_
      refine CJ.exit ?_
      refine CJ.seq ?_
      refine CJ.region ?_
      refine LJ.yd rfl (Yd.loadG (us := [_, _, _, _, _]) 2 rfl rfl rfl rfl) ?_
      refine LJ.yd rfl (Yd.mvI rfl) ?_
      refine LJ.store (v := .agg #[_, _, _, _, _]) (us := [_, _, _, _, _]) 1 rfl rfl rfl rfl rfl rfl rfl rfl ?_
      refine LJ.yd rfl (Yd.asI rfl) ?_
      refine LJ.nil ?_
      refine CJ.ret ?_
      rw [show l.length = k by omega, ← ho]
      exact Fin.R [] (Res.two (ResV.cell (us := [_, _, _, _, _]) 1 rfl rfl rfl rfl) (ResV.tmp (v := .int _ _) rfl)) ⟨_, _, _, rfl, rfl⟩ (Ent.pick [] [0, 1, 2] rfl)
def vlV (W H : Int) (ps : List Pane) (l : List Int) : Bool := l.all (fun u => decide (1 ≤ u) && decide (u ≤ 1000)) && (workOk W H ps && (decide (l.length = ps.length) && (decide (l.length ≤ 7) && (decide (W ≤ 16) && decide (H ≤ 16)))))
theorem vlV_iff {W H : Int} {ps : List Pane} {l : List Int} : vlV W H ps l = true ↔ (∀ u ∈ l, 1 ≤ u ∧ u ≤ 1000) ∧ workOk W H ps = true ∧ l.length = ps.length ∧ l.length ≤ 7 ∧ W ≤ 16 ∧ H ≤ 16 := by simp [vlV]
theorem validValues_ok {A : Amb} {W H : Int} {v vl : Value} {ps : List Pane} {l : List Int} (hp : RdPanes A.h v ps) (hl : RdL encI 1 A.h vl l) (hn : l.length ≤ 2000000) : Ctr Try.prog 66 #[.agg #[vI W, vI H, v], vl] A [] (Val (.bool (vlV W H ps l))) := by
  have hp2 := hp
  obtain ⟨⟨sa, sc, rfl, hm, hrow⟩, hlen⟩ := hp2
  rw [List.length_map] at hm ⊢
  rw [List.length_map] at hp
  obtain ⟨la, lc, rfl, hlb, hl⟩ := hl.un
  refine Ctr.body (args := [_, _]) Try.func66 rfl Try.ntmps66 Try.results66 (by simp) ?_
  refine CJ.seq ?_
  refine CJ.region ?_
  refine LJ.boxG (vs := [_, _, _]) rfl rfl (fun b1 => ?_)
  refine LJ.yd rfl (Yd.asB rfl) ?_
  refine LJ.nil ?_
  refine CJ.seq ?_
  refine CJ.seq ?_
  refine CJ.region ?_
  refine LJ.yd rfl (Yd.asI rfl) ?_
  refine LJ.nil ?_
  refine CJ.block ?_
  refine CJ.loopK [1, 2] Nat (fun k => k ≤ l.length ∧ ∀ u ∈ l.take k, 1 ≤ u ∧ u ≤ 1000) (fun k => [(5, vI k)]) (fun k => l.length - k) (0) ?_ ⟨rfl, trivial⟩ ?_
  · exact ⟨by omega, by simp⟩
  · rintro k σ ⟨hk1, hU⟩
    refine CJ.seq ?_
    refine CJ.seq ?_
    refine CJ.region ?_
    refine LJ.yd rfl (Yd.mvI rfl) ?_
    refine LJ.yd rfl (Yd.mvS rfl) ?_
    refine LJ.yd rfl (Yd.len rfl) ?_
    refine LJ.splitD rfl (Yd.lss rfl rfl) (fun h9 => ?_) (fun h9 => ?_)
    · refine LJ.nil ?_
      refine CJ.condT rfl ?_
      refine CJ.skip ?_
      refine CJ.seq ?_
      refine CJ.block ?_
      refine CJ.seq ?_
      refine CJ.region ?_
      refine LJ.yd rfl (Yd.mvS rfl) ?_
      refine LJ.yd rfl (Yd.mvI rfl) ?_
      refine LJ.idxA rfl hl rfl rfl (by omega) (by first | rfl | omega | (simp; done) | (simp; omega) | (simp [upN_len]; omega) | (simp [idxBy_len]; omega) | (simp [marks_len]; omega) | (simp [upN_len]; done) | (simp [idxBy_len]; done) | (simp [marks_len]; done) | (simp at *; omega)) (fun ib14 io14 ia14 ir14 => ?_)
      refine LJ.ldA 0 (fun u => vI u) (fun _ => rfl) ir14 rfl rfl rfl (by first | rfl | omega | (simp; done) | (simp; omega) | (simp [upN_len]; omega) | (simp [idxBy_len]; omega) | (simp [marks_len]; omega) | (simp [upN_len]; done) | (simp [idxBy_len]; done) | (simp [marks_len]; done) | (simp at *; omega)) (fun u15 hu15 => ?_)
      try simp only [Int.toNat_natCast] at hu15
      refine LJ.callB rfl (fun k hk dk => inRange_ok _ _ _ _) (fun h16 => ?_) (fun h16 => ?_)
      · refine LJ.yd rfl (Yd.not rfl) ?_
        refine LJ.nil ?_
        refine CJ.condF rfl ?_
        refine CJ.skip ?_
        refine CJ.region ?_
        refine LJ.yd rfl (Yd.mvI rfl) ?_
        refine LJ.yd rfl (Yd.add rfl rfl (by unfold I64; omega)) ?_
        refine LJ.yd rfl (Yd.asI rfl) ?_
        refine LJ.nil ?_
        refine ⟨(k + 1), ?_, ⟨rfl, rfl, trivial⟩, ⟨rfl, trivial⟩, Ent.refl _, ?_⟩
        · refine ⟨by omega, ?_⟩
          intro u hu
          rw [takeC hu15, List.mem_append, List.mem_singleton] at hu
          rcases hu with hu | rfl
          · exact hU u hu
          · simpa using h16
        · first | omega | (dsimp only; omega) | (simp only []; omega)
      · refine LJ.yd rfl (Yd.not rfl) ?_
        refine LJ.nil ?_
        refine CJ.condT rfl ?_
        refine CJ.seq ?_
        refine CJ.region ?_
        refine LJ.yd rfl (Yd.asB rfl) ?_
        refine LJ.nil ?_
        refine CJ.ret ?_
        refine Fin.V (Res.one (ResV.tmp (v := .bool false) rfl)) ?_
        refine congrArg Value.bool ?_
        first
          | (refine Eq.symm (Bool.eq_false_iff.2 fun h => ?_)
             have := (vlV_iff.1 h).1 u15 (List.mem_of_getElem? hu15)
             simp at h16; omega)
          | (rw [List.take_of_length_le (by omega)] at hU
             rw [eq_comm, Bool.eq_iff_iff, vlV_iff]
             constructor
             · intro q
               first
                 | (clear hlen hrow hp hl; simp_all; done)
                 | (clear hlen hrow hp hl; simp_all; omega)
             · intro q
               first
                 | (clear hlen hrow hp hl; simp_all; done)
                 | (clear hlen hrow hp hl; simp_all; omega))
    · refine LJ.nil ?_
      refine CJ.condF rfl ?_
      refine CJ.exit ?_
      refine CJ.seq ?_
      refine CJ.region ?_
      refine LJ.yd rfl (Yd.loadG (us := [_, _, _]) 0 rfl rfl rfl rfl) ?_
      refine LJ.callB rfl (fun k hk dk => validWorkS_ok hp.up) (fun h19 => ?_) (fun h19 => ?_)
      · refine LJ.yd rfl (Yd.mvB rfl) ?_
        refine LJ.gT rfl ?_
        refine LJ.yd rfl (Yd.mvS rfl) ?_
        refine LJ.gT rfl ?_
        refine LJ.yd rfl (Yd.len rfl) ?_
        refine LJ.gT rfl ?_
        refine LJ.yd rfl (Yd.fieldAddr rfl) ?_
        refine LJ.gT rfl ?_
        refine LJ.yd rfl (Yd.loadC 0 rfl rfl rfl) ?_
        refine LJ.gT rfl ?_
        refine LJ.yd rfl (Yd.len rfl) ?_
        refine LJ.gT rfl ?_
        refine LJ.splitD rfl (Yd.eql rfl rfl) (fun h26 => ?_) (fun h26 => ?_)
        · refine LJ.yd rfl (Yd.pickTB rfl rfl) ?_
          refine LJ.yd rfl (Yd.mvB rfl) ?_
          refine LJ.gT rfl ?_
          refine LJ.yd rfl (Yd.mvS rfl) ?_
          refine LJ.gT rfl ?_
          refine LJ.yd rfl (Yd.len rfl) ?_
          refine LJ.gT rfl ?_
          refine LJ.splitD rfl (Yd.leq rfl rfl) (fun h31 => ?_) (fun h31 => ?_)
          · refine LJ.yd rfl (Yd.pickTB rfl rfl) ?_
            refine LJ.yd rfl (Yd.mvB rfl) ?_
            refine LJ.gT rfl ?_
            refine LJ.yd rfl (Yd.fieldAddr rfl) ?_
            refine LJ.gT rfl ?_
            refine LJ.yd rfl (Yd.loadC 0 rfl rfl rfl) ?_
            refine LJ.gT rfl ?_
            refine LJ.splitD rfl (Yd.leq rfl rfl) (fun h36 => ?_) (fun h36 => ?_)
            · refine LJ.yd rfl (Yd.pickTB rfl rfl) ?_
              refine LJ.yd rfl (Yd.mvB rfl) ?_
              refine LJ.gT rfl ?_
              refine LJ.yd rfl (Yd.fieldAddr rfl) ?_
              refine LJ.gT rfl ?_
              refine LJ.yd rfl (Yd.loadC 0 rfl rfl rfl) ?_
              refine LJ.gT rfl ?_
              refine LJ.splitD rfl (Yd.leq rfl rfl) (fun h41 => ?_) (fun h41 => ?_)
              · refine LJ.yd rfl (Yd.pickTB rfl rfl) ?_
                refine LJ.yd rfl (Yd.asB rfl) ?_
                refine LJ.nil ?_
                refine CJ.ret ?_
                refine Fin.V (Res.one (ResV.tmp (v := .bool true) rfl)) ?_
                refine congrArg Value.bool ?_
                first
                  | (refine Eq.symm (Bool.eq_false_iff.2 fun h => ?_)
                     have := (vlV_iff.1 h).1 u15 (List.mem_of_getElem? hu15)
                     simp at h16; omega)
                  | (rw [List.take_of_length_le (by omega)] at hU
                     rw [eq_comm, Bool.eq_iff_iff, vlV_iff]
                     constructor
                     · intro q
                       first
                         | (clear hlen hrow hp hl; simp_all; done)
                         | (clear hlen hrow hp hl; simp_all; omega)
                     · intro q
                       first
                         | (clear hlen hrow hp hl; simp_all; done)
                         | (clear hlen hrow hp hl; simp_all; omega))
              · refine LJ.yd rfl (Yd.pickTB rfl rfl) ?_
                refine LJ.yd rfl (Yd.asB rfl) ?_
                refine LJ.nil ?_
                refine CJ.ret ?_
                refine Fin.V (Res.one (ResV.tmp (v := .bool false) rfl)) ?_
                refine congrArg Value.bool ?_
                first
                  | (refine Eq.symm (Bool.eq_false_iff.2 fun h => ?_)
                     have := (vlV_iff.1 h).1 u15 (List.mem_of_getElem? hu15)
                     simp at h16; omega)
                  | (rw [List.take_of_length_le (by omega)] at hU
                     rw [eq_comm, Bool.eq_iff_iff, vlV_iff]
                     constructor
                     · intro q
                       first
                         | (clear hlen hrow hp hl; simp_all; done)
                         | (clear hlen hrow hp hl; simp_all; omega)
                     · intro q
                       first
                         | (clear hlen hrow hp hl; simp_all; done)
                         | (clear hlen hrow hp hl; simp_all; omega))
            · refine LJ.yd rfl (Yd.pickTB rfl rfl) ?_
              refine LJ.yd rfl (Yd.mvB rfl) ?_
              refine LJ.gF rfl rfl ?_
              refine LJ.gF rfl rfl ?_
              refine LJ.gF rfl rfl ?_
              refine LJ.yd rfl (Yd.pickFB rfl rfl) ?_
              refine LJ.yd rfl (Yd.asB rfl) ?_
              refine LJ.nil ?_
              refine CJ.ret ?_
              refine Fin.V (Res.one (ResV.tmp (v := .bool false) rfl)) ?_
              refine congrArg Value.bool ?_
              first
                | (refine Eq.symm (Bool.eq_false_iff.2 fun h => ?_)
                   have := (vlV_iff.1 h).1 u15 (List.mem_of_getElem? hu15)
                   simp at h16; omega)
                | (rw [List.take_of_length_le (by omega)] at hU
                   rw [eq_comm, Bool.eq_iff_iff, vlV_iff]
                   constructor
                   · intro q
                     first
                       | (clear hlen hrow hp hl; simp_all; done)
                       | (clear hlen hrow hp hl; simp_all; omega)
                   · intro q
                     first
                       | (clear hlen hrow hp hl; simp_all; done)
                       | (clear hlen hrow hp hl; simp_all; omega))
          · refine LJ.yd rfl (Yd.pickTB rfl rfl) ?_
            refine LJ.yd rfl (Yd.mvB rfl) ?_
            refine LJ.gF rfl rfl ?_
            refine LJ.gF rfl rfl ?_
            refine LJ.gF rfl rfl ?_
            refine LJ.yd rfl (Yd.pickFB rfl rfl) ?_
            refine LJ.yd rfl (Yd.mvB rfl) ?_
            refine LJ.gF rfl rfl ?_
            refine LJ.gF rfl rfl ?_
            refine LJ.gF rfl rfl ?_
            refine LJ.yd rfl (Yd.pickFB rfl rfl) ?_
            refine LJ.yd rfl (Yd.asB rfl) ?_
            refine LJ.nil ?_
            refine CJ.ret ?_
            refine Fin.V (Res.one (ResV.tmp (v := .bool false) rfl)) ?_
            refine congrArg Value.bool ?_
            first
              | (refine Eq.symm (Bool.eq_false_iff.2 fun h => ?_)
                 have := (vlV_iff.1 h).1 u15 (List.mem_of_getElem? hu15)
                 simp at h16; omega)
              | (rw [List.take_of_length_le (by omega)] at hU
                 rw [eq_comm, Bool.eq_iff_iff, vlV_iff]
                 constructor
                 · intro q
                   first
                     | (clear hlen hrow hp hl; simp_all; done)
                     | (clear hlen hrow hp hl; simp_all; omega)
                 · intro q
                   first
                     | (clear hlen hrow hp hl; simp_all; done)
                     | (clear hlen hrow hp hl; simp_all; omega))
        · refine LJ.yd rfl (Yd.pickTB rfl rfl) ?_
          refine LJ.yd rfl (Yd.mvB rfl) ?_
          refine LJ.gF rfl rfl ?_
          refine LJ.gF rfl rfl ?_
          refine LJ.gF rfl rfl ?_
          refine LJ.yd rfl (Yd.pickFB rfl rfl) ?_
          refine LJ.yd rfl (Yd.mvB rfl) ?_
          refine LJ.gF rfl rfl ?_
          refine LJ.gF rfl rfl ?_
          refine LJ.gF rfl rfl ?_
          refine LJ.yd rfl (Yd.pickFB rfl rfl) ?_
          refine LJ.yd rfl (Yd.mvB rfl) ?_
          refine LJ.gF rfl rfl ?_
          refine LJ.gF rfl rfl ?_
          refine LJ.gF rfl rfl ?_
          refine LJ.yd rfl (Yd.pickFB rfl rfl) ?_
          refine LJ.yd rfl (Yd.asB rfl) ?_
          refine LJ.nil ?_
          refine CJ.ret ?_
          refine Fin.V (Res.one (ResV.tmp (v := .bool false) rfl)) ?_
          refine congrArg Value.bool ?_
          first
            | (refine Eq.symm (Bool.eq_false_iff.2 fun h => ?_)
               have := (vlV_iff.1 h).1 u15 (List.mem_of_getElem? hu15)
               simp at h16; omega)
            | (rw [List.take_of_length_le (by omega)] at hU
               rw [eq_comm, Bool.eq_iff_iff, vlV_iff]
               constructor
               · intro q
                 first
                   | (clear hlen hrow hp hl; simp_all; done)
                   | (clear hlen hrow hp hl; simp_all; omega)
               · intro q
                 first
                   | (clear hlen hrow hp hl; simp_all; done)
                   | (clear hlen hrow hp hl; simp_all; omega))
      · refine LJ.yd rfl (Yd.mvB rfl) ?_
        refine LJ.gF rfl rfl ?_
        refine LJ.gF rfl rfl ?_
        refine LJ.gF rfl rfl ?_
        refine LJ.gF rfl rfl ?_
        refine LJ.gF rfl rfl ?_
        refine LJ.gF rfl rfl ?_
        refine LJ.yd rfl (Yd.pickFB rfl rfl) ?_
        refine LJ.yd rfl (Yd.mvB rfl) ?_
        refine LJ.gF rfl rfl ?_
        refine LJ.gF rfl rfl ?_
        refine LJ.gF rfl rfl ?_
        refine LJ.yd rfl (Yd.pickFB rfl rfl) ?_
        refine LJ.yd rfl (Yd.mvB rfl) ?_
        refine LJ.gF rfl rfl ?_
        refine LJ.gF rfl rfl ?_
        refine LJ.gF rfl rfl ?_
        refine LJ.yd rfl (Yd.pickFB rfl rfl) ?_
        refine LJ.yd rfl (Yd.mvB rfl) ?_
        refine LJ.gF rfl rfl ?_
        refine LJ.gF rfl rfl ?_
        refine LJ.gF rfl rfl ?_
        refine LJ.yd rfl (Yd.pickFB rfl rfl) ?_
        refine LJ.yd rfl (Yd.asB rfl) ?_
        refine LJ.nil ?_
        refine CJ.ret ?_
        refine Fin.V (Res.one (ResV.tmp (v := .bool false) rfl)) ?_
        refine congrArg Value.bool ?_
        first
          | (refine Eq.symm (Bool.eq_false_iff.2 fun h => ?_)
             have := (vlV_iff.1 h).1 u15 (List.mem_of_getElem? hu15)
             simp at h16; omega)
          | (rw [List.take_of_length_le (by omega)] at hU
             rw [eq_comm, Bool.eq_iff_iff, vlV_iff]
             constructor
             · intro q
               first
                 | (clear hlen hrow hp hl; simp_all; done)
                 | (clear hlen hrow hp hl; simp_all; omega)
             · intro q
               first
                 | (clear hlen hrow hp hl; simp_all; done)
                 | (clear hlen hrow hp hl; simp_all; omega))
theorem bestTold_ok {A : Amb} {W H : Int} {v vl : Value} {ps : List Pane} {l : List Int} (hp : RdPanes A.h v ps) (hl : RdL encI 1 A.h vl l) (hn : l.length ≤ 2000000) : Ctr Try.prog 68 #[.agg #[vI W, vI H, v], vl] A [] (Val (.bool (vlV W H ps l))) := by
  have hp2 := hp
  obtain ⟨⟨sa, sc, rfl, hm, hrow⟩, hlen⟩ := hp2
  rw [List.length_map] at hm ⊢
  rw [List.length_map] at hp
  obtain ⟨la, lc, rfl, hlb, hl⟩ := hl.un
  refine Ctr.body (args := [_, _]) Try.func68 rfl Try.ntmps68 Try.results68 (by simp) ?_
  refine CJ.seq ?_
  refine CJ.region ?_
  refine LJ.boxG (vs := [_, _, _]) rfl rfl (fun b1 => ?_)
  refine LJ.yd rfl (Yd.asB rfl) ?_
  refine LJ.nil ?_
  refine CJ.seq ?_
  refine CJ.seq ?_
  refine CJ.region ?_
  refine LJ.yd rfl (Yd.loadG (us := [_, _, _]) 0 rfl rfl rfl rfl) ?_
  refine LJ.callB rfl (fun k hk dk => validWorkI_ok hp.up) (fun h8 => ?_) (fun h8 => ?_)
  · refine LJ.yd rfl (Yd.not rfl) ?_
    refine LJ.yd rfl (Yd.mvB rfl) ?_
    refine LJ.gT rfl ?_
    refine LJ.yd rfl (Yd.fieldAddr rfl) ?_
    refine LJ.gT rfl ?_
    refine LJ.yd rfl (Yd.loadC 0 rfl rfl rfl) ?_
    refine LJ.gT rfl ?_
    refine LJ.splitD rfl (Yd.gtr rfl rfl) (fun h13 => ?_) (fun h13 => ?_)
    · refine LJ.yd rfl (Yd.pickFB rfl rfl) ?_
      refine LJ.yd rfl (Yd.mvB rfl) ?_
      refine LJ.gF rfl rfl ?_
      refine LJ.gF rfl rfl ?_
      refine LJ.gF rfl rfl ?_
      refine LJ.yd rfl (Yd.pickTB rfl rfl) ?_
      refine LJ.nil ?_
      refine CJ.condT rfl ?_
      refine CJ.seq ?_
      refine CJ.region ?_
      refine LJ.yd rfl (Yd.asB rfl) ?_
      refine LJ.nil ?_
      refine CJ.ret ?_
      refine Fin.V (Res.one (ResV.tmp (v := .bool false) rfl)) ?_
      refine congrArg Value.bool ?_
      first
        | (refine Eq.symm (Bool.eq_false_iff.2 fun h => ?_)
           obtain ⟨q1, q2, q3, q4, q5, q6⟩ := vlV_iff.1 h
           first
             | omega
             | (rw [h8] at q2; cases q2; done)
             | (have := q1 u37 (List.mem_of_getElem? hu37); omega))
        | (rw [List.take_of_length_le (by omega)] at hU
           exact (vlV_iff.2 ⟨hU, h8, by omega, by omega, by omega, by omega⟩).symm)
    · refine LJ.yd rfl (Yd.pickFB rfl rfl) ?_
      refine LJ.yd rfl (Yd.mvB rfl) ?_
      refine LJ.gT rfl ?_
      refine LJ.yd rfl (Yd.fieldAddr rfl) ?_
      refine LJ.gT rfl ?_
      refine LJ.yd rfl (Yd.loadC 0 rfl rfl rfl) ?_
      refine LJ.gT rfl ?_
      refine LJ.splitD rfl (Yd.gtr rfl rfl) (fun h18 => ?_) (fun h18 => ?_)
      · refine LJ.yd rfl (Yd.pickFB rfl rfl) ?_
        refine LJ.nil ?_
        refine CJ.condT rfl ?_
        refine CJ.seq ?_
        refine CJ.region ?_
        refine LJ.yd rfl (Yd.asB rfl) ?_
        refine LJ.nil ?_
        refine CJ.ret ?_
        refine Fin.V (Res.one (ResV.tmp (v := .bool false) rfl)) ?_
        refine congrArg Value.bool ?_
        first
          | (refine Eq.symm (Bool.eq_false_iff.2 fun h => ?_)
             obtain ⟨q1, q2, q3, q4, q5, q6⟩ := vlV_iff.1 h
             first
               | omega
               | (rw [h8] at q2; cases q2; done)
               | (have := q1 u37 (List.mem_of_getElem? hu37); omega))
          | (rw [List.take_of_length_le (by omega)] at hU
             exact (vlV_iff.2 ⟨hU, h8, by omega, by omega, by omega, by omega⟩).symm)
      · refine LJ.yd rfl (Yd.pickFB rfl rfl) ?_
        refine LJ.nil ?_
        refine CJ.condF rfl ?_
        refine CJ.skip ?_
        refine CJ.seq ?_
        refine CJ.seq ?_
        refine CJ.region ?_
        refine LJ.yd rfl (Yd.fieldAddr rfl) ?_
        refine LJ.yd rfl (Yd.loadC 0 rfl rfl rfl) ?_
        refine LJ.yd rfl (Yd.len rfl) ?_
        refine LJ.splitD rfl (Yd.gtr rfl rfl) (fun h23 => ?_) (fun h23 => ?_)
        · refine LJ.yd rfl (Yd.mvB rfl) ?_
          refine LJ.gF rfl rfl ?_
          refine LJ.gF rfl rfl ?_
          refine LJ.gF rfl rfl ?_
          refine LJ.gF rfl rfl ?_
          refine LJ.gF rfl rfl ?_
          refine LJ.gF rfl rfl ?_
          refine LJ.yd rfl (Yd.pickTB rfl rfl) ?_
          refine LJ.nil ?_
          refine CJ.condT rfl ?_
          refine CJ.seq ?_
          refine CJ.region ?_
          refine LJ.yd rfl (Yd.asB rfl) ?_
          refine LJ.nil ?_
          refine CJ.ret ?_
          refine Fin.V (Res.one (ResV.tmp (v := .bool false) rfl)) ?_
          refine congrArg Value.bool ?_
          first
            | (refine Eq.symm (Bool.eq_false_iff.2 fun h => ?_)
               obtain ⟨q1, q2, q3, q4, q5, q6⟩ := vlV_iff.1 h
               first
                 | omega
                 | (rw [h8] at q2; cases q2; done)
                 | (have := q1 u37 (List.mem_of_getElem? hu37); omega))
            | (rw [List.take_of_length_le (by omega)] at hU
               exact (vlV_iff.2 ⟨hU, h8, by omega, by omega, by omega, by omega⟩).symm)
        · refine LJ.yd rfl (Yd.mvB rfl) ?_
          refine LJ.gT rfl ?_
          refine LJ.yd rfl (Yd.mvS rfl) ?_
          refine LJ.gT rfl ?_
          refine LJ.yd rfl (Yd.len rfl) ?_
          refine LJ.gT rfl ?_
          refine LJ.yd rfl (Yd.fieldAddr rfl) ?_
          refine LJ.gT rfl ?_
          refine LJ.yd rfl (Yd.loadC 0 rfl rfl rfl) ?_
          refine LJ.gT rfl ?_
          refine LJ.yd rfl (Yd.len rfl) ?_
          refine LJ.gT rfl ?_
          refine LJ.splitN rfl (Yd.neq rfl rfl) (fun h30 => ?_) (fun h30 => ?_)
          · refine LJ.yd rfl (Yd.pickFB rfl rfl) ?_
            refine LJ.nil ?_
            refine CJ.condT rfl ?_
            refine CJ.seq ?_
            refine CJ.region ?_
            refine LJ.yd rfl (Yd.asB rfl) ?_
            refine LJ.nil ?_
            refine CJ.ret ?_
            refine Fin.V (Res.one (ResV.tmp (v := .bool false) rfl)) ?_
            refine congrArg Value.bool ?_
            first
              | (refine Eq.symm (Bool.eq_false_iff.2 fun h => ?_)
                 obtain ⟨q1, q2, q3, q4, q5, q6⟩ := vlV_iff.1 h
                 first
                   | omega
                   | (rw [h8] at q2; cases q2; done)
                   | (have := q1 u37 (List.mem_of_getElem? hu37); omega))
              | (rw [List.take_of_length_le (by omega)] at hU
                 exact (vlV_iff.2 ⟨hU, h8, by omega, by omega, by omega, by omega⟩).symm)
          · refine LJ.yd rfl (Yd.pickFB rfl rfl) ?_
            refine LJ.nil ?_
            refine CJ.condF rfl ?_
            refine CJ.skip ?_
            refine CJ.seq ?_
            refine CJ.seq ?_
            refine CJ.region ?_
            refine LJ.yd rfl (Yd.mvS rfl) ?_
            refine LJ.yd rfl (Yd.len rfl) ?_
            refine LJ.yd rfl (Yd.mvI rfl) ?_
            refine LJ.nil ?_
            refine CJ.block ?_
            refine CJ.loopK [32, 33] Nat (fun k => k ≤ l.length ∧ ∀ u ∈ l.take k, 1 ≤ u ∧ u ≤ 1000) (fun k => [(34, vI k)]) (fun k => l.length - k) (0) ?_ ⟨rfl, trivial⟩ ?_
            · exact ⟨by omega, by simp⟩
            · rintro k σ ⟨hk1, hU⟩
              refine CJ.seq ?_
              refine CJ.region ?_
              refine LJ.splitD rfl (Yd.lss rfl rfl) (fun h35 => ?_) (fun h35 => ?_)
              · refine LJ.nil ?_
                refine CJ.seq ?_
                refine CJ.condT rfl ?_
                refine CJ.skip ?_
                refine CJ.seq ?_
                refine CJ.block ?_
                refine CJ.seq ?_
                refine CJ.region ?_
                refine LJ.idxA rfl hl rfl rfl (by omega) (by first | rfl | omega | (simp; done) | (simp; omega) | (simp [upN_len]; omega) | (simp [idxBy_len]; omega) | (simp [marks_len]; omega) | (simp [upN_len]; done) | (simp [idxBy_len]; done) | (simp [marks_len]; done) | (simp at *; omega)) (fun ib36 io36 ia36 ir36 => ?_)
                refine LJ.ldA 0 (fun u => vI u) (fun _ => rfl) ir36 rfl rfl rfl (by first | rfl | omega | (simp; done) | (simp; omega) | (simp [upN_len]; omega) | (simp [idxBy_len]; omega) | (simp [marks_len]; omega) | (simp [upN_len]; done) | (simp [idxBy_len]; done) | (simp [marks_len]; done) | (simp at *; omega)) (fun u37 hu37 => ?_)
                try simp only [Int.toNat_natCast] at hu37
                refine LJ.yd rfl (Yd.asI rfl) ?_
                refine LJ.nil ?_
                refine CJ.seq ?_
                refine CJ.region ?_
                refine LJ.yd rfl (Yd.mvI rfl) ?_
                refine LJ.splitD rfl (Yd.lss rfl rfl) (fun h39 => ?_) (fun h39 => ?_)
                · refine LJ.yd rfl (Yd.mvB rfl) ?_
                  refine LJ.gF rfl rfl ?_
                  refine LJ.gF rfl rfl ?_
                  refine LJ.yd rfl (Yd.pickTB rfl rfl) ?_
                  refine LJ.nil ?_
                  refine CJ.condT rfl ?_
                  refine CJ.seq ?_
                  refine CJ.region ?_
                  refine LJ.yd rfl (Yd.asB rfl) ?_
                  refine LJ.nil ?_
                  refine CJ.ret ?_
                  refine Fin.V (Res.one (ResV.tmp (v := .bool false) rfl)) ?_
                  refine congrArg Value.bool ?_
                  first
                    | (refine Eq.symm (Bool.eq_false_iff.2 fun h => ?_)
                       obtain ⟨q1, q2, q3, q4, q5, q6⟩ := vlV_iff.1 h
                       first
                         | omega
                         | (rw [h8] at q2; cases q2; done)
                         | (have := q1 u37 (List.mem_of_getElem? hu37); omega))
                    | (rw [List.take_of_length_le (by omega)] at hU
                       exact (vlV_iff.2 ⟨hU, h8, by omega, by omega, by omega, by omega⟩).symm)
                · refine LJ.yd rfl (Yd.mvB rfl) ?_
                  refine LJ.gT rfl ?_
                  refine LJ.yd rfl (Yd.mvI rfl) ?_
                  refine LJ.gT rfl ?_
                  refine LJ.splitD rfl (Yd.gtr rfl rfl) (fun h42 => ?_) (fun h42 => ?_)
                  · refine LJ.yd rfl (Yd.pickFB rfl rfl) ?_
                    refine LJ.nil ?_
                    refine CJ.condT rfl ?_
                    refine CJ.seq ?_
                    refine CJ.region ?_
                    refine LJ.yd rfl (Yd.asB rfl) ?_
                    refine LJ.nil ?_
                    refine CJ.ret ?_
                    refine Fin.V (Res.one (ResV.tmp (v := .bool false) rfl)) ?_
                    refine congrArg Value.bool ?_
                    first
                      | (refine Eq.symm (Bool.eq_false_iff.2 fun h => ?_)
                         obtain ⟨q1, q2, q3, q4, q5, q6⟩ := vlV_iff.1 h
                         first
                           | omega
                           | (rw [h8] at q2; cases q2; done)
                           | (have := q1 u37 (List.mem_of_getElem? hu37); omega))
                      | (rw [List.take_of_length_le (by omega)] at hU
                         exact (vlV_iff.2 ⟨hU, h8, by omega, by omega, by omega, by omega⟩).symm)
                  · refine LJ.yd rfl (Yd.pickFB rfl rfl) ?_
                    refine LJ.nil ?_
                    refine CJ.condF rfl ?_
                    refine CJ.skip ?_
                    refine CJ.region ?_
                    refine LJ.yd rfl (Yd.add rfl rfl (by unfold I64; omega)) ?_
                    refine LJ.yd rfl (Yd.mvI rfl) ?_
                    refine LJ.nil ?_
                    refine ⟨(k + 1), ?_, ⟨rfl, rfl, trivial⟩, ⟨rfl, trivial⟩, Ent.refl _, ?_⟩
                    · refine ⟨by omega, ?_⟩
                      intro u hu
                      rw [takeC hu37, List.mem_append, List.mem_singleton] at hu
                      rcases hu with hu | rfl
                      · exact hU u hu
                      · omega
                    · first | omega | (dsimp only; omega) | (simp only []; omega)
              · refine LJ.nil ?_
                refine CJ.seq ?_
                refine CJ.condF rfl ?_
                refine CJ.exit ?_
                refine CJ.seq ?_
                refine CJ.region ?_
                refine LJ.yd rfl (Yd.asB rfl) ?_
                refine LJ.nil ?_
                refine CJ.ret ?_
                refine Fin.V (Res.one (ResV.tmp (v := .bool true) rfl)) ?_
                refine congrArg Value.bool ?_
                first
                  | (refine Eq.symm (Bool.eq_false_iff.2 fun h => ?_)
                     obtain ⟨q1, q2, q3, q4, q5, q6⟩ := vlV_iff.1 h
                     first
                       | omega
                       | (rw [h8] at q2; cases q2; done)
                       | (have := q1 u37 (List.mem_of_getElem? hu37); omega))
                  | (rw [List.take_of_length_le (by omega)] at hU
                     exact (vlV_iff.2 ⟨hU, h8, by omega, by omega, by omega, by omega⟩).symm)
  · refine LJ.yd rfl (Yd.not rfl) ?_
    refine LJ.yd rfl (Yd.mvB rfl) ?_
    refine LJ.gF rfl rfl ?_
    refine LJ.gF rfl rfl ?_
    refine LJ.gF rfl rfl ?_
    refine LJ.yd rfl (Yd.pickTB rfl rfl) ?_
    refine LJ.yd rfl (Yd.mvB rfl) ?_
    refine LJ.gF rfl rfl ?_
    refine LJ.gF rfl rfl ?_
    refine LJ.gF rfl rfl ?_
    refine LJ.yd rfl (Yd.pickTB rfl rfl) ?_
    refine LJ.nil ?_
    refine CJ.condT rfl ?_
    refine CJ.seq ?_
    refine CJ.region ?_
    refine LJ.yd rfl (Yd.asB rfl) ?_
    refine LJ.nil ?_
    refine CJ.ret ?_
    refine Fin.V (Res.one (ResV.tmp (v := .bool false) rfl)) ?_
    refine congrArg Value.bool ?_
    first
      | (refine Eq.symm (Bool.eq_false_iff.2 fun h => ?_)
         obtain ⟨q1, q2, q3, q4, q5, q6⟩ := vlV_iff.1 h
         first
           | omega
           | (rw [h8] at q2; cases q2; done)
           | (have := q1 u37 (List.mem_of_getElem? hu37); omega))
      | (rw [List.take_of_length_le (by omega)] at hU
         exact (vlV_iff.2 ⟨hU, h8, by omega, by omega, by omega, by omega⟩).symm)
theorem lf_b {ps : List Pane} {l : List Int} (hl : ∀ u ∈ l, 1 ≤ u ∧ u ≤ 1000) : ∀ w h : Nat, 0 ≤ lfV ps l w h l.length ∧ lfV ps l w h l.length ≤ 1000 := fun _ _ => lfV_b fun u hu => (hl u hu).2
abbrev lfL (ps : List Pane) (l : List Int) (w h : Nat) : Int := lfV ps l w h l.length
abbrev bvL (ps : List Pane) (l : List Int) (w h : Nat) : Int := bv (lfL ps l) w h
theorem bvL_b {ps : List Pane} {l : List Int} (hl : ∀ u ∈ l, 1 ≤ u ∧ u ≤ 1000) {w h : Nat} (hw : 1 ≤ w) (hh : 1 ≤ h) (hw2 : w ≤ 16) (hh2 : h ≤ 16) : 0 ≤ bvL ps l w h ∧ bvL ps l w h ≤ 256000 := bv_b (lf_b hl) hw hh hw2 hh2
theorem mxA_s {f : Nat → Int} {o : Int} {a n : Nat} (h : a = n + 1) : mxA f o a = max (mxA f o n) (f a) := by subst h; rfl
/-- the array of all values of glass up to w, h -/
def VA (ps : List Pane) (l : List Int) (w h H : Nat) (L : List Int) : Prop := L.length = 289 ∧ ∀ a b, 1 ≤ a → 1 ≤ b → b ≤ H → (a < w ∨ (a = w ∧ b < h)) → L[a * 17 + b]? = some (bvL ps l a b)
theorem VA.init {ps : List Pane} {l : List Int} {H : Nat} : VA ps l 1 1 H (List.replicate 289 0) := ⟨by simp, fun a b h1 h2 h3 h4 => by omega⟩
theorem VA.row {ps : List Pane} {l : List Int} {w H : Nat} {L : List Int} (h : VA ps l w (H + 1) H L) : VA ps l (w + 1) 1 H L := ⟨h.1, fun a b h1 h2 h3 h4 => h.2 a b h1 h2 h3 (by omega)⟩
theorem VA.set {ps : List Pane} {l : List Int} {w h H : Nat} {L : List Int} {m : Int} (v : VA ps l w h H L) (hb : w ≤ 16 ∧ h ≤ 16 ∧ H ≤ 16) (hm : m = bvL ps l w h) : VA ps l w (h + 1) H (L.set (w * 17 + h) m) := by
  refine ⟨by rw [List.length_set]; exact v.1, fun a b h1 h2 h3 h4 => ?_⟩
  by_cases e : a = w ∧ b = h
  · obtain ⟨rfl, rfl⟩ := e
    rw [List.getElem?_set_self (by rw [v.1]; omega), hm]
  · rw [List.getElem?_set_ne (by omega)]
    exact v.2 a b h1 h2 h3 (by omega)
theorem valuesOf_ok {A : Amb} {W H : Int} {v vl : Value} {ps : List Pane} {l : List Int} (hp : RdPanes A.h v ps) (hl : RdL encI 1 A.h vl l) (hv : vlV W H ps l = true) : Ctr Try.prog 69 #[.agg #[vI W, vI H, v], vl] A [] (fun v gs => gs = [] ∧ ∃ L, v = .agg (L.map fun u => vI u).toArray ∧ VA ps l (W.toNat + 1) 1 H.toNat L) := by
  obtain ⟨hv1, hv2, hv3, hv4, hv5, hv6⟩ := vlV_iff.1 hv
  obtain ⟨hw1, hw2, hw3, hw4, _, _⟩ := workOk_iff.1 hv2
  obtain ⟨W, rfl⟩ := Int.eq_ofNat_of_zero_le (show 0 ≤ W by omega)
  obtain ⟨H, rfl⟩ := Int.eq_ofNat_of_zero_le (show 0 ≤ H by omega)
  have hlf := lf_b (ps := ps) hv1
  have hp2 := hp
  obtain ⟨⟨sa, sc, rfl, hm, hrow⟩, hlen⟩ := hp2
  obtain ⟨la, lc, rfl, hlb, hl⟩ := hl.un
  refine Ctr.body (args := [_, _]) Try.func69 rfl Try.ntmps69 Try.results69 (by simp) ?_
  refine CJ.seq ?_
  refine CJ.region ?_
  refine LJ.boxG (vs := [_, _, _]) rfl rfl (fun b1 => ?_)
  refine LJ.alloc ((List.replicate 289 (0 : Int)).map fun u => vI u) (by simp [Value.cells]) rfl (fun b2 => ?_)
  refine LJ.norm [_, _] rfl ?_
  refine LJ.nil ?_
  refine CJ.seq ?_
  refine CJ.region ?_
  refine LJ.alloc ((List.replicate 289 (0 : Int)).map fun u => vI u) (by simp [Value.cells]) rfl (fun b3 => ?_)
  refine LJ.norm [_, _, _] rfl ?_
  refine LJ.nil ?_
  refine CJ.seq ?_
  refine CJ.seq ?_
  refine CJ.region ?_
  refine LJ.yd rfl (Yd.asI rfl) ?_
  refine LJ.nil ?_
  refine CJ.block ?_
  refine CJ.loopF [1, 2, 4, 5] (Nat × List Int) (fun ⟨w, L⟩ => w ≤ W + 1 ∧ 1 ≤ w ∧ L.length = 289 ∧ VA ps l w 1 H L) (fun ⟨w, L⟩ => [(6, vI w)]) (fun ⟨w, L⟩ => [Cel b3 82 (L.map fun u => vI u)]) (fun ⟨w, L⟩ => W + 1 - w) (1, List.replicate 289 0) [_, _] [0, 1] [2] rfl rfl rfl ?_ ⟨rfl, trivial⟩ ?_
  · exact ⟨by omega, by omega, by simp, VA.init⟩
  · rintro ⟨w, L⟩ σ ⟨hw5, hw6, hLl0, hV1⟩
    refine CJ.norm [_, _, _] rfl ?_
    refine CJ.seq ?_
    refine CJ.seq ?_
    refine CJ.region ?_
    refine LJ.yd rfl (Yd.mvI rfl) ?_
    refine LJ.yd rfl (Yd.fieldAddr rfl) ?_
    refine LJ.yd rfl (Yd.loadC 0 rfl rfl rfl) ?_
    refine LJ.splitD rfl (Yd.leq rfl rfl) (fun h15 => ?_) (fun h15 => ?_)
    · refine LJ.nil ?_
      refine CJ.condT rfl ?_
      refine CJ.skip ?_
      refine CJ.seq ?_
      refine CJ.block ?_
      refine CJ.seq ?_
      refine CJ.region ?_
      refine LJ.yd rfl (Yd.asI rfl) ?_
      refine LJ.nil ?_
      refine CJ.block ?_
      refine CJ.loopF [1, 2, 4, 5, 6, 12, 13, 14, 15] (Nat × List Int) (fun ⟨h, L2⟩ => h ≤ H + 1 ∧ 1 ≤ h ∧ VA ps l w h H L2) (fun ⟨h, L2⟩ => [(7, vI h)]) (fun ⟨h, L2⟩ => [Cel b3 82 (L2.map fun u => vI u)]) (fun ⟨h, L2⟩ => H + 1 - h) (1, L) [_, _] [0, 1] [2] rfl rfl rfl ?_ ⟨rfl, trivial⟩ ?_
      · exact ⟨by omega, by omega, hV1⟩
      · rintro ⟨h, L2⟩ σ ⟨hh5, hh6, hV2⟩
        refine CJ.norm [_, _, _] rfl ?_
        obtain ⟨hLl, hL⟩ := id hV2
        refine CJ.seq ?_
        refine CJ.seq ?_
        refine CJ.region ?_
        refine LJ.yd rfl (Yd.mvI rfl) ?_
        refine LJ.yd rfl (Yd.fieldAddr rfl) ?_
        refine LJ.yd rfl (Yd.loadC 0 rfl rfl rfl) ?_
        refine LJ.splitD rfl (Yd.leq rfl rfl) (fun h21 => ?_) (fun h21 => ?_)
        · refine LJ.nil ?_
          refine CJ.condT rfl ?_
          refine CJ.skip ?_
          refine CJ.seq ?_
          refine CJ.block ?_
          refine CJ.seq ?_
          refine CJ.region ?_
          refine LJ.yd rfl (Yd.loadG (us := [_, _, _]) 0 rfl rfl rfl rfl) ?_
          refine LJ.yd rfl (Yd.mvS rfl) ?_
          refine LJ.yd rfl (Yd.mvI rfl) ?_
          refine LJ.yd rfl (Yd.mvI rfl) ?_
          refine LJ.call0 rfl (fun k hk dk => bestPane_ok hp.up (RdRow.up hl) hv4) ?_
          rintro _ _ ⟨po, pp, pt, rfl, rfl⟩
          refine LJ.yd rfl (Yd.mvU rfl) ?_
          refine LJ.yd rfl (Yd.extract rfl rfl) ?_
          refine LJ.yd rfl (Yd.extract rfl rfl) ?_
          refine LJ.alloc ([_, _, _, _, _] : List Value) rfl rfl (fun b4 => ?_)
          refine LJ.store (v := .agg #[_, _, _, _, _]) (us := [_, _, _, _, _]) 3 rfl rfl rfl rfl rfl rfl rfl rfl ?_
          refine LJ.yd rfl (Yd.asI rfl) ?_
          refine LJ.nil ?_
          refine CJ.seq ?_
          refine CJ.seq ?_
          refine CJ.region ?_
          refine LJ.yd rfl (Yd.asI rfl) ?_
          refine LJ.nil ?_
          refine CJ.block ?_
          refine CJ.loopK [1, 2, 4, 5, 6, 7, 8, 12, 13, 14, 15, 18, 19, 20, 21, 24, 25, 26, 27, 28, 29, 30, 31] (Nat × Int) (fun ⟨a, m⟩ => a ≤ w / 2 + 1 ∧ 1 ≤ a ∧ m = mxA (fun a => bvL ps l a h + bvL ps l (w - a) h) (lfL ps l w h) (a - 1) ∧ 0 ≤ m ∧ m ≤ 600000) (fun ⟨a, m⟩ => [(10, vI a), (9, vI m)]) (fun ⟨a, m⟩ => w / 2 + 1 - a) (1, lfV ps l w h l.length) ?_ ⟨rfl, rfl, trivial⟩ ?_
          · exact ⟨by omega, by omega, rfl, by have := hlf w h; omega, by have := hlf w h; omega⟩
          · rintro ⟨a, m⟩ σ ⟨ha5, ha6, hm3, hm30, hm31⟩
            refine CJ.seq ?_
            refine CJ.seq ?_
            refine CJ.region ?_
            refine LJ.yd rfl (Yd.mvI rfl) ?_
            refine LJ.yd rfl (Yd.mvI rfl) ?_
            refine LJ.yd rfl (Yd.quo rfl rfl (by omega) (by omega) (by unfold I64; omega)) ?_
            refine LJ.splitD rfl (Yd.leq rfl rfl) (fun h35 => ?_) (fun h35 => ?_)
            · refine LJ.nil ?_
              refine CJ.condT rfl ?_
              refine CJ.skip ?_
              refine CJ.seq ?_
              refine CJ.block ?_
              refine CJ.regionD [0, 1, 2, 3] [] (by kernel_rfl) rfl ?_
              refine DJ.norm [_, _, _, _] [] rfl rfl ?_
              refine DJ.yd 0 rfl (by kernel_rfl) (by kernel_rfl) (by kernel_rfl) rfl rfl (Yd.mvI rfl) ?_
              refine DJ.yd 1 rfl (by kernel_rfl) (by kernel_rfl) (by kernel_rfl) rfl rfl (Yd.mvI rfl) ?_
              refine DJ.yd 2 rfl (by kernel_rfl) (by kernel_rfl) (by kernel_rfl) rfl rfl (Yd.mvI rfl) ?_
              refine DJ.yd 3 rfl (by kernel_rfl) (by kernel_rfl) (by kernel_rfl) rfl rfl (Yd.idxArr rfl rfl (by omega) (by omega)) ?_
              refine DJ.yd 4 rfl (by kernel_rfl) (by kernel_rfl) (by kernel_rfl) rfl rfl (Yd.idxArr rfl rfl (by omega) (by omega)) ?_
              refine DJ.ldM (i := 5) (j := a * 17 + h) (e1 := fun u => vI u) rfl (by kernel_rfl) (by kernel_rfl) (by kernel_rfl) rfl rfl 2 rfl rfl (by omega) (by first | rfl | omega | (simp; done) | (simp; omega) | (simp [upN_len]; omega) | (simp [idxBy_len]; omega) | (simp [marks_len]; omega) | (simp [upN_len]; done) | (simp [idxBy_len]; done) | (simp [marks_len]; done) | (simp at *; omega)) (fun u43 hu43 => ?_)
              try simp only [Int.toNat_natCast] at hu43
              obtain rfl : u43 = bvL ps l a h := by have := hL a h (by omega) (by omega) (by omega) (by omega); rw [hu43] at this; exact Option.some.inj this
              have hb43 := bvL_b (ps := ps) hv1 (w := a) (h := h) (by omega) (by omega) (by omega) (by omega)
              refine DJ.yd 6 rfl (by kernel_rfl) (by kernel_rfl) (by kernel_rfl) rfl rfl (Yd.mvI rfl) ?_
              refine DJ.yd 7 rfl (by kernel_rfl) (by kernel_rfl) (by kernel_rfl) rfl rfl (Yd.mvI rfl) ?_
              refine DJ.yd 8 rfl (by kernel_rfl) (by kernel_rfl) (by kernel_rfl) rfl rfl (Yd.sub rfl rfl (by unfold I64; omega)) ?_
              refine DJ.yd 9 rfl (by kernel_rfl) (by kernel_rfl) (by kernel_rfl) rfl rfl (Yd.mvI rfl) ?_
              refine DJ.yd 10 rfl (by kernel_rfl) (by kernel_rfl) (by kernel_rfl) rfl rfl (Yd.idxArr rfl rfl (by omega) (by omega)) ?_
              refine DJ.yd 11 rfl (by kernel_rfl) (by kernel_rfl) (by kernel_rfl) rfl rfl (Yd.idxArr rfl rfl (by omega) (by omega)) ?_
              refine DJ.ldM (i := 12) (j := (w - a) * 17 + h) (e1 := fun u => vI u) rfl (by kernel_rfl) (by kernel_rfl) (by kernel_rfl) rfl rfl 2 rfl rfl (by omega) (by first | rfl | omega | (simp; done) | (simp; omega) | (simp [upN_len]; omega) | (simp [idxBy_len]; omega) | (simp [marks_len]; omega) | (simp [upN_len]; done) | (simp [idxBy_len]; done) | (simp [marks_len]; done) | (simp at *; omega)) (fun u50 hu50 => ?_)
              try simp only [Int.toNat_natCast] at hu50
              obtain rfl : u50 = bvL ps l (w - a) h := by have := hL (w - a) h (by omega) (by omega) (by omega) (by omega); rw [hu50] at this; exact Option.some.inj this
              have hb50 := bvL_b (ps := ps) hv1 (w := w - a) (h := h) (by omega) (by omega) (by omega) (by omega)
              refine DJ.yd 13 rfl (by kernel_rfl) (by kernel_rfl) (by kernel_rfl) rfl rfl (Yd.add rfl rfl (by unfold I64; omega)) ?_
              refine DJ.yd 14 rfl (by kernel_rfl) (by kernel_rfl) (by kernel_rfl) rfl rfl (Yd.max' rfl rfl) ?_
              refine DJ.yd 15 rfl (by kernel_rfl) (by kernel_rfl) (by kernel_rfl) rfl rfl (Yd.asI rfl) ?_
              refine DJ.done (by kernel_rfl) ?_
              refine CJ.region ?_
              refine LJ.yd rfl (Yd.mvI rfl) ?_
              refine LJ.yd rfl (Yd.add rfl rfl (by unfold I64; omega)) ?_
              refine LJ.yd rfl (Yd.asI rfl) ?_
              refine LJ.nil ?_
              refine ⟨(a + 1, max m (bvL ps l a h + bvL ps l (w - a) h)), ?_, ⟨rfl, rfl, rfl, rfl, rfl, rfl, rfl, rfl, rfl, rfl, rfl, rfl, rfl, rfl, rfl, rfl, rfl, rfl, rfl, rfl, rfl, rfl, rfl, trivial⟩, ⟨rfl, rfl, trivial⟩, Ent.refl _, ?_⟩
              · refine ⟨by omega, ?_⟩
                exact ⟨by omega, by rw [Nat.add_sub_cancel, mxA_s (n := a - 1) (by omega), ← hm3], by omega, by omega⟩
              · first | omega | (dsimp only; omega) | (simp only []; omega)
            · refine LJ.nil ?_
              refine CJ.condF rfl ?_
              refine CJ.exit ?_
              refine CJ.seq ?_
              refine CJ.seq ?_
              refine CJ.region ?_
              refine LJ.yd rfl (Yd.asI rfl) ?_
              refine LJ.nil ?_
              refine CJ.block ?_
              refine CJ.loopK [1, 2, 4, 5, 6, 7, 8, 10, 12, 13, 14, 15, 18, 19, 20, 21, 24, 25, 26, 27, 28, 29, 30, 31, 32, 33, 34, 35] (Nat × Int) (fun ⟨b, m2⟩ => b ≤ h / 2 + 1 ∧ 1 ≤ b ∧ m2 = mxA (fun b => bvL ps l w b + bvL ps l w (h - b)) (mxA (fun a => bvL ps l a h + bvL ps l (w - a) h) (lfL ps l w h) (w / 2)) (b - 1) ∧ 0 ≤ m2 ∧ m2 ≤ 600000) (fun ⟨b, m2⟩ => [(11, vI b), (9, vI m2)]) (fun ⟨b, m2⟩ => h / 2 + 1 - b) (1, m) ?_ ⟨rfl, rfl, trivial⟩ ?_
              · exact ⟨by omega, by omega, by rw [hm3, show a - 1 = w / 2 by omega]; rfl, by omega, by omega⟩
              · rintro ⟨b, m2⟩ σ ⟨hb5, hb6, hm4, hm40, hm41⟩
                refine CJ.seq ?_
                refine CJ.seq ?_
                refine CJ.region ?_
                refine LJ.yd rfl (Yd.mvI rfl) ?_
                refine LJ.yd rfl (Yd.mvI rfl) ?_
                refine LJ.yd rfl (Yd.quo rfl rfl (by omega) (by omega) (by unfold I64; omega)) ?_
                refine LJ.splitD rfl (Yd.leq rfl rfl) (fun h56 => ?_) (fun h56 => ?_)
                · refine LJ.nil ?_
                  refine CJ.condT rfl ?_
                  refine CJ.skip ?_
                  refine CJ.seq ?_
                  refine CJ.block ?_
                  refine CJ.regionD [0, 1, 2, 3] [] (by kernel_rfl) rfl ?_
                  refine DJ.norm [_, _, _, _] [] rfl rfl ?_
                  refine DJ.yd 0 rfl (by kernel_rfl) (by kernel_rfl) (by kernel_rfl) rfl rfl (Yd.mvI rfl) ?_
                  refine DJ.yd 1 rfl (by kernel_rfl) (by kernel_rfl) (by kernel_rfl) rfl rfl (Yd.mvI rfl) ?_
                  refine DJ.yd 2 rfl (by kernel_rfl) (by kernel_rfl) (by kernel_rfl) rfl rfl (Yd.mvI rfl) ?_
                  refine DJ.yd 3 rfl (by kernel_rfl) (by kernel_rfl) (by kernel_rfl) rfl rfl (Yd.idxArr rfl rfl (by omega) (by omega)) ?_
                  refine DJ.yd 4 rfl (by kernel_rfl) (by kernel_rfl) (by kernel_rfl) rfl rfl (Yd.idxArr rfl rfl (by omega) (by omega)) ?_
                  refine DJ.ldM (i := 5) (j := w * 17 + b) (e1 := fun u => vI u) rfl (by kernel_rfl) (by kernel_rfl) (by kernel_rfl) rfl rfl 2 rfl rfl (by omega) (by first | rfl | omega | (simp; done) | (simp; omega) | (simp [upN_len]; omega) | (simp [idxBy_len]; omega) | (simp [marks_len]; omega) | (simp [upN_len]; done) | (simp [idxBy_len]; done) | (simp [marks_len]; done) | (simp at *; omega)) (fun u64 hu64 => ?_)
                  try simp only [Int.toNat_natCast] at hu64
                  obtain rfl : u64 = bvL ps l w b := by have := hL w b (by omega) (by omega) (by omega) (by omega); rw [hu64] at this; exact Option.some.inj this
                  have hb64 := bvL_b (ps := ps) hv1 (w := w) (h := b) (by omega) (by omega) (by omega) (by omega)
                  refine DJ.yd 6 rfl (by kernel_rfl) (by kernel_rfl) (by kernel_rfl) rfl rfl (Yd.mvI rfl) ?_
                  refine DJ.yd 7 rfl (by kernel_rfl) (by kernel_rfl) (by kernel_rfl) rfl rfl (Yd.mvI rfl) ?_
                  refine DJ.yd 8 rfl (by kernel_rfl) (by kernel_rfl) (by kernel_rfl) rfl rfl (Yd.mvI rfl) ?_
                  refine DJ.yd 9 rfl (by kernel_rfl) (by kernel_rfl) (by kernel_rfl) rfl rfl (Yd.sub rfl rfl (by unfold I64; omega)) ?_
                  refine DJ.yd 10 rfl (by kernel_rfl) (by kernel_rfl) (by kernel_rfl) rfl rfl (Yd.idxArr rfl rfl (by omega) (by omega)) ?_
                  refine DJ.yd 11 rfl (by kernel_rfl) (by kernel_rfl) (by kernel_rfl) rfl rfl (Yd.idxArr rfl rfl (by omega) (by omega)) ?_
                  refine DJ.ldM (i := 12) (j := w * 17 + (h - b)) (e1 := fun u => vI u) rfl (by kernel_rfl) (by kernel_rfl) (by kernel_rfl) rfl rfl 2 rfl rfl (by omega) (by first | rfl | omega | (simp; done) | (simp; omega) | (simp [upN_len]; omega) | (simp [idxBy_len]; omega) | (simp [marks_len]; omega) | (simp [upN_len]; done) | (simp [idxBy_len]; done) | (simp [marks_len]; done) | (simp at *; omega)) (fun u71 hu71 => ?_)
                  try simp only [Int.toNat_natCast] at hu71
                  obtain rfl : u71 = bvL ps l w (h - b) := by have := hL w (h - b) (by omega) (by omega) (by omega) (by omega); rw [hu71] at this; exact Option.some.inj this
                  have hb71 := bvL_b (ps := ps) hv1 (w := w) (h := h - b) (by omega) (by omega) (by omega) (by omega)
                  refine DJ.yd 13 rfl (by kernel_rfl) (by kernel_rfl) (by kernel_rfl) rfl rfl (Yd.add rfl rfl (by unfold I64; omega)) ?_
                  refine DJ.yd 14 rfl (by kernel_rfl) (by kernel_rfl) (by kernel_rfl) rfl rfl (Yd.max' rfl rfl) ?_
                  refine DJ.yd 15 rfl (by kernel_rfl) (by kernel_rfl) (by kernel_rfl) rfl rfl (Yd.asI rfl) ?_
                  refine DJ.done (by kernel_rfl) ?_
                  refine CJ.region ?_
                  refine LJ.yd rfl (Yd.mvI rfl) ?_
                  refine LJ.yd rfl (Yd.add rfl rfl (by unfold I64; omega)) ?_
                  refine LJ.yd rfl (Yd.asI rfl) ?_
                  refine LJ.nil ?_
                  refine ⟨(b + 1, max m2 (bvL ps l w b + bvL ps l w (h - b))), ?_, ⟨rfl, rfl, rfl, rfl, rfl, rfl, rfl, rfl, rfl, rfl, rfl, rfl, rfl, rfl, rfl, rfl, rfl, rfl, rfl, rfl, rfl, rfl, rfl, rfl, rfl, rfl, rfl, rfl, trivial⟩, ⟨rfl, rfl, trivial⟩, Ent.refl _, ?_⟩
                  · refine ⟨by omega, ?_⟩
                    exact ⟨by omega, by rw [Nat.add_sub_cancel, mxA_s (n := b - 1) (by omega), ← hm4], by omega, by omega⟩
                  · first | omega | (dsimp only; omega) | (simp only []; omega)
                · refine LJ.nil ?_
                  refine CJ.condF rfl ?_
                  refine CJ.exit ?_
                  refine CJ.region ?_
                  refine LJ.yd rfl (Yd.mvI rfl) ?_
                  refine LJ.yd rfl (Yd.mvI rfl) ?_
                  refine LJ.yd rfl (Yd.mvI rfl) ?_
                  refine LJ.yd rfl (Yd.idxArr rfl rfl (by omega) (by omega)) ?_
                  refine LJ.yd rfl (Yd.idxArr rfl rfl (by omega) (by omega)) ?_
                  refine LJ.op rfl (OpR.stM (j := w * 17 + h) (e1 := fun u => vI u) 2 (fun _ => rfl) (fun _ => rfl) rfl rfl rfl (by omega) (by first | rfl | omega | (simp; done) | (simp; omega) | (simp [upN_len]; omega) | (simp [idxBy_len]; omega) | (simp [marks_len]; omega) | (simp [upN_len]; done) | (simp [idxBy_len]; done) | (simp [marks_len]; done) | (simp at *; omega))) ?_
                  rintro _ _ ⟨rfl, rfl⟩
                  refine LJ.norm [_, _, _, _] rfl ?_
                  refine LJ.nil ?_
                  refine CJ.region ?_
                  refine LJ.yd rfl (Yd.mvI rfl) ?_
                  refine LJ.yd rfl (Yd.add rfl rfl (by unfold I64; omega)) ?_
                  refine LJ.yd rfl (Yd.asI rfl) ?_
                  refine LJ.nil ?_
                  refine ⟨(h + 1, L2.set (w * 17 + h) m2), ?_, ⟨rfl, rfl, rfl, rfl, rfl, rfl, rfl, rfl, rfl, trivial⟩, ⟨rfl, trivial⟩, Ent.pick [0, 1, 2] [3] rfl, ?_⟩
                  · refine ⟨by omega, ?_⟩
                    exact ⟨by omega, hV2.set (by omega) (by rw [hm4, show b - 1 = h / 2 by omega]; exact (bv_eq (by omega) (by omega)).symm)⟩
                  · first | omega | (dsimp only; omega) | (simp only []; omega)
        · refine LJ.nil ?_
          refine CJ.condF rfl ?_
          refine CJ.exit ?_
          refine CJ.region ?_
          refine LJ.yd rfl (Yd.mvI rfl) ?_
          refine LJ.yd rfl (Yd.add rfl rfl (by unfold I64; omega)) ?_
          refine LJ.yd rfl (Yd.asI rfl) ?_
          refine LJ.nil ?_
          refine ⟨(w + 1, L2), ?_, ⟨rfl, rfl, rfl, rfl, trivial⟩, ⟨rfl, trivial⟩, Ent.refl _, ?_⟩
          · refine ⟨by omega, ?_⟩
            have eh : h = H + 1 := by omega
            subst eh
            exact ⟨by omega, hV2.1, hV2.row⟩
          · first | omega | (dsimp only; omega) | (simp only []; omega)
    · refine LJ.nil ?_
      refine CJ.condF rfl ?_
      refine CJ.exit ?_
      refine CJ.seq ?_
      refine CJ.region ?_
      refine LJ.yd rfl (Yd.lgM (e1 := fun u => vI u) 2 rfl rfl (by first | rfl | omega | (simp; done) | (simp; omega) | (simp [upN_len]; omega) | (simp [idxBy_len]; omega) | (simp [marks_len]; omega) | (simp [upN_len]; done) | (simp [idxBy_len]; done) | (simp [marks_len]; done) | (simp at *; omega))) ?_
      refine LJ.op rfl (OpR.stMW (e1 := fun u => vI u) 1 (fun _ => rfl) rfl rfl rfl (by first | rfl | omega | (simp; done) | (simp; omega) | (simp [upN_len]; omega) | (simp [idxBy_len]; omega) | (simp [marks_len]; omega) | (simp [upN_len]; done) | (simp [idxBy_len]; done) | (simp [marks_len]; done) | (simp at *; omega)) (by first | rfl | omega | (simp; done) | (simp; omega) | (simp [upN_len]; omega) | (simp [idxBy_len]; omega) | (simp [marks_len]; omega) | (simp [upN_len]; done) | (simp [idxBy_len]; done) | (simp [marks_len]; done) | (simp at *; omega))) ?_
      rintro _ _ ⟨rfl, rfl⟩
      refine LJ.norm [_, _, _] rfl ?_
      refine LJ.nil ?_
      refine CJ.ret ?_
      obtain rfl : w = W + 1 := by omega
      exact Fin.R [] (Res.one (ResV.cellM (e1 := fun u => vI u) 1 rfl rfl (by first | rfl | omega | (simp; done) | (simp; omega) | (simp [upN_len]; omega) | (simp [idxBy_len]; omega) | (simp [marks_len]; omega) | (simp [upN_len]; done) | (simp [idxBy_len]; done) | (simp [marks_len]; done) | (simp at *; omega)))) ⟨rfl, L, rfl, hV1⟩ (Ent.pick [] [0, 1, 2] rfl)
/-- the value of a work -/
def bestV (W H : Int) (ps : List Pane) (l : List Int) : Int := if vlV W H ps l = true then bvL ps l W.toNat H.toNat else -1
theorem BestValueI_ok {A : Amb} {W H : Int} {v vl : Value} {ps : List Pane} {l : List Int} (hp : RdPanes A.h v ps) (hl : RdL encI 1 A.h vl l) (hn : l.length ≤ 2000000) : Ctr Try.prog 29 #[.agg #[vI W, vI H, v], vl] A [] (Val (vI (bestV W H ps l))) := by
  have hp2 := hp
  obtain ⟨⟨sa, sc, rfl, hm, hrow⟩, hlen⟩ := hp2
  rw [List.length_map] at hm ⊢
  rw [List.length_map] at hp
  obtain ⟨la, lc, rfl, hlb, hl⟩ := hl.un
  refine Ctr.body (args := [_, _]) Try.func29 rfl Try.ntmps29 Try.results29 (by simp) ?_
  refine CJ.seq ?_
  refine CJ.region ?_
  refine LJ.boxG (vs := [_, _, _]) rfl rfl (fun b1 => ?_)
  refine LJ.yd rfl (Yd.asI rfl) ?_
  refine LJ.nil ?_
  refine CJ.seq ?_
  refine CJ.seq ?_
  refine CJ.region ?_
  refine LJ.yd rfl (Yd.loadG (us := [_, _, _]) 0 rfl rfl rfl rfl) ?_
  refine LJ.yd rfl (Yd.mvS rfl) ?_
  refine LJ.callB rfl (fun k hk dk => bestTold_ok hp.up (RdRow.up hl) hn) (fun h8 => ?_) (fun h8 => ?_)
  · refine LJ.yd rfl (Yd.not rfl) ?_
    refine LJ.nil ?_
    refine CJ.condF rfl ?_
    refine CJ.skip ?_
    refine CJ.seq ?_
    obtain ⟨hv1, hv2, hv3, hv4, hv5, hv6⟩ := vlV_iff.1 h8
    obtain ⟨hw1, hw2, hw3, hw4, _, _⟩ := workOk_iff.1 hv2
    refine CJ.region ?_
    refine LJ.yd rfl (Yd.loadG (us := [_, _, _]) 0 rfl rfl rfl rfl) ?_
    refine LJ.yd rfl (Yd.mvS rfl) ?_
    refine LJ.call0 rfl (fun k hk dk => valuesOf_ok hp.up (RdRow.up hl) h8) ?_
    rintro _ _ ⟨rfl, L, rfl, hVA⟩
    have hLl := hVA.1
    refine LJ.alloc ((List.replicate 289 (0 : Int)).map fun u => vI u) (by simp [Value.cells]) rfl (fun b2 => ?_)
    refine LJ.norm [_, _] rfl ?_
    refine LJ.op rfl (OpR.stMW (e1 := fun u => vI u) 1 (fun _ => rfl) rfl rfl rfl (by first | rfl | omega | (simp; done) | (simp; omega) | (simp [upN_len]; omega) | (simp [idxBy_len]; omega) | (simp [marks_len]; omega) | (simp [upN_len]; done) | (simp [idxBy_len]; done) | (simp [marks_len]; done) | (simp at *; omega)) (by first | rfl | omega | (simp; done) | (simp; omega) | (simp [upN_len]; omega) | (simp [idxBy_len]; omega) | (simp [marks_len]; omega) | (simp [upN_len]; done) | (simp [idxBy_len]; done) | (simp [marks_len]; done) | (simp at *; omega))) ?_
    rintro _ _ ⟨rfl, rfl⟩
    refine LJ.norm [_, _] rfl ?_
    refine LJ.nil ?_
    refine CJ.seq ?_
    refine CJ.regionD [0, 1] [] (by kernel_rfl) rfl ?_
    refine DJ.norm [_, _] [] rfl rfl ?_
    refine DJ.yd 0 rfl (by kernel_rfl) (by kernel_rfl) (by kernel_rfl) rfl rfl (Yd.fieldAddr rfl) ?_
    refine DJ.yd 1 rfl (by kernel_rfl) (by kernel_rfl) (by kernel_rfl) rfl rfl (Yd.loadC 0 rfl rfl rfl) ?_
    refine DJ.yd 2 rfl (by kernel_rfl) (by kernel_rfl) (by kernel_rfl) rfl rfl (Yd.fieldAddr rfl) ?_
    refine DJ.yd 3 rfl (by kernel_rfl) (by kernel_rfl) (by kernel_rfl) rfl rfl (Yd.loadC 0 rfl rfl rfl) ?_
    refine DJ.yd 4 rfl (by kernel_rfl) (by kernel_rfl) (by kernel_rfl) rfl rfl (Yd.idxArr rfl rfl (by omega) (by omega)) ?_
    refine DJ.yd 5 rfl (by kernel_rfl) (by kernel_rfl) (by kernel_rfl) rfl rfl (Yd.idxArr rfl rfl (by omega) (by omega)) ?_
    refine DJ.ldM (i := 6) (j := W.toNat * 17 + H.toNat) (e1 := fun u => vI u) rfl (by kernel_rfl) (by kernel_rfl) (by kernel_rfl) rfl rfl 1 rfl rfl (by omega) (by first | rfl | omega | (simp; done) | (simp; omega) | (simp [upN_len]; omega) | (simp [idxBy_len]; omega) | (simp [marks_len]; omega) | (simp [upN_len]; done) | (simp [idxBy_len]; done) | (simp [marks_len]; done) | (simp at *; omega)) (fun u19 hu19 => ?_)
    try simp only [Int.toNat_natCast] at hu19
    refine DJ.yd 7 rfl (by kernel_rfl) (by kernel_rfl) (by kernel_rfl) rfl rfl (Yd.asI rfl) ?_
    refine DJ.done (by kernel_rfl) ?_
    refine CJ.ret ?_
    refine Fin.V (Res.one (ResV.tmp (v := .int _ _) rfl)) ?_
    first
      | (rw [bestV, if_neg (by rw [h8]; simp)]; done)
      | (have := hVA.2 W.toNat H.toNat (by omega) (by omega) (by omega) (by omega)
         rw [hu19] at this
         rw [bestV, if_pos h8, Option.some.inj this])
  · refine LJ.yd rfl (Yd.not rfl) ?_
    refine LJ.nil ?_
    refine CJ.condT rfl ?_
    refine CJ.seq ?_
    refine CJ.region ?_
    refine LJ.yd rfl (Yd.asI rfl) ?_
    refine LJ.nil ?_
    refine CJ.ret ?_
    refine Fin.V (Res.one (ResV.tmp (v := .int _ _) rfl)) ?_
    first
      | (rw [bestV, if_neg (by rw [h8]; simp)]; done)
      | (have := hVA.2 W.toNat H.toNat (by omega) (by omega) (by omega) (by omega)
         rw [hu19] at this
         rw [bestV, if_pos h8, Option.some.inj this])
theorem LR.setR {α : Type} {E : TypeId} {a : Option Addr} {c j : Nat} {X : List (Rw α)} {u : Rw α} {l' : List α} {h : Hp} (hu : X[j]? = some u) (hl : l'.length = u.l.length) (r : LR encR E 1 a c X h) : LR encR E 1 a c (X.set j ⟨u.a, u.c, l'⟩) h := by
  have e : (X.set j ⟨u.a, u.c, l'⟩).map encR = X.map encR := by
    rw [List.map_set]
    exact set_same (by rw [List.getElem?_map, hu]; simp [encR, hl])
  show Row E 1 a c _ h
  rw [e]; exact r
/-- rows of all values of glass up to w, h -/
def VX (ps : List Pane) (l : List Int) (w h H : Nat) (X : List (Rw Int)) : Prop := ∀ j u, X[j]? = some u → u.l.length = H + 1 ∧ ∀ b, 1 ≤ j → 1 ≤ b → b ≤ H → (j < w ∨ (j = w ∧ b < h)) → u.l[b]? = some (bvL ps l j b)
theorem VX.row {ps : List Pane} {l : List Int} {w h H : Nat} {X : List (Rw Int)} (v : VX ps l w h H X) (hh : h = H + 1 ∨ w = 0) : VX ps l (w + 1) 1 H X := fun j u hu => ⟨(v j u hu).1, fun b h1 h2 h3 h4 => (v j u hu).2 b h1 h2 h3 (by omega)⟩
theorem VX.snoc {ps : List Pane} {l : List Int} {w H : Nat} {X : List (Rw Int)} {z : Rw Int} (v : VX ps l w 1 H X) (hw : X.length = w) (hz : z.l.length = H + 1) : VX ps l w 1 H (X ++ [z]) := fun j u hu => by
  rcases Nat.lt_or_ge j X.length with hj | hj
  · rw [List.getElem?_append_left hj] at hu
    exact v j u hu
  · rw [List.getElem?_append_right hj] at hu
    obtain ⟨hlt, rfl⟩ := List.getElem?_eq_some_iff.1 hu
    simp at hlt
    refine ⟨by simpa using hz, fun b h1 h2 h3 h4 => by omega⟩
theorem VX.set {ps : List Pane} {l : List Int} {w h H : Nat} {X : List (Rw Int)} {u : Rw Int} {m : Int} (v : VX ps l w h H X) (hu : X[w]? = some u) (hh : h ≤ H) (hm : m = bvL ps l w h) : VX ps l w (h + 1) H (X.set w ⟨u.a, u.c, u.l.set h m⟩) := fun j z hz => by
  by_cases e : j = w
  · subst e
    rw [List.getElem?_set_self (by have := (List.getElem?_eq_some_iff.1 hu).1; omega)] at hz
    cases hz
    obtain ⟨h1, h2⟩ := v j u hu
    refine ⟨by simp only [List.length_set]; exact h1, fun b q1 q2 q3 q4 => ?_⟩
    show (u.l.set h m)[b]? = _
    by_cases e2 : b = h
    · subst e2
      rw [List.getElem?_set_self (by omega), hm]
    · rw [List.getElem?_set_ne (by omega)]
      exact h2 b q1 q2 q3 (by omega)
  · rw [List.getElem?_set_ne (by omega)] at hz
    obtain ⟨h1, h2⟩ := v j z hz
    exact ⟨h1, fun b q1 q2 q3 q4 => h2 b q1 q2 q3 (by omega)⟩
theorem valueTable_ok {A : Amb} {W H : Int} {v vl : Value} {ps : List Pane} {l : List Int} (hp : RdPanes A.h v ps) (hl : RdL encI 1 A.h vl l) (hv : vlV W H ps l = true) : Ctr Try.prog 67 #[.agg #[vI W, vI H, v], vl] A [] (fun v gs => ∃ a c, ∃ X : List (Rw Int), v = .slice a X.length c ∧ gs = [LR encR 35 1 a c X, INN (rowOf encI 3 1) X] ∧ X.length = W.toNat + 1 ∧ VX ps l (W.toNat + 1) 1 H.toNat X) := by
  obtain ⟨hv1, hv2, hv3, hv4, hv5, hv6⟩ := vlV_iff.1 hv
  obtain ⟨hw1, hw2, hw3, hw4, _, _⟩ := workOk_iff.1 hv2
  obtain ⟨W, rfl⟩ := Int.eq_ofNat_of_zero_le (show 0 ≤ W by omega)
  obtain ⟨H, rfl⟩ := Int.eq_ofNat_of_zero_le (show 0 ≤ H by omega)
  have hlf := lf_b (ps := ps) hv1
  have hp2 := hp
  obtain ⟨⟨sa, sc, rfl, hm, hrow⟩, hlen⟩ := hp2
  obtain ⟨la, lc, rfl, hlb, hl⟩ := hl.un
  refine Ctr.body (args := [_, _]) Try.func67 rfl Try.ntmps67 Try.results67 (by simp) ?_
  refine CJ.seq ?_
  refine CJ.region ?_
  refine LJ.boxG (vs := [_, _, _]) rfl rfl (fun b1 => ?_)
  refine LJ.yd rfl (Yd.asS rfl) ?_
  refine LJ.nil ?_
  refine CJ.seq ?_
  refine CJ.region ?_
  refine LJ.op rfl (OpR.buildSlice (cs := []) rfl rfl) ?_
  rintro _ _ ⟨b2, rfl, rfl⟩
  refine LJ.yd rfl (Yd.asS rfl) ?_
  refine LJ.nil ?_
  refine CJ.seq ?_
  refine CJ.seq ?_
  refine CJ.region ?_
  refine LJ.yd rfl (Yd.asI rfl) ?_
  refine LJ.nil ?_
  refine CJ.block ?_
  refine CJ.imp1 1 rfl (fun _ h => Cel.lr (enc := (encR (α := Int))) (k := 1) (m := 0) [] rfl rfl rfl rfl h) ?_
  refine CJ.norm [_, _] rfl ?_
  refine CJ.ent (INN.ent (rowOf encI 3 1)) ?_
  refine CJ.norm [_, _, _] rfl ?_
  refine CJ.loopF [1, 2, 4] (Nat × List (Rw Int) × Option Addr × Nat × Nat) (fun ⟨w, X, XA, XN, XC⟩ => (XN = X.length) ∧ w ≤ W + 1 ∧ X.length = w ∧ VX ps l w 1 H X) (fun ⟨w, X, XA, XN, XC⟩ => [(6, vI w), (5, .slice XA XN XC)]) (fun ⟨w, X, XA, XN, XC⟩ => [LR encR 35 1 XA XC X, INN (rowOf encI 3 1) X]) (fun ⟨w, X, XA, XN, XC⟩ => W + 1 - w) (0, [], _, _, _) [_] [0] [1, 2] rfl rfl rfl ?_ ⟨rfl, rfl, trivial⟩ ?_
  · exact ⟨(by first | rfl | omega | (simp; done) | (simp; omega) | (simp [upN_len]; omega) | (simp [idxBy_len]; omega) | (simp [marks_len]; omega) | (simp [upN_len]; done) | (simp [idxBy_len]; done) | (simp [marks_len]; done) | (simp at *; omega)), ⟨by omega, rfl, fun j u h => by simp at h⟩⟩
  · rintro ⟨w, X, XA, XN, XC⟩ σ ⟨hlNX, ⟨hw6, hXl, hV1⟩⟩
    subst hlNX
    refine CJ.norm [_, _, _] rfl ?_
    refine CJ.seq ?_
    refine CJ.seq ?_
    refine CJ.region ?_
    refine LJ.yd rfl (Yd.mvI rfl) ?_
    refine LJ.yd rfl (Yd.fieldAddr rfl) ?_
    refine LJ.yd rfl (Yd.loadC 0 rfl rfl rfl) ?_
    refine LJ.splitD rfl (Yd.leq rfl rfl) (fun h16 => ?_) (fun h16 => ?_)
    · refine LJ.nil ?_
      refine CJ.condT rfl ?_
      refine CJ.skip ?_
      refine CJ.seq ?_
      refine CJ.block ?_
      refine CJ.seq ?_
      refine CJ.region ?_
      refine LJ.yd rfl (Yd.mvS rfl) ?_
      refine LJ.yd rfl (Yd.fieldAddr rfl) ?_
      refine LJ.yd rfl (Yd.loadC 0 rfl rfl rfl) ?_
      refine LJ.yd rfl (Yd.add rfl rfl (by unfold I64; omega)) ?_
      refine LJ.op rfl (OpR.mkL (enc := encI) (0 : Int) (m := H + 1) rfl rfl rfl (by first | rfl | omega | (simp; done) | (simp; omega) | (simp [upN_len]; omega) | (simp [idxBy_len]; omega) | (simp [marks_len]; omega) | (simp [upN_len]; done) | (simp [idxBy_len]; done) | (simp [marks_len]; done) | (simp at *; omega))) ?_
      rintro _ _ ⟨g23, Z23, hZ23, hZl23, rfl, rfl⟩
      refine LJ.norm [_, _, _, _] rfl ?_
      refine LJ.op rfl (OpR.buildSlice (cs := [_]) rfl rfl) ?_
      rintro _ _ ⟨b5, rfl, rfl⟩
      refine LJ.op rfl (OpR.apT (enc := encR) [(⟨some ⟨g23, 0, none⟩, H + 1, Z23⟩ : Rw Int)] 1 4 rfl rfl rfl (by first | rfl | omega | (simp; done) | (simp; omega) | (simp [upN_len]; omega) | (simp [idxBy_len]; omega) | (simp [marks_len]; omega) | (simp [upN_len]; done) | (simp [idxBy_len]; done) | (simp [marks_len]; done) | (simp at *; omega)) rfl rfl rfl rfl rfl (by first | rfl | omega | (simp; done) | (simp; omega) | (simp [upN_len]; omega) | (simp [idxBy_len]; omega) | (simp [marks_len]; omega) | (simp [upN_len]; done) | (simp [idxBy_len]; done) | (simp [marks_len]; done) | (simp at *; omega))) ?_
      rintro _ _ ⟨ra25, rc25, rfl, rfl⟩
      refine LJ.norm [_, _, _, _, _] rfl ?_
      refine LJ.ent (Ent.pickFold [0, 1, 4] [2, 3] [] rfl (fun _ s => INN.snoc (f := (rowOf encI 3 1)) (u := ⟨_, _, _⟩) s)) ?_
      refine LJ.norm [_, _, _, _] rfl ?_
      refine LJ.yd rfl (Yd.asS rfl) ?_
      refine LJ.nil ?_
      refine CJ.seq ?_
      refine CJ.region ?_
      refine LJ.yd rfl (Yd.asI rfl) ?_
      refine LJ.nil ?_
      refine CJ.block ?_
      refine CJ.loopF [1, 2, 4, 5, 6, 13, 14, 15, 16, 19, 20, 21, 22, 23, 24, 25] (Nat × List (Rw Int)) (fun ⟨h, X2⟩ => h ≤ H + 1 ∧ 1 ≤ h ∧ X2.length = w + 1 ∧ VX ps l w h H X2) (fun ⟨h, X2⟩ => [(7, vI h)]) (fun ⟨h, X2⟩ => [LR encR 35 1 ra25 rc25 X2, INN (rowOf encI 3 1) X2]) (fun ⟨h, X2⟩ => H + 1 - h) (1, X ++ [(⟨some ⟨g23, 0, none⟩, H + 1, Z23⟩ : Rw Int)]) [_, _] [0, 2] [1, 3] rfl rfl rfl ?_ ⟨rfl, trivial⟩ ?_
      · exact ⟨by omega, by omega, by simp [hXl], hV1.snoc hXl hZl23⟩
      · rintro ⟨h, X2⟩ σ ⟨hh6, hh5, hX2l, hV2⟩
        refine CJ.norm [_, _, _, _] rfl ?_
        refine CJ.seq ?_
        refine CJ.seq ?_
        refine CJ.region ?_
        refine LJ.yd rfl (Yd.mvI rfl) ?_
        refine LJ.yd rfl (Yd.fieldAddr rfl) ?_
        refine LJ.yd rfl (Yd.loadC 0 rfl rfl rfl) ?_
        refine LJ.splitD rfl (Yd.leq rfl rfl) (fun h29 => ?_) (fun h29 => ?_)
        · refine LJ.yd rfl (Yd.mvB rfl) ?_
          refine LJ.gT rfl ?_
          refine LJ.yd rfl (Yd.mvI rfl) ?_
          refine LJ.gT rfl ?_
          refine LJ.splitD rfl (Yd.gtr rfl rfl) (fun h32 => ?_) (fun h32 => ?_)
          · refine LJ.yd rfl (Yd.pickTB rfl rfl) ?_
            refine LJ.nil ?_
            refine CJ.condT rfl ?_
            refine CJ.skip ?_
            refine CJ.seq ?_
            refine CJ.block ?_
            refine CJ.seq ?_
            refine CJ.region ?_
            refine LJ.yd rfl (Yd.loadG (us := [_, _, _]) 0 rfl rfl rfl rfl) ?_
            refine LJ.yd rfl (Yd.mvS rfl) ?_
            refine LJ.yd rfl (Yd.mvI rfl) ?_
            refine LJ.yd rfl (Yd.mvI rfl) ?_
            refine LJ.call0 rfl (fun k hk dk => leafValue_ok hp.up (RdRow.up hl) hv4) ?_
            rintro _ _ ⟨po, pp, pt, rfl, rfl⟩
            refine LJ.yd rfl (Yd.mvU rfl) ?_
            refine LJ.yd rfl (Yd.extract rfl rfl) ?_
            refine LJ.yd rfl (Yd.extract rfl rfl) ?_
            refine LJ.alloc ([_, _, _, _, _] : List Value) rfl rfl (fun b6 => ?_)
            refine LJ.store (v := .agg #[_, _, _, _, _]) (us := [_, _, _, _, _]) 4 rfl rfl rfl rfl rfl rfl rfl rfl ?_
            refine LJ.yd rfl (Yd.asI rfl) ?_
            refine LJ.nil ?_
            refine CJ.seq ?_
            refine CJ.seq ?_
            refine CJ.region ?_
            refine LJ.yd rfl (Yd.asI rfl) ?_
            refine LJ.nil ?_
            refine CJ.block ?_
            refine CJ.loopK [1, 2, 4, 5, 6, 7, 8, 13, 14, 15, 16, 19, 20, 21, 22, 23, 24, 25, 26, 27, 28, 29, 30, 31, 32, 33, 36, 37, 38, 39, 40, 41, 42, 43] (Nat × Int) (fun ⟨a, m⟩ => a ≤ w / 2 + 1 ∧ 1 ≤ a ∧ m = mxA (fun a => bvL ps l a h + bvL ps l (w - a) h) (lfL ps l w h) (a - 1) ∧ 0 ≤ m ∧ m ≤ 600000) (fun ⟨a, m⟩ => [(10, vI a), (9, vI m)]) (fun ⟨a, m⟩ => w / 2 + 1 - a) (1, lfV ps l w h l.length) ?_ ⟨rfl, rfl, trivial⟩ ?_
            · exact ⟨by omega, by omega, rfl, by have := hlf w h; omega, by have := hlf w h; omega⟩
            · rintro ⟨a, m⟩ σ ⟨ha5, ha6, hm3, hm30, hm31⟩
              refine CJ.seq ?_
              refine CJ.seq ?_
              refine CJ.region ?_
              refine LJ.yd rfl (Yd.mvI rfl) ?_
              refine LJ.yd rfl (Yd.mvI rfl) ?_
              refine LJ.yd rfl (Yd.quo rfl rfl (by omega) (by omega) (by unfold I64; omega)) ?_
              refine LJ.splitD rfl (Yd.leq rfl rfl) (fun h47 => ?_) (fun h47 => ?_)
              · refine LJ.nil ?_
                refine CJ.condT rfl ?_
                refine CJ.skip ?_
                refine CJ.seq ?_
                refine CJ.block ?_
                refine CJ.regionD [0, 1, 2, 3, 4] [] (by kernel_rfl) rfl ?_
                refine DJ.norm [_, _, _, _, _] [] rfl rfl ?_
                refine DJ.yd 0 rfl (by kernel_rfl) (by kernel_rfl) (by kernel_rfl) rfl rfl (Yd.mvI rfl) ?_
                refine DJ.yd 1 rfl (by kernel_rfl) (by kernel_rfl) (by kernel_rfl) rfl rfl (Yd.mvS rfl) ?_
                refine DJ.yd 2 rfl (by kernel_rfl) (by kernel_rfl) (by kernel_rfl) rfl rfl (Yd.mvI rfl) ?_
                refine DJ.idxF 2 rfl 3 rfl (by kernel_rfl) (by kernel_rfl) (by kernel_rfl) rfl rfl rfl rfl (by omega) (by first | rfl | omega | (simp; done) | (simp; omega) | (simp [upN_len]; omega) | (simp [idxBy_len]; omega) | (simp [marks_len]; omega) | (simp [upN_len]; done) | (simp [idxBy_len]; done) | (simp [marks_len]; done) | (simp at *; omega)) (by first | rfl | omega | (simp; done) | (simp; omega) | (simp [upN_len]; omega) | (simp [idxBy_len]; omega) | (simp [marks_len]; omega) | (simp [upN_len]; done) | (simp [idxBy_len]; done) | (simp [marks_len]; done) | (simp at *; omega)) (fun ib53 ia53 => ?_)
                refine DJ.ldF 4 rfl (by kernel_rfl) (by kernel_rfl) (by kernel_rfl) rfl rfl 2 0 (fun u => .slice u.a u.l.length u.c) (fun _ => rfl) rfl ia53 rfl rfl (by first | rfl | omega | (simp; done) | (simp; omega) | (simp [upN_len]; omega) | (simp [idxBy_len]; omega) | (simp [marks_len]; omega) | (simp [upN_len]; done) | (simp [idxBy_len]; done) | (simp [marks_len]; done) | (simp at *; omega)) (fun u54 hu54 => ?_)
                try simp only [Int.toNat_natCast] at hu54
                obtain ⟨hl54, hv54⟩ := hV2 _ _ hu54
                refine DJ.yd 5 rfl (by kernel_rfl) (by kernel_rfl) (by kernel_rfl) rfl rfl (Yd.mvI rfl) ?_
                refine DJ.idxN (enc := encI) 3 rfl hu54 6 rfl (by kernel_rfl) (by kernel_rfl) (by kernel_rfl) rfl rfl rfl rfl (by omega) (by first | rfl | omega | (simp; done) | (simp; omega) | (simp [upN_len]; omega) | (simp [idxBy_len]; omega) | (simp [marks_len]; omega) | (simp [upN_len]; done) | (simp [idxBy_len]; done) | (simp [marks_len]; done) | (simp at *; omega)) (fun ib56 ia56 => ?_)
                refine DJ.ldN (i := 7) (enc := encI) rfl (by kernel_rfl) (by kernel_rfl) (by kernel_rfl) rfl rfl 3 0 (fun u => vI u) (fun _ => rfl) rfl hu54 ia56 rfl rfl (by first | rfl | omega | (simp; done) | (simp; omega) | (simp [upN_len]; omega) | (simp [idxBy_len]; omega) | (simp [marks_len]; omega) | (simp [upN_len]; done) | (simp [idxBy_len]; done) | (simp [marks_len]; done) | (simp at *; omega)) (fun u57 hu57 => ?_)
                try simp only [Int.toNat_natCast] at hu57
                obtain rfl : u57 = bvL ps l a h := by have := hv54 h (by omega) (by omega) (by omega) (by omega); rw [hu57] at this; exact Option.some.inj this
                have hb57 := bvL_b (ps := ps) hv1 (w := a) (h := h) (by omega) (by omega) (by omega) (by omega)
                refine DJ.yd 8 rfl (by kernel_rfl) (by kernel_rfl) (by kernel_rfl) rfl rfl (Yd.mvS rfl) ?_
                refine DJ.yd 9 rfl (by kernel_rfl) (by kernel_rfl) (by kernel_rfl) rfl rfl (Yd.mvI rfl) ?_
                refine DJ.yd 10 rfl (by kernel_rfl) (by kernel_rfl) (by kernel_rfl) rfl rfl (Yd.mvI rfl) ?_
                refine DJ.yd 11 rfl (by kernel_rfl) (by kernel_rfl) (by kernel_rfl) rfl rfl (Yd.sub rfl rfl (by unfold I64; omega)) ?_
                refine DJ.idxF 2 rfl 12 rfl (by kernel_rfl) (by kernel_rfl) (by kernel_rfl) rfl rfl rfl rfl (by omega) (by first | rfl | omega | (simp; done) | (simp; omega) | (simp [upN_len]; omega) | (simp [idxBy_len]; omega) | (simp [marks_len]; omega) | (simp [upN_len]; done) | (simp [idxBy_len]; done) | (simp [marks_len]; done) | (simp at *; omega)) (by first | rfl | omega | (simp; done) | (simp; omega) | (simp [upN_len]; omega) | (simp [idxBy_len]; omega) | (simp [marks_len]; omega) | (simp [upN_len]; done) | (simp [idxBy_len]; done) | (simp [marks_len]; done) | (simp at *; omega)) (fun ib62 ia62 => ?_)
                refine DJ.ldF 13 rfl (by kernel_rfl) (by kernel_rfl) (by kernel_rfl) rfl rfl 2 0 (fun u => .slice u.a u.l.length u.c) (fun _ => rfl) rfl ia62 rfl rfl (by first | rfl | omega | (simp; done) | (simp; omega) | (simp [upN_len]; omega) | (simp [idxBy_len]; omega) | (simp [marks_len]; omega) | (simp [upN_len]; done) | (simp [idxBy_len]; done) | (simp [marks_len]; done) | (simp at *; omega)) (fun u63 hu63 => ?_)
                try simp only [Int.toNat_natCast] at hu63
                rw [show ((w : Int) - (a : Int)).toNat = w - a by omega] at hu63
                obtain ⟨hl63, hv63⟩ := hV2 _ _ hu63
                refine DJ.yd 14 rfl (by kernel_rfl) (by kernel_rfl) (by kernel_rfl) rfl rfl (Yd.mvI rfl) ?_
                refine DJ.idxN (enc := encI) 3 rfl hu63 15 rfl (by kernel_rfl) (by kernel_rfl) (by kernel_rfl) rfl rfl rfl rfl (by omega) (by first | rfl | omega | (simp; done) | (simp; omega) | (simp [upN_len]; omega) | (simp [idxBy_len]; omega) | (simp [marks_len]; omega) | (simp [upN_len]; done) | (simp [idxBy_len]; done) | (simp [marks_len]; done) | (simp at *; omega)) (fun ib65 ia65 => ?_)
                refine DJ.ldN (i := 16) (enc := encI) rfl (by kernel_rfl) (by kernel_rfl) (by kernel_rfl) rfl rfl 3 0 (fun u => vI u) (fun _ => rfl) rfl hu63 ia65 rfl rfl (by first | rfl | omega | (simp; done) | (simp; omega) | (simp [upN_len]; omega) | (simp [idxBy_len]; omega) | (simp [marks_len]; omega) | (simp [upN_len]; done) | (simp [idxBy_len]; done) | (simp [marks_len]; done) | (simp at *; omega)) (fun u66 hu66 => ?_)
                try simp only [Int.toNat_natCast] at hu66
                obtain rfl : u66 = bvL ps l (w - a) h := by have := hv63 h (by omega) (by omega) (by omega) (by omega); rw [hu66] at this; exact Option.some.inj this
                have hb66 := bvL_b (ps := ps) hv1 (w := w - a) (h := h) (by omega) (by omega) (by omega) (by omega)
                refine DJ.yd 17 rfl (by kernel_rfl) (by kernel_rfl) (by kernel_rfl) rfl rfl (Yd.add rfl rfl (by unfold I64; omega)) ?_
                refine DJ.yd 18 rfl (by kernel_rfl) (by kernel_rfl) (by kernel_rfl) rfl rfl (Yd.max' rfl rfl) ?_
                refine DJ.yd 19 rfl (by kernel_rfl) (by kernel_rfl) (by kernel_rfl) rfl rfl (Yd.asI rfl) ?_
                refine DJ.done (by kernel_rfl) ?_
                refine CJ.region ?_
                refine LJ.yd rfl (Yd.mvI rfl) ?_
                refine LJ.yd rfl (Yd.add rfl rfl (by unfold I64; omega)) ?_
                refine LJ.yd rfl (Yd.asI rfl) ?_
                refine LJ.nil ?_
                refine ⟨(a + 1, max m (bvL ps l a h + bvL ps l (w - a) h)), ?_, ⟨rfl, rfl, rfl, rfl, rfl, rfl, rfl, rfl, rfl, rfl, rfl, rfl, rfl, rfl, rfl, rfl, rfl, rfl, rfl, rfl, rfl, rfl, rfl, rfl, rfl, rfl, rfl, rfl, rfl, rfl, rfl, rfl, rfl, rfl, trivial⟩, ⟨rfl, rfl, trivial⟩, Ent.refl _, ?_⟩
                · refine ⟨by omega, ?_⟩
                  exact ⟨by omega, by rw [Nat.add_sub_cancel, mxA_s (n := a - 1) (by omega), ← hm3], by omega, by omega⟩
                · first | omega | (dsimp only; omega) | (simp only []; omega)
              · refine LJ.nil ?_
                refine CJ.condF rfl ?_
                refine CJ.exit ?_
                refine CJ.seq ?_
                refine CJ.seq ?_
                refine CJ.region ?_
                refine LJ.yd rfl (Yd.asI rfl) ?_
                refine LJ.nil ?_
                refine CJ.block ?_
                refine CJ.loopK [1, 2, 4, 5, 6, 7, 8, 10, 13, 14, 15, 16, 19, 20, 21, 22, 23, 24, 25, 26, 27, 28, 29, 30, 31, 32, 33, 36, 37, 38, 39, 40, 41, 42, 43, 44, 45, 46, 47] (Nat × Int) (fun ⟨b, m2⟩ => b ≤ h / 2 + 1 ∧ 1 ≤ b ∧ m2 = mxA (fun b => bvL ps l w b + bvL ps l w (h - b)) (mxA (fun a => bvL ps l a h + bvL ps l (w - a) h) (lfL ps l w h) (w / 2)) (b - 1) ∧ 0 ≤ m2 ∧ m2 ≤ 600000) (fun ⟨b, m2⟩ => [(11, vI b), (9, vI m2)]) (fun ⟨b, m2⟩ => h / 2 + 1 - b) (1, m) ?_ ⟨rfl, rfl, trivial⟩ ?_
                · exact ⟨by omega, by omega, by rw [hm3, show a - 1 = w / 2 by omega]; rfl, by omega, by omega⟩
                · rintro ⟨b, m2⟩ σ ⟨hb5, hb6, hm4, hm40, hm41⟩
                  refine CJ.seq ?_
                  refine CJ.seq ?_
                  refine CJ.region ?_
                  refine LJ.yd rfl (Yd.mvI rfl) ?_
                  refine LJ.yd rfl (Yd.mvI rfl) ?_
                  refine LJ.yd rfl (Yd.quo rfl rfl (by omega) (by omega) (by unfold I64; omega)) ?_
                  refine LJ.splitD rfl (Yd.leq rfl rfl) (fun h72 => ?_) (fun h72 => ?_)
                  · refine LJ.nil ?_
                    refine CJ.condT rfl ?_
                    refine CJ.skip ?_
                    refine CJ.seq ?_
                    refine CJ.block ?_
                    refine CJ.regionD [0, 1, 2, 3, 4] [] (by kernel_rfl) rfl ?_
                    refine DJ.norm [_, _, _, _, _] [] rfl rfl ?_
                    refine DJ.yd 0 rfl (by kernel_rfl) (by kernel_rfl) (by kernel_rfl) rfl rfl (Yd.mvI rfl) ?_
                    refine DJ.yd 1 rfl (by kernel_rfl) (by kernel_rfl) (by kernel_rfl) rfl rfl (Yd.mvS rfl) ?_
                    refine DJ.yd 2 rfl (by kernel_rfl) (by kernel_rfl) (by kernel_rfl) rfl rfl (Yd.mvI rfl) ?_
                    refine DJ.idxF 2 rfl 3 rfl (by kernel_rfl) (by kernel_rfl) (by kernel_rfl) rfl rfl rfl rfl (by omega) (by first | rfl | omega | (simp; done) | (simp; omega) | (simp [upN_len]; omega) | (simp [idxBy_len]; omega) | (simp [marks_len]; omega) | (simp [upN_len]; done) | (simp [idxBy_len]; done) | (simp [marks_len]; done) | (simp at *; omega)) (by first | rfl | omega | (simp; done) | (simp; omega) | (simp [upN_len]; omega) | (simp [idxBy_len]; omega) | (simp [marks_len]; omega) | (simp [upN_len]; done) | (simp [idxBy_len]; done) | (simp [marks_len]; done) | (simp at *; omega)) (fun ib78 ia78 => ?_)
                    refine DJ.ldF 4 rfl (by kernel_rfl) (by kernel_rfl) (by kernel_rfl) rfl rfl 2 0 (fun u => .slice u.a u.l.length u.c) (fun _ => rfl) rfl ia78 rfl rfl (by first | rfl | omega | (simp; done) | (simp; omega) | (simp [upN_len]; omega) | (simp [idxBy_len]; omega) | (simp [marks_len]; omega) | (simp [upN_len]; done) | (simp [idxBy_len]; done) | (simp [marks_len]; done) | (simp at *; omega)) (fun u79 hu79 => ?_)
                    try simp only [Int.toNat_natCast] at hu79
                    obtain ⟨hl79, hv79⟩ := hV2 _ _ hu79
                    refine DJ.yd 5 rfl (by kernel_rfl) (by kernel_rfl) (by kernel_rfl) rfl rfl (Yd.mvI rfl) ?_
                    refine DJ.idxN (enc := encI) 3 rfl hu79 6 rfl (by kernel_rfl) (by kernel_rfl) (by kernel_rfl) rfl rfl rfl rfl (by omega) (by first | rfl | omega | (simp; done) | (simp; omega) | (simp [upN_len]; omega) | (simp [idxBy_len]; omega) | (simp [marks_len]; omega) | (simp [upN_len]; done) | (simp [idxBy_len]; done) | (simp [marks_len]; done) | (simp at *; omega)) (fun ib81 ia81 => ?_)
                    refine DJ.ldN (i := 7) (enc := encI) rfl (by kernel_rfl) (by kernel_rfl) (by kernel_rfl) rfl rfl 3 0 (fun u => vI u) (fun _ => rfl) rfl hu79 ia81 rfl rfl (by first | rfl | omega | (simp; done) | (simp; omega) | (simp [upN_len]; omega) | (simp [idxBy_len]; omega) | (simp [marks_len]; omega) | (simp [upN_len]; done) | (simp [idxBy_len]; done) | (simp [marks_len]; done) | (simp at *; omega)) (fun u82 hu82 => ?_)
                    try simp only [Int.toNat_natCast] at hu82
                    obtain rfl : u82 = bvL ps l w b := by have := hv79 b (by omega) (by omega) (by omega) (by omega); rw [hu82] at this; exact Option.some.inj this
                    have hb82 := bvL_b (ps := ps) hv1 (w := w) (h := b) (by omega) (by omega) (by omega) (by omega)
                    refine DJ.yd 8 rfl (by kernel_rfl) (by kernel_rfl) (by kernel_rfl) rfl rfl (Yd.mvS rfl) ?_
                    refine DJ.yd 9 rfl (by kernel_rfl) (by kernel_rfl) (by kernel_rfl) rfl rfl (Yd.mvI rfl) ?_
                    refine DJ.idxF 2 rfl 10 rfl (by kernel_rfl) (by kernel_rfl) (by kernel_rfl) rfl rfl rfl rfl (by omega) (by first | rfl | omega | (simp; done) | (simp; omega) | (simp [upN_len]; omega) | (simp [idxBy_len]; omega) | (simp [marks_len]; omega) | (simp [upN_len]; done) | (simp [idxBy_len]; done) | (simp [marks_len]; done) | (simp at *; omega)) (by first | rfl | omega | (simp; done) | (simp; omega) | (simp [upN_len]; omega) | (simp [idxBy_len]; omega) | (simp [marks_len]; omega) | (simp [upN_len]; done) | (simp [idxBy_len]; done) | (simp [marks_len]; done) | (simp at *; omega)) (fun ib85 ia85 => ?_)
                    refine DJ.ldF 11 rfl (by kernel_rfl) (by kernel_rfl) (by kernel_rfl) rfl rfl 2 0 (fun u => .slice u.a u.l.length u.c) (fun _ => rfl) rfl ia85 rfl rfl (by first | rfl | omega | (simp; done) | (simp; omega) | (simp [upN_len]; omega) | (simp [idxBy_len]; omega) | (simp [marks_len]; omega) | (simp [upN_len]; done) | (simp [idxBy_len]; done) | (simp [marks_len]; done) | (simp at *; omega)) (fun u86 hu86 => ?_)
                    try simp only [Int.toNat_natCast] at hu86
                    obtain ⟨hl86, hv86⟩ := hV2 _ _ hu86
                    refine DJ.yd 12 rfl (by kernel_rfl) (by kernel_rfl) (by kernel_rfl) rfl rfl (Yd.mvI rfl) ?_
                    refine DJ.yd 13 rfl (by kernel_rfl) (by kernel_rfl) (by kernel_rfl) rfl rfl (Yd.mvI rfl) ?_
                    refine DJ.yd 14 rfl (by kernel_rfl) (by kernel_rfl) (by kernel_rfl) rfl rfl (Yd.sub rfl rfl (by unfold I64; omega)) ?_
                    refine DJ.idxN (enc := encI) 3 rfl hu86 15 rfl (by kernel_rfl) (by kernel_rfl) (by kernel_rfl) rfl rfl rfl rfl (by omega) (by first | rfl | omega | (simp; done) | (simp; omega) | (simp [upN_len]; omega) | (simp [idxBy_len]; omega) | (simp [marks_len]; omega) | (simp [upN_len]; done) | (simp [idxBy_len]; done) | (simp [marks_len]; done) | (simp at *; omega)) (fun ib90 ia90 => ?_)
                    refine DJ.ldN (i := 16) (enc := encI) (j := h - b) rfl (by kernel_rfl) (by kernel_rfl) (by kernel_rfl) rfl rfl 3 0 (fun u => vI u) (fun _ => rfl) rfl hu86 ia90 rfl (by omega) (by first | rfl | omega | (simp; done) | (simp; omega) | (simp [upN_len]; omega) | (simp [idxBy_len]; omega) | (simp [marks_len]; omega) | (simp [upN_len]; done) | (simp [idxBy_len]; done) | (simp [marks_len]; done) | (simp at *; omega)) (fun u91 hu91 => ?_)
                    try simp only [Int.toNat_natCast] at hu91
                    obtain rfl : u91 = bvL ps l w (h - b) := by have := hv86 (h - b) (by omega) (by omega) (by omega) (by omega); rw [hu91] at this; exact Option.some.inj this
                    have hb91 := bvL_b (ps := ps) hv1 (w := w) (h := h - b) (by omega) (by omega) (by omega) (by omega)
                    refine DJ.yd 17 rfl (by kernel_rfl) (by kernel_rfl) (by kernel_rfl) rfl rfl (Yd.add rfl rfl (by unfold I64; omega)) ?_
                    refine DJ.yd 18 rfl (by kernel_rfl) (by kernel_rfl) (by kernel_rfl) rfl rfl (Yd.max' rfl rfl) ?_
                    refine DJ.yd 19 rfl (by kernel_rfl) (by kernel_rfl) (by kernel_rfl) rfl rfl (Yd.asI rfl) ?_
                    refine DJ.done (by kernel_rfl) ?_
                    refine CJ.region ?_
                    refine LJ.yd rfl (Yd.mvI rfl) ?_
                    refine LJ.yd rfl (Yd.add rfl rfl (by unfold I64; omega)) ?_
                    refine LJ.yd rfl (Yd.asI rfl) ?_
                    refine LJ.nil ?_
                    refine ⟨(b + 1, max m2 (bvL ps l w b + bvL ps l w (h - b))), ?_, ⟨rfl, rfl, rfl, rfl, rfl, rfl, rfl, rfl, rfl, rfl, rfl, rfl, rfl, rfl, rfl, rfl, rfl, rfl, rfl, rfl, rfl, rfl, rfl, rfl, rfl, rfl, rfl, rfl, rfl, rfl, rfl, rfl, rfl, rfl, rfl, rfl, rfl, rfl, rfl, trivial⟩, ⟨rfl, rfl, trivial⟩, Ent.refl _, ?_⟩
                    · refine ⟨by omega, ?_⟩
                      exact ⟨by omega, by rw [Nat.add_sub_cancel, mxA_s (n := b - 1) (by omega), ← hm4], by omega, by omega⟩
                    · first | omega | (dsimp only; omega) | (simp only []; omega)
                  · refine LJ.nil ?_
                    refine CJ.condF rfl ?_
                    refine CJ.exit ?_
                    refine CJ.region ?_
                    refine LJ.yd rfl (Yd.mvS rfl) ?_
                    refine LJ.yd rfl (Yd.mvI rfl) ?_
                    refine LJ.idxR 2 rfl rfl rfl rfl (by omega) (by first | rfl | omega | (simp; done) | (simp; omega) | (simp [upN_len]; omega) | (simp [idxBy_len]; omega) | (simp [marks_len]; omega) | (simp [upN_len]; done) | (simp [idxBy_len]; done) | (simp [marks_len]; done) | (simp at *; omega)) (by first | rfl | omega | (simp; done) | (simp; omega) | (simp [upN_len]; omega) | (simp [idxBy_len]; omega) | (simp [marks_len]; omega) | (simp [upN_len]; done) | (simp [idxBy_len]; done) | (simp [marks_len]; done) | (simp at *; omega)) (fun ib96 ia96 => ?_)
                    refine LJ.ldR 2 0 (fun u => .slice u.a u.l.length u.c) (fun _ => rfl) rfl ia96 rfl rfl rfl (by first | rfl | omega | (simp; done) | (simp; omega) | (simp [upN_len]; omega) | (simp [idxBy_len]; omega) | (simp [marks_len]; omega) | (simp [upN_len]; done) | (simp [idxBy_len]; done) | (simp [marks_len]; done) | (simp at *; omega)) (fun u97 hu97 => ?_)
                    try simp only [Int.toNat_natCast] at hu97
                    refine LJ.ent (Ent.pickSts [0, 1, 2, 4] [3] rfl (fun _ s => INN.open hu97 s)) ?_
                    refine LJ.norm [_, _, _, _, _, _] rfl ?_
                    have hl97 := (hV2 _ _ hu97).1
                    refine LJ.yd rfl (Yd.mvI rfl) ?_
                    refine LJ.yd rfl (Yd.mvI rfl) ?_
                    refine LJ.idxR 4 rfl rfl rfl rfl (by omega) (by first | rfl | omega | (simp; done) | (simp; omega) | (simp [upN_len]; omega) | (simp [idxBy_len]; omega) | (simp [marks_len]; omega) | (simp [upN_len]; done) | (simp [idxBy_len]; done) | (simp [marks_len]; done) | (simp at *; omega)) (by first | rfl | omega | (simp; done) | (simp; omega) | (simp [upN_len]; omega) | (simp [idxBy_len]; omega) | (simp [marks_len]; omega) | (simp [upN_len]; done) | (simp [idxBy_len]; done) | (simp [marks_len]; done) | (simp at *; omega)) (fun ib100 ia100 => ?_)
                    refine LJ.op rfl (OpR.st1 (enc := encI) (e1 := fun u => vI u) 4 (fun _ => rfl) (fun _ => rfl) (fun _ => rfl) rfl ia100 rfl rfl rfl (by first | rfl | omega | (simp; done) | (simp; omega) | (simp [upN_len]; omega) | (simp [idxBy_len]; omega) | (simp [marks_len]; omega) | (simp [upN_len]; done) | (simp [idxBy_len]; done) | (simp [marks_len]; done) | (simp at *; omega))) ?_
                    rintro _ _ ⟨rfl, rfl⟩
                    refine LJ.norm [_, _, _, _, _, _] rfl ?_
                    refine LJ.nil ?_
                    refine CJ.ent (Ent.pickFold [0, 1, 2, 3] [4, 5] [] rfl (fun _ s => INN.close (f := rowOf encI 3 1) (xs := X2) (j := w) (v := (⟨u97.a, u97.c, u97.l.set h m2⟩ : Rw Int)) (by omega) s)) ?_
                    refine CJ.norm [_, _, _, _, _] rfl ?_
                    refine CJ.imp1 (G := LR encR 35 1 ra25 rc25 (X2.set w ⟨u97.a, u97.c, u97.l.set h m2⟩)) 2 rfl (fun _ r => LR.setR hu97 (List.length_set ..) r) ?_
                    refine CJ.norm [_, _, _, _, _] rfl ?_
                    refine CJ.region ?_
                    refine LJ.yd rfl (Yd.mvI rfl) ?_
                    refine LJ.yd rfl (Yd.add rfl rfl (by unfold I64; omega)) ?_
                    refine LJ.yd rfl (Yd.asI rfl) ?_
                    refine LJ.nil ?_
                    refine ⟨(h + 1, X2.set w ⟨u97.a, u97.c, u97.l.set h m2⟩), ?_, ⟨rfl, rfl, rfl, rfl, rfl, rfl, rfl, rfl, rfl, rfl, rfl, rfl, rfl, rfl, rfl, rfl, trivial⟩, ⟨rfl, trivial⟩, Ent.pick [0, 1, 2, 4] [3] rfl, ?_⟩
                    · refine ⟨by omega, ?_⟩
                      exact ⟨by omega, by rw [List.length_set]; exact hX2l, hV2.set hu97 (by omega) (by rw [hm4, show b - 1 = h / 2 by omega]; exact (bv_eq (by omega) (by omega)).symm)⟩
                    · first | omega | (dsimp only; omega) | (simp only []; omega)
          · refine LJ.yd rfl (Yd.pickTB rfl rfl) ?_
            refine LJ.nil ?_
            refine CJ.condF rfl ?_
            refine CJ.exit ?_
            refine CJ.region ?_
            refine LJ.yd rfl (Yd.mvI rfl) ?_
            refine LJ.yd rfl (Yd.add rfl rfl (by unfold I64; omega)) ?_
            refine LJ.yd rfl (Yd.asI rfl) ?_
            refine LJ.nil ?_
            refine ⟨(w + 1, X2, ra25, (X ++ [(⟨some ⟨g23, 0, none⟩, H + 1, Z23⟩ : Rw Int)]).length, rc25), ?_, ⟨rfl, rfl, rfl, trivial⟩, ⟨rfl, rfl, trivial⟩, Ent.pick [0, 2, 3] [1] rfl, ?_⟩
            · refine ⟨(by first | rfl | omega | (simp; done) | (simp; omega) | (simp [upN_len]; omega) | (simp [idxBy_len]; omega) | (simp [marks_len]; omega) | (simp [upN_len]; done) | (simp [idxBy_len]; done) | (simp [marks_len]; done) | (simp at *; omega)), ?_⟩
              refine ⟨by omega, ?_⟩
              exact ⟨hX2l, hV2.row (by omega)⟩
            · first | omega | (dsimp only; omega) | (simp only []; omega)
        · refine LJ.yd rfl (Yd.mvB rfl) ?_
          refine LJ.gF rfl rfl ?_
          refine LJ.gF rfl rfl ?_
          refine LJ.yd rfl (Yd.pickFB rfl rfl) ?_
          refine LJ.nil ?_
          refine CJ.condF rfl ?_
          refine CJ.exit ?_
          refine CJ.region ?_
          refine LJ.yd rfl (Yd.mvI rfl) ?_
          refine LJ.yd rfl (Yd.add rfl rfl (by unfold I64; omega)) ?_
          refine LJ.yd rfl (Yd.asI rfl) ?_
          refine LJ.nil ?_
          refine ⟨(w + 1, X2, ra25, (X ++ [(⟨some ⟨g23, 0, none⟩, H + 1, Z23⟩ : Rw Int)]).length, rc25), ?_, ⟨rfl, rfl, rfl, trivial⟩, ⟨rfl, rfl, trivial⟩, Ent.pick [0, 2, 3] [1] rfl, ?_⟩
          · refine ⟨(by first | rfl | omega | (simp; done) | (simp; omega) | (simp [upN_len]; omega) | (simp [idxBy_len]; omega) | (simp [marks_len]; omega) | (simp [upN_len]; done) | (simp [idxBy_len]; done) | (simp [marks_len]; done) | (simp at *; omega)), ?_⟩
            refine ⟨by omega, ?_⟩
            exact ⟨hX2l, hV2.row (by omega)⟩
          · first | omega | (dsimp only; omega) | (simp only []; omega)
    · refine LJ.nil ?_
      refine CJ.condF rfl ?_
      refine CJ.exit ?_
      refine CJ.seq ?_
      refine CJ.region ?_
      refine LJ.yd rfl (Yd.mvS rfl) ?_
      refine LJ.yd rfl (Yd.asS rfl) ?_
      refine LJ.nil ?_
      refine CJ.ret ?_
      obtain rfl : w = W + 1 := by omega
      exact Fin.R [_, _] (Res.one (ResV.tmp (v := .slice _ _ _) rfl)) ⟨_, _, X, rfl, rfl, hXl, hV1⟩ (Ent.pick [1, 2] [0] rfl)
theorem BestValueS_ok {A : Amb} {W H : Int} {v vl : Value} {ps : List Pane} {l : List Int} (hp : RdPanes A.h v ps) (hl : RdL encI 1 A.h vl l) (hn : l.length ≤ 2000000) : Ctr Try.prog 26 #[.agg #[vI W, vI H, v], vl] A [] (Val (vI (bestV W H ps l))) := by
  have hp2 := hp
  obtain ⟨⟨sa, sc, rfl, hm, hrow⟩, hlen⟩ := hp2
  rw [List.length_map] at hm ⊢
  rw [List.length_map] at hp
  obtain ⟨la, lc, rfl, hlb, hl⟩ := hl.un
  refine Ctr.body (args := [_, _]) Try.func26 rfl Try.ntmps26 Try.results26 (by simp) ?_
  refine CJ.seq ?_
  refine CJ.region ?_
  refine LJ.boxG (vs := [_, _, _]) rfl rfl (fun b1 => ?_)
  refine LJ.yd rfl (Yd.asI rfl) ?_
  refine LJ.nil ?_
  refine CJ.seq ?_
  refine CJ.seq ?_
  refine CJ.region ?_
  refine LJ.yd rfl (Yd.loadG (us := [_, _, _]) 0 rfl rfl rfl rfl) ?_
  refine LJ.yd rfl (Yd.mvS rfl) ?_
  refine LJ.callB rfl (fun k hk dk => validValues_ok hp.up (RdRow.up hl) hn) (fun h7 => ?_) (fun h7 => ?_)
  · refine LJ.yd rfl (Yd.not rfl) ?_
    refine LJ.nil ?_
    refine CJ.condF rfl ?_
    refine CJ.skip ?_
    refine CJ.seq ?_
    obtain ⟨hv1, hv2, hv3, hv4, hv5, hv6⟩ := vlV_iff.1 h7
    obtain ⟨hw1, hw2, hw3, hw4, _, _⟩ := workOk_iff.1 hv2
    refine CJ.regionD [0] [] (by kernel_rfl) rfl ?_
    refine DJ.norm [_] [] rfl rfl ?_
    refine DJ.yd 0 rfl (by kernel_rfl) (by kernel_rfl) (by kernel_rfl) rfl rfl (Yd.loadG (us := [_, _, _]) 0 rfl rfl rfl rfl) ?_
    refine DJ.yd 1 rfl (by kernel_rfl) (by kernel_rfl) (by kernel_rfl) rfl rfl (Yd.mvS rfl) ?_
    refine DJ.yd 3 rfl (by kernel_rfl) (by kernel_rfl) (by kernel_rfl) rfl rfl (Yd.fieldAddr rfl) ?_
    refine DJ.yd 4 rfl (by kernel_rfl) (by kernel_rfl) (by kernel_rfl) rfl rfl (Yd.loadC 0 rfl rfl rfl) ?_
    refine DJ.yd 7 rfl (by kernel_rfl) (by kernel_rfl) (by kernel_rfl) rfl rfl (Yd.fieldAddr rfl) ?_
    refine DJ.yd 8 rfl (by kernel_rfl) (by kernel_rfl) (by kernel_rfl) rfl rfl (Yd.loadC 0 rfl rfl rfl) ?_
    refine DJ.one (i := 2) (by kernel_rfl) ?_
    refine DO.call0 rfl rfl rfl (fun k0 hk0 dk0 k hk dk => valueTable_ok hp.up (RdRow.up hl) h7) ?_
    rintro _ _ ⟨ta, tc, X, rfl, rfl, hXl, hX⟩
    refine DJ.norm [_] [_, _] rfl rfl ?_
    refine DJ.idxR 0 rfl 5 rfl (by kernel_rfl) (by kernel_rfl) (by kernel_rfl) rfl rfl rfl rfl (by omega) (by first | rfl | omega | (simp; done) | (simp; omega) | (simp [upN_len]; omega) | (simp [idxBy_len]; omega) | (simp [marks_len]; omega) | (simp [upN_len]; done) | (simp [idxBy_len]; done) | (simp [marks_len]; done) | (simp at *; omega)) (by first | rfl | omega | (simp; done) | (simp; omega) | (simp [upN_len]; omega) | (simp [idxBy_len]; omega) | (simp [marks_len]; omega) | (simp [upN_len]; done) | (simp [idxBy_len]; done) | (simp [marks_len]; done) | (simp at *; omega)) (fun ib14 ia14 => ?_)
    refine DJ.one (i := 6) (by kernel_rfl) ?_
    refine DO.ldR rfl rfl rfl 0 0 (fun u => .slice u.a u.l.length u.c) (fun _ => rfl) rfl ia14 rfl rfl (by first | rfl | omega | (simp; done) | (simp; omega) | (simp [upN_len]; omega) | (simp [idxBy_len]; omega) | (simp [marks_len]; omega) | (simp [upN_len]; done) | (simp [idxBy_len]; done) | (simp [marks_len]; done) | (simp at *; omega)) (fun u15 hu15 => ?_)
    try simp only [Int.toNat_natCast] at hu15
    obtain ⟨hl15, hv15⟩ := hX _ _ hu15
    refine DJ.idxNR (enc := encI) 1 rfl hu15 9 rfl (by kernel_rfl) (by kernel_rfl) (by kernel_rfl) rfl rfl rfl rfl (by omega) (by first | rfl | omega | (simp; done) | (simp; omega) | (simp [upN_len]; omega) | (simp [idxBy_len]; omega) | (simp [marks_len]; omega) | (simp [upN_len]; done) | (simp [idxBy_len]; done) | (simp [marks_len]; done) | (simp at *; omega)) (fun ib18 ia18 => ?_)
    refine DJ.one (i := 10) (by kernel_rfl) ?_
    refine DO.ldN (enc := encI) rfl rfl rfl 1 0 (fun u => vI u) (fun _ => rfl) rfl hu15 ia18 rfl rfl (by first | rfl | omega | (simp; done) | (simp; omega) | (simp [upN_len]; omega) | (simp [idxBy_len]; omega) | (simp [marks_len]; omega) | (simp [upN_len]; done) | (simp [idxBy_len]; done) | (simp [marks_len]; done) | (simp at *; omega)) (fun u19 hu19 => ?_)
    try simp only [Int.toNat_natCast] at hu19
    refine DJ.yd 11 rfl (by kernel_rfl) (by kernel_rfl) (by kernel_rfl) rfl rfl (Yd.asI rfl) ?_
    refine DJ.done (by kernel_rfl) ?_
    refine CJ.ret ?_
    refine Fin.V (Res.one (ResV.tmp (v := .int _ _) rfl)) ?_
    first
      | (rw [bestV, if_neg (by rw [h7]; simp)]; done)
      | (have := hv15 H.toNat (by omega) (by omega) (by omega) (by omega)
         rw [hu19] at this
         rw [bestV, if_pos h7, Option.some.inj this])
  · refine LJ.yd rfl (Yd.not rfl) ?_
    refine LJ.nil ?_
    refine CJ.condT rfl ?_
    refine CJ.seq ?_
    refine CJ.region ?_
    refine LJ.yd rfl (Yd.asI rfl) ?_
    refine LJ.nil ?_
    refine CJ.ret ?_
    refine Fin.V (Res.one (ResV.tmp (v := .int _ _) rfl)) ?_
    first
      | (rw [bestV, if_neg (by rw [h7]; simp)]; done)
      | (have := hv15 H.toNat (by omega) (by omega) (by omega) (by omega)
         rw [hu19] at this
         rw [bestV, if_pos h7, Option.some.inj this])
theorem eqIntS_T {A : Amb} {v w : Value} {l : List Int} (hl : RdL encI 1 A.h v l) (hl2 : RdL encI 1 A.h w l) : Ctr Try.prog 31 #[v, w] A [] (Val (.bool true)) := by
  have := eqIntS_ok hl hl2
  rwa [decide_eq_true rfl] at this
theorem FnExactBestValue_ok {A : Amb} {W H : Int} {a a2 : Option Addr} {n c n2 c2 : Nat} {ps : List Pane} {l : List Int} (hn : n ≤ 9223372036854775807) (hp : n ≤ 1048576 → RdL Pane.enc 4 A.h (.slice a n c) ps ∧ n = ps.length) (hl : n2 ≤ 1048576 → RdL encI 1 A.h (.slice a2 n2 c2) l ∧ n2 = l.length) :
    Ctr Try.prog 6 #[.agg #[vI W, vI H, .slice a n c], .slice a2 n2 c2] A [] (Val (.bool true)) := by
  refine Ctr.body (args := [_, _]) Try.func6 rfl Try.ntmps6 Try.results6 (by simp) ?_
  refine CJ.seq ?_
  refine CJ.region ?_
  refine LJ.boxG (vs := [_, _, _]) rfl rfl (fun b1 => ?_)
  refine LJ.yd rfl (Yd.asB rfl) ?_
  refine LJ.nil ?_
  refine CJ.seq ?_
  refine CJ.seq ?_
  refine CJ.region ?_
  refine LJ.yd rfl (Yd.mvS rfl) ?_
  refine LJ.yd rfl (Yd.len rfl) ?_
  refine LJ.splitD rfl (Yd.gtr rfl rfl) (fun h12 => ?_) (fun h12 => ?_)
  · refine LJ.nil ?_
    refine CJ.condT rfl ?_
    refine CJ.seq ?_
    refine CJ.region ?_
    refine LJ.yd rfl (Yd.asB rfl) ?_
    refine LJ.nil ?_
    refine CJ.ret ?_
    refine Fin.V (Res.one (ResV.tmp (v := .bool true) rfl)) ?_
    rfl
  · refine LJ.nil ?_
    refine CJ.condF rfl ?_
    refine CJ.skip ?_
    refine CJ.seq ?_
    obtain ⟨hl, rfl⟩ := hl (by omega)
    refine CJ.region ?_
    refine LJ.yd rfl (Yd.asI rfl) ?_
    refine LJ.nil ?_
    refine CJ.seq ?_
    refine CJ.region ?_
    refine LJ.yd rfl (Yd.loadG (us := [_, _, _]) 0 rfl rfl rfl rfl) ?_
    refine LJ.yd rfl (Yd.mvI rfl) ?_
    refine LJ.callV rfl (fun k hk dk => szWork_ok hn (by omega) (by omega)) ?_
    refine LJ.yd rfl (Yd.asI rfl) ?_
    refine LJ.nil ?_
    refine CJ.seq ?_
    refine CJ.seq ?_
    refine CJ.region ?_
    refine LJ.yd rfl (Yd.mvI rfl) ?_
    refine LJ.splitD rfl (Yd.lss rfl rfl) (fun h17 => ?_) (fun h17 => ?_)
    · refine LJ.nil ?_
      refine CJ.condT rfl ?_
      refine CJ.seq ?_
      refine CJ.region ?_
      refine LJ.yd rfl (Yd.asB rfl) ?_
      refine LJ.nil ?_
      refine CJ.ret ?_
      refine Fin.V (Res.one (ResV.tmp (v := .bool true) rfl)) ?_
      rfl
    · refine LJ.nil ?_
      refine CJ.condF rfl ?_
      refine CJ.skip ?_
      refine CJ.seq ?_
      have hn1 : n ≤ 1048576 := by by_cases hz : (1048576 : Int) - n < 0 <;> omega
      obtain ⟨hps, hnl⟩ := hp hn1
      rw [if_neg (by omega)]
      refine CJ.region ?_
      refine LJ.yd rfl (Yd.loadG (us := [_, _, _]) 0 rfl rfl rfl rfl) ?_
      refine LJ.call0 rfl (fun k hk dk => toWork_ok hps.up (by omega)) ?_
      rintro _ _ ⟨xa19, xc19, rfl, rfl⟩
      refine LJ.norm [_, _] rfl ?_
      refine LJ.yd rfl (Yd.mvS rfl) ?_
      refine LJ.call0 rfl (fun k hk dk => toIntS_ok (RdRow.up hl) (by omega)) ?_
      rintro _ _ ⟨ra21, rc21, rfl, rfl⟩
      refine LJ.norm [_, _, _] rfl ?_
      refine LJ.callV rfl (fun k hk dk => BestValueS_ok (Sts.lr hk dk 1 (by omega) rfl) (Sts.lrm hk dk 2 (by first | rfl | omega | (simp; done) | (simp; omega) | (simp [upN_len]; omega) | (simp [idxBy_len]; omega) | (simp [marks_len]; omega) | (simp [upN_len]; done) | (simp [idxBy_len]; done) | (simp [marks_len]; done) | (simp at *; omega)) (by first | rfl | omega | (simp; done) | (simp; omega) | (simp [upN_len]; omega) | (simp [idxBy_len]; omega) | (simp [marks_len]; omega) | (simp [upN_len]; done) | (simp [idxBy_len]; done) | (simp [marks_len]; done) | (simp at *; omega)) rfl) (by omega)) ?_
      refine LJ.yd rfl (Yd.asI rfl) ?_
      refine LJ.nil ?_
      refine CJ.seq ?_
      refine CJ.region ?_
      refine LJ.yd rfl (Yd.loadG (us := [_, _, _]) 0 rfl rfl rfl rfl) ?_
      refine LJ.call0 rfl (fun k hk dk => toWork_ok hps.up (by omega)) ?_
      rintro _ _ ⟨xa24, xc24, rfl, rfl⟩
      refine LJ.norm [_, _, _, _] rfl ?_
      refine LJ.alloc ([_, _, _] : List Value) rfl rfl (fun b2 => ?_)
      refine LJ.store (v := .agg #[_, _, _]) (us := [_, _, _]) 4 rfl rfl rfl rfl rfl rfl rfl rfl ?_
      refine LJ.nil ?_
      refine CJ.seq ?_
      refine CJ.region ?_
      refine LJ.yd rfl (Yd.mvS rfl) ?_
      refine LJ.call0 rfl (fun k hk dk => toIntS_ok (RdRow.up hl) (by omega)) ?_
      rintro _ _ ⟨ra26, rc26, rfl, rfl⟩
      refine LJ.norm [_, _, _, _, _, _] rfl ?_
      refine LJ.yd rfl (Yd.asS rfl) ?_
      refine LJ.nil ?_
      refine CJ.seq ?_
      refine CJ.region ?_
      refine LJ.yd rfl (Yd.loadG (us := [_, _, _]) 4 rfl rfl rfl rfl) ?_
      refine LJ.yd rfl (Yd.mvS rfl) ?_
      refine LJ.callV rfl (fun k hk dk => BestValueI_ok (Sts.lr hk dk 3 (by omega) rfl) (Sts.lrm hk dk 5 (by first | rfl | omega | (simp; done) | (simp; omega) | (simp [upN_len]; omega) | (simp [idxBy_len]; omega) | (simp [marks_len]; omega) | (simp [upN_len]; done) | (simp [idxBy_len]; done) | (simp [marks_len]; done) | (simp at *; omega)) (by first | rfl | omega | (simp; done) | (simp; omega) | (simp [upN_len]; omega) | (simp [idxBy_len]; omega) | (simp [marks_len]; omega) | (simp [upN_len]; done) | (simp [idxBy_len]; done) | (simp [marks_len]; done) | (simp at *; omega)) rfl) (by omega)) ?_
      refine LJ.yd rfl (Yd.asI rfl) ?_
      refine LJ.nil ?_
      refine CJ.seq ?_
      refine CJ.seq ?_
      refine CJ.region ?_
      refine LJ.yd rfl (Yd.mvI rfl) ?_
      refine LJ.yd rfl (Yd.mvI rfl) ?_
      refine LJ.yd rfl (Yd.cmpNF (Yd.neq rfl rfl) (by omega)) ?_
      refine LJ.nil ?_
      refine CJ.condF rfl ?_
      refine CJ.skip ?_
      refine CJ.seq ?_
      refine CJ.seq ?_
      refine CJ.regionD [0, 1, 2, 3, 4, 5] [] (by kernel_rfl) rfl ?_
      refine DJ.norm [_, _, _, _, _, _] [] rfl rfl ?_
      refine DJ.yd 0 rfl (by kernel_rfl) (by kernel_rfl) (by kernel_rfl) rfl rfl (Yd.loadG (us := [_, _, _]) 4 rfl rfl rfl rfl) ?_
      refine DJ.yd 1 rfl (by kernel_rfl) (by kernel_rfl) (by kernel_rfl) rfl rfl (Yd.loadG (us := [_, _, _]) 0 rfl rfl rfl rfl) ?_
      refine DJ.one (i := 2) (by kernel_rfl) ?_
      refine DO.call0 rfl rfl rfl (fun k0 hk0 dk0 k hk dk => toWork_ok hps.up (by omega)) ?_
      rintro _ _ ⟨xa35, xc35, rfl, rfl⟩
      refine DJ.norm [_, _, _, _, _, _] [_] rfl rfl ?_
      refine DJ.one (i := 3) (by kernel_rfl) ?_
      refine DO.callV rfl rfl rfl (fun k0 hk0 dk0 k hk dk => eqWork_T ((Sts.lr hk0 dk0 3 (by omega) rfl).up) (Sts.lr hk dk 0 (by omega) rfl)) ?_
      refine DJ.yd 4 rfl (by kernel_rfl) (by kernel_rfl) (by kernel_rfl) rfl rfl (Yd.not rfl) ?_
      refine DJ.done (by kernel_rfl) ?_
      refine CJ.condF rfl ?_
      refine CJ.skip ?_
      refine CJ.seq ?_
      refine CJ.seq ?_
      refine CJ.region ?_
      refine LJ.yd rfl (Yd.mvS rfl) ?_
      refine LJ.yd rfl (Yd.mvS rfl) ?_
      refine LJ.call0 rfl (fun k hk dk => toIntS_ok (RdRow.up hl) (by omega)) ?_
      rintro _ _ ⟨ra40, rc40, rfl, rfl⟩
      refine LJ.norm [_, _, _, _, _, _, _, _] rfl ?_
      refine LJ.callV rfl (fun k hk dk => eqIntS_T (Sts.lrm hk dk 5 (by first | rfl | omega | (simp; done) | (simp; omega) | (simp [upN_len]; omega) | (simp [idxBy_len]; omega) | (simp [marks_len]; omega) | (simp [upN_len]; done) | (simp [idxBy_len]; done) | (simp [marks_len]; done) | (simp at *; omega)) (by first | rfl | omega | (simp; done) | (simp; omega) | (simp [upN_len]; omega) | (simp [idxBy_len]; omega) | (simp [marks_len]; omega) | (simp [upN_len]; done) | (simp [idxBy_len]; done) | (simp [marks_len]; done) | (simp at *; omega)) rfl) (Sts.lrm hk dk 7 (by first | rfl | omega | (simp; done) | (simp; omega) | (simp [upN_len]; omega) | (simp [idxBy_len]; omega) | (simp [marks_len]; omega) | (simp [upN_len]; done) | (simp [idxBy_len]; done) | (simp [marks_len]; done) | (simp at *; omega)) (by first | rfl | omega | (simp; done) | (simp; omega) | (simp [upN_len]; omega) | (simp [idxBy_len]; omega) | (simp [marks_len]; omega) | (simp [upN_len]; done) | (simp [idxBy_len]; done) | (simp [marks_len]; done) | (simp at *; omega)) rfl)) ?_
      refine LJ.yd rfl (Yd.not rfl) ?_
      refine LJ.nil ?_
      refine CJ.condF rfl ?_
      refine CJ.skip ?_
      refine CJ.seq ?_
      refine CJ.region ?_
      refine LJ.yd rfl (Yd.asB rfl) ?_
      refine LJ.nil ?_
      refine CJ.ret ?_
      refine Fin.V (Res.one (ResV.tmp (v := .bool true) rfl)) ?_
      rfl
end Go.Proofs.Ytkojheinklgdeaa
