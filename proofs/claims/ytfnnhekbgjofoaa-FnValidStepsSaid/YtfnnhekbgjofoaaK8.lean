/-
  Contracts: waiting pieces, best orders of cuts.
-/
import Derived.Test.YtfnnhekbgjofoaaK6
namespace Go.Proofs.Ytfnnhekbgjofoaa
open Go
set_option maxRecDepth 20000
set_option maxHeartbeats 1000000

def wtP (q : Plan) (s : List Int) : List Int := if vsOk q s = true then waitI (knP q) 1 s else []
theorem vsOk_iff {q : Plan} {s : List Int} : vsOk q s = true ↔ ¬ psz q < 0 ∧ s.length = (knP q).length ∧ begOk (knP q) [] s = true := by
  simp only [vsOk, Bool.and_eq_true, Bool.not_eq_true', decide_eq_false_iff_not, decide_eq_true_eq, Int.natCast_inj]
theorem cntA_take {K : List (Int × Int)} {j : Nat} {q : Int × Int} (n : Int) (h : K[j]? = some q) : cntA n (K.take (j + 1)) = cntA n (K.take j) + (if q.2 = n then 1 else 0) := by
  rw [takeC h, cntA_append, cntA, cntA]; omega
theorem WaitingOfI_ok {A : Amb} {cs : List Value} {q : Plan} {w : Value} {s : List Int} (h : RdPlan A.h cs q) (hs : RdL encI 1 A.h w s) : Ctr Try.prog 32 #[.agg cs.toArray, w] A [] (RLP encI 3 1 (wtP q s)) := by
  have hK := knP_ok q
  have hkl := hK.len
  obtain ⟨o, a, p, t, kids, v, css, e, rfl, ho, ha, hp, ⟨⟨sa, sc, rfl, hm, hrow⟩, hlen⟩, hk⟩ := h.inv
  obtain ⟨wa, wc, rfl, hsb, hs⟩ := hs.un
  unfold wtP
  refine Ctr.body (args := [_, _]) Try.func32 rfl Try.ntmps32 Try.results32 (by simp) ?_
  refine CJ.seq ?_
  refine CJ.region ?_
  refine LJ.boxG (vs := [_, _, _, _, _]) rfl rfl (fun b1 => ?_)
  refine LJ.yd rfl (Yd.asS rfl) ?_
  refine LJ.nil ?_
  refine CJ.seq ?_
  refine CJ.seq ?_
  refine CJ.region ?_
  refine LJ.yd rfl (Yd.loadG (us := [_, _, _, _, _]) 0 rfl rfl rfl rfl) ?_
  refine LJ.yd rfl (Yd.mvS rfl) ?_
  refine LJ.callB rfl (fun k hk dk => ValidStepsI_ok h.up hs.up) (fun h15 => ?_) (fun h15 => ?_)
  · refine LJ.yd rfl (Yd.not rfl) ?_
    refine LJ.nil ?_
    refine CJ.condF rfl ?_
    refine CJ.skip ?_
    refine CJ.seq ?_
    refine CJ.region ?_
    refine LJ.yd rfl (Yd.loadG (us := [_, _, _, _, _]) 0 rfl rfl rfl rfl) ?_
    refine LJ.call0 rfl (fun k hk dk => knotsOf_ok h.up) ?_
    rintro _ _ ⟨a1, c1, K, hKe, rfl, rfl⟩
    have hvs := vsOk_iff.1 h15
    rw [if_pos h15]
    rw [← hKe] at hkl hK hvs ⊢
    refine LJ.norm [_, _] rfl ?_
    refine LJ.yd rfl (Yd.mvU rfl) ?_
    refine LJ.yd rfl (Yd.extract rfl rfl) ?_
    refine LJ.yd rfl (Yd.extract rfl rfl) ?_
    refine LJ.yd rfl (Yd.asS rfl) ?_
    refine LJ.yd rfl (Yd.asB rfl) ?_
    refine LJ.nil ?_
    refine CJ.seq ?_
    refine CJ.region ?_
    refine LJ.yd rfl (Yd.asS rfl) ?_
    refine LJ.nil ?_
    refine CJ.seq ?_
    refine CJ.region ?_
    refine LJ.yd rfl (Yd.asI rfl) ?_
    refine LJ.nil ?_
    refine CJ.seq ?_
    refine CJ.seq ?_
    refine CJ.region ?_
    refine LJ.yd rfl (Yd.mvS rfl) ?_
    refine LJ.yd rfl (Yd.len rfl) ?_
    refine LJ.yd rfl (Yd.mvI rfl) ?_
    refine LJ.nil ?_
    refine CJ.block ?_
    refine CJ.ent (Ent.addLR encI 3 1) ?_
    refine CJ.norm [_, _, _] rfl ?_
    refine CJ.loopF [4, 5, 22, 23] (Nat × Int × List Int × Option Addr × Nat × Nat) (fun ⟨k, x, g, gA, gN, gC⟩ => (gN = g.length) ∧ k ≤ s.length ∧ g ++ waitI K x (s.drop k) = waitI K 1 s ∧ g.length = k ∧ -(k : Int) ≤ x ∧ x ≤ 1 + 255 * k) (fun ⟨k, x, g, gA, gN, gC⟩ => [(24, vI k), (8, vI x), (7, .slice gA gN gC)]) (fun ⟨k, x, g, gA, gN, gC⟩ => [LR encI 3 1 gA gC g]) (fun ⟨k, x, g, gA, gN, gC⟩ => s.length - k) (0, 1, [], _, _, _) [_, _] [0, 1] [2] rfl rfl rfl ?_ ⟨rfl, rfl, rfl, trivial⟩ ?_
    · exact ⟨(by first | rfl | omega | (simp; done) | (simp; omega) | (simp [upN_len]; omega) | (simp [idxBy_len]; omega) | (simp [marks_len]; omega) | (simp [upN_len]; done) | (simp [idxBy_len]; done) | (simp [marks_len]; done) | (simp at *; omega)), ⟨by omega, rfl, rfl, by omega, by omega⟩⟩
    · rintro ⟨k, x, g, gA, gN, gC⟩ σ ⟨hlNg, ⟨hk1, hg, hgl, hx0, hx1⟩⟩
      subst hlNg
      refine CJ.norm [_, _, _] rfl ?_
      refine CJ.seq ?_
      refine CJ.region ?_
      refine LJ.splitD rfl (Yd.lss rfl rfl) (fun h25 => ?_) (fun h25 => ?_)
      · refine LJ.nil ?_
        refine CJ.seq ?_
        refine CJ.condT rfl ?_
        refine CJ.skip ?_
        refine CJ.seq ?_
        refine CJ.block ?_
        refine CJ.seq ?_
        refine CJ.region ?_
        refine LJ.idxA rfl hs rfl rfl (by omega) (by first | rfl | omega | (simp; done) | (simp; omega) | (simp [upN_len]; omega) | (simp [idxBy_len]; omega) | (simp [marks_len]; omega) | (simp [upN_len]; done) | (simp [idxBy_len]; done) | (simp [marks_len]; done) | (simp at *; omega)) (fun ib26 io26 ia26 ir26 => ?_)
        refine LJ.ldA 0 (fun u => vI u) (fun _ => rfl) ir26 rfl rfl rfl (by first | rfl | omega | (simp; done) | (simp; omega) | (simp [upN_len]; omega) | (simp [idxBy_len]; omega) | (simp [marks_len]; omega) | (simp [upN_len]; done) | (simp [idxBy_len]; done) | (simp [marks_len]; done) | (simp at *; omega)) (fun u27 hu27 => ?_)
        try simp only [Int.toNat_natCast] at hu27
        refine LJ.yd rfl (Yd.asI rfl) ?_
        refine LJ.nil ?_
        refine CJ.seq ?_
        refine CJ.region ?_
        refine LJ.yd rfl (Yd.mvS rfl) ?_
        refine LJ.yd rfl (Yd.mvI rfl) ?_
        refine LJ.op rfl (OpR.buildSlice (cs := [_]) rfl rfl) ?_
        rintro _ _ ⟨b3, rfl, rfl⟩
        refine LJ.op rfl (OpR.apT (enc := encI) [_] 2 3 rfl rfl rfl (by first | rfl | omega | (simp; done) | (simp; omega) | (simp [upN_len]; omega) | (simp [idxBy_len]; omega) | (simp [marks_len]; omega) | (simp [upN_len]; done) | (simp [idxBy_len]; done) | (simp [marks_len]; done) | (simp at *; omega)) rfl rfl rfl rfl rfl (by first | rfl | omega | (simp; done) | (simp; omega) | (simp [upN_len]; omega) | (simp [idxBy_len]; omega) | (simp [marks_len]; omega) | (simp [upN_len]; done) | (simp [idxBy_len]; done) | (simp [marks_len]; done) | (simp at *; omega))) ?_
        rintro _ _ ⟨ra31, rc31, rfl, rfl⟩
        refine LJ.norm [_, _, _, _] rfl ?_
        refine LJ.yd rfl (Yd.asS rfl) ?_
        refine LJ.nil ?_
        refine CJ.seq ?_
        refine CJ.region ?_
        refine LJ.yd rfl (Yd.mvI rfl) ?_
        refine LJ.yd rfl (Yd.sub rfl rfl (by unfold I64; omega)) ?_
        refine LJ.yd rfl (Yd.asI rfl) ?_
        refine LJ.nil ?_
        refine CJ.seq ?_
        refine CJ.region ?_
        refine LJ.yd rfl (Yd.mvS rfl) ?_
        refine LJ.yd rfl (Yd.len rfl) ?_
        refine LJ.yd rfl (Yd.mvI rfl) ?_
        refine LJ.nil ?_
        refine CJ.block ?_
        refine CJ.loopK [4, 5, 7, 10, 22, 23, 24, 25, 26, 27, 28, 29, 30, 31, 32, 33, 34, 35] (Nat × Int) (fun ⟨j, y⟩ => j ≤ K.length ∧ y = x - 1 + cntA u27 (K.take j)) (fun ⟨j, y⟩ => [(36, vI j), (8, vI y)]) (fun ⟨j, y⟩ => K.length - j) (0, x - 1) ?_ ⟨rfl, rfl, trivial⟩ ?_
        · exact ⟨by omega, by simp [cntA]⟩
        · rintro ⟨j, y⟩ σ ⟨hj1, hy⟩
          have hyb := cntA_le u27 (K.take j)
          have hyl : (K.take j).length = j := by simp; omega
          refine CJ.seq ?_
          refine CJ.region ?_
          refine LJ.splitD rfl (Yd.lss rfl rfl) (fun h37 => ?_) (fun h37 => ?_)
          · refine LJ.nil ?_
            refine CJ.seq ?_
            refine CJ.condT rfl ?_
            refine CJ.skip ?_
            refine CJ.seq ?_
            refine CJ.block ?_
            refine CJ.seq ?_
            refine CJ.region ?_
            refine LJ.idxR 1 rfl rfl rfl rfl (by omega) (by first | rfl | omega | (simp; done) | (simp; omega) | (simp [upN_len]; omega) | (simp [idxBy_len]; omega) | (simp [marks_len]; omega) | (simp [upN_len]; done) | (simp [idxBy_len]; done) | (simp [marks_len]; done) | (simp at *; omega)) (by first | rfl | omega | (simp; done) | (simp; omega) | (simp [upN_len]; omega) | (simp [idxBy_len]; omega) | (simp [marks_len]; omega) | (simp [upN_len]; done) | (simp [idxBy_len]; done) | (simp [marks_len]; done) | (simp at *; omega)) (fun ib38 ia38 => ?_)
            refine LJ.lgR 1 (enc := encK) (fun u => [vI u.1, vI u.2]) (fun _ => rfl) (fun _ => rfl) rfl ia38 rfl rfl rfl (by first | rfl | omega | (simp; done) | (simp; omega) | (simp [upN_len]; omega) | (simp [idxBy_len]; omega) | (simp [marks_len]; omega) | (simp [upN_len]; done) | (simp [idxBy_len]; done) | (simp [marks_len]; done) | (simp at *; omega)) (fun u39 hu39 => ?_)
            try simp only [Int.toNat_natCast] at hu39
            refine LJ.alloc ([_, _] : List Value) rfl rfl (fun b4 => ?_)
            refine LJ.store (v := .agg #[_, _]) (us := [_, _]) 4 rfl rfl rfl rfl rfl rfl rfl rfl ?_
            refine LJ.nil ?_
            refine CJ.seq ?_
            refine CJ.region ?_
            refine LJ.yd rfl (Yd.fieldAddr rfl) ?_
            refine LJ.yd rfl (Yd.loadC 4 rfl rfl rfl) ?_
            refine LJ.yd rfl (Yd.mvI rfl) ?_
            refine LJ.splitD rfl (Yd.eql rfl rfl) (fun h43 => ?_) (fun h43 => ?_)
            · refine LJ.nil ?_
              refine CJ.condT rfl ?_
              refine CJ.region ?_
              refine LJ.yd rfl (Yd.mvI rfl) ?_
              refine LJ.yd rfl (Yd.add rfl rfl (by unfold I64; omega)) ?_
              refine LJ.yd rfl (Yd.asI rfl) ?_
              refine LJ.nil ?_
              refine CJ.region ?_
              refine LJ.yd rfl (Yd.add rfl rfl (by unfold I64; omega)) ?_
              refine LJ.yd rfl (Yd.mvI rfl) ?_
              refine LJ.nil ?_
              refine ⟨(j + 1, _), ?_, ⟨rfl, rfl, rfl, rfl, rfl, rfl, rfl, rfl, rfl, rfl, rfl, rfl, rfl, rfl, rfl, rfl, rfl, rfl, trivial⟩, ⟨rfl, rfl, trivial⟩, Ent.pick [0, 1, 2, 3] [4] rfl, ?_⟩
              · refine ⟨by omega, ?_⟩
                rw [cntA_take _ hu39, hy]
                first | rw [if_pos h43]; omega | rw [if_neg h43]; omega
              · first | omega | (dsimp only; omega) | (simp only []; omega)
            · refine LJ.nil ?_
              refine CJ.condF rfl ?_
              refine CJ.skip ?_
              refine CJ.region ?_
              refine LJ.yd rfl (Yd.add rfl rfl (by unfold I64; omega)) ?_
              refine LJ.yd rfl (Yd.mvI rfl) ?_
              refine LJ.nil ?_
              refine ⟨(j + 1, _), ?_, ⟨rfl, rfl, rfl, rfl, rfl, rfl, rfl, rfl, rfl, rfl, rfl, rfl, rfl, rfl, rfl, rfl, rfl, rfl, trivial⟩, ⟨rfl, rfl, trivial⟩, Ent.pick [0, 1, 2, 3] [4] rfl, ?_⟩
              · refine ⟨by omega, ?_⟩
                rw [cntA_take _ hu39, hy]
                first | rw [if_pos h43]; omega | rw [if_neg h43]; omega
              · first | omega | (dsimp only; omega) | (simp only []; omega)
          · refine LJ.nil ?_
            refine CJ.seq ?_
            refine CJ.condF rfl ?_
            refine CJ.exit ?_
            refine CJ.region ?_
            refine LJ.yd rfl (Yd.add rfl rfl (by unfold I64; omega)) ?_
            refine LJ.yd rfl (Yd.mvI rfl) ?_
            refine LJ.nil ?_
            refine ⟨(k + 1, _, _, _, _, _), ?_, ⟨rfl, rfl, rfl, rfl, trivial⟩, ⟨rfl, rfl, rfl, trivial⟩, Ent.pick [0, 1, 2] [3] rfl, ?_⟩
            · refine ⟨(by first | rfl | omega | (simp; done) | (simp; omega) | (simp [upN_len]; omega) | (simp [idxBy_len]; omega) | (simp [marks_len]; omega) | (simp [upN_len]; done) | (simp [idxBy_len]; done) | (simp [marks_len]; done) | (simp at *; omega)), ?_⟩
              refine ⟨by omega, ?_⟩
              have hjk : j = K.length := by omega
              rw [dropC hu27, waitI] at hg
              have hcl := cntA_le u27 K
              rw [hjk, List.take_length] at hy
              rw [hy]
              exact ⟨by rw [← hg, List.append_assoc]; rfl, by simp [hgl], by omega, by omega⟩
            · first | omega | (dsimp only; omega) | (simp only []; omega)
      · refine LJ.nil ?_
        refine CJ.seq ?_
        refine CJ.condF rfl ?_
        refine CJ.exit ?_
        refine CJ.seq ?_
        refine CJ.region ?_
        refine LJ.yd rfl (Yd.mvS rfl) ?_
        refine LJ.yd rfl (Yd.asS rfl) ?_
        refine LJ.nil ?_
        refine CJ.ret ?_
        refine Fin.RL 2 (Res.one (ResV.tmp (v := .slice _ _ _) rfl)) rfl (by first | rfl | omega | (simp; done) | (simp; omega) | (simp [upN_len]; omega) | (simp [idxBy_len]; omega) | (simp [marks_len]; omega) | (simp [upN_len]; done) | (simp [idxBy_len]; done) | (simp [marks_len]; done) | (simp at *; omega)) ?_
        first
          | (rw [if_neg (by rw [h15]; simp)]; done)
          | (rw [List.drop_of_length_le (by omega), waitI, List.append_nil] at hg; exact hg)
  · refine LJ.yd rfl (Yd.not rfl) ?_
    refine LJ.nil ?_
    refine CJ.condT rfl ?_
    refine CJ.seq ?_
    refine CJ.region ?_
    refine LJ.yd rfl (Yd.asS rfl) ?_
    refine LJ.nil ?_
    refine CJ.ret ?_
    refine Fin.RN (Res.one (ResV.tmp (v := .slice _ _ _) rfl)) ?_
    first
      | (rw [if_neg (by rw [h15]; simp)]; done)
      | (rw [List.drop_of_length_le (by omega), waitI, List.append_nil] at hg; exact hg)
theorem freeC_take {K : List (Int × Int)} {j : Nat} {q : Int × Int} (d : List Int) (h : K[j]? = some q) : freeC d (K.take (j + 1)) = freeC d (K.take j) + (if (q.2 < 0 ∨ q.2 ∈ d) ∧ q.1 ∉ d then 1 else 0) := by
  rw [takeC h, freeC_append, freeC, freeC]; omega
theorem freeC_T {d : List Int} {q : Int × Int} (h1 : q.2 < 0 ∨ 0 ≤ plc q.2 d 0) (h2 : plc q.1 d 0 < 0) : (if (q.2 < 0 ∨ q.2 ∈ d) ∧ q.1 ∉ d then (1 : Int) else 0) = 1 := by
  refine if_pos ⟨h1.imp id fun h => ?_, plc_mem.1 h2⟩
  by_cases e : q.2 ∈ d
  · exact e
  · have := plc_mem.2 e; omega
theorem freeC_F1 {d : List Int} {q : Int × Int} (h1 : ¬ q.2 < 0) (h2 : ¬ 0 ≤ plc q.2 d 0) : (if (q.2 < 0 ∨ q.2 ∈ d) ∧ q.1 ∉ d then (1 : Int) else 0) = 0 := by
  refine if_neg fun h => ?_
  rcases h.1 with h | h
  · exact h1 h
  · exact plc_mem.1 (by omega : plc q.2 d 0 < 0) h
theorem freeC_F2 {d : List Int} {q : Int × Int} (h2 : ¬ plc q.1 d 0 < 0) : (if (q.2 < 0 ∨ q.2 ∈ d) ∧ q.1 ∉ d then (1 : Int) else 0) = 0 := by
  refine if_neg fun h => ?_
  exact h2 (plc_mem.2 h.2)
theorem waiting_ok {A : Amb} {cs : List Value} {b : BT} {w : Value} {s : List Int} (hz : b.sz ≤ 255) (h : RdT A.h cs b) (hs : RdL encI 1 A.h w s) (hsl : s.length ≤ 1000) : Ctr Try.prog 80 #[.agg cs.toArray, w] A [] (RLP encI 3 1 (waitS (b.knots 0 (-1)) [] s)) := by
  obtain ⟨o, a, p, t, x, n, c, rfl⟩ := h.i64
  obtain ⟨wa, wc, rfl, hsb, hs⟩ := hs.un
  have hK := BT.kok hz
  have hkl := knots_len' (b := b) (n := 0) (ab := -1) hz
  generalize hKe : b.knots 0 (-1) = K at *
  refine Ctr.body (args := [_, _]) Try.func80 rfl Try.ntmps80 Try.results80 (by simp) ?_
  refine CJ.seq ?_
  refine CJ.region ?_
  refine LJ.boxG (vs := [_, _, _, _, _]) rfl rfl (fun b1 => ?_)
  refine LJ.yd rfl (Yd.asS rfl) ?_
  refine LJ.nil ?_
  refine CJ.seq ?_
  refine CJ.region ?_
  refine LJ.yd rfl (Yd.loadG (us := [_, _, _, _, _]) 0 rfl rfl rfl rfl) ?_
  refine LJ.call0 rfl (fun k hk dk => hKe ▸ innerNodes_ok b _ _ _ (-1) (by omega) (by omega) (by omega) hz h.up) ?_
  rintro _ _ ⟨ra13, rc13, rfl, rfl⟩
  refine LJ.norm [_, _] rfl ?_
  refine LJ.yd rfl (Yd.asS rfl) ?_
  refine LJ.nil ?_
  refine CJ.seq ?_
  refine CJ.region ?_
  refine LJ.yd rfl (Yd.loadG (us := [_, _, _, _, _]) 0 rfl rfl rfl rfl) ?_
  refine LJ.call0 rfl (fun k hk dk => hKe ▸ aboves_ok b _ _ _ (-1) (by omega) (by omega) (by omega) hz h.up) ?_
  rintro _ _ ⟨ra15, rc15, rfl, rfl⟩
  refine LJ.norm [_, _, _] rfl ?_
  refine LJ.yd rfl (Yd.asS rfl) ?_
  refine LJ.nil ?_
  refine CJ.seq ?_
  refine CJ.region ?_
  refine LJ.op rfl (OpR.buildSlice (cs := []) rfl rfl) ?_
  rintro _ _ ⟨b4, rfl, rfl⟩
  refine LJ.yd rfl (Yd.asS rfl) ?_
  refine LJ.nil ?_
  refine CJ.seq ?_
  refine CJ.seq ?_
  refine CJ.region ?_
  refine LJ.yd rfl (Yd.asI rfl) ?_
  refine LJ.nil ?_
  refine CJ.block ?_
  refine CJ.imp1 3 rfl (fun _ h => Cel.lr (enc := encI) (k := 1) (m := 0) [] rfl rfl rfl rfl h) ?_
  refine CJ.norm [_, _, _, _] rfl ?_
  refine CJ.loopF [1, 4, 5, 6] (Nat × List Int × Option Addr × Nat × Nat) (fun ⟨k, g, gA, gN, gC⟩ => (gN = g.length) ∧ k ≤ s.length ∧ g ++ waitS K (s.take k) (s.drop k) = waitS K [] s ∧ g.length = k) (fun ⟨k, g, gA, gN, gC⟩ => [(8, vI k), (7, .slice gA gN gC)]) (fun ⟨k, g, gA, gN, gC⟩ => [LR encI 3 1 gA gC g]) (fun ⟨k, g, gA, gN, gC⟩ => s.length - k) (0, [], _, _, _) [_, _, _] [0, 1, 2] [3] rfl rfl rfl ?_ ⟨rfl, rfl, trivial⟩ ?_
  · exact ⟨(by first | rfl | omega | (simp; done) | (simp; omega) | (simp [upN_len]; omega) | (simp [idxBy_len]; omega) | (simp [marks_len]; omega) | (simp [upN_len]; done) | (simp [idxBy_len]; done) | (simp [marks_len]; done) | (simp at *; omega)), ⟨by omega, rfl, rfl⟩⟩
  · rintro ⟨k, g, gA, gN, gC⟩ σ ⟨hlNg, ⟨hk1, hg, hgl⟩⟩
    subst hlNg
    refine CJ.norm [_, _, _, _] rfl ?_
    refine CJ.seq ?_
    refine CJ.seq ?_
    refine CJ.region ?_
    refine LJ.yd rfl (Yd.mvI rfl) ?_
    refine LJ.yd rfl (Yd.mvS rfl) ?_
    refine LJ.yd rfl (Yd.len rfl) ?_
    refine LJ.splitD rfl (Yd.lss rfl rfl) (fun h20 => ?_) (fun h20 => ?_)
    · refine LJ.nil ?_
      refine CJ.condT rfl ?_
      refine CJ.skip ?_
      refine CJ.seq ?_
      refine CJ.block ?_
      refine CJ.seq ?_
      refine CJ.region ?_
      refine LJ.yd rfl (Yd.asI rfl) ?_
      refine LJ.nil ?_
      refine CJ.seq ?_
      refine CJ.seq ?_
      refine CJ.region ?_
      refine LJ.yd rfl (Yd.asI rfl) ?_
      refine LJ.nil ?_
      refine CJ.block ?_
      refine CJ.loopK [1, 4, 5, 6, 7, 8, 17, 18, 19, 20] (Nat × Int) (fun ⟨j, y⟩ => j ≤ K.length ∧ y = freeC (s.take k) (K.take j)) (fun ⟨j, y⟩ => [(10, vI j), (9, vI y)]) (fun ⟨j, y⟩ => K.length - j) (0, 0) ?_ ⟨rfl, rfl, trivial⟩ ?_
      · exact ⟨by omega, by simp [freeC]⟩
      · rintro ⟨j, y⟩ σ ⟨hj1, hy⟩
        have hyb := freeC_le (s.take k) (K.take j)
        have hyl : (K.take j).length = j := by simp; omega
        refine CJ.seq ?_
        refine CJ.seq ?_
        refine CJ.region ?_
        refine LJ.yd rfl (Yd.mvI rfl) ?_
        refine LJ.yd rfl (Yd.mvS rfl) ?_
        refine LJ.yd rfl (Yd.len rfl) ?_
        refine LJ.splitD rfl (Yd.lss rfl rfl) (fun h26 => ?_) (fun h26 => ?_)
        · refine LJ.nil ?_
          refine CJ.condT rfl ?_
          refine CJ.skip ?_
          refine CJ.seq ?_
          refine CJ.block ?_
          refine CJ.seq ?_
          obtain ⟨q, hq⟩ := someC (l := K) (j := j) (by simp at h26; omega)
          refine CJ.regionD [0, 1, 2, 3] [] (by kernel_rfl) rfl ?_
          refine DJ.norm [_, _, _, _] [] rfl rfl ?_
          refine DJ.yd 0 rfl (by kernel_rfl) (by kernel_rfl) (by kernel_rfl) rfl rfl (Yd.mvS rfl) ?_
          refine DJ.yd 1 rfl (by kernel_rfl) (by kernel_rfl) (by kernel_rfl) rfl rfl (Yd.mvI rfl) ?_
          refine DJ.idxF 2 rfl 2 rfl (by kernel_rfl) (by kernel_rfl) (by kernel_rfl) rfl rfl rfl rfl (by omega) (by first | rfl | omega | (simp; done) | (simp; omega) | (simp [upN_len]; omega) | (simp [idxBy_len]; omega) | (simp [marks_len]; omega) | (simp [upN_len]; done) | (simp [idxBy_len]; done) | (simp [marks_len]; done) | (simp at *; omega)) (by first | rfl | omega | (simp; done) | (simp; omega) | (simp [upN_len]; omega) | (simp [idxBy_len]; omega) | (simp [marks_len]; omega) | (simp [upN_len]; done) | (simp [idxBy_len]; done) | (simp [marks_len]; done) | (simp at *; omega)) (fun ib31 ia31 => ?_)
          refine DJ.ldF 3 rfl (by kernel_rfl) (by kernel_rfl) (by kernel_rfl) rfl rfl 2 0 (fun u => vI u) (fun _ => rfl) rfl ia31 rfl rfl (by first | rfl | omega | (simp; done) | (simp; omega) | (simp [upN_len]; omega) | (simp [idxBy_len]; omega) | (simp [marks_len]; omega) | (simp [upN_len]; done) | (simp [idxBy_len]; done) | (simp [marks_len]; done) | (simp at *; omega)) (fun u32 hu32 => ?_)
          try simp only [Int.toNat_natCast] at hu32
          rw [List.getElem?_map, hq] at hu32
          obtain rfl : q.2 = u32 := Option.some.inj hu32
          refine DJ.splitD 4 rfl (by kernel_rfl) (by kernel_rfl) (by kernel_rfl) rfl rfl (Yd.lss rfl rfl) (fun h33 => ?_) (fun h33 => ?_)
          · refine DJ.yd 5 rfl (by kernel_rfl) (by kernel_rfl) (by kernel_rfl) rfl rfl (Yd.mvB rfl) ?_
            refine DJ.skip 6 rfl (by kernel_rfl) (by kernel_rfl) (by kernel_rfl) rfl rfl ?_
            refine DJ.skip 7 rfl (by kernel_rfl) (by kernel_rfl) (by kernel_rfl) rfl rfl ?_
            refine DJ.skip 8 rfl (by kernel_rfl) (by kernel_rfl) (by kernel_rfl) rfl rfl ?_
            refine DJ.skip 9 rfl (by kernel_rfl) (by kernel_rfl) (by kernel_rfl) rfl rfl ?_
            refine DJ.skip 10 rfl (by kernel_rfl) (by kernel_rfl) (by kernel_rfl) rfl rfl ?_
            refine DJ.skip 11 rfl (by kernel_rfl) (by kernel_rfl) (by kernel_rfl) rfl rfl ?_
            refine DJ.skip 12 rfl (by kernel_rfl) (by kernel_rfl) (by kernel_rfl) rfl rfl ?_
            refine DJ.skip 13 rfl (by kernel_rfl) (by kernel_rfl) (by kernel_rfl) rfl rfl ?_
            refine DJ.skip 14 rfl (by kernel_rfl) (by kernel_rfl) (by kernel_rfl) rfl rfl ?_
            refine DJ.yd 15 rfl (by kernel_rfl) (by kernel_rfl) (by kernel_rfl) rfl rfl (Yd.pickTB rfl rfl) ?_
            refine DJ.yd 16 rfl (by kernel_rfl) (by kernel_rfl) (by kernel_rfl) rfl rfl (Yd.asB rfl) ?_
            refine DJ.done (by kernel_rfl) ?_
            refine CJ.seq ?_
            refine CJ.regionD [0, 1, 2, 3] [] (by kernel_rfl) rfl ?_
            refine DJ.norm [_, _, _, _] [] rfl rfl ?_
            refine DJ.yd 0 rfl (by kernel_rfl) (by kernel_rfl) (by kernel_rfl) rfl rfl (Yd.mvB rfl) ?_
            refine DJ.yd 1 rfl (by kernel_rfl) (by kernel_rfl) (by kernel_rfl) rfl rfl (Yd.mvB rfl) ?_
            refine DJ.yd 2 rfl (by kernel_rfl) (by kernel_rfl) (by kernel_rfl) rfl rfl (Yd.mvS rfl) ?_
            refine DJ.yd 3 rfl (by kernel_rfl) (by kernel_rfl) (by kernel_rfl) rfl rfl (Yd.mvI rfl) ?_
            refine DJ.slHA 4 rfl (by kernel_rfl) (by kernel_rfl) (by kernel_rfl) rfl rfl hs rfl rfl (by omega) (by first | rfl | omega | (simp; done) | (simp; omega) | (simp [upN_len]; omega) | (simp [idxBy_len]; omega) | (simp [marks_len]; omega) | (simp [upN_len]; done) | (simp [idxBy_len]; done) | (simp [marks_len]; done) | (simp at *; omega)) (fun e => RdL.none_cap hs (by omega) e) (RdL.spot0 hs (by omega)) (fun sm49 hsm49 hs49 => ?_)
            refine DJ.yd 5 rfl (by kernel_rfl) (by kernel_rfl) (by kernel_rfl) rfl rfl (Yd.mvS rfl) ?_
            refine DJ.yd 6 rfl (by kernel_rfl) (by kernel_rfl) (by kernel_rfl) rfl rfl (Yd.mvI rfl) ?_
            refine DJ.idxF 1 rfl 7 rfl (by kernel_rfl) (by kernel_rfl) (by kernel_rfl) rfl rfl rfl rfl (by omega) (by first | rfl | omega | (simp; done) | (simp; omega) | (simp [upN_len]; omega) | (simp [idxBy_len]; omega) | (simp [marks_len]; omega) | (simp [upN_len]; done) | (simp [idxBy_len]; done) | (simp [marks_len]; done) | (simp at *; omega)) (by first | rfl | omega | (simp; done) | (simp; omega) | (simp [upN_len]; omega) | (simp [idxBy_len]; omega) | (simp [marks_len]; omega) | (simp [upN_len]; done) | (simp [idxBy_len]; done) | (simp [marks_len]; done) | (simp at *; omega)) (fun ib52 ia52 => ?_)
            refine DJ.ldF 8 rfl (by kernel_rfl) (by kernel_rfl) (by kernel_rfl) rfl rfl 1 0 (fun u => vI u) (fun _ => rfl) rfl ia52 rfl rfl (by first | rfl | omega | (simp; done) | (simp; omega) | (simp [upN_len]; omega) | (simp [idxBy_len]; omega) | (simp [marks_len]; omega) | (simp [upN_len]; done) | (simp [idxBy_len]; done) | (simp [marks_len]; done) | (simp at *; omega)) (fun u53 hu53 => ?_)
            try simp only [Int.toNat_natCast] at hu53
            rw [List.getElem?_map, hq] at hu53
            obtain rfl : q.1 = u53 := Option.some.inj hu53
            refine DJ.one (i := 9) (by kernel_rfl) ?_
            refine DO.callV rfl rfl rfl (fun k0 hk0 dk0 k hk dk => placeIn_ok (RdRow.up hs49)) ?_
            refine DJ.splitD 10 rfl (by kernel_rfl) (by kernel_rfl) (by kernel_rfl) rfl rfl (Yd.lss rfl rfl) (fun h55 => ?_) (fun h55 => ?_)
            · refine DJ.yd 11 rfl (by kernel_rfl) (by kernel_rfl) (by kernel_rfl) rfl rfl (Yd.pickTB rfl rfl) ?_
              refine DJ.done (by kernel_rfl) ?_
              refine CJ.condT rfl ?_
              refine CJ.region ?_
              refine LJ.yd rfl (Yd.mvI rfl) ?_
              refine LJ.yd rfl (Yd.add rfl rfl (by unfold I64; omega)) ?_
              refine LJ.yd rfl (Yd.asI rfl) ?_
              refine LJ.nil ?_
              refine CJ.region ?_
              refine LJ.yd rfl (Yd.mvI rfl) ?_
              refine LJ.yd rfl (Yd.add rfl rfl (by unfold I64; omega)) ?_
              refine LJ.yd rfl (Yd.asI rfl) ?_
              refine LJ.nil ?_
              refine ⟨(j + 1, _), ?_, ⟨rfl, rfl, rfl, rfl, rfl, rfl, rfl, rfl, rfl, rfl, trivial⟩, ⟨rfl, rfl, trivial⟩, Ent.refl _, ?_⟩
              · have hjl : j < K.length := by simp at h26; omega
                refine ⟨by omega, ?_⟩
                rw [freeC_take _ hq, hy]
                first
                  | (obtain rfl : sm49 = k := by omega
                     first
                       | (rw [freeC_T (.inl h33) h55]; done)
                       | (obtain rfl : sm37 = sm49 := by omega
                          rw [freeC_T (.inr h43) h55]; done)
                       | (rw [freeC_F2 h55, Int.add_zero]; done))
                  | (obtain rfl : sm37 = k := by omega
                     rw [freeC_F1 h33 h43, Int.add_zero])
              · simp at h26; show K.length - (j + 1) < K.length - j; omega
            · refine DJ.yd 11 rfl (by kernel_rfl) (by kernel_rfl) (by kernel_rfl) rfl rfl (Yd.pickTB rfl rfl) ?_
              refine DJ.done (by kernel_rfl) ?_
              refine CJ.condF rfl ?_
              refine CJ.skip ?_
              refine CJ.region ?_
              refine LJ.yd rfl (Yd.mvI rfl) ?_
              refine LJ.yd rfl (Yd.add rfl rfl (by unfold I64; omega)) ?_
              refine LJ.yd rfl (Yd.asI rfl) ?_
              refine LJ.nil ?_
              refine ⟨(j + 1, _), ?_, ⟨rfl, rfl, rfl, rfl, rfl, rfl, rfl, rfl, rfl, rfl, trivial⟩, ⟨rfl, rfl, trivial⟩, Ent.refl _, ?_⟩
              · have hjl : j < K.length := by simp at h26; omega
                refine ⟨by omega, ?_⟩
                rw [freeC_take _ hq, hy]
                first
                  | (obtain rfl : sm49 = k := by omega
                     first
                       | (rw [freeC_T (.inl h33) h55]; done)
                       | (obtain rfl : sm37 = sm49 := by omega
                          rw [freeC_T (.inr h43) h55]; done)
                       | (rw [freeC_F2 h55, Int.add_zero]; done))
                  | (obtain rfl : sm37 = k := by omega
                     rw [freeC_F1 h33 h43, Int.add_zero])
              · simp at h26; show K.length - (j + 1) < K.length - j; omega
          · refine DJ.yd 5 rfl (by kernel_rfl) (by kernel_rfl) (by kernel_rfl) rfl rfl (Yd.mvB rfl) ?_
            refine DJ.yd 6 rfl (by kernel_rfl) (by kernel_rfl) (by kernel_rfl) rfl rfl (Yd.mvS rfl) ?_
            refine DJ.yd 7 rfl (by kernel_rfl) (by kernel_rfl) (by kernel_rfl) rfl rfl (Yd.mvI rfl) ?_
            refine DJ.slHA 8 rfl (by kernel_rfl) (by kernel_rfl) (by kernel_rfl) rfl rfl hs rfl rfl (by omega) (by first | rfl | omega | (simp; done) | (simp; omega) | (simp [upN_len]; omega) | (simp [idxBy_len]; omega) | (simp [marks_len]; omega) | (simp [upN_len]; done) | (simp [idxBy_len]; done) | (simp [marks_len]; done) | (simp at *; omega)) (fun e => RdL.none_cap hs (by omega) e) (RdL.spot0 hs (by omega)) (fun sm37 hsm37 hs37 => ?_)
            refine DJ.yd 9 rfl (by kernel_rfl) (by kernel_rfl) (by kernel_rfl) rfl rfl (Yd.mvS rfl) ?_
            refine DJ.yd 10 rfl (by kernel_rfl) (by kernel_rfl) (by kernel_rfl) rfl rfl (Yd.mvI rfl) ?_
            refine DJ.idxF 2 rfl 11 rfl (by kernel_rfl) (by kernel_rfl) (by kernel_rfl) rfl rfl rfl rfl (by omega) (by first | rfl | omega | (simp; done) | (simp; omega) | (simp [upN_len]; omega) | (simp [idxBy_len]; omega) | (simp [marks_len]; omega) | (simp [upN_len]; done) | (simp [idxBy_len]; done) | (simp [marks_len]; done) | (simp at *; omega)) (by first | rfl | omega | (simp; done) | (simp; omega) | (simp [upN_len]; omega) | (simp [idxBy_len]; omega) | (simp [marks_len]; omega) | (simp [upN_len]; done) | (simp [idxBy_len]; done) | (simp [marks_len]; done) | (simp at *; omega)) (fun ib40 ia40 => ?_)
            refine DJ.ldF 12 rfl (by kernel_rfl) (by kernel_rfl) (by kernel_rfl) rfl rfl 2 0 (fun u => vI u) (fun _ => rfl) rfl ia40 rfl rfl (by first | rfl | omega | (simp; done) | (simp; omega) | (simp [upN_len]; omega) | (simp [idxBy_len]; omega) | (simp [marks_len]; omega) | (simp [upN_len]; done) | (simp [idxBy_len]; done) | (simp [marks_len]; done) | (simp at *; omega)) (fun u41 hu41 => ?_)
            try simp only [Int.toNat_natCast] at hu41
            rw [List.getElem?_map, hq] at hu41
            obtain rfl : q.2 = u41 := Option.some.inj hu41
            refine DJ.one (i := 13) (by kernel_rfl) ?_
            refine DO.callV rfl rfl rfl (fun k0 hk0 dk0 k hk dk => placeIn_ok (RdRow.up hs37)) ?_
            refine DJ.splitD 14 rfl (by kernel_rfl) (by kernel_rfl) (by kernel_rfl) rfl rfl (Yd.geq rfl rfl) (fun h43 => ?_) (fun h43 => ?_)
            · refine DJ.yd 15 rfl (by kernel_rfl) (by kernel_rfl) (by kernel_rfl) rfl rfl (Yd.pickFB rfl rfl) ?_
              refine DJ.yd 16 rfl (by kernel_rfl) (by kernel_rfl) (by kernel_rfl) rfl rfl (Yd.asB rfl) ?_
              refine DJ.done (by kernel_rfl) ?_
              refine CJ.seq ?_
              refine CJ.regionD [0, 1, 2, 3] [] (by kernel_rfl) rfl ?_
              refine DJ.norm [_, _, _, _] [] rfl rfl ?_
              refine DJ.yd 0 rfl (by kernel_rfl) (by kernel_rfl) (by kernel_rfl) rfl rfl (Yd.mvB rfl) ?_
              refine DJ.yd 1 rfl (by kernel_rfl) (by kernel_rfl) (by kernel_rfl) rfl rfl (Yd.mvB rfl) ?_
              refine DJ.yd 2 rfl (by kernel_rfl) (by kernel_rfl) (by kernel_rfl) rfl rfl (Yd.mvS rfl) ?_
              refine DJ.yd 3 rfl (by kernel_rfl) (by kernel_rfl) (by kernel_rfl) rfl rfl (Yd.mvI rfl) ?_
              refine DJ.slHA 4 rfl (by kernel_rfl) (by kernel_rfl) (by kernel_rfl) rfl rfl hs rfl rfl (by omega) (by first | rfl | omega | (simp; done) | (simp; omega) | (simp [upN_len]; omega) | (simp [idxBy_len]; omega) | (simp [marks_len]; omega) | (simp [upN_len]; done) | (simp [idxBy_len]; done) | (simp [marks_len]; done) | (simp at *; omega)) (fun e => RdL.none_cap hs (by omega) e) (RdL.spot0 hs (by omega)) (fun sm49 hsm49 hs49 => ?_)
              refine DJ.yd 5 rfl (by kernel_rfl) (by kernel_rfl) (by kernel_rfl) rfl rfl (Yd.mvS rfl) ?_
              refine DJ.yd 6 rfl (by kernel_rfl) (by kernel_rfl) (by kernel_rfl) rfl rfl (Yd.mvI rfl) ?_
              refine DJ.idxF 1 rfl 7 rfl (by kernel_rfl) (by kernel_rfl) (by kernel_rfl) rfl rfl rfl rfl (by omega) (by first | rfl | omega | (simp; done) | (simp; omega) | (simp [upN_len]; omega) | (simp [idxBy_len]; omega) | (simp [marks_len]; omega) | (simp [upN_len]; done) | (simp [idxBy_len]; done) | (simp [marks_len]; done) | (simp at *; omega)) (by first | rfl | omega | (simp; done) | (simp; omega) | (simp [upN_len]; omega) | (simp [idxBy_len]; omega) | (simp [marks_len]; omega) | (simp [upN_len]; done) | (simp [idxBy_len]; done) | (simp [marks_len]; done) | (simp at *; omega)) (fun ib52 ia52 => ?_)
              refine DJ.ldF 8 rfl (by kernel_rfl) (by kernel_rfl) (by kernel_rfl) rfl rfl 1 0 (fun u => vI u) (fun _ => rfl) rfl ia52 rfl rfl (by first | rfl | omega | (simp; done) | (simp; omega) | (simp [upN_len]; omega) | (simp [idxBy_len]; omega) | (simp [marks_len]; omega) | (simp [upN_len]; done) | (simp [idxBy_len]; done) | (simp [marks_len]; done) | (simp at *; omega)) (fun u53 hu53 => ?_)
              try simp only [Int.toNat_natCast] at hu53
              rw [List.getElem?_map, hq] at hu53
              obtain rfl : q.1 = u53 := Option.some.inj hu53
              refine DJ.one (i := 9) (by kernel_rfl) ?_
              refine DO.callV rfl rfl rfl (fun k0 hk0 dk0 k hk dk => placeIn_ok (RdRow.up hs49)) ?_
              refine DJ.splitD 10 rfl (by kernel_rfl) (by kernel_rfl) (by kernel_rfl) rfl rfl (Yd.lss rfl rfl) (fun h55 => ?_) (fun h55 => ?_)
              · refine DJ.yd 11 rfl (by kernel_rfl) (by kernel_rfl) (by kernel_rfl) rfl rfl (Yd.pickTB rfl rfl) ?_
                refine DJ.done (by kernel_rfl) ?_
                refine CJ.condT rfl ?_
                refine CJ.region ?_
                refine LJ.yd rfl (Yd.mvI rfl) ?_
                refine LJ.yd rfl (Yd.add rfl rfl (by unfold I64; omega)) ?_
                refine LJ.yd rfl (Yd.asI rfl) ?_
                refine LJ.nil ?_
                refine CJ.region ?_
                refine LJ.yd rfl (Yd.mvI rfl) ?_
                refine LJ.yd rfl (Yd.add rfl rfl (by unfold I64; omega)) ?_
                refine LJ.yd rfl (Yd.asI rfl) ?_
                refine LJ.nil ?_
                refine ⟨(j + 1, _), ?_, ⟨rfl, rfl, rfl, rfl, rfl, rfl, rfl, rfl, rfl, rfl, trivial⟩, ⟨rfl, rfl, trivial⟩, Ent.refl _, ?_⟩
                · have hjl : j < K.length := by simp at h26; omega
                  refine ⟨by omega, ?_⟩
                  rw [freeC_take _ hq, hy]
                  first
                    | (obtain rfl : sm49 = k := by omega
                       first
                         | (rw [freeC_T (.inl h33) h55]; done)
                         | (obtain rfl : sm37 = sm49 := by omega
                            rw [freeC_T (.inr h43) h55]; done)
                         | (rw [freeC_F2 h55, Int.add_zero]; done))
                    | (obtain rfl : sm37 = k := by omega
                       rw [freeC_F1 h33 h43, Int.add_zero])
                · simp at h26; show K.length - (j + 1) < K.length - j; omega
              · refine DJ.yd 11 rfl (by kernel_rfl) (by kernel_rfl) (by kernel_rfl) rfl rfl (Yd.pickTB rfl rfl) ?_
                refine DJ.done (by kernel_rfl) ?_
                refine CJ.condF rfl ?_
                refine CJ.skip ?_
                refine CJ.region ?_
                refine LJ.yd rfl (Yd.mvI rfl) ?_
                refine LJ.yd rfl (Yd.add rfl rfl (by unfold I64; omega)) ?_
                refine LJ.yd rfl (Yd.asI rfl) ?_
                refine LJ.nil ?_
                refine ⟨(j + 1, _), ?_, ⟨rfl, rfl, rfl, rfl, rfl, rfl, rfl, rfl, rfl, rfl, trivial⟩, ⟨rfl, rfl, trivial⟩, Ent.refl _, ?_⟩
                · have hjl : j < K.length := by simp at h26; omega
                  refine ⟨by omega, ?_⟩
                  rw [freeC_take _ hq, hy]
                  first
                    | (obtain rfl : sm49 = k := by omega
                       first
                         | (rw [freeC_T (.inl h33) h55]; done)
                         | (obtain rfl : sm37 = sm49 := by omega
                            rw [freeC_T (.inr h43) h55]; done)
                         | (rw [freeC_F2 h55, Int.add_zero]; done))
                    | (obtain rfl : sm37 = k := by omega
                       rw [freeC_F1 h33 h43, Int.add_zero])
                · simp at h26; show K.length - (j + 1) < K.length - j; omega
            · refine DJ.yd 15 rfl (by kernel_rfl) (by kernel_rfl) (by kernel_rfl) rfl rfl (Yd.pickFB rfl rfl) ?_
              refine DJ.yd 16 rfl (by kernel_rfl) (by kernel_rfl) (by kernel_rfl) rfl rfl (Yd.asB rfl) ?_
              refine DJ.done (by kernel_rfl) ?_
              refine CJ.seq ?_
              refine CJ.regionD [0, 1, 2, 3] [] (by kernel_rfl) rfl ?_
              refine DJ.norm [_, _, _, _] [] rfl rfl ?_
              refine DJ.yd 0 rfl (by kernel_rfl) (by kernel_rfl) (by kernel_rfl) rfl rfl (Yd.mvB rfl) ?_
              refine DJ.yd 1 rfl (by kernel_rfl) (by kernel_rfl) (by kernel_rfl) rfl rfl (Yd.mvB rfl) ?_
              refine DJ.skip 2 rfl (by kernel_rfl) (by kernel_rfl) (by kernel_rfl) rfl rfl ?_
              refine DJ.skip 3 rfl (by kernel_rfl) (by kernel_rfl) (by kernel_rfl) rfl rfl ?_
              refine DJ.skip 4 rfl (by kernel_rfl) (by kernel_rfl) (by kernel_rfl) rfl rfl ?_
              refine DJ.skip 5 rfl (by kernel_rfl) (by kernel_rfl) (by kernel_rfl) rfl rfl ?_
              refine DJ.skip 6 rfl (by kernel_rfl) (by kernel_rfl) (by kernel_rfl) rfl rfl ?_
              refine DJ.skip 7 rfl (by kernel_rfl) (by kernel_rfl) (by kernel_rfl) rfl rfl ?_
              refine DJ.skip 8 rfl (by kernel_rfl) (by kernel_rfl) (by kernel_rfl) rfl rfl ?_
              refine DJ.skip 9 rfl (by kernel_rfl) (by kernel_rfl) (by kernel_rfl) rfl rfl ?_
              refine DJ.skip 10 rfl (by kernel_rfl) (by kernel_rfl) (by kernel_rfl) rfl rfl ?_
              refine DJ.yd 11 rfl (by kernel_rfl) (by kernel_rfl) (by kernel_rfl) rfl rfl (Yd.pickFB rfl rfl) ?_
              refine DJ.done (by kernel_rfl) ?_
              refine CJ.condF rfl ?_
              refine CJ.skip ?_
              refine CJ.region ?_
              refine LJ.yd rfl (Yd.mvI rfl) ?_
              refine LJ.yd rfl (Yd.add rfl rfl (by unfold I64; omega)) ?_
              refine LJ.yd rfl (Yd.asI rfl) ?_
              refine LJ.nil ?_
              refine ⟨(j + 1, _), ?_, ⟨rfl, rfl, rfl, rfl, rfl, rfl, rfl, rfl, rfl, rfl, trivial⟩, ⟨rfl, rfl, trivial⟩, Ent.refl _, ?_⟩
              · have hjl : j < K.length := by simp at h26; omega
                refine ⟨by omega, ?_⟩
                rw [freeC_take _ hq, hy]
                first
                  | (obtain rfl : sm49 = k := by omega
                     first
                       | (rw [freeC_T (.inl h33) h55]; done)
                       | (obtain rfl : sm37 = sm49 := by omega
                          rw [freeC_T (.inr h43) h55]; done)
                       | (rw [freeC_F2 h55, Int.add_zero]; done))
                  | (obtain rfl : sm37 = k := by omega
                     rw [freeC_F1 h33 h43, Int.add_zero])
              · simp at h26; show K.length - (j + 1) < K.length - j; omega
        · refine LJ.nil ?_
          refine CJ.condF rfl ?_
          refine CJ.exit ?_
          refine CJ.region ?_
          refine LJ.yd rfl (Yd.mvS rfl) ?_
          refine LJ.yd rfl (Yd.mvI rfl) ?_
          refine LJ.op rfl (OpR.buildSlice (cs := [_]) rfl rfl) ?_
          rintro _ _ ⟨b5, rfl, rfl⟩
          refine LJ.op rfl (OpR.apT (enc := encI) [_] 3 4 rfl rfl rfl (by first | rfl | omega | (simp; done) | (simp; omega) | (simp [upN_len]; omega) | (simp [idxBy_len]; omega) | (simp [marks_len]; omega) | (simp [upN_len]; done) | (simp [idxBy_len]; done) | (simp [marks_len]; done) | (simp at *; omega)) rfl rfl rfl rfl rfl (by first | rfl | omega | (simp; done) | (simp; omega) | (simp [upN_len]; omega) | (simp [idxBy_len]; omega) | (simp [marks_len]; omega) | (simp [upN_len]; done) | (simp [idxBy_len]; done) | (simp [marks_len]; done) | (simp at *; omega))) ?_
          rintro _ _ ⟨ra62, rc62, rfl, rfl⟩
          refine LJ.norm [_, _, _, _, _] rfl ?_
          refine LJ.yd rfl (Yd.asS rfl) ?_
          refine LJ.nil ?_
          refine CJ.region ?_
          refine LJ.yd rfl (Yd.mvI rfl) ?_
          refine LJ.yd rfl (Yd.add rfl rfl (by unfold I64; omega)) ?_
          refine LJ.yd rfl (Yd.asI rfl) ?_
          refine LJ.nil ?_
          refine ⟨(k + 1, _, _, _, _), ?_, ⟨rfl, rfl, rfl, rfl, trivial⟩, ⟨rfl, rfl, trivial⟩, Ent.pick [0, 1, 2, 3] [4] rfl, ?_⟩
          · refine ⟨(by first | rfl | omega | (simp; done) | (simp; omega) | (simp [upN_len]; omega) | (simp [idxBy_len]; omega) | (simp [marks_len]; omega) | (simp [upN_len]; done) | (simp [idxBy_len]; done) | (simp [marks_len]; done) | (simp at *; omega)), ?_⟩
            refine ⟨by omega, ?_⟩
            have hjk : j = K.length := by simp at *; omega
            obtain ⟨u, hu⟩ := someC (l := s) (j := k) (by omega)
            rw [dropC hu, waitS, ← takeC hu] at hg
            rw [hjk, List.take_length] at hy
            rw [hy]
            exact ⟨by rw [← hg, List.append_assoc]; rfl, by simp [hgl]⟩
          · first | omega | (dsimp only; omega) | (simp only []; omega)
    · refine LJ.nil ?_
      refine CJ.condF rfl ?_
      refine CJ.exit ?_
      refine CJ.seq ?_
      refine CJ.region ?_
      refine LJ.yd rfl (Yd.mvS rfl) ?_
      refine LJ.yd rfl (Yd.asS rfl) ?_
      refine LJ.nil ?_
      refine CJ.ret ?_
      refine Fin.RL 3 (Res.one (ResV.tmp (v := .slice _ _ _) rfl)) rfl (by first | rfl | omega | (simp; done) | (simp; omega) | (simp [upN_len]; omega) | (simp [idxBy_len]; omega) | (simp [marks_len]; omega) | (simp [upN_len]; done) | (simp [idxBy_len]; done) | (simp [marks_len]; done) | (simp at *; omega)) ?_
      rw [List.drop_of_length_le (by omega), waitS, List.append_nil] at hg; exact hg
theorem wait_same {b : BT} (hz : b.sz ≤ 255) {s : List Int} (hb : begOk (b.knots 0 (-1)) [] s = true) : waitS (b.knots 0 (-1)) [] s = waitI (b.knots 0 (-1)) 1 s := by
  have h1 := wait_eq (BT.kok hz) s [] (fun q _ h => by cases h) hb
  rw [freeC_nil] at h1
  rw [← h1]
  cases s with
  | nil => rfl
  | cons n r =>
    simp only [begOk, Bool.and_eq_true] at hb
    have := (okStep_iff.1 hb.1).1
    cases b with
    | w => simp [BT.knots] at this
    | p => simp [BT.knots] at this
    | c => rfl
theorem WaitingOfS_ok {A : Amb} {cs : List Value} {q : Plan} {w : Value} {s : List Int} (h : RdPlan A.h cs q) (hs : RdL encI 1 A.h w s) : Ctr Try.prog 46 #[.agg cs.toArray, w] A [] (RLP encI 3 1 (wtP q s)) := by
  have hs0 := hs
  obtain ⟨o, a, p, t, kids, v, css, e, hcs, ho, ha, hp, ⟨⟨sa, sc, rfl, hm, hrow⟩, hlen⟩, hk⟩ := h.inv
  obtain ⟨wa, wc, rfl, hsb, hs⟩ := hs.un
  unfold wtP
  by_cases hq : psz q < 0
  · rw [if_neg (by rw [vsOk_iff]; exact fun h => h.1 hq)]
    subst hcs
    refine Ctr.body (args := [_, _]) Try.func46 rfl Try.ntmps46 Try.results46 (by simp) ?_
    refine CJ.seq ?_
    refine CJ.region ?_
    refine LJ.boxG (vs := [_, _, _, _, _]) rfl rfl (fun b1 => ?_)
    refine LJ.yd rfl (Yd.asS rfl) ?_
    refine LJ.nil ?_
    refine CJ.seq ?_
    refine CJ.seq ?_
    refine CJ.region ?_
    refine LJ.yd rfl (Yd.loadG (us := [_, _, _, _, _]) 0 rfl rfl rfl rfl) ?_
    refine LJ.callV rfl (fun k hk dk => planSizeS_ok h.up) ?_
    refine LJ.yd rfl (Yd.cmpT (Yd.lss rfl rfl) (by omega)) ?_
    refine LJ.yd rfl (Yd.mvB rfl) ?_
    refine LJ.gF rfl rfl ?_
    refine LJ.gF rfl rfl ?_
    refine LJ.gF rfl rfl ?_
    refine LJ.gF rfl rfl ?_
    refine LJ.yd rfl (Yd.pickTB rfl rfl) ?_
    refine LJ.nil ?_
    refine CJ.condT rfl ?_
    refine CJ.seq ?_
    refine CJ.region ?_
    refine LJ.yd rfl (Yd.asS rfl) ?_
    refine LJ.nil ?_
    refine CJ.ret ?_
    refine Fin.RN (Res.one (ResV.tmp (v := .slice _ _ _) rfl)) ?_
    rfl
  · obtain ⟨b, hb, hz, hkn⟩ := knP_S hq
    have hT : RdT A.h cs b := RdT.of b (hb ▸ h)
    have hkl := knots_len' (b := b) (n := 0) (ab := -1) hz
    have hvs : vsOk q s = (decide ((s.length : Int) = (b.knots 0 (-1)).length) && begOk (b.knots 0 (-1)) [] s) := by
      rw [vsOk, hkn, decide_eq_false hq]; rfl
    subst hcs
    rw [hkn, hvs]
    refine Ctr.body (args := [_, _]) Try.func46 rfl Try.ntmps46 Try.results46 (by simp) ?_
    refine CJ.seq ?_
    refine CJ.region ?_
    refine LJ.boxG (vs := [_, _, _, _, _]) rfl rfl (fun b1 => ?_)
    refine LJ.yd rfl (Yd.asS rfl) ?_
    refine LJ.nil ?_
    refine CJ.seq ?_
    refine CJ.seq ?_
    refine CJ.region ?_
    refine LJ.yd rfl (Yd.loadG (us := [_, _, _, _, _]) 0 rfl rfl rfl rfl) ?_
    refine LJ.callV rfl (fun k hk dk => planSizeS_ok h.up) ?_
    refine LJ.yd rfl (Yd.cmpF (Yd.lss rfl rfl) (by omega)) ?_
    refine LJ.yd rfl (Yd.mvB rfl) ?_
    refine LJ.gT rfl ?_
    refine LJ.yd rfl (Yd.loadG (us := [_, _, _, _, _]) 0 rfl rfl rfl rfl) ?_
    refine LJ.gT rfl ?_
    refine LJ.yd rfl (Yd.mvS rfl) ?_
    refine LJ.gT rfl ?_
    refine LJ.callB rfl (fun k hk dk => validSteps_ok hz hT.up hs.up) (fun h11 => ?_) (fun h11 => ?_)
    · refine LJ.gT rfl ?_
      refine LJ.yd rfl (Yd.not rfl) ?_
      refine LJ.yd rfl (Yd.pickFB rfl rfl) ?_
      refine LJ.nil ?_
      refine CJ.condF rfl ?_
      refine CJ.skip ?_
      refine CJ.seq ?_
      refine CJ.region ?_
      refine LJ.yd rfl (Yd.loadG (us := [_, _, _, _, _]) 0 rfl rfl rfl rfl) ?_
      refine LJ.yd rfl (Yd.mvS rfl) ?_
      refine LJ.call0 rfl (fun k hk dk => waiting_ok hz hT.up hs.up (by simp only [Bool.and_eq_true, decide_eq_true_eq] at h11; omega)) ?_
      rintro _ _ ⟨ra16, rc16, rfl, rfl⟩
      refine LJ.norm [_, _] rfl ?_
      refine LJ.yd rfl (Yd.asS rfl) ?_
      refine LJ.nil ?_
      refine CJ.ret ?_
      refine Fin.RL 1 (Res.one (ResV.tmp (v := .slice _ _ _) rfl)) rfl (by first | rfl | omega | (simp; done) | (simp; omega) | (simp [upN_len]; omega) | (simp [idxBy_len]; omega) | (simp [marks_len]; omega) | (simp [upN_len]; done) | (simp [idxBy_len]; done) | (simp [marks_len]; done) | (simp at *; omega)) ?_
      first
        | (rw [if_neg (by rw [h11]; simp)]; done)
        | (rw [if_pos h11]; simp only [Bool.and_eq_true] at h11; exact wait_same hz h11.2)
    · refine LJ.gT rfl ?_
      refine LJ.yd rfl (Yd.not rfl) ?_
      refine LJ.yd rfl (Yd.pickFB rfl rfl) ?_
      refine LJ.nil ?_
      refine CJ.condT rfl ?_
      refine CJ.seq ?_
      refine CJ.region ?_
      refine LJ.yd rfl (Yd.asS rfl) ?_
      refine LJ.nil ?_
      refine CJ.ret ?_
      refine Fin.RN (Res.one (ResV.tmp (v := .slice _ _ _) rfl)) ?_
      first
        | (rw [if_neg (by rw [h11]; simp)]; done)
        | (rw [if_pos h11]; simp only [Bool.and_eq_true] at h11; exact wait_same hz h11.2)
end Go.Proofs.Ytfnnhekbgjofoaa
