/-
  The exact laws on partners and pairs.
-/
import Derived.Test.YtbgalcjkmgdaiaaS5
import Derived.Test.YtbgalcjkmgdaiaaJ11
import Derived.Test.YtbgalcjkmgdaiaaA7
namespace Go.Proofs.Ytbgalcjkmgdaiaa
open Go
set_option maxRecDepth 20000
set_option maxHeartbeats 1000000

theorem sortK_ok {A : Amb} {F : FuncId} {caps : List Value} {b : List Int} {g c n : Nat} [TyFn Try.prog F] (hc : Cmp A F caps (fun x => 0 ≤ x ∧ x < n) (ltR b)) (h2 : n < 40) :
    Ctr Try.prog 67 #[.slice (some ⟨g, 0, none⟩) n c, .func (.func F) #[] caps.toArray] A [LR encI 3 1 (some ⟨g, 0, none⟩) c (upN n)] (fun v gs => v = .tuple #[] ∧ gs = [LR encI 3 1 (some ⟨g, 0, none⟩) c (idxBy (ltR b) n)]) := by
  by_cases h1 : n ≤ 20
  · exact sortS_ok hc (fun x hx => upN_mem.1 hx) (by rw [upN_len]; exact h1) (upN_len n).symm
  · have hul := upN_len n
    refine Ctr.body (args := [_, _]) Try.func67 rfl Try.ntmps67 Try.results67 (by simp) ?_
    refine CJ.region ?_
    refine LJ.yd rfl (Yd.mvS rfl) ?_
    refine LJ.yd rfl (Yd.mvS rfl) ?_
    refine LJ.yd rfl (Yd.len rfl) ?_
    refine LJ.yd rfl (Yd.mvF rfl) ?_
    refine LJ.call (pickF _ []) (pickF _ [0]) rfl (perm_pickF _ [] [0] rfl) (fun k hk dk => stable2_ok hc.up (by omega) h2) ?_
    rintro _ _ ⟨rfl, rfl⟩
    refine LJ.norm [_] rfl ?_
    refine LJ.nil ?_
    refine Fin.ofRet ?_
    exact Fin.R [_] Res.none ⟨rfl, rfl⟩ (Ent.refl _)
theorem indicesByK_ok {A : Amb} {F : FuncId} {caps : List Value} {b : List Int} {n : Nat} [TyFn Try.prog F] (hc : Cmp A F caps (fun x => 0 ≤ x ∧ x < n) (ltR b)) (h1 : n < 40) :
    Ctr Try.prog 46 #[vI n, .func (.func F) #[] caps.toArray] A [] (RLP encI 3 1 (idxBy (ltR b) n)) := by
  refine Ctr.body (args := [_, _]) Try.func46 rfl Try.ntmps46 Try.results46 (by simp) ?_
  refine CJ.seq ?_
  refine CJ.region ?_
  refine LJ.yd rfl (Yd.asS rfl) ?_
  refine LJ.nil ?_
  refine CJ.seq ?_
  refine CJ.region ?_
  refine LJ.yd rfl (Yd.mvI rfl) ?_
  refine LJ.op rfl (OpR.mk (enc := encI) (0 : Int) (m := n) rfl rfl rfl (by first | rfl | omega | (simp; done) | (simp; omega) | (simp [upN_len]; omega) | (simp [idxBy_len]; omega) | (simp [marks_len]; omega) | (simp [upN_len]; done) | (simp [idxBy_len]; done) | (simp [marks_len]; done) | (simp at *; omega))) ?_
  rintro _ _ ⟨g8, rfl, rfl⟩
  refine LJ.norm [_] rfl ?_
  refine LJ.yd rfl (Yd.asS rfl) ?_
  refine LJ.nil ?_
  refine CJ.seq ?_
  refine CJ.seq ?_
  refine CJ.region ?_
  refine LJ.yd rfl (Yd.mvS rfl) ?_
  refine LJ.yd rfl (Yd.len rfl) ?_
  refine LJ.yd rfl (Yd.mvI rfl) ?_
  refine LJ.nil ?_
  refine CJ.block ?_
  refine CJ.loopF [1, 4, 5, 10] Nat (fun k => k ≤ n) (fun k => [(11, vI k)]) (fun k => [LR encI 3 1 (some ⟨g8, 0, none⟩) n (upN k ++ List.replicate (n - k) 0)]) (fun k => n - k) (0) [] [] [0] rfl rfl rfl ?_ ⟨rfl, trivial⟩ ?_
  · exact by omega
  · rintro k σ hk1
    refine CJ.norm [_] rfl ?_
    refine CJ.seq ?_
    refine CJ.region ?_
    refine LJ.splitD rfl (Yd.lss rfl rfl) (fun h12 => ?_) (fun h12 => ?_)
    · refine LJ.nil ?_
      refine CJ.seq ?_
      refine CJ.condT rfl ?_
      refine CJ.skip ?_
      refine CJ.seq ?_
      refine CJ.block ?_
      refine CJ.seq ?_
      refine CJ.region ?_
      refine LJ.yd rfl (Yd.mvI rfl) ?_
      refine LJ.yd rfl (Yd.asI rfl) ?_
      refine LJ.nil ?_
      refine CJ.region ?_
      refine LJ.yd rfl (Yd.mvS rfl) ?_
      refine LJ.yd rfl (Yd.mvI rfl) ?_
      refine LJ.yd rfl (Yd.mvI rfl) ?_
      refine LJ.idxR 0 rfl rfl rfl rfl (by omega) (by omega) (by simp [upN_len]; omega) (fun ib17 ia17 => ?_)
      refine LJ.op rfl (OpR.st1 (enc := encI) (e1 := fun u => vI u) 0 (fun _ => rfl) (fun _ => rfl) (fun _ => rfl) rfl ia17 rfl rfl rfl (by simp [upN_len]; omega)) ?_
      rintro _ _ ⟨rfl, rfl⟩
      refine LJ.norm [_] rfl ?_
      refine LJ.nil ?_
      refine CJ.norm [LR encI 3 1 (some ⟨g8, 0, none⟩) n (upN (k + 1) ++ List.replicate (n - (k + 1)) 0)] (by rw [← upN_set (by omega)]; rfl) ?_
      refine CJ.region ?_
      refine LJ.yd rfl (Yd.add rfl rfl (by unfold I64; omega)) ?_
      refine LJ.yd rfl (Yd.mvI rfl) ?_
      refine LJ.nil ?_
      refine ⟨(k + 1), ?_, ⟨rfl, rfl, rfl, rfl, trivial⟩, ⟨rfl, trivial⟩, Ent.refl _, ?_⟩
      · omega
      · first | omega | (dsimp only; omega) | (simp only []; omega)
    · refine LJ.nil ?_
      refine CJ.seq ?_
      refine CJ.condF rfl ?_
      refine CJ.exit ?_
      refine CJ.seq ?_
      have e2 : upN k ++ List.replicate (n - k) 0 = upN n := by
        obtain rfl : k = n := by omega
        simp
      rw [e2]
      refine CJ.region ?_
      refine LJ.yd rfl (Yd.mvS rfl) ?_
      refine LJ.yd rfl (Yd.mvF rfl) ?_
      refine LJ.call (pickF _ []) (pickF _ [0]) rfl (perm_pickF _ [] [0] rfl) (fun k hk dk => sortK_ok hc.up h1) ?_
      rintro _ _ ⟨rfl, rfl⟩
      refine LJ.norm [_] rfl ?_
      refine LJ.nil ?_
      refine CJ.seq ?_
      refine CJ.region ?_
      refine LJ.yd rfl (Yd.mvS rfl) ?_
      refine LJ.yd rfl (Yd.asS rfl) ?_
      refine LJ.nil ?_
      refine CJ.ret ?_
      refine Fin.RL 0 (Res.one (ResV.tmp (v := .slice _ _ _) rfl)) rfl (idxBy_len _ n).symm ?_
      rfl
theorem PairUpK_ok {A : Amb} {v w : Value} {a b : List Int} {s : Int} (hl : RdL encI 1 A.h v a) (hl2 : RdL encI 1 A.h w b) : Ctr Try.prog 15 #[v, w, vI s] A [] (RLP encI 3 1 (puR a b s)) := by
  obtain ⟨la, lc, rfl, hlb, hl⟩ := hl.un
  obtain ⟨la2, lc2, rfl, hlb2, hl2⟩ := hl2.un
  refine Ctr.body (args := [_, _, _]) Try.func15 rfl Try.ntmps15 Try.results15 (by simp) ?_
  refine CJ.seq ?_
  refine CJ.region ?_
  refine LJ.box1 (v := .slice _ _ _) rfl rfl rfl (fun b1 => ?_)
  refine LJ.yd rfl (Yd.asS rfl) ?_
  refine LJ.nil ?_
  refine CJ.seq ?_
  refine CJ.seq ?_
  refine CJ.region ?_
  refine LJ.yd rfl (Yd.loadC 0 rfl rfl rfl) ?_
  refine LJ.yd rfl (Yd.mvS rfl) ?_
  refine LJ.yd rfl (Yd.mvI rfl) ?_
  refine LJ.callB rfl (fun k hk dk => validPairs_ok (RdRow.up hl) (RdRow.up hl2)) (fun h17 => ?_) (fun h17 => ?_)
  · refine LJ.yd rfl (Yd.not rfl) ?_
    refine LJ.nil ?_
    refine CJ.condF rfl ?_
    refine CJ.skip ?_
    refine CJ.seq ?_
    have hxl := idxBy_len (ltR a) a.length
    have hpo : PairOk a b s := of_decide_eq_true h17
    have ha := (szOk_iff.1 hpo.1).2
    have hb := (szOk_iff.1 hpo.2.1).2
    have han := (szOk_iff.1 hpo.1).1
    have hbn := (szOk_iff.1 hpo.2.1).1
    have hs0 := hpo.2.2.1
    have hs1 := hpo.2.2.2
    refine CJ.region ?_
    refine LJ.yd rfl (Yd.loadC 0 rfl rfl rfl) ?_
    refine LJ.yd rfl (Yd.len rfl) ?_
    refine LJ.op rfl (OpR.mk (enc := encI) (0 : Int) (m := a.length) rfl rfl rfl (by first | rfl | omega | (simp; done) | (simp; omega) | (simp [upN_len]; omega) | (simp [idxBy_len]; omega) | (simp [marks_len]; omega) | (simp [upN_len]; done) | (simp [idxBy_len]; done) | (simp [marks_len]; done) | (simp at *; omega))) ?_
    rintro _ _ ⟨g21, rfl, rfl⟩
    refine LJ.norm [_, _] rfl ?_
    refine LJ.yd rfl (Yd.asS rfl) ?_
    refine LJ.nil ?_
    refine CJ.seq ?_
    refine CJ.region ?_
    refine LJ.yd rfl (Yd.mvS rfl) ?_
    refine LJ.yd rfl (Yd.len rfl) ?_
    refine LJ.op rfl (OpR.mk (enc := encB) false (m := b.length) rfl rfl rfl (by first | rfl | omega | (simp; done) | (simp; omega) | (simp [upN_len]; omega) | (simp [idxBy_len]; omega) | (simp [marks_len]; omega) | (simp [upN_len]; done) | (simp [idxBy_len]; done) | (simp [marks_len]; done) | (simp at *; omega))) ?_
    rintro _ _ ⟨g24, rfl, rfl⟩
    refine LJ.norm [_, _, _] rfl ?_
    refine LJ.yd rfl (Yd.asS rfl) ?_
    refine LJ.nil ?_
    refine CJ.seq ?_
    refine CJ.seq ?_
    refine CJ.region ?_
    refine LJ.yd rfl (Yd.loadC 0 rfl rfl rfl) ?_
    refine LJ.yd rfl (Yd.len rfl) ?_
    refine LJ.yd rfl (Yd.makeFunc rfl) ?_
    refine LJ.call0 rfl (fun k hk dk => indicesByK_ok (pairCmp (Sts.cel hk dk 0 rfl rfl) hl.up ha) (by have := (szOk_iff.1 hpo.1).1; omega)) ?_
    rintro _ _ ⟨ra28, rc28, rfl, rfl⟩
    refine LJ.norm [_, _, _, _] rfl ?_
    refine LJ.yd rfl (Yd.len rfl) ?_
    refine LJ.yd rfl (Yd.mvI rfl) ?_
    refine LJ.nil ?_
    refine CJ.block ?_
    refine CJ.loopF [1, 2, 3, 6, 7, 8, 28, 29] (Nat × List Bool) (fun ⟨k, L⟩ => k ≤ a.length ∧ L.length = b.length ∧ ∀ (j : Nat) (t : Bool), L[j]? = some t → t = tkn (grP a b s ((idxBy (ltR a) a.length).take k)) j) (fun ⟨k, L⟩ => [(30, vI k)]) (fun ⟨k, L⟩ => [LR encI 3 1 (some ⟨g21, 0, none⟩) a.length (outP a.length 0 (grP a b s ((idxBy (ltR a) a.length).take k))), LR encB 4 1 (some ⟨g24, 0, none⟩) b.length L]) (fun ⟨k, L⟩ => a.length - k) (0, List.replicate b.length false) [_, _] [0, 3] [1, 2] rfl rfl rfl ?_ ⟨rfl, trivial⟩ ?_
    · exact ⟨by omega, by simp, fun j t h => by rw [List.getElem?_replicate] at h; split at h; cases h; rfl; cases h⟩
    · rintro ⟨k, L⟩ σ ⟨hk1, hL, hLt⟩
      refine CJ.norm [_, _, _, _] rfl ?_
      refine CJ.seq ?_
      refine CJ.region ?_
      refine LJ.splitD rfl (Yd.lss rfl rfl) (fun h31 => ?_) (fun h31 => ?_)
      · refine LJ.nil ?_
        refine CJ.seq ?_
        refine CJ.condT rfl ?_
        refine CJ.skip ?_
        refine CJ.seq ?_
        refine CJ.block ?_
        refine CJ.seq ?_
        refine CJ.region ?_
        refine LJ.idxR 1 rfl rfl rfl rfl (by omega) (by first | rfl | omega | (simp; done) | (simp; omega) | (simp [upN_len]; omega) | (simp [idxBy_len]; omega) | (simp [marks_len]; omega) | (simp [upN_len]; done) | (simp [idxBy_len]; done) | (simp [marks_len]; done) | (simp at *; omega)) (by first | rfl | omega | (simp; done) | (simp; omega) | (simp [upN_len]; omega) | (simp [idxBy_len]; omega) | (simp [marks_len]; omega) | (simp [upN_len]; done) | (simp [idxBy_len]; done) | (simp [marks_len]; done) | (simp at *; omega)) (fun ib32 ia32 => ?_)
        refine LJ.ldR 1 0 (fun u => vI u) (fun _ => rfl) rfl ia32 rfl rfl rfl (by first | rfl | omega | (simp; done) | (simp; omega) | (simp [upN_len]; omega) | (simp [idxBy_len]; omega) | (simp [marks_len]; omega) | (simp [upN_len]; done) | (simp [idxBy_len]; done) | (simp [marks_len]; done) | (simp at *; omega)) (fun u33 hu33 => ?_)
        try simp only [Int.toNat_natCast] at hu33
        have hf33 := idxBy_mem.1 (List.mem_of_getElem? hu33)
        refine LJ.yd rfl (Yd.asI rfl) ?_
        refine LJ.nil ?_
        refine CJ.seq ?_
        refine CJ.region ?_
        refine LJ.yd rfl (Yd.asI rfl) ?_
        refine LJ.nil ?_
        refine CJ.seq ?_
        refine CJ.seq ?_
        refine CJ.region ?_
        refine LJ.yd rfl (Yd.mvS rfl) ?_
        refine LJ.yd rfl (Yd.len rfl) ?_
        refine LJ.yd rfl (Yd.mvI rfl) ?_
        refine LJ.nil ?_
        refine CJ.block ?_
        refine CJ.loopK [1, 2, 3, 6, 7, 8, 10, 28, 29, 30, 31, 32, 33, 34, 35] (Nat × Int) (fun ⟨j, p⟩ => j ≤ b.length ∧ p = scanF b (tkn (grP a b s ((idxBy (ltR a) a.length).take k))) (gt a u33 - s) j) (fun ⟨j, p⟩ => [(36, vI j), (11, vI p)]) (fun ⟨j, p⟩ => b.length - j) (0, -1) ?_ ⟨rfl, rfl, trivial⟩ ?_
        · exact ⟨by omega, by rfl⟩
        · rintro ⟨j, p⟩ σ ⟨hj1, hp⟩
          have hpb := scan_lt b (tkn (grP a b s ((idxBy (ltR a) a.length).take k))) (gt a u33 - s) j
          rw [← hp] at hpb
          refine CJ.seq ?_
          refine CJ.region ?_
          refine LJ.splitD rfl (Yd.lss rfl rfl) (fun h37 => ?_) (fun h37 => ?_)
          · refine LJ.nil ?_
            refine CJ.seq ?_
            refine CJ.condT rfl ?_
            refine CJ.skip ?_
            refine CJ.seq ?_
            refine CJ.block ?_
            refine CJ.seq ?_
            refine CJ.region ?_
            refine LJ.yd rfl (Yd.mvI rfl) ?_
            refine LJ.idxA rfl hl2 rfl rfl (by omega) (by first | rfl | omega | (simp; done) | (simp; omega) | (simp [upN_len]; omega) | (simp [idxBy_len]; omega) | (simp [marks_len]; omega) | (simp [upN_len]; done) | (simp [idxBy_len]; done) | (simp [marks_len]; done) | (simp at *; omega)) (fun ib39 io39 ia39 ir39 => ?_)
            refine LJ.ldA 0 (fun u => vI u) (fun _ => rfl) ir39 rfl rfl rfl (by first | rfl | omega | (simp; done) | (simp; omega) | (simp [upN_len]; omega) | (simp [idxBy_len]; omega) | (simp [marks_len]; omega) | (simp [upN_len]; done) | (simp [idxBy_len]; done) | (simp [marks_len]; done) | (simp at *; omega)) (fun u40 hu40 => ?_)
            try simp only [Int.toNat_natCast] at hu40
            have hf40 := hb u40 (List.mem_of_getElem? hu40)
            refine LJ.yd rfl (Yd.asI rfl) ?_
            refine LJ.yd rfl (Yd.asI rfl) ?_
            refine LJ.nil ?_
            refine CJ.seq ?_
            refine CJ.seq ?_
            refine CJ.region ?_
            refine LJ.yd rfl (Yd.mvS rfl) ?_
            refine LJ.yd rfl (Yd.mvI rfl) ?_
            refine LJ.idxR 3 rfl rfl rfl rfl (by omega) (by first | rfl | omega | (simp; done) | (simp; omega) | (simp [upN_len]; omega) | (simp [idxBy_len]; omega) | (simp [marks_len]; omega) | (simp [upN_len]; done) | (simp [idxBy_len]; done) | (simp [marks_len]; done) | (simp at *; omega)) (by first | rfl | omega | (simp; done) | (simp; omega) | (simp [upN_len]; omega) | (simp [idxBy_len]; omega) | (simp [marks_len]; omega) | (simp [upN_len]; done) | (simp [idxBy_len]; done) | (simp [marks_len]; done) | (simp at *; omega)) (fun ib43 ia43 => ?_)
            refine LJ.ldRB 3 0 (fun u => u) (fun _ => rfl) rfl ia43 rfl rfl rfl (by first | rfl | omega | (simp; done) | (simp; omega) | (simp [upN_len]; omega) | (simp [idxBy_len]; omega) | (simp [marks_len]; omega) | (simp [upN_len]; done) | (simp [idxBy_len]; done) | (simp [marks_len]; done) | (simp at *; omega)) (fun u44 hu44 h44 => ?_) (fun u44 hu44 h44 => ?_)
            · try simp only [Int.toNat_natCast] at hu44
              refine LJ.yd rfl (Yd.mvB rfl) ?_
              refine LJ.gF rfl rfl ?_
              refine LJ.gF rfl rfl ?_
              refine LJ.gF rfl rfl ?_
              refine LJ.gF rfl rfl ?_
              refine LJ.gF rfl rfl ?_
              refine LJ.gF rfl rfl ?_
              refine LJ.gF rfl rfl ?_
              refine LJ.gF rfl rfl ?_
              refine LJ.yd rfl (Yd.pickTB rfl rfl) ?_
              refine LJ.nil ?_
              refine CJ.condT rfl ?_
              refine CJ.exit ?_
              refine CJ.region ?_
              refine LJ.yd rfl (Yd.add rfl rfl (by unfold I64; omega)) ?_
              refine LJ.yd rfl (Yd.mvI rfl) ?_
              refine LJ.nil ?_
              refine ⟨(j + 1, _), ?_, ⟨rfl, rfl, rfl, rfl, rfl, rfl, rfl, rfl, rfl, rfl, rfl, rfl, rfl, rfl, rfl, trivial⟩, ⟨rfl, rfl, trivial⟩, Ent.refl _, ?_⟩
              · refine ⟨by omega, ?_⟩
                have e44 := hLt j _ hu44
                first
                  | (rw [scan_skip (.inl (e44.symm.trans h44))]; exact hp)
                  | (rw [scan_skip (.inr (by rw [gtC' hu40, gtC hu50]; exact h53))]; exact hp)
                  | (rw [scan_take (h44.symm.trans e44) (by rw [gtC' hu40, gtC hu50]; omega) (.inl (by rw [← hp]; exact h56))]; done)
                  | (rw [scan_take (h44.symm.trans e44) (by rw [gtC' hu40, gtC hu50]; omega) (.inr (by rw [← hp, gtC' hu40, gtC hu62]; exact h63))]; done)
                  | (rw [scan_keep (h44.symm.trans e44) (by rw [gtC' hu40, gtC hu50]; omega) (by rw [← hp]; omega) (by rw [← hp, gtC' hu40, gtC hu62]; omega)]; exact hp)
              · first | omega | (dsimp only; omega) | (simp only []; omega)
            · try simp only [Int.toNat_natCast] at hu44
              refine LJ.yd rfl (Yd.mvB rfl) ?_
              refine LJ.gT rfl ?_
              refine LJ.yd rfl (Yd.mvI rfl) ?_
              refine LJ.gT rfl ?_
              refine LJ.yd rfl (Yd.loadC 0 rfl rfl rfl) ?_
              refine LJ.gT rfl ?_
              refine LJ.yd rfl (Yd.mvI rfl) ?_
              refine LJ.gT rfl ?_
              refine LJ.idxA rfl hl rfl rfl (by omega) (by first | rfl | omega | (simp; done) | (simp; omega) | (simp [upN_len]; omega) | (simp [idxBy_len]; omega) | (simp [marks_len]; omega) | (simp [upN_len]; done) | (simp [idxBy_len]; done) | (simp [marks_len]; done) | (simp at *; omega)) (fun ib49 io49 ia49 ir49 => ?_)
              refine LJ.gT rfl ?_
              refine LJ.ldA 0 (fun u => vI u) (fun _ => rfl) ir49 rfl rfl rfl (by first | rfl | omega | (simp; done) | (simp; omega) | (simp [upN_len]; omega) | (simp [idxBy_len]; omega) | (simp [marks_len]; omega) | (simp [upN_len]; done) | (simp [idxBy_len]; done) | (simp [marks_len]; done) | (simp at *; omega)) (fun u50 hu50 => ?_)
              try simp only [Int.toNat_natCast] at hu50
              have hf50 := ha u50 (List.mem_of_getElem? hu50)
              refine LJ.gT rfl ?_
              refine LJ.yd rfl (Yd.mvI rfl) ?_
              refine LJ.gT rfl ?_
              refine LJ.yd rfl (Yd.sub rfl rfl (by unfold I64; omega)) ?_
              refine LJ.gT rfl ?_
              refine LJ.splitD rfl (Yd.lss rfl rfl) (fun h53 => ?_) (fun h53 => ?_)
              · refine LJ.yd rfl (Yd.pickFB rfl rfl) ?_
                refine LJ.nil ?_
                refine CJ.condT rfl ?_
                refine CJ.exit ?_
                refine CJ.region ?_
                refine LJ.yd rfl (Yd.add rfl rfl (by unfold I64; omega)) ?_
                refine LJ.yd rfl (Yd.mvI rfl) ?_
                refine LJ.nil ?_
                refine ⟨(j + 1, _), ?_, ⟨rfl, rfl, rfl, rfl, rfl, rfl, rfl, rfl, rfl, rfl, rfl, rfl, rfl, rfl, rfl, trivial⟩, ⟨rfl, rfl, trivial⟩, Ent.refl _, ?_⟩
                · refine ⟨by omega, ?_⟩
                  have e44 := hLt j _ hu44
                  first
                    | (rw [scan_skip (.inl (e44.symm.trans h44))]; exact hp)
                    | (rw [scan_skip (.inr (by rw [gtC' hu40, gtC hu50]; exact h53))]; exact hp)
                    | (rw [scan_take (h44.symm.trans e44) (by rw [gtC' hu40, gtC hu50]; omega) (.inl (by rw [← hp]; exact h56))]; done)
                    | (rw [scan_take (h44.symm.trans e44) (by rw [gtC' hu40, gtC hu50]; omega) (.inr (by rw [← hp, gtC' hu40, gtC hu62]; exact h63))]; done)
                    | (rw [scan_keep (h44.symm.trans e44) (by rw [gtC' hu40, gtC hu50]; omega) (by rw [← hp]; omega) (by rw [← hp, gtC' hu40, gtC hu62]; omega)]; exact hp)
                · first | omega | (dsimp only; omega) | (simp only []; omega)
              · refine LJ.yd rfl (Yd.pickFB rfl rfl) ?_
                refine LJ.nil ?_
                refine CJ.condF rfl ?_
                refine CJ.skip ?_
                refine CJ.seq ?_
                refine CJ.region ?_
                refine LJ.yd rfl (Yd.mvI rfl) ?_
                refine LJ.splitD rfl (Yd.lss rfl rfl) (fun h56 => ?_) (fun h56 => ?_)
                · refine LJ.yd rfl (Yd.mvB rfl) ?_
                  refine LJ.gF rfl rfl ?_
                  refine LJ.gF rfl rfl ?_
                  refine LJ.gF rfl rfl ?_
                  refine LJ.gF rfl rfl ?_
                  refine LJ.gF rfl rfl ?_
                  refine LJ.gF rfl rfl ?_
                  refine LJ.yd rfl (Yd.pickTB rfl rfl) ?_
                  refine LJ.nil ?_
                  refine CJ.condT rfl ?_
                  refine CJ.region ?_
                  refine LJ.yd rfl (Yd.mvI rfl) ?_
                  refine LJ.yd rfl (Yd.asI rfl) ?_
                  refine LJ.nil ?_
                  refine CJ.region ?_
                  refine LJ.yd rfl (Yd.add rfl rfl (by unfold I64; omega)) ?_
                  refine LJ.yd rfl (Yd.mvI rfl) ?_
                  refine LJ.nil ?_
                  refine ⟨(j + 1, _), ?_, ⟨rfl, rfl, rfl, rfl, rfl, rfl, rfl, rfl, rfl, rfl, rfl, rfl, rfl, rfl, rfl, trivial⟩, ⟨rfl, rfl, trivial⟩, Ent.refl _, ?_⟩
                  · refine ⟨by omega, ?_⟩
                    have e44 := hLt j _ hu44
                    first
                      | (rw [scan_skip (.inl (e44.symm.trans h44))]; exact hp)
                      | (rw [scan_skip (.inr (by rw [gtC' hu40, gtC hu50]; exact h53))]; exact hp)
                      | (rw [scan_take (h44.symm.trans e44) (by rw [gtC' hu40, gtC hu50]; omega) (.inl (by rw [← hp]; exact h56))]; done)
                      | (rw [scan_take (h44.symm.trans e44) (by rw [gtC' hu40, gtC hu50]; omega) (.inr (by rw [← hp, gtC' hu40, gtC hu62]; exact h63))]; done)
                      | (rw [scan_keep (h44.symm.trans e44) (by rw [gtC' hu40, gtC hu50]; omega) (by rw [← hp]; omega) (by rw [← hp, gtC' hu40, gtC hu62]; omega)]; exact hp)
                  · first | omega | (dsimp only; omega) | (simp only []; omega)
                · refine LJ.yd rfl (Yd.mvB rfl) ?_
                  refine LJ.gT rfl ?_
                  refine LJ.yd rfl (Yd.mvI rfl) ?_
                  refine LJ.gT rfl ?_
                  refine LJ.yd rfl (Yd.mvS rfl) ?_
                  refine LJ.gT rfl ?_
                  refine LJ.yd rfl (Yd.mvI rfl) ?_
                  refine LJ.gT rfl ?_
                  refine LJ.idxA rfl hl2 rfl rfl (by omega) (by first | rfl | omega | (simp; done) | (simp; omega) | (simp [upN_len]; omega) | (simp [idxBy_len]; omega) | (simp [marks_len]; omega) | (simp [upN_len]; done) | (simp [idxBy_len]; done) | (simp [marks_len]; done) | (simp at *; omega)) (fun ib61 io61 ia61 ir61 => ?_)
                  refine LJ.gT rfl ?_
                  refine LJ.ldA 0 (fun u => vI u) (fun _ => rfl) ir61 rfl rfl rfl (by first | rfl | omega | (simp; done) | (simp; omega) | (simp [upN_len]; omega) | (simp [idxBy_len]; omega) | (simp [marks_len]; omega) | (simp [upN_len]; done) | (simp [idxBy_len]; done) | (simp [marks_len]; done) | (simp at *; omega)) (fun u62 hu62 => ?_)
                  try simp only [Int.toNat_natCast] at hu62
                  have hf62 := hb u62 (List.mem_of_getElem? hu62)
                  refine LJ.gT rfl ?_
                  refine LJ.splitD rfl (Yd.lss rfl rfl) (fun h63 => ?_) (fun h63 => ?_)
                  · refine LJ.yd rfl (Yd.pickFB rfl rfl) ?_
                    refine LJ.nil ?_
                    refine CJ.condT rfl ?_
                    refine CJ.region ?_
                    refine LJ.yd rfl (Yd.mvI rfl) ?_
                    refine LJ.yd rfl (Yd.asI rfl) ?_
                    refine LJ.nil ?_
                    refine CJ.region ?_
                    refine LJ.yd rfl (Yd.add rfl rfl (by unfold I64; omega)) ?_
                    refine LJ.yd rfl (Yd.mvI rfl) ?_
                    refine LJ.nil ?_
                    refine ⟨(j + 1, _), ?_, ⟨rfl, rfl, rfl, rfl, rfl, rfl, rfl, rfl, rfl, rfl, rfl, rfl, rfl, rfl, rfl, trivial⟩, ⟨rfl, rfl, trivial⟩, Ent.refl _, ?_⟩
                    · refine ⟨by omega, ?_⟩
                      have e44 := hLt j _ hu44
                      first
                        | (rw [scan_skip (.inl (e44.symm.trans h44))]; exact hp)
                        | (rw [scan_skip (.inr (by rw [gtC' hu40, gtC hu50]; exact h53))]; exact hp)
                        | (rw [scan_take (h44.symm.trans e44) (by rw [gtC' hu40, gtC hu50]; omega) (.inl (by rw [← hp]; exact h56))]; done)
                        | (rw [scan_take (h44.symm.trans e44) (by rw [gtC' hu40, gtC hu50]; omega) (.inr (by rw [← hp, gtC' hu40, gtC hu62]; exact h63))]; done)
                        | (rw [scan_keep (h44.symm.trans e44) (by rw [gtC' hu40, gtC hu50]; omega) (by rw [← hp]; omega) (by rw [← hp, gtC' hu40, gtC hu62]; omega)]; exact hp)
                    · first | omega | (dsimp only; omega) | (simp only []; omega)
                  · refine LJ.yd rfl (Yd.pickFB rfl rfl) ?_
                    refine LJ.nil ?_
                    refine CJ.condF rfl ?_
                    refine CJ.skip ?_
                    refine CJ.region ?_
                    refine LJ.yd rfl (Yd.add rfl rfl (by unfold I64; omega)) ?_
                    refine LJ.yd rfl (Yd.mvI rfl) ?_
                    refine LJ.nil ?_
                    refine ⟨(j + 1, _), ?_, ⟨rfl, rfl, rfl, rfl, rfl, rfl, rfl, rfl, rfl, rfl, rfl, rfl, rfl, rfl, rfl, trivial⟩, ⟨rfl, rfl, trivial⟩, Ent.refl _, ?_⟩
                    · refine ⟨by omega, ?_⟩
                      have e44 := hLt j _ hu44
                      first
                        | (rw [scan_skip (.inl (e44.symm.trans h44))]; exact hp)
                        | (rw [scan_skip (.inr (by rw [gtC' hu40, gtC hu50]; exact h53))]; exact hp)
                        | (rw [scan_take (h44.symm.trans e44) (by rw [gtC' hu40, gtC hu50]; omega) (.inl (by rw [← hp]; exact h56))]; done)
                        | (rw [scan_take (h44.symm.trans e44) (by rw [gtC' hu40, gtC hu50]; omega) (.inr (by rw [← hp, gtC' hu40, gtC hu62]; exact h63))]; done)
                        | (rw [scan_keep (h44.symm.trans e44) (by rw [gtC' hu40, gtC hu50]; omega) (by rw [← hp]; omega) (by rw [← hp, gtC' hu40, gtC hu62]; omega)]; exact hp)
                    · first | omega | (dsimp only; omega) | (simp only []; omega)
          · refine LJ.nil ?_
            refine CJ.seq ?_
            refine CJ.condF rfl ?_
            refine CJ.exit ?_
            refine CJ.seq ?_
            refine CJ.seq ?_
            have hjl : j = b.length := by omega
            have hol := outP_len a.length 0 (grP a b s ((idxBy (ltR a) a.length).take k))
            rw [hjl] at hp
            have hpb := scan_lt b (tkn (grP a b s ((idxBy (ltR a) a.length).take k))) (gt a u33 - s) b.length
            rw [← hp] at hpb
            refine CJ.regionD [0, 1, 2, 3] [] (by kernel_rfl) rfl ?_
            refine DJ.norm [_, _, _, _] [] rfl rfl ?_
            refine DJ.yd 0 rfl (by kernel_rfl) (by kernel_rfl) (by kernel_rfl) rfl rfl (Yd.mvI rfl) ?_
            refine DJ.splitD 1 rfl (by kernel_rfl) (by kernel_rfl) (by kernel_rfl) rfl rfl (Yd.geq rfl rfl) (fun h68 => ?_) (fun h68 => ?_)
            · refine DJ.yd 2 rfl (by kernel_rfl) (by kernel_rfl) (by kernel_rfl) rfl rfl (Yd.mvB rfl) ?_
              refine DJ.yd 3 rfl (by kernel_rfl) (by kernel_rfl) (by kernel_rfl) rfl rfl (Yd.mvS rfl) ?_
              refine DJ.yd 4 rfl (by kernel_rfl) (by kernel_rfl) (by kernel_rfl) rfl rfl (Yd.mvI rfl) ?_
              refine DJ.idxA 5 rfl (by kernel_rfl) (by kernel_rfl) (by kernel_rfl) rfl rfl hl2 rfl rfl (by omega) (by first | rfl | omega | (simp; done) | (simp; omega) | (simp [upN_len]; omega) | (simp [idxBy_len]; omega) | (simp [marks_len]; omega) | (simp [upN_len]; done) | (simp [idxBy_len]; done) | (simp [marks_len]; done) | (simp at *; omega)) (fun ib72 io72 ia72 ir72 => ?_)
              refine DJ.ldA 6 rfl (by kernel_rfl) (by kernel_rfl) (by kernel_rfl) rfl rfl 0 (fun u => vI u) (fun _ => rfl) ir72 rfl rfl (by first | rfl | omega | (simp; done) | (simp; omega) | (simp [upN_len]; omega) | (simp [idxBy_len]; omega) | (simp [marks_len]; omega) | (simp [upN_len]; done) | (simp [idxBy_len]; done) | (simp [marks_len]; done) | (simp at *; omega)) (fun u73 hu73 => ?_)
              try simp only [Int.toNat_natCast] at hu73
              have hf73 := hb u73 (List.mem_of_getElem? hu73)
              refine DJ.yd 7 rfl (by kernel_rfl) (by kernel_rfl) (by kernel_rfl) rfl rfl (Yd.loadC 0 rfl rfl rfl) ?_
              refine DJ.yd 8 rfl (by kernel_rfl) (by kernel_rfl) (by kernel_rfl) rfl rfl (Yd.mvI rfl) ?_
              refine DJ.idxA 9 rfl (by kernel_rfl) (by kernel_rfl) (by kernel_rfl) rfl rfl hl rfl rfl (by omega) (by first | rfl | omega | (simp; done) | (simp; omega) | (simp [upN_len]; omega) | (simp [idxBy_len]; omega) | (simp [marks_len]; omega) | (simp [upN_len]; done) | (simp [idxBy_len]; done) | (simp [marks_len]; done) | (simp at *; omega)) (fun ib76 io76 ia76 ir76 => ?_)
              refine DJ.ldA 10 rfl (by kernel_rfl) (by kernel_rfl) (by kernel_rfl) rfl rfl 0 (fun u => vI u) (fun _ => rfl) ir76 rfl rfl (by first | rfl | omega | (simp; done) | (simp; omega) | (simp [upN_len]; omega) | (simp [idxBy_len]; omega) | (simp [marks_len]; omega) | (simp [upN_len]; done) | (simp [idxBy_len]; done) | (simp [marks_len]; done) | (simp at *; omega)) (fun u77 hu77 => ?_)
              try simp only [Int.toNat_natCast] at hu77
              have hf77 := ha u77 (List.mem_of_getElem? hu77)
              refine DJ.yd 11 rfl (by kernel_rfl) (by kernel_rfl) (by kernel_rfl) rfl rfl (Yd.mvI rfl) ?_
              refine DJ.yd 12 rfl (by kernel_rfl) (by kernel_rfl) (by kernel_rfl) rfl rfl (Yd.add rfl rfl (by unfold I64; omega)) ?_
              refine DJ.splitD 13 rfl (by kernel_rfl) (by kernel_rfl) (by kernel_rfl) rfl rfl (Yd.gtr rfl rfl) (fun h80 => ?_) (fun h80 => ?_)
              · refine DJ.yd 14 rfl (by kernel_rfl) (by kernel_rfl) (by kernel_rfl) rfl rfl (Yd.pickTB rfl rfl) ?_
                refine DJ.done (by kernel_rfl) ?_
                refine CJ.condT rfl ?_
                refine CJ.region ?_
                refine LJ.yd rfl (Yd.asI rfl) ?_
                refine LJ.nil ?_
                refine CJ.seq ?_
                refine CJ.seq ?_
                refine CJ.region ?_
                refine LJ.yd rfl (Yd.mvI rfl) ?_
                refine LJ.yd rfl (Yd.cmpF (Yd.geq rfl rfl) (by decide)) ?_
                refine LJ.nil ?_
                refine CJ.condF rfl ?_
                refine CJ.skip ?_
                refine CJ.region ?_
                refine LJ.yd rfl (Yd.mvS rfl) ?_
                refine LJ.yd rfl (Yd.mvI rfl) ?_
                refine LJ.yd rfl (Yd.mvI rfl) ?_
                refine LJ.idxR 2 rfl rfl rfl rfl (by omega) (by first | rfl | omega | (simp; done) | (simp; omega) | (simp [upN_len]; omega) | (simp [idxBy_len]; omega) | (simp [marks_len]; omega) | (simp [upN_len]; done) | (simp [idxBy_len]; done) | (simp [marks_len]; done) | (simp at *; omega)) (by first | rfl | omega | (simp; done) | (simp; omega) | (simp [upN_len]; omega) | (simp [idxBy_len]; omega) | (simp [marks_len]; omega) | (simp [upN_len]; done) | (simp [idxBy_len]; done) | (simp [marks_len]; done) | (simp at *; omega)) (fun ib90 ia90 => ?_)
                refine LJ.op rfl (OpR.st1 (enc := encI) (e1 := fun u => vI u) 2 (fun _ => rfl) (fun _ => rfl) (fun _ => rfl) rfl ia90 rfl rfl rfl (by first | rfl | omega | (simp; done) | (simp; omega) | (simp [upN_len]; omega) | (simp [idxBy_len]; omega) | (simp [marks_len]; omega) | (simp [upN_len]; done) | (simp [idxBy_len]; done) | (simp [marks_len]; done) | (simp at *; omega))) ?_
                rintro _ _ ⟨rfl, rfl⟩
                refine LJ.norm [_, _, _, _] rfl ?_
                refine LJ.nil ?_
                first
                  | (have hn : nextF b (grP a b s ((idxBy (ltR a) a.length).take k)) (gt a u33 - s) (gt a u33 + s) = p := by
                       unfold nextF; rw [← hp]
                       refine if_neg fun h => ?_
                       have h2 := h.2
                       first | omega | (rw [gtC hu73, gtC hu77] at h2; omega)
                     rw [show (outP a.length 0 (grP a b s ((idxBy (ltR a) a.length).take k))).set u33.toNat p = outP a.length 0 (grP a b s ((idxBy (ltR a) a.length).take (k + 1))) by rw [takeC hu33, grP_snoc, outP_cons, hn]])
                  | (have hn : nextF b (grP a b s ((idxBy (ltR a) a.length).take k)) (gt a u33 - s) (gt a u33 + s) = -1 := by
                       unfold nextF; rw [← hp]
                       refine if_pos ⟨?_, ?_⟩
                       · omega
                       · rw [gtC hu73, gtC hu77]; omega
                     rw [show (outP a.length 0 (grP a b s ((idxBy (ltR a) a.length).take k))).set u33.toNat (-1) = outP a.length 0 (grP a b s ((idxBy (ltR a) a.length).take (k + 1))) by rw [takeC hu33, grP_snoc, outP_cons, hn]])
                refine CJ.region ?_
                refine LJ.yd rfl (Yd.add rfl rfl (by unfold I64; omega)) ?_
                refine LJ.yd rfl (Yd.mvI rfl) ?_
                refine LJ.nil ?_
                refine ⟨(k + 1, _), ?_, ⟨rfl, rfl, rfl, rfl, rfl, rfl, rfl, rfl, trivial⟩, ⟨rfl, trivial⟩, Ent.refl _, ?_⟩
                · refine ⟨by omega, ?_⟩
                  rw [takeC hu33, grP_snoc, hn]
                  first
                    | (refine ⟨hL, tk_none hLt ?_⟩; omega)
                    | (refine ⟨?_, tk_some hLt ?_⟩ <;> first | omega | (simp [hL]; done))
                · first | omega | (dsimp only; omega) | (simp only []; omega)
              · refine DJ.yd 14 rfl (by kernel_rfl) (by kernel_rfl) (by kernel_rfl) rfl rfl (Yd.pickTB rfl rfl) ?_
                refine DJ.done (by kernel_rfl) ?_
                refine CJ.condF rfl ?_
                refine CJ.skip ?_
                refine CJ.seq ?_
                refine CJ.seq ?_
                refine CJ.region ?_
                refine LJ.yd rfl (Yd.mvI rfl) ?_
                refine LJ.splitD rfl (Yd.geq rfl rfl) (fun h83 => ?_) (fun h83 => ?_)
                · refine LJ.nil ?_
                  refine CJ.condT rfl ?_
                  refine CJ.region ?_
                  refine LJ.yd rfl (Yd.mvS rfl) ?_
                  refine LJ.yd rfl (Yd.mvI rfl) ?_
                  refine LJ.idxR 3 rfl rfl rfl rfl (by omega) (by first | rfl | omega | (simp; done) | (simp; omega) | (simp [upN_len]; omega) | (simp [idxBy_len]; omega) | (simp [marks_len]; omega) | (simp [upN_len]; done) | (simp [idxBy_len]; done) | (simp [marks_len]; done) | (simp at *; omega)) (by first | rfl | omega | (simp; done) | (simp; omega) | (simp [upN_len]; omega) | (simp [idxBy_len]; omega) | (simp [marks_len]; omega) | (simp [upN_len]; done) | (simp [idxBy_len]; done) | (simp [marks_len]; done) | (simp at *; omega)) (fun ib86 ia86 => ?_)
                  refine LJ.op rfl (OpR.st1 (enc := encB) (e1 := fun u => .bool u) 3 (fun _ => rfl) (fun _ => rfl) (fun _ => rfl) rfl ia86 rfl rfl rfl (by first | rfl | omega | (simp; done) | (simp; omega) | (simp [upN_len]; omega) | (simp [idxBy_len]; omega) | (simp [marks_len]; omega) | (simp [upN_len]; done) | (simp [idxBy_len]; done) | (simp [marks_len]; done) | (simp at *; omega))) ?_
                  rintro _ _ ⟨rfl, rfl⟩
                  refine LJ.norm [_, _, _, _] rfl ?_
                  refine LJ.nil ?_
                  refine CJ.region ?_
                  refine LJ.yd rfl (Yd.mvS rfl) ?_
                  refine LJ.yd rfl (Yd.mvI rfl) ?_
                  refine LJ.yd rfl (Yd.mvI rfl) ?_
                  refine LJ.idxR 2 rfl rfl rfl rfl (by omega) (by first | rfl | omega | (simp; done) | (simp; omega) | (simp [upN_len]; omega) | (simp [idxBy_len]; omega) | (simp [marks_len]; omega) | (simp [upN_len]; done) | (simp [idxBy_len]; done) | (simp [marks_len]; done) | (simp at *; omega)) (by first | rfl | omega | (simp; done) | (simp; omega) | (simp [upN_len]; omega) | (simp [idxBy_len]; omega) | (simp [marks_len]; omega) | (simp [upN_len]; done) | (simp [idxBy_len]; done) | (simp [marks_len]; done) | (simp at *; omega)) (fun ib90 ia90 => ?_)
                  refine LJ.op rfl (OpR.st1 (enc := encI) (e1 := fun u => vI u) 2 (fun _ => rfl) (fun _ => rfl) (fun _ => rfl) rfl ia90 rfl rfl rfl (by first | rfl | omega | (simp; done) | (simp; omega) | (simp [upN_len]; omega) | (simp [idxBy_len]; omega) | (simp [marks_len]; omega) | (simp [upN_len]; done) | (simp [idxBy_len]; done) | (simp [marks_len]; done) | (simp at *; omega))) ?_
                  rintro _ _ ⟨rfl, rfl⟩
                  refine LJ.norm [_, _, _, _] rfl ?_
                  refine LJ.nil ?_
                  first
                    | (have hn : nextF b (grP a b s ((idxBy (ltR a) a.length).take k)) (gt a u33 - s) (gt a u33 + s) = p := by
                         unfold nextF; rw [← hp]
                         refine if_neg fun h => ?_
                         have h2 := h.2
                         first | omega | (rw [gtC hu73, gtC hu77] at h2; omega)
                       rw [show (outP a.length 0 (grP a b s ((idxBy (ltR a) a.length).take k))).set u33.toNat p = outP a.length 0 (grP a b s ((idxBy (ltR a) a.length).take (k + 1))) by rw [takeC hu33, grP_snoc, outP_cons, hn]])
                    | (have hn : nextF b (grP a b s ((idxBy (ltR a) a.length).take k)) (gt a u33 - s) (gt a u33 + s) = -1 := by
                         unfold nextF; rw [← hp]
                         refine if_pos ⟨?_, ?_⟩
                         · omega
                         · rw [gtC hu73, gtC hu77]; omega
                       rw [show (outP a.length 0 (grP a b s ((idxBy (ltR a) a.length).take k))).set u33.toNat (-1) = outP a.length 0 (grP a b s ((idxBy (ltR a) a.length).take (k + 1))) by rw [takeC hu33, grP_snoc, outP_cons, hn]])
                  refine CJ.region ?_
                  refine LJ.yd rfl (Yd.add rfl rfl (by unfold I64; omega)) ?_
                  refine LJ.yd rfl (Yd.mvI rfl) ?_
                  refine LJ.nil ?_
                  refine ⟨(k + 1, _), ?_, ⟨rfl, rfl, rfl, rfl, rfl, rfl, rfl, rfl, trivial⟩, ⟨rfl, trivial⟩, Ent.refl _, ?_⟩
                  · refine ⟨by omega, ?_⟩
                    rw [takeC hu33, grP_snoc, hn]
                    first
                      | (refine ⟨hL, tk_none hLt ?_⟩; omega)
                      | (refine ⟨?_, tk_some hLt ?_⟩ <;> first | omega | (simp [hL]; done))
                  · first | omega | (dsimp only; omega) | (simp only []; omega)
                · refine LJ.nil ?_
                  refine CJ.condF rfl ?_
                  refine CJ.skip ?_
                  refine CJ.region ?_
                  refine LJ.yd rfl (Yd.mvS rfl) ?_
                  refine LJ.yd rfl (Yd.mvI rfl) ?_
                  refine LJ.yd rfl (Yd.mvI rfl) ?_
                  refine LJ.idxR 2 rfl rfl rfl rfl (by omega) (by first | rfl | omega | (simp; done) | (simp; omega) | (simp [upN_len]; omega) | (simp [idxBy_len]; omega) | (simp [marks_len]; omega) | (simp [upN_len]; done) | (simp [idxBy_len]; done) | (simp [marks_len]; done) | (simp at *; omega)) (by first | rfl | omega | (simp; done) | (simp; omega) | (simp [upN_len]; omega) | (simp [idxBy_len]; omega) | (simp [marks_len]; omega) | (simp [upN_len]; done) | (simp [idxBy_len]; done) | (simp [marks_len]; done) | (simp at *; omega)) (fun ib90 ia90 => ?_)
                  refine LJ.op rfl (OpR.st1 (enc := encI) (e1 := fun u => vI u) 2 (fun _ => rfl) (fun _ => rfl) (fun _ => rfl) rfl ia90 rfl rfl rfl (by first | rfl | omega | (simp; done) | (simp; omega) | (simp [upN_len]; omega) | (simp [idxBy_len]; omega) | (simp [marks_len]; omega) | (simp [upN_len]; done) | (simp [idxBy_len]; done) | (simp [marks_len]; done) | (simp at *; omega))) ?_
                  rintro _ _ ⟨rfl, rfl⟩
                  refine LJ.norm [_, _, _, _] rfl ?_
                  refine LJ.nil ?_
                  first
                    | (have hn : nextF b (grP a b s ((idxBy (ltR a) a.length).take k)) (gt a u33 - s) (gt a u33 + s) = p := by
                         unfold nextF; rw [← hp]
                         refine if_neg fun h => ?_
                         have h2 := h.2
                         first | omega | (rw [gtC hu73, gtC hu77] at h2; omega)
                       rw [show (outP a.length 0 (grP a b s ((idxBy (ltR a) a.length).take k))).set u33.toNat p = outP a.length 0 (grP a b s ((idxBy (ltR a) a.length).take (k + 1))) by rw [takeC hu33, grP_snoc, outP_cons, hn]])
                    | (have hn : nextF b (grP a b s ((idxBy (ltR a) a.length).take k)) (gt a u33 - s) (gt a u33 + s) = -1 := by
                         unfold nextF; rw [← hp]
                         refine if_pos ⟨?_, ?_⟩
                         · omega
                         · rw [gtC hu73, gtC hu77]; omega
                       rw [show (outP a.length 0 (grP a b s ((idxBy (ltR a) a.length).take k))).set u33.toNat (-1) = outP a.length 0 (grP a b s ((idxBy (ltR a) a.length).take (k + 1))) by rw [takeC hu33, grP_snoc, outP_cons, hn]])
                  refine CJ.region ?_
                  refine LJ.yd rfl (Yd.add rfl rfl (by unfold I64; omega)) ?_
                  refine LJ.yd rfl (Yd.mvI rfl) ?_
                  refine LJ.nil ?_
                  refine ⟨(k + 1, _), ?_, ⟨rfl, rfl, rfl, rfl, rfl, rfl, rfl, rfl, trivial⟩, ⟨rfl, trivial⟩, Ent.refl _, ?_⟩
                  · refine ⟨by omega, ?_⟩
                    rw [takeC hu33, grP_snoc, hn]
                    first
                      | (refine ⟨hL, tk_none hLt ?_⟩; omega)
                      | (refine ⟨?_, tk_some hLt ?_⟩ <;> first | omega | (simp [hL]; done))
                  · first | omega | (dsimp only; omega) | (simp only []; omega)
            · refine DJ.yd 2 rfl (by kernel_rfl) (by kernel_rfl) (by kernel_rfl) rfl rfl (Yd.mvB rfl) ?_
              refine DJ.skip 3 rfl (by kernel_rfl) (by kernel_rfl) (by kernel_rfl) rfl rfl ?_
              refine DJ.skip 4 rfl (by kernel_rfl) (by kernel_rfl) (by kernel_rfl) rfl rfl ?_
              refine DJ.skip 5 rfl (by kernel_rfl) (by kernel_rfl) (by kernel_rfl) rfl rfl ?_
              refine DJ.skip 6 rfl (by kernel_rfl) (by kernel_rfl) (by kernel_rfl) rfl rfl ?_
              refine DJ.skip 7 rfl (by kernel_rfl) (by kernel_rfl) (by kernel_rfl) rfl rfl ?_
              refine DJ.skip 8 rfl (by kernel_rfl) (by kernel_rfl) (by kernel_rfl) rfl rfl ?_
              refine DJ.skip 9 rfl (by kernel_rfl) (by kernel_rfl) (by kernel_rfl) rfl rfl ?_
              refine DJ.skip 10 rfl (by kernel_rfl) (by kernel_rfl) (by kernel_rfl) rfl rfl ?_
              refine DJ.skip 11 rfl (by kernel_rfl) (by kernel_rfl) (by kernel_rfl) rfl rfl ?_
              refine DJ.skip 12 rfl (by kernel_rfl) (by kernel_rfl) (by kernel_rfl) rfl rfl ?_
              refine DJ.skip 13 rfl (by kernel_rfl) (by kernel_rfl) (by kernel_rfl) rfl rfl ?_
              refine DJ.yd 14 rfl (by kernel_rfl) (by kernel_rfl) (by kernel_rfl) rfl rfl (Yd.pickFB rfl rfl) ?_
              refine DJ.done (by kernel_rfl) ?_
              refine CJ.condF rfl ?_
              refine CJ.skip ?_
              refine CJ.seq ?_
              refine CJ.seq ?_
              refine CJ.region ?_
              refine LJ.yd rfl (Yd.mvI rfl) ?_
              refine LJ.splitD rfl (Yd.geq rfl rfl) (fun h83 => ?_) (fun h83 => ?_)
              · refine LJ.nil ?_
                refine CJ.condT rfl ?_
                refine CJ.region ?_
                refine LJ.yd rfl (Yd.mvS rfl) ?_
                refine LJ.yd rfl (Yd.mvI rfl) ?_
                refine LJ.idxR 3 rfl rfl rfl rfl (by omega) (by first | rfl | omega | (simp; done) | (simp; omega) | (simp [upN_len]; omega) | (simp [idxBy_len]; omega) | (simp [marks_len]; omega) | (simp [upN_len]; done) | (simp [idxBy_len]; done) | (simp [marks_len]; done) | (simp at *; omega)) (by first | rfl | omega | (simp; done) | (simp; omega) | (simp [upN_len]; omega) | (simp [idxBy_len]; omega) | (simp [marks_len]; omega) | (simp [upN_len]; done) | (simp [idxBy_len]; done) | (simp [marks_len]; done) | (simp at *; omega)) (fun ib86 ia86 => ?_)
                refine LJ.op rfl (OpR.st1 (enc := encB) (e1 := fun u => .bool u) 3 (fun _ => rfl) (fun _ => rfl) (fun _ => rfl) rfl ia86 rfl rfl rfl (by first | rfl | omega | (simp; done) | (simp; omega) | (simp [upN_len]; omega) | (simp [idxBy_len]; omega) | (simp [marks_len]; omega) | (simp [upN_len]; done) | (simp [idxBy_len]; done) | (simp [marks_len]; done) | (simp at *; omega))) ?_
                rintro _ _ ⟨rfl, rfl⟩
                refine LJ.norm [_, _, _, _] rfl ?_
                refine LJ.nil ?_
                refine CJ.region ?_
                refine LJ.yd rfl (Yd.mvS rfl) ?_
                refine LJ.yd rfl (Yd.mvI rfl) ?_
                refine LJ.yd rfl (Yd.mvI rfl) ?_
                refine LJ.idxR 2 rfl rfl rfl rfl (by omega) (by first | rfl | omega | (simp; done) | (simp; omega) | (simp [upN_len]; omega) | (simp [idxBy_len]; omega) | (simp [marks_len]; omega) | (simp [upN_len]; done) | (simp [idxBy_len]; done) | (simp [marks_len]; done) | (simp at *; omega)) (by first | rfl | omega | (simp; done) | (simp; omega) | (simp [upN_len]; omega) | (simp [idxBy_len]; omega) | (simp [marks_len]; omega) | (simp [upN_len]; done) | (simp [idxBy_len]; done) | (simp [marks_len]; done) | (simp at *; omega)) (fun ib90 ia90 => ?_)
                refine LJ.op rfl (OpR.st1 (enc := encI) (e1 := fun u => vI u) 2 (fun _ => rfl) (fun _ => rfl) (fun _ => rfl) rfl ia90 rfl rfl rfl (by first | rfl | omega | (simp; done) | (simp; omega) | (simp [upN_len]; omega) | (simp [idxBy_len]; omega) | (simp [marks_len]; omega) | (simp [upN_len]; done) | (simp [idxBy_len]; done) | (simp [marks_len]; done) | (simp at *; omega))) ?_
                rintro _ _ ⟨rfl, rfl⟩
                refine LJ.norm [_, _, _, _] rfl ?_
                refine LJ.nil ?_
                first
                  | (have hn : nextF b (grP a b s ((idxBy (ltR a) a.length).take k)) (gt a u33 - s) (gt a u33 + s) = p := by
                       unfold nextF; rw [← hp]
                       refine if_neg fun h => ?_
                       have h2 := h.2
                       first | omega | (rw [gtC hu73, gtC hu77] at h2; omega)
                     rw [show (outP a.length 0 (grP a b s ((idxBy (ltR a) a.length).take k))).set u33.toNat p = outP a.length 0 (grP a b s ((idxBy (ltR a) a.length).take (k + 1))) by rw [takeC hu33, grP_snoc, outP_cons, hn]])
                  | (have hn : nextF b (grP a b s ((idxBy (ltR a) a.length).take k)) (gt a u33 - s) (gt a u33 + s) = -1 := by
                       unfold nextF; rw [← hp]
                       refine if_pos ⟨?_, ?_⟩
                       · omega
                       · rw [gtC hu73, gtC hu77]; omega
                     rw [show (outP a.length 0 (grP a b s ((idxBy (ltR a) a.length).take k))).set u33.toNat (-1) = outP a.length 0 (grP a b s ((idxBy (ltR a) a.length).take (k + 1))) by rw [takeC hu33, grP_snoc, outP_cons, hn]])
                refine CJ.region ?_
                refine LJ.yd rfl (Yd.add rfl rfl (by unfold I64; omega)) ?_
                refine LJ.yd rfl (Yd.mvI rfl) ?_
                refine LJ.nil ?_
                refine ⟨(k + 1, _), ?_, ⟨rfl, rfl, rfl, rfl, rfl, rfl, rfl, rfl, trivial⟩, ⟨rfl, trivial⟩, Ent.refl _, ?_⟩
                · refine ⟨by omega, ?_⟩
                  rw [takeC hu33, grP_snoc, hn]
                  first
                    | (refine ⟨hL, tk_none hLt ?_⟩; omega)
                    | (refine ⟨?_, tk_some hLt ?_⟩ <;> first | omega | (simp [hL]; done))
                · first | omega | (dsimp only; omega) | (simp only []; omega)
              · refine LJ.nil ?_
                refine CJ.condF rfl ?_
                refine CJ.skip ?_
                refine CJ.region ?_
                refine LJ.yd rfl (Yd.mvS rfl) ?_
                refine LJ.yd rfl (Yd.mvI rfl) ?_
                refine LJ.yd rfl (Yd.mvI rfl) ?_
                refine LJ.idxR 2 rfl rfl rfl rfl (by omega) (by first | rfl | omega | (simp; done) | (simp; omega) | (simp [upN_len]; omega) | (simp [idxBy_len]; omega) | (simp [marks_len]; omega) | (simp [upN_len]; done) | (simp [idxBy_len]; done) | (simp [marks_len]; done) | (simp at *; omega)) (by first | rfl | omega | (simp; done) | (simp; omega) | (simp [upN_len]; omega) | (simp [idxBy_len]; omega) | (simp [marks_len]; omega) | (simp [upN_len]; done) | (simp [idxBy_len]; done) | (simp [marks_len]; done) | (simp at *; omega)) (fun ib90 ia90 => ?_)
                refine LJ.op rfl (OpR.st1 (enc := encI) (e1 := fun u => vI u) 2 (fun _ => rfl) (fun _ => rfl) (fun _ => rfl) rfl ia90 rfl rfl rfl (by first | rfl | omega | (simp; done) | (simp; omega) | (simp [upN_len]; omega) | (simp [idxBy_len]; omega) | (simp [marks_len]; omega) | (simp [upN_len]; done) | (simp [idxBy_len]; done) | (simp [marks_len]; done) | (simp at *; omega))) ?_
                rintro _ _ ⟨rfl, rfl⟩
                refine LJ.norm [_, _, _, _] rfl ?_
                refine LJ.nil ?_
                first
                  | (have hn : nextF b (grP a b s ((idxBy (ltR a) a.length).take k)) (gt a u33 - s) (gt a u33 + s) = p := by
                       unfold nextF; rw [← hp]
                       refine if_neg fun h => ?_
                       have h2 := h.2
                       first | omega | (rw [gtC hu73, gtC hu77] at h2; omega)
                     rw [show (outP a.length 0 (grP a b s ((idxBy (ltR a) a.length).take k))).set u33.toNat p = outP a.length 0 (grP a b s ((idxBy (ltR a) a.length).take (k + 1))) by rw [takeC hu33, grP_snoc, outP_cons, hn]])
                  | (have hn : nextF b (grP a b s ((idxBy (ltR a) a.length).take k)) (gt a u33 - s) (gt a u33 + s) = -1 := by
                       unfold nextF; rw [← hp]
                       refine if_pos ⟨?_, ?_⟩
                       · omega
                       · rw [gtC hu73, gtC hu77]; omega
                     rw [show (outP a.length 0 (grP a b s ((idxBy (ltR a) a.length).take k))).set u33.toNat (-1) = outP a.length 0 (grP a b s ((idxBy (ltR a) a.length).take (k + 1))) by rw [takeC hu33, grP_snoc, outP_cons, hn]])
                refine CJ.region ?_
                refine LJ.yd rfl (Yd.add rfl rfl (by unfold I64; omega)) ?_
                refine LJ.yd rfl (Yd.mvI rfl) ?_
                refine LJ.nil ?_
                refine ⟨(k + 1, _), ?_, ⟨rfl, rfl, rfl, rfl, rfl, rfl, rfl, rfl, trivial⟩, ⟨rfl, trivial⟩, Ent.refl _, ?_⟩
                · refine ⟨by omega, ?_⟩
                  rw [takeC hu33, grP_snoc, hn]
                  first
                    | (refine ⟨hL, tk_none hLt ?_⟩; omega)
                    | (refine ⟨?_, tk_some hLt ?_⟩ <;> first | omega | (simp [hL]; done))
                · first | omega | (dsimp only; omega) | (simp only []; omega)
      · refine LJ.nil ?_
        refine CJ.seq ?_
        refine CJ.condF rfl ?_
        refine CJ.exit ?_
        refine CJ.seq ?_
        refine CJ.region ?_
        refine LJ.yd rfl (Yd.mvS rfl) ?_
        refine LJ.yd rfl (Yd.asS rfl) ?_
        refine LJ.nil ?_
        refine CJ.ret ?_
        refine Fin.RL 2 (Res.one (ResV.tmp (v := .slice _ _ _) rfl)) rfl (outP_len _ _ _).symm ?_
        first | (rw [puR, if_pos hpo, pairR, List.take_of_length_le (by rw [idxBy_len]; omega)]; done) | (rw [puR, if_neg (of_decide_eq_false h17)]; done)
  · refine LJ.yd rfl (Yd.not rfl) ?_
    refine LJ.nil ?_
    refine CJ.condT rfl ?_
    refine CJ.seq ?_
    refine CJ.region ?_
    refine LJ.yd rfl (Yd.asS rfl) ?_
    refine LJ.nil ?_
    refine CJ.ret ?_
    refine Fin.RN (Res.one (ResV.tmp (v := .slice _ _ _) rfl)) ?_
    first | (rw [puR, if_pos hpo, pairR, List.take_of_length_le (by rw [idxBy_len]; omega)]; done) | (rw [puR, if_neg (of_decide_eq_false h17)]; done)
theorem PairUpK_t {A : Amb} {v w : Value} {a b : List Int} {s : Int} (hl : RdL encI 1 A.h v a) (hl2 : RdL encI 1 A.h w b) (hpo : PairOk a b s) : Ctr Try.prog 15 #[v, w, vI s] A [] (RLP encI 3 1 (pairR a b s)) := by
  have := PairUpK_ok (s := s) hl hl2
  rwa [puR, if_pos hpo] at this
theorem PairsInK_ok {A : Amb} {v w : Value} {a b : List Int} {s : Int} (hl : RdL encI 1 A.h v a) (hl2 : RdL encI 1 A.h w b) : Ctr Try.prog 20 #[v, w, vI s] A [] (Val (vI (piR a b s))) := by
  obtain ⟨la, lc, rfl, hlb, hl⟩ := hl.un
  obtain ⟨la2, lc2, rfl, hlb2, hl2⟩ := hl2.un
  have hpl := pairR_len a b s
  refine Ctr.body (args := [_, _, _]) Try.func20 rfl Try.ntmps20 Try.results20 (by simp) ?_
  refine CJ.seq ?_
  refine CJ.region ?_
  refine LJ.yd rfl (Yd.asI rfl) ?_
  refine LJ.nil ?_
  refine CJ.seq ?_
  refine CJ.seq ?_
  refine CJ.region ?_
  refine LJ.yd rfl (Yd.mvS rfl) ?_
  refine LJ.yd rfl (Yd.mvS rfl) ?_
  refine LJ.yd rfl (Yd.mvI rfl) ?_
  refine LJ.callB rfl (fun k hk dk => validPairs_ok (RdRow.up hl) (RdRow.up hl2)) (fun h13 => ?_) (fun h13 => ?_)
  · refine LJ.yd rfl (Yd.not rfl) ?_
    refine LJ.nil ?_
    refine CJ.condF rfl ?_
    refine CJ.skip ?_
    refine CJ.seq ?_
    have hpo : PairOk a b s := of_decide_eq_true h13
    have han := (szOk_iff.1 hpo.1).1
    refine CJ.region ?_
    refine LJ.yd rfl (Yd.asI rfl) ?_
    refine LJ.nil ?_
    refine CJ.seq ?_
    refine CJ.seq ?_
    refine CJ.region ?_
    refine LJ.yd rfl (Yd.mvS rfl) ?_
    refine LJ.yd rfl (Yd.mvS rfl) ?_
    refine LJ.yd rfl (Yd.mvI rfl) ?_
    refine LJ.call0 rfl (fun k hk dk => PairUpK_t (RdRow.up hl) (RdRow.up hl2) hpo) ?_
    rintro _ _ ⟨ra18, rc18, rfl, rfl⟩
    refine LJ.norm [_] rfl ?_
    refine LJ.yd rfl (Yd.len rfl) ?_
    refine LJ.yd rfl (Yd.mvI rfl) ?_
    refine LJ.nil ?_
    refine CJ.block ?_
    refine CJ.loopK [6, 18, 19] (Nat × Int) (fun ⟨k, x⟩ => k ≤ (pairR a b s).length ∧ x = ((pairR a b s).take k).countP (fun u => decide (0 ≤ u)) ∧ 0 ≤ x ∧ x ≤ k) (fun ⟨k, x⟩ => [(20, vI k), (7, vI x)]) (fun ⟨k, x⟩ => (pairR a b s).length - k) (0, 0) ?_ ⟨rfl, rfl, trivial⟩ ?_
    · exact ⟨by omega, by simp, by omega, by omega⟩
    · rintro ⟨k, x⟩ σ ⟨hk1, hx, hx0, hx1⟩
      refine CJ.seq ?_
      refine CJ.region ?_
      refine LJ.splitD rfl (Yd.lss rfl rfl) (fun h21 => ?_) (fun h21 => ?_)
      · refine LJ.nil ?_
        refine CJ.seq ?_
        refine CJ.condT rfl ?_
        refine CJ.skip ?_
        refine CJ.seq ?_
        refine CJ.block ?_
        refine CJ.seq ?_
        refine CJ.region ?_
        refine LJ.idxR 0 rfl rfl rfl rfl (by omega) (by first | rfl | omega | (simp; done) | (simp; omega) | (simp [upN_len]; omega) | (simp [idxBy_len]; omega) | (simp [marks_len]; omega) | (simp [upN_len]; done) | (simp [idxBy_len]; done) | (simp [marks_len]; done) | (simp at *; omega)) (by first | rfl | omega | (simp; done) | (simp; omega) | (simp [upN_len]; omega) | (simp [idxBy_len]; omega) | (simp [marks_len]; omega) | (simp [upN_len]; done) | (simp [idxBy_len]; done) | (simp [marks_len]; done) | (simp at *; omega)) (fun ib22 ia22 => ?_)
        refine LJ.ldR 0 0 (fun u => vI u) (fun _ => rfl) rfl ia22 rfl rfl rfl (by first | rfl | omega | (simp; done) | (simp; omega) | (simp [upN_len]; omega) | (simp [idxBy_len]; omega) | (simp [marks_len]; omega) | (simp [upN_len]; done) | (simp [idxBy_len]; done) | (simp [marks_len]; done) | (simp at *; omega)) (fun u23 hu23 => ?_)
        try simp only [Int.toNat_natCast] at hu23
        refine LJ.yd rfl (Yd.asI rfl) ?_
        refine LJ.nil ?_
        refine CJ.seq ?_
        refine CJ.region ?_
        refine LJ.yd rfl (Yd.mvI rfl) ?_
        refine LJ.splitD rfl (Yd.geq rfl rfl) (fun h25 => ?_) (fun h25 => ?_)
        · refine LJ.nil ?_
          refine CJ.condT rfl ?_
          refine CJ.region ?_
          refine LJ.yd rfl (Yd.mvI rfl) ?_
          refine LJ.yd rfl (Yd.add rfl rfl (by unfold I64; omega)) ?_
          refine LJ.yd rfl (Yd.asI rfl) ?_
          refine LJ.nil ?_
          refine CJ.region ?_
          refine LJ.yd rfl (Yd.add rfl rfl (by unfold I64; omega)) ?_
          refine LJ.yd rfl (Yd.mvI rfl) ?_
          refine LJ.nil ?_
          refine ⟨(k + 1, _), ?_, ⟨rfl, rfl, rfl, trivial⟩, ⟨rfl, rfl, trivial⟩, Ent.refl _, ?_⟩
          · refine ⟨by omega, ?_⟩
            rw [cntC hu23]
            first
              | (rw [if_pos (by omega)]; exact ⟨by omega, by omega, by omega⟩)
              | (rw [if_neg (by omega)]; exact ⟨by omega, by omega, by omega⟩)
          · first | omega | (dsimp only; omega) | (simp only []; omega)
        · refine LJ.nil ?_
          refine CJ.condF rfl ?_
          refine CJ.skip ?_
          refine CJ.region ?_
          refine LJ.yd rfl (Yd.add rfl rfl (by unfold I64; omega)) ?_
          refine LJ.yd rfl (Yd.mvI rfl) ?_
          refine LJ.nil ?_
          refine ⟨(k + 1, _), ?_, ⟨rfl, rfl, rfl, trivial⟩, ⟨rfl, rfl, trivial⟩, Ent.refl _, ?_⟩
          · refine ⟨by omega, ?_⟩
            rw [cntC hu23]
            first
              | (rw [if_pos (by omega)]; exact ⟨by omega, by omega, by omega⟩)
              | (rw [if_neg (by omega)]; exact ⟨by omega, by omega, by omega⟩)
          · first | omega | (dsimp only; omega) | (simp only []; omega)
      · refine LJ.nil ?_
        refine CJ.seq ?_
        refine CJ.condF rfl ?_
        refine CJ.exit ?_
        refine CJ.seq ?_
        refine CJ.region ?_
        refine LJ.yd rfl (Yd.mvI rfl) ?_
        refine LJ.yd rfl (Yd.asI rfl) ?_
        refine LJ.nil ?_
        refine CJ.ret ?_
        refine Fin.V (Res.one (ResV.tmp (v := .int _ _) rfl)) ?_
        first
          | (rw [piR, if_pos hpo, ← cnt_pair a b hpo.2.2.1, hx, List.take_of_length_le (by omega)]; done)
          | (rw [piR, if_neg (of_decide_eq_false h13)]; done)
  · refine LJ.yd rfl (Yd.not rfl) ?_
    refine LJ.nil ?_
    refine CJ.condT rfl ?_
    refine CJ.seq ?_
    refine CJ.region ?_
    refine LJ.yd rfl (Yd.asI rfl) ?_
    refine LJ.nil ?_
    refine CJ.ret ?_
    refine Fin.V (Res.one (ResV.tmp (v := .int _ _) rfl)) ?_
    first
      | (rw [piR, if_pos hpo, ← cnt_pair a b hpo.2.2.1, hx, List.take_of_length_le (by omega)]; done)
      | (rw [piR, if_neg (of_decide_eq_false h13)]; done)
theorem eqIntS_eq {A : Amb} {v w : Value} {l : List Int} (hl : RdL encI 1 A.h v l) (hl2 : RdL encI 1 A.h w l) : Ctr Try.prog 16 #[v, w] A [] (Val (.bool true)) := by
  have := eqIntS_ok hl hl2
  rwa [decide_eq_true rfl] at this
theorem FnExactPairUp_ok {A : Amb} {a a2 : Option Addr} {n c n2 c2 : Nat} {l l2 : List Int} {s : Int} (hl : n ≤ 1048576 → RdL encI 1 A.h (.slice a n c) l ∧ n = l.length) (hl2 : n2 ≤ 1048576 → RdL encI 1 A.h (.slice a2 n2 c2) l2 ∧ n2 = l2.length) : Ctr Try.prog 3 #[.slice a n c, .slice a2 n2 c2, vI s] A [] (Val (.bool true)) := by
  have hR := puR_len l l2 s
  refine Ctr.body (args := [_, _, _]) Try.func3 rfl Try.ntmps3 Try.results3 (by simp) ?_
  refine CJ.seq ?_
  refine CJ.region ?_
  refine LJ.yd rfl (Yd.asB rfl) ?_
  refine LJ.nil ?_
  refine CJ.seq ?_
  refine CJ.seq ?_
  refine CJ.region ?_
  refine LJ.yd rfl (Yd.mvS rfl) ?_
  refine LJ.yd rfl (Yd.len rfl) ?_
  refine LJ.splitD rfl (Yd.gtr rfl rfl) (fun h17 => ?_) (fun h17 => ?_)
  · refine LJ.nil ?_
    refine CJ.condT rfl ?_
    refine CJ.seq ?_
    refine CJ.region ?_
    refine LJ.yd rfl (Yd.asB rfl) ?_
    refine LJ.nil ?_
    refine CJ.ret ?_
    refine Fin.V (Res.one (ResV.tmp (v := .bool true) rfl)) ?_
    rfl
  · refine LJ.nil ?_
    refine CJ.condF rfl ?_
    refine CJ.skip ?_
    refine CJ.seq ?_
    refine CJ.seq ?_
    obtain ⟨hl, rfl⟩ := hl (by omega)
    refine CJ.region ?_
    refine LJ.yd rfl (Yd.mvS rfl) ?_
    refine LJ.yd rfl (Yd.len rfl) ?_
    refine LJ.splitD rfl (Yd.gtr rfl rfl) (fun h20 => ?_) (fun h20 => ?_)
    · refine LJ.nil ?_
      refine CJ.condT rfl ?_
      refine CJ.seq ?_
      refine CJ.region ?_
      refine LJ.yd rfl (Yd.asB rfl) ?_
      refine LJ.nil ?_
      refine CJ.ret ?_
      refine Fin.V (Res.one (ResV.tmp (v := .bool true) rfl)) ?_
      rfl
    · refine LJ.nil ?_
      refine CJ.condF rfl ?_
      refine CJ.skip ?_
      refine CJ.seq ?_
      obtain ⟨hl2, rfl⟩ := hl2 (by omega)
      refine CJ.region ?_
      refine LJ.yd rfl (Yd.mvS rfl) ?_
      refine LJ.call0 rfl (fun k hk dk => toIntS_ok (RdRow.up hl) (by omega)) ?_
      rintro _ _ ⟨ra22, rc22, rfl, rfl⟩
      refine LJ.norm [_] rfl ?_
      refine LJ.yd rfl (Yd.mvS rfl) ?_
      refine LJ.call0 rfl (fun k hk dk => toIntS_ok (RdRow.up hl2) (by omega)) ?_
      rintro _ _ ⟨ra24, rc24, rfl, rfl⟩
      refine LJ.norm [_, _] rfl ?_
      refine LJ.yd rfl (Yd.mvI rfl) ?_
      refine LJ.call0 rfl (fun k hk dk => PairUpS_ok (Sts.lrm hk dk 0 (by first | rfl | omega | (simp; done) | (simp; omega) | (simp [upN_len]; omega) | (simp [idxBy_len]; omega) | (simp [marks_len]; omega) | (simp [upN_len]; done) | (simp [idxBy_len]; done) | (simp [marks_len]; done) | (simp at *; omega)) (by first | rfl | omega | (simp; done) | (simp; omega) | (simp [upN_len]; omega) | (simp [idxBy_len]; omega) | (simp [marks_len]; omega) | (simp [upN_len]; done) | (simp [idxBy_len]; done) | (simp [marks_len]; done) | (simp at *; omega)) rfl) (Sts.lrm hk dk 1 (by first | rfl | omega | (simp; done) | (simp; omega) | (simp [upN_len]; omega) | (simp [idxBy_len]; omega) | (simp [marks_len]; omega) | (simp [upN_len]; done) | (simp [idxBy_len]; done) | (simp [marks_len]; done) | (simp at *; omega)) (by first | rfl | omega | (simp; done) | (simp; omega) | (simp [upN_len]; omega) | (simp [idxBy_len]; omega) | (simp [marks_len]; omega) | (simp [upN_len]; done) | (simp [idxBy_len]; done) | (simp [marks_len]; done) | (simp at *; omega)) rfl)) ?_
      rintro _ _ ⟨ra26, rc26, rfl, rfl⟩
      refine LJ.norm [_, _, _] rfl ?_
      refine LJ.yd rfl (Yd.asS rfl) ?_
      refine LJ.nil ?_
      refine CJ.seq ?_
      refine CJ.region ?_
      refine LJ.yd rfl (Yd.mvS rfl) ?_
      refine LJ.call0 rfl (fun k hk dk => toIntS_ok (RdRow.up hl) (by omega)) ?_
      rintro _ _ ⟨ra28, rc28, rfl, rfl⟩
      refine LJ.norm [_, _, _, _] rfl ?_
      refine LJ.yd rfl (Yd.asS rfl) ?_
      refine LJ.nil ?_
      refine CJ.seq ?_
      refine CJ.region ?_
      refine LJ.yd rfl (Yd.mvS rfl) ?_
      refine LJ.call0 rfl (fun k hk dk => toIntS_ok (RdRow.up hl2) (by omega)) ?_
      rintro _ _ ⟨ra30, rc30, rfl, rfl⟩
      refine LJ.norm [_, _, _, _, _] rfl ?_
      refine LJ.yd rfl (Yd.asS rfl) ?_
      refine LJ.nil ?_
      refine CJ.seq ?_
      refine CJ.region ?_
      refine LJ.yd rfl (Yd.mvS rfl) ?_
      refine LJ.yd rfl (Yd.mvS rfl) ?_
      refine LJ.yd rfl (Yd.mvI rfl) ?_
      refine LJ.call0 rfl (fun k hk dk => PairUpK_ok (Sts.lrm hk dk 3 (by first | rfl | omega | (simp; done) | (simp; omega) | (simp [upN_len]; omega) | (simp [idxBy_len]; omega) | (simp [marks_len]; omega) | (simp [upN_len]; done) | (simp [idxBy_len]; done) | (simp [marks_len]; done) | (simp at *; omega)) (by first | rfl | omega | (simp; done) | (simp; omega) | (simp [upN_len]; omega) | (simp [idxBy_len]; omega) | (simp [marks_len]; omega) | (simp [upN_len]; done) | (simp [idxBy_len]; done) | (simp [marks_len]; done) | (simp at *; omega)) rfl) (Sts.lrm hk dk 4 (by first | rfl | omega | (simp; done) | (simp; omega) | (simp [upN_len]; omega) | (simp [idxBy_len]; omega) | (simp [marks_len]; omega) | (simp [upN_len]; done) | (simp [idxBy_len]; done) | (simp [marks_len]; done) | (simp at *; omega)) (by first | rfl | omega | (simp; done) | (simp; omega) | (simp [upN_len]; omega) | (simp [idxBy_len]; omega) | (simp [marks_len]; omega) | (simp [upN_len]; done) | (simp [idxBy_len]; done) | (simp [marks_len]; done) | (simp at *; omega)) rfl)) ?_
      rintro _ _ ⟨ra34, rc34, rfl, rfl⟩
      refine LJ.norm [_, _, _, _, _, _] rfl ?_
      refine LJ.yd rfl (Yd.asS rfl) ?_
      refine LJ.nil ?_
      refine CJ.seq ?_
      refine CJ.seq ?_
      refine CJ.region ?_
      refine LJ.yd rfl (Yd.mvS rfl) ?_
      refine LJ.yd rfl (Yd.mvS rfl) ?_
      refine LJ.callV rfl (fun k hk dk => eqIntS_eq (Sts.lrm hk dk 5 (by first | rfl | omega | (simp; done) | (simp; omega) | (simp [upN_len]; omega) | (simp [idxBy_len]; omega) | (simp [marks_len]; omega) | (simp [upN_len]; done) | (simp [idxBy_len]; done) | (simp [marks_len]; done) | (simp at *; omega)) (by first | rfl | omega | (simp; done) | (simp; omega) | (simp [upN_len]; omega) | (simp [idxBy_len]; omega) | (simp [marks_len]; omega) | (simp [upN_len]; done) | (simp [idxBy_len]; done) | (simp [marks_len]; done) | (simp at *; omega)) rfl) (Sts.lrm hk dk 2 (by first | rfl | omega | (simp; done) | (simp; omega) | (simp [upN_len]; omega) | (simp [idxBy_len]; omega) | (simp [marks_len]; omega) | (simp [upN_len]; done) | (simp [idxBy_len]; done) | (simp [marks_len]; done) | (simp at *; omega)) (by first | rfl | omega | (simp; done) | (simp; omega) | (simp [upN_len]; omega) | (simp [idxBy_len]; omega) | (simp [marks_len]; omega) | (simp [upN_len]; done) | (simp [idxBy_len]; done) | (simp [marks_len]; done) | (simp at *; omega)) rfl)) ?_
      refine LJ.yd rfl (Yd.not rfl) ?_
      refine LJ.nil ?_
      refine CJ.condF rfl ?_
      refine CJ.skip ?_
      refine CJ.seq ?_
      refine CJ.seq ?_
      refine CJ.region ?_
      refine LJ.yd rfl (Yd.mvS rfl) ?_
      refine LJ.yd rfl (Yd.mvS rfl) ?_
      refine LJ.call0 rfl (fun k hk dk => toIntS_ok (RdRow.up hl) (by omega)) ?_
      rintro _ _ ⟨ra41, rc41, rfl, rfl⟩
      refine LJ.norm [_, _, _, _, _, _, _] rfl ?_
      refine LJ.callV rfl (fun k hk dk => eqIntS_eq (Sts.lrm hk dk 3 (by first | rfl | omega | (simp; done) | (simp; omega) | (simp [upN_len]; omega) | (simp [idxBy_len]; omega) | (simp [marks_len]; omega) | (simp [upN_len]; done) | (simp [idxBy_len]; done) | (simp [marks_len]; done) | (simp at *; omega)) (by first | rfl | omega | (simp; done) | (simp; omega) | (simp [upN_len]; omega) | (simp [idxBy_len]; omega) | (simp [marks_len]; omega) | (simp [upN_len]; done) | (simp [idxBy_len]; done) | (simp [marks_len]; done) | (simp at *; omega)) rfl) (Sts.lrm hk dk 6 (by first | rfl | omega | (simp; done) | (simp; omega) | (simp [upN_len]; omega) | (simp [idxBy_len]; omega) | (simp [marks_len]; omega) | (simp [upN_len]; done) | (simp [idxBy_len]; done) | (simp [marks_len]; done) | (simp at *; omega)) (by first | rfl | omega | (simp; done) | (simp; omega) | (simp [upN_len]; omega) | (simp [idxBy_len]; omega) | (simp [marks_len]; omega) | (simp [upN_len]; done) | (simp [idxBy_len]; done) | (simp [marks_len]; done) | (simp at *; omega)) rfl)) ?_
      refine LJ.yd rfl (Yd.not rfl) ?_
      refine LJ.nil ?_
      refine CJ.condF rfl ?_
      refine CJ.skip ?_
      refine CJ.seq ?_
      refine CJ.seq ?_
      refine CJ.region ?_
      refine LJ.yd rfl (Yd.mvS rfl) ?_
      refine LJ.yd rfl (Yd.mvS rfl) ?_
      refine LJ.call0 rfl (fun k hk dk => toIntS_ok (RdRow.up hl2) (by omega)) ?_
      rintro _ _ ⟨ra46, rc46, rfl, rfl⟩
      refine LJ.norm [_, _, _, _, _, _, _, _] rfl ?_
      refine LJ.callV rfl (fun k hk dk => eqIntS_eq (Sts.lrm hk dk 4 (by first | rfl | omega | (simp; done) | (simp; omega) | (simp [upN_len]; omega) | (simp [idxBy_len]; omega) | (simp [marks_len]; omega) | (simp [upN_len]; done) | (simp [idxBy_len]; done) | (simp [marks_len]; done) | (simp at *; omega)) (by first | rfl | omega | (simp; done) | (simp; omega) | (simp [upN_len]; omega) | (simp [idxBy_len]; omega) | (simp [marks_len]; omega) | (simp [upN_len]; done) | (simp [idxBy_len]; done) | (simp [marks_len]; done) | (simp at *; omega)) rfl) (Sts.lrm hk dk 7 (by first | rfl | omega | (simp; done) | (simp; omega) | (simp [upN_len]; omega) | (simp [idxBy_len]; omega) | (simp [marks_len]; omega) | (simp [upN_len]; done) | (simp [idxBy_len]; done) | (simp [marks_len]; done) | (simp at *; omega)) (by first | rfl | omega | (simp; done) | (simp; omega) | (simp [upN_len]; omega) | (simp [idxBy_len]; omega) | (simp [marks_len]; omega) | (simp [upN_len]; done) | (simp [idxBy_len]; done) | (simp [marks_len]; done) | (simp at *; omega)) rfl)) ?_
      refine LJ.yd rfl (Yd.not rfl) ?_
      refine LJ.nil ?_
      refine CJ.condF rfl ?_
      refine CJ.skip ?_
      refine CJ.seq ?_
      refine CJ.region ?_
      refine LJ.yd rfl (Yd.asI rfl) ?_
      refine LJ.nil ?_
      refine CJ.seq ?_
      refine CJ.region ?_
      refine LJ.yd rfl (Yd.mvS rfl) ?_
      refine LJ.yd rfl (Yd.mvI rfl) ?_
      refine LJ.call (pickF _ [0, 1, 2, 4, 5, 6, 7]) (pickF _ [3]) rfl (perm_pickF _ [0, 1, 2, 4, 5, 6, 7] [3] rfl) (fun k hk dk => markIntS_ok rfl (by omega) (by omega) (by omega)) ?_
      rintro _ _ ⟨rfl, rfl⟩
      refine LJ.norm [_, _, _, _, _, _, _, _] rfl ?_
      refine LJ.yd rfl (Yd.asI rfl) ?_
      refine LJ.nil ?_
      refine CJ.seq ?_
      refine CJ.region ?_
      refine LJ.yd rfl (Yd.mvS rfl) ?_
      refine LJ.yd rfl (Yd.mvI rfl) ?_
      refine LJ.call (pickF _ [0, 1, 2, 4, 5, 6, 7]) (pickF _ [3]) rfl (perm_pickF _ [0, 1, 2, 4, 5, 6, 7] [3] rfl) (fun k hk dk => markIntS_ok rfl (by omega) (by omega) (by omega)) ?_
      rintro _ _ ⟨rfl, rfl⟩
      refine LJ.norm [_, _, _, _, _, _, _, _] rfl ?_
      refine LJ.yd rfl (Yd.asI rfl) ?_
      refine LJ.nil ?_
      refine CJ.seq ?_
      refine CJ.seq ?_
      refine CJ.region ?_
      refine LJ.yd rfl (Yd.mvI rfl) ?_
      refine LJ.splitD rfl (Yd.lss rfl rfl) (fun h56 => ?_) (fun h56 => ?_)
      · exfalso; omega
      · refine LJ.yd rfl (Yd.mvB rfl) ?_
        refine LJ.gT rfl ?_
        refine LJ.yd rfl (Yd.mvS rfl) ?_
        refine LJ.gT rfl ?_
        refine LJ.yd rfl (Yd.mvS rfl) ?_
        refine LJ.gT rfl ?_
        refine LJ.callV rfl (fun k hk dk => eqIntS_eq (Sts.lrm hk dk 3 (by first | rfl | omega | (simp; done) | (simp; omega) | (simp [upN_len]; omega) | (simp [idxBy_len]; omega) | (simp [marks_len]; omega) | (simp [upN_len]; done) | (simp [idxBy_len]; done) | (simp [marks_len]; done) | (simp at *; omega)) (by first | rfl | omega | (simp; done) | (simp; omega) | (simp [upN_len]; omega) | (simp [idxBy_len]; omega) | (simp [marks_len]; omega) | (simp [upN_len]; done) | (simp [idxBy_len]; done) | (simp [marks_len]; done) | (simp at *; omega)) rfl) (Sts.lrm hk dk 2 (by first | rfl | omega | (simp; done) | (simp; omega) | (simp [upN_len]; omega) | (simp [idxBy_len]; omega) | (simp [marks_len]; omega) | (simp [upN_len]; done) | (simp [idxBy_len]; done) | (simp [marks_len]; done) | (simp at *; omega)) (by first | rfl | omega | (simp; done) | (simp; omega) | (simp [upN_len]; omega) | (simp [idxBy_len]; omega) | (simp [marks_len]; omega) | (simp [upN_len]; done) | (simp [idxBy_len]; done) | (simp [marks_len]; done) | (simp at *; omega)) rfl)) ?_
        refine LJ.gT rfl ?_
        refine LJ.yd rfl (Yd.not rfl) ?_
        refine LJ.yd rfl (Yd.pickFB rfl rfl) ?_
        refine LJ.nil ?_
        refine CJ.condF rfl ?_
        refine CJ.skip ?_
        refine CJ.seq ?_
        refine CJ.region ?_
        refine LJ.yd rfl (Yd.asI rfl) ?_
        refine LJ.nil ?_
        refine CJ.seq ?_
        refine CJ.region ?_
        refine LJ.yd rfl (Yd.mvS rfl) ?_
        refine LJ.yd rfl (Yd.mvI rfl) ?_
        refine LJ.call (pickF _ [0, 1, 2, 4, 5, 6, 7]) (pickF _ [3]) rfl (perm_pickF _ [0, 1, 2, 4, 5, 6, 7] [3] rfl) (fun k hk dk => markIntS_ok rfl (by omega) (by omega) (by omega)) ?_
        rintro _ _ ⟨rfl, rfl⟩
        refine LJ.norm [_, _, _, _, _, _, _, _] rfl ?_
        refine LJ.yd rfl (Yd.asI rfl) ?_
        refine LJ.nil ?_
        refine CJ.seq ?_
        refine CJ.region ?_
        refine LJ.yd rfl (Yd.asI rfl) ?_
        refine LJ.nil ?_
        refine CJ.seq ?_
        refine CJ.region ?_
        refine LJ.yd rfl (Yd.mvS rfl) ?_
        refine LJ.yd rfl (Yd.mvI rfl) ?_
        refine LJ.callV rfl (fun k hk dk => heldIntS_ok (Sts.lrm hk dk 7 (by first | rfl | omega | (simp; done) | (simp; omega) | (simp [upN_len]; omega) | (simp [idxBy_len]; omega) | (simp [marks_len]; omega) | (simp [upN_len]; done) | (simp [idxBy_len]; done) | (simp [marks_len]; done) | (simp at *; omega)) (by first | rfl | omega | (simp; done) | (simp; omega) | (simp [upN_len]; omega) | (simp [idxBy_len]; omega) | (simp [marks_len]; omega) | (simp [upN_len]; done) | (simp [idxBy_len]; done) | (simp [marks_len]; done) | (simp at *; omega)) rfl) (by omega) (by omega) (by omega)) ?_
        refine LJ.yd rfl (Yd.asI rfl) ?_
        refine LJ.nil ?_
        refine CJ.seq ?_
        refine CJ.seq ?_
        refine CJ.region ?_
        refine LJ.yd rfl (Yd.mvI rfl) ?_
        refine LJ.splitD rfl (Yd.lss rfl rfl) (fun h70 => ?_) (fun h70 => ?_)
        · exfalso; omega
        · refine LJ.nil ?_
          refine CJ.condF rfl ?_
          refine CJ.skip ?_
          refine CJ.seq ?_
          refine CJ.seq ?_
          refine CJ.region ?_
          refine LJ.yd rfl (Yd.mvI rfl) ?_
          refine LJ.yd rfl (Yd.mvI rfl) ?_
          refine LJ.splitN rfl (Yd.neq rfl rfl) (fun h73 => ?_) (fun h73 => ?_)
          · exfalso; omega
          · refine LJ.nil ?_
            refine CJ.condF rfl ?_
            refine CJ.skip ?_
            refine CJ.seq ?_
            refine CJ.region ?_
            refine LJ.yd rfl (Yd.mvS rfl) ?_
            refine LJ.call0 rfl (fun k hk dk => toIntS_ok (RdRow.up hl) (by omega)) ?_
            rintro _ _ ⟨ra75, rc75, rfl, rfl⟩
            refine LJ.norm [_, _, _, _, _, _, _, _, _] rfl ?_
            refine LJ.yd rfl (Yd.mvS rfl) ?_
            refine LJ.call0 rfl (fun k hk dk => toIntS_ok (RdRow.up hl2) (by omega)) ?_
            rintro _ _ ⟨ra77, rc77, rfl, rfl⟩
            refine LJ.norm [_, _, _, _, _, _, _, _, _, _] rfl ?_
            refine LJ.yd rfl (Yd.mvI rfl) ?_
            refine LJ.call0 rfl (fun k hk dk => PairUpK_ok (Sts.lrm hk dk 8 (by first | rfl | omega | (simp; done) | (simp; omega) | (simp [upN_len]; omega) | (simp [idxBy_len]; omega) | (simp [marks_len]; omega) | (simp [upN_len]; done) | (simp [idxBy_len]; done) | (simp [marks_len]; done) | (simp at *; omega)) (by first | rfl | omega | (simp; done) | (simp; omega) | (simp [upN_len]; omega) | (simp [idxBy_len]; omega) | (simp [marks_len]; omega) | (simp [upN_len]; done) | (simp [idxBy_len]; done) | (simp [marks_len]; done) | (simp at *; omega)) rfl) (Sts.lrm hk dk 9 (by first | rfl | omega | (simp; done) | (simp; omega) | (simp [upN_len]; omega) | (simp [idxBy_len]; omega) | (simp [marks_len]; omega) | (simp [upN_len]; done) | (simp [idxBy_len]; done) | (simp [marks_len]; done) | (simp at *; omega)) (by first | rfl | omega | (simp; done) | (simp; omega) | (simp [upN_len]; omega) | (simp [idxBy_len]; omega) | (simp [marks_len]; omega) | (simp [upN_len]; done) | (simp [idxBy_len]; done) | (simp [marks_len]; done) | (simp at *; omega)) rfl)) ?_
            rintro _ _ ⟨ra79, rc79, rfl, rfl⟩
            refine LJ.norm [_, _, _, _, _, _, _, _, _, _, _] rfl ?_
            refine LJ.yd rfl (Yd.asS rfl) ?_
            refine LJ.nil ?_
            refine CJ.seq ?_
            refine CJ.seq ?_
            refine CJ.region ?_
            refine LJ.yd rfl (Yd.mvS rfl) ?_
            refine LJ.yd rfl (Yd.mvS rfl) ?_
            refine LJ.callV rfl (fun k hk dk => eqIntS_eq (Sts.lrm hk dk 10 (by first | rfl | omega | (simp; done) | (simp; omega) | (simp [upN_len]; omega) | (simp [idxBy_len]; omega) | (simp [marks_len]; omega) | (simp [upN_len]; done) | (simp [idxBy_len]; done) | (simp [marks_len]; done) | (simp at *; omega)) (by first | rfl | omega | (simp; done) | (simp; omega) | (simp [upN_len]; omega) | (simp [idxBy_len]; omega) | (simp [marks_len]; omega) | (simp [upN_len]; done) | (simp [idxBy_len]; done) | (simp [marks_len]; done) | (simp at *; omega)) rfl) (Sts.lrm hk dk 2 (by first | rfl | omega | (simp; done) | (simp; omega) | (simp [upN_len]; omega) | (simp [idxBy_len]; omega) | (simp [marks_len]; omega) | (simp [upN_len]; done) | (simp [idxBy_len]; done) | (simp [marks_len]; done) | (simp at *; omega)) (by first | rfl | omega | (simp; done) | (simp; omega) | (simp [upN_len]; omega) | (simp [idxBy_len]; omega) | (simp [marks_len]; omega) | (simp [upN_len]; done) | (simp [idxBy_len]; done) | (simp [marks_len]; done) | (simp at *; omega)) rfl)) ?_
            refine LJ.yd rfl (Yd.not rfl) ?_
            refine LJ.nil ?_
            refine CJ.condF rfl ?_
            refine CJ.skip ?_
            refine CJ.seq ?_
            refine CJ.region ?_
            refine LJ.yd rfl (Yd.asI rfl) ?_
            refine LJ.nil ?_
            refine CJ.seq ?_
            refine CJ.region ?_
            refine LJ.yd rfl (Yd.mvS rfl) ?_
            refine LJ.yd rfl (Yd.mvI rfl) ?_
            refine LJ.callV rfl (fun k hk dk => heldIntS_ok (Sts.lrm hk dk 7 (by first | rfl | omega | (simp; done) | (simp; omega) | (simp [upN_len]; omega) | (simp [idxBy_len]; omega) | (simp [marks_len]; omega) | (simp [upN_len]; done) | (simp [idxBy_len]; done) | (simp [marks_len]; done) | (simp at *; omega)) (by first | rfl | omega | (simp; done) | (simp; omega) | (simp [upN_len]; omega) | (simp [idxBy_len]; omega) | (simp [marks_len]; omega) | (simp [upN_len]; done) | (simp [idxBy_len]; done) | (simp [marks_len]; done) | (simp at *; omega)) rfl) (by omega) (by omega) (by omega)) ?_
            refine LJ.yd rfl (Yd.asI rfl) ?_
            refine LJ.nil ?_
            refine CJ.seq ?_
            refine CJ.seq ?_
            refine CJ.region ?_
            refine LJ.yd rfl (Yd.mvI rfl) ?_
            refine LJ.splitD rfl (Yd.lss rfl rfl) (fun h88 => ?_) (fun h88 => ?_)
            · exfalso; omega
            · refine LJ.nil ?_
              refine CJ.condF rfl ?_
              refine CJ.skip ?_
              refine CJ.seq ?_
              refine CJ.seq ?_
              refine CJ.region ?_
              refine LJ.yd rfl (Yd.mvI rfl) ?_
              refine LJ.yd rfl (Yd.mvI rfl) ?_
              refine LJ.splitN rfl (Yd.neq rfl rfl) (fun h91 => ?_) (fun h91 => ?_)
              · exfalso; omega
              · refine LJ.nil ?_
                refine CJ.condF rfl ?_
                refine CJ.skip ?_
                refine CJ.seq ?_
                refine CJ.region ?_
                refine LJ.yd rfl (Yd.asB rfl) ?_
                refine LJ.nil ?_
                refine CJ.ret ?_
                refine Fin.V (Res.one (ResV.tmp (v := .bool true) rfl)) ?_
                rfl
theorem FnExactPairsIn_ok {A : Amb} {a a2 : Option Addr} {n c n2 c2 : Nat} {l l2 : List Int} {s : Int} (hl : n ≤ 1048576 → RdL encI 1 A.h (.slice a n c) l ∧ n = l.length) (hl2 : n2 ≤ 1048576 → RdL encI 1 A.h (.slice a2 n2 c2) l2 ∧ n2 = l2.length) : Ctr Try.prog 4 #[.slice a n c, .slice a2 n2 c2, vI s] A [] (Val (.bool true)) := by
  refine Ctr.body (args := [_, _, _]) Try.func4 rfl Try.ntmps4 Try.results4 (by simp) ?_
  refine CJ.seq ?_
  refine CJ.region ?_
  refine LJ.yd rfl (Yd.asB rfl) ?_
  refine LJ.nil ?_
  refine CJ.seq ?_
  refine CJ.seq ?_
  refine CJ.region ?_
  refine LJ.yd rfl (Yd.mvS rfl) ?_
  refine LJ.yd rfl (Yd.len rfl) ?_
  refine LJ.splitD rfl (Yd.gtr rfl rfl) (fun h13 => ?_) (fun h13 => ?_)
  · refine LJ.nil ?_
    refine CJ.condT rfl ?_
    refine CJ.seq ?_
    refine CJ.region ?_
    refine LJ.yd rfl (Yd.asB rfl) ?_
    refine LJ.nil ?_
    refine CJ.ret ?_
    refine Fin.V (Res.one (ResV.tmp (v := .bool true) rfl)) ?_
    rfl
  · refine LJ.nil ?_
    refine CJ.condF rfl ?_
    refine CJ.skip ?_
    refine CJ.seq ?_
    refine CJ.seq ?_
    obtain ⟨hl, rfl⟩ := hl (by omega)
    refine CJ.region ?_
    refine LJ.yd rfl (Yd.mvS rfl) ?_
    refine LJ.yd rfl (Yd.len rfl) ?_
    refine LJ.splitD rfl (Yd.gtr rfl rfl) (fun h16 => ?_) (fun h16 => ?_)
    · refine LJ.nil ?_
      refine CJ.condT rfl ?_
      refine CJ.seq ?_
      refine CJ.region ?_
      refine LJ.yd rfl (Yd.asB rfl) ?_
      refine LJ.nil ?_
      refine CJ.ret ?_
      refine Fin.V (Res.one (ResV.tmp (v := .bool true) rfl)) ?_
      rfl
    · refine LJ.nil ?_
      refine CJ.condF rfl ?_
      refine CJ.skip ?_
      refine CJ.seq ?_
      obtain ⟨hl2, rfl⟩ := hl2 (by omega)
      refine CJ.region ?_
      refine LJ.yd rfl (Yd.mvS rfl) ?_
      refine LJ.call0 rfl (fun k hk dk => toIntS_ok (RdRow.up hl) (by omega)) ?_
      rintro _ _ ⟨ra18, rc18, rfl, rfl⟩
      refine LJ.norm [_] rfl ?_
      refine LJ.yd rfl (Yd.mvS rfl) ?_
      refine LJ.call0 rfl (fun k hk dk => toIntS_ok (RdRow.up hl2) (by omega)) ?_
      rintro _ _ ⟨ra20, rc20, rfl, rfl⟩
      refine LJ.norm [_, _] rfl ?_
      refine LJ.yd rfl (Yd.mvI rfl) ?_
      refine LJ.callV rfl (fun k hk dk => PairsInS_ok (Sts.lrm hk dk 0 (by first | rfl | omega | (simp; done) | (simp; omega) | (simp [upN_len]; omega) | (simp [idxBy_len]; omega) | (simp [marks_len]; omega) | (simp [upN_len]; done) | (simp [idxBy_len]; done) | (simp [marks_len]; done) | (simp at *; omega)) (by first | rfl | omega | (simp; done) | (simp; omega) | (simp [upN_len]; omega) | (simp [idxBy_len]; omega) | (simp [marks_len]; omega) | (simp [upN_len]; done) | (simp [idxBy_len]; done) | (simp [marks_len]; done) | (simp at *; omega)) rfl) (Sts.lrm hk dk 1 (by first | rfl | omega | (simp; done) | (simp; omega) | (simp [upN_len]; omega) | (simp [idxBy_len]; omega) | (simp [marks_len]; omega) | (simp [upN_len]; done) | (simp [idxBy_len]; done) | (simp [marks_len]; done) | (simp at *; omega)) (by first | rfl | omega | (simp; done) | (simp; omega) | (simp [upN_len]; omega) | (simp [idxBy_len]; omega) | (simp [marks_len]; omega) | (simp [upN_len]; done) | (simp [idxBy_len]; done) | (simp [marks_len]; done) | (simp at *; omega)) rfl)) ?_
      refine LJ.yd rfl (Yd.asI rfl) ?_
      refine LJ.nil ?_
      refine CJ.seq ?_
      refine CJ.region ?_
      refine LJ.yd rfl (Yd.mvS rfl) ?_
      refine LJ.call0 rfl (fun k hk dk => toIntS_ok (RdRow.up hl) (by omega)) ?_
      rintro _ _ ⟨ra24, rc24, rfl, rfl⟩
      refine LJ.norm [_, _, _] rfl ?_
      refine LJ.yd rfl (Yd.asS rfl) ?_
      refine LJ.nil ?_
      refine CJ.seq ?_
      refine CJ.region ?_
      refine LJ.yd rfl (Yd.mvS rfl) ?_
      refine LJ.call0 rfl (fun k hk dk => toIntS_ok (RdRow.up hl2) (by omega)) ?_
      rintro _ _ ⟨ra26, rc26, rfl, rfl⟩
      refine LJ.norm [_, _, _, _] rfl ?_
      refine LJ.yd rfl (Yd.asS rfl) ?_
      refine LJ.nil ?_
      refine CJ.seq ?_
      refine CJ.region ?_
      refine LJ.yd rfl (Yd.mvS rfl) ?_
      refine LJ.yd rfl (Yd.mvS rfl) ?_
      refine LJ.yd rfl (Yd.mvI rfl) ?_
      refine LJ.callV rfl (fun k hk dk => PairsInK_ok (Sts.lrm hk dk 2 (by first | rfl | omega | (simp; done) | (simp; omega) | (simp [upN_len]; omega) | (simp [idxBy_len]; omega) | (simp [marks_len]; omega) | (simp [upN_len]; done) | (simp [idxBy_len]; done) | (simp [marks_len]; done) | (simp at *; omega)) (by first | rfl | omega | (simp; done) | (simp; omega) | (simp [upN_len]; omega) | (simp [idxBy_len]; omega) | (simp [marks_len]; omega) | (simp [upN_len]; done) | (simp [idxBy_len]; done) | (simp [marks_len]; done) | (simp at *; omega)) rfl) (Sts.lrm hk dk 3 (by first | rfl | omega | (simp; done) | (simp; omega) | (simp [upN_len]; omega) | (simp [idxBy_len]; omega) | (simp [marks_len]; omega) | (simp [upN_len]; done) | (simp [idxBy_len]; done) | (simp [marks_len]; done) | (simp at *; omega)) (by first | rfl | omega | (simp; done) | (simp; omega) | (simp [upN_len]; omega) | (simp [idxBy_len]; omega) | (simp [marks_len]; omega) | (simp [upN_len]; done) | (simp [idxBy_len]; done) | (simp [marks_len]; done) | (simp at *; omega)) rfl)) ?_
      refine LJ.yd rfl (Yd.asI rfl) ?_
      refine LJ.nil ?_
      refine CJ.seq ?_
      refine CJ.seq ?_
      refine CJ.region ?_
      refine LJ.yd rfl (Yd.mvI rfl) ?_
      refine LJ.yd rfl (Yd.mvI rfl) ?_
      refine LJ.splitN rfl (Yd.neq rfl rfl) (fun h33 => ?_) (fun h33 => ?_)
      · exfalso; omega
      · refine LJ.nil ?_
        refine CJ.condF rfl ?_
        refine CJ.skip ?_
        refine CJ.seq ?_
        refine CJ.seq ?_
        refine CJ.region ?_
        refine LJ.yd rfl (Yd.mvS rfl) ?_
        refine LJ.yd rfl (Yd.mvS rfl) ?_
        refine LJ.call0 rfl (fun k hk dk => toIntS_ok (RdRow.up hl) (by omega)) ?_
        rintro _ _ ⟨ra36, rc36, rfl, rfl⟩
        refine LJ.norm [_, _, _, _, _] rfl ?_
        refine LJ.callV rfl (fun k hk dk => eqIntS_eq (Sts.lrm hk dk 2 (by first | rfl | omega | (simp; done) | (simp; omega) | (simp [upN_len]; omega) | (simp [idxBy_len]; omega) | (simp [marks_len]; omega) | (simp [upN_len]; done) | (simp [idxBy_len]; done) | (simp [marks_len]; done) | (simp at *; omega)) (by first | rfl | omega | (simp; done) | (simp; omega) | (simp [upN_len]; omega) | (simp [idxBy_len]; omega) | (simp [marks_len]; omega) | (simp [upN_len]; done) | (simp [idxBy_len]; done) | (simp [marks_len]; done) | (simp at *; omega)) rfl) (Sts.lrm hk dk 4 (by first | rfl | omega | (simp; done) | (simp; omega) | (simp [upN_len]; omega) | (simp [idxBy_len]; omega) | (simp [marks_len]; omega) | (simp [upN_len]; done) | (simp [idxBy_len]; done) | (simp [marks_len]; done) | (simp at *; omega)) (by first | rfl | omega | (simp; done) | (simp; omega) | (simp [upN_len]; omega) | (simp [idxBy_len]; omega) | (simp [marks_len]; omega) | (simp [upN_len]; done) | (simp [idxBy_len]; done) | (simp [marks_len]; done) | (simp at *; omega)) rfl)) ?_
        refine LJ.yd rfl (Yd.not rfl) ?_
        refine LJ.nil ?_
        refine CJ.condF rfl ?_
        refine CJ.skip ?_
        refine CJ.seq ?_
        refine CJ.seq ?_
        refine CJ.region ?_
        refine LJ.yd rfl (Yd.mvS rfl) ?_
        refine LJ.yd rfl (Yd.mvS rfl) ?_
        refine LJ.call0 rfl (fun k hk dk => toIntS_ok (RdRow.up hl2) (by omega)) ?_
        rintro _ _ ⟨ra41, rc41, rfl, rfl⟩
        refine LJ.norm [_, _, _, _, _, _] rfl ?_
        refine LJ.callV rfl (fun k hk dk => eqIntS_eq (Sts.lrm hk dk 3 (by first | rfl | omega | (simp; done) | (simp; omega) | (simp [upN_len]; omega) | (simp [idxBy_len]; omega) | (simp [marks_len]; omega) | (simp [upN_len]; done) | (simp [idxBy_len]; done) | (simp [marks_len]; done) | (simp at *; omega)) (by first | rfl | omega | (simp; done) | (simp; omega) | (simp [upN_len]; omega) | (simp [idxBy_len]; omega) | (simp [marks_len]; omega) | (simp [upN_len]; done) | (simp [idxBy_len]; done) | (simp [marks_len]; done) | (simp at *; omega)) rfl) (Sts.lrm hk dk 5 (by first | rfl | omega | (simp; done) | (simp; omega) | (simp [upN_len]; omega) | (simp [idxBy_len]; omega) | (simp [marks_len]; omega) | (simp [upN_len]; done) | (simp [idxBy_len]; done) | (simp [marks_len]; done) | (simp at *; omega)) (by first | rfl | omega | (simp; done) | (simp; omega) | (simp [upN_len]; omega) | (simp [idxBy_len]; omega) | (simp [marks_len]; omega) | (simp [upN_len]; done) | (simp [idxBy_len]; done) | (simp [marks_len]; done) | (simp at *; omega)) rfl)) ?_
        refine LJ.yd rfl (Yd.not rfl) ?_
        refine LJ.nil ?_
        refine CJ.condF rfl ?_
        refine CJ.skip ?_
        refine CJ.seq ?_
        refine CJ.region ?_
        refine LJ.yd rfl (Yd.asB rfl) ?_
        refine LJ.nil ?_
        refine CJ.ret ?_
        refine Fin.V (Res.one (ResV.tmp (v := .bool true) rfl)) ?_
        rfl
end Go.Proofs.Ytbgalcjkmgdaiaa
