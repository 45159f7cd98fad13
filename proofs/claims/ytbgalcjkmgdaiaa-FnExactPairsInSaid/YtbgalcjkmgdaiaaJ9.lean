/-
  Contracts: partners, the reference; draws; the laws on partners.
-/
import Derived.Test.YtbgalcjkmgdaiaaJ8
import Derived.Test.YtbgalcjkmgdaiaaRD
namespace Go.Proofs.Ytbgalcjkmgdaiaa
open Go
set_option maxRecDepth 20000
set_option maxHeartbeats 1000000

theorem ptI_zero (a b : List Int) (s : Int) (X Y : List Int) : PtI a b s X Y 0 (0 : Int).toNat (grP a b s (X.take 0)) := ⟨fun z _ q hq => (nomatch (show q ∈ ([] : Prs) from hq)), fun z hz => (nomatch (show z ∈ ([] : List Int) from hz))⟩
theorem pairUpS_ok {A : Amb} {v w : Value} {a b : List Int} {s : Int} (hl : RdL encI 1 A.h v a) (hl2 : RdL encI 1 A.h w b) (hpo : PairOk a b s) : Ctr Try.prog 44 #[v, w, vI s] A [] (RLP encI 3 1 (pairR a b s)) := by
  obtain ⟨la, lc, rfl, hlb, hl⟩ := hl.un
  obtain ⟨la2, lc2, rfl, hlb2, hl2⟩ := hl2.un
  have ha := (szOk_iff.1 hpo.1).2
  have hb := (szOk_iff.1 hpo.2.1).2
  have han := (szOk_iff.1 hpo.1).1
  have hbn := (szOk_iff.1 hpo.2.1).1
  have hs0 := hpo.2.2.1
  have hs1 := hpo.2.2.2
  have hxl := idxBy_len (ltR a) a.length
  have hyl := idxBy_len (ltR b) b.length
  have hX := idx_lex a a.length
  have hY := idx_lex b b.length
  have hm : ∀ z, z ∈ idxBy (ltR b) b.length ↔ 0 ≤ z ∧ z < b.length := fun z => idxBy_mem
  refine Ctr.body (args := [_, _, _]) Try.func44 rfl Try.ntmps44 Try.results44 (by simp) ?_
  refine CJ.seq ?_
  refine CJ.region ?_
  refine LJ.yd rfl (Yd.asS rfl) ?_
  refine LJ.nil ?_
  refine CJ.seq ?_
  refine CJ.region ?_
  refine LJ.op rfl (OpR.buildSlice (cs := []) rfl rfl) ?_
  rintro _ _ ⟨b1, rfl, rfl⟩
  refine LJ.yd rfl (Yd.asS rfl) ?_
  refine LJ.nil ?_
  refine CJ.seq ?_
  refine CJ.seq ?_
  refine CJ.region ?_
  refine LJ.yd rfl (Yd.asI rfl) ?_
  refine LJ.nil ?_
  refine CJ.block ?_
  refine CJ.imp1 0 rfl (fun _ h => Cel.lr (enc := encI) (k := 1) (m := 0) [] rfl rfl rfl rfl h) ?_
  refine CJ.norm [_] rfl ?_
  refine CJ.loopF [0, 1, 2, 6] (Nat × List Int × Option Addr × Nat × Nat) (fun ⟨k, r, rA, rN, rC⟩ => (rN = r.length) ∧ k ≤ a.length ∧ r = List.replicate k (-1)) (fun ⟨k, r, rA, rN, rC⟩ => [(8, vI k), (7, .slice rA rN rC)]) (fun ⟨k, r, rA, rN, rC⟩ => [LR encI 3 1 rA rC r]) (fun ⟨k, r, rA, rN, rC⟩ => a.length - k) (0, [], _, _, _) [] [] [0] rfl rfl rfl ?_ ⟨rfl, rfl, trivial⟩ ?_
  · exact ⟨(by first | rfl | omega | (simp; done) | (simp; omega) | (simp [upN_len]; omega) | (simp [idxBy_len]; omega) | (simp [marks_len]; omega) | (simp [upN_len]; done) | (simp [idxBy_len]; done) | (simp [marks_len]; done) | (simp at *; omega)), ⟨by omega, by rfl⟩⟩
  · rintro ⟨k, r, rA, rN, rC⟩ σ ⟨hlNr, ⟨hk1, hr⟩⟩
    subst hlNr
    refine CJ.norm [_] rfl ?_
    have hrl : r.length = k := by rw [hr]; simp
    refine CJ.seq ?_
    refine CJ.seq ?_
    refine CJ.region ?_
    refine LJ.yd rfl (Yd.mvI rfl) ?_
    refine LJ.yd rfl (Yd.mvS rfl) ?_
    refine LJ.yd rfl (Yd.len rfl) ?_
    refine LJ.splitD rfl (Yd.lss rfl rfl) (fun h17 => ?_) (fun h17 => ?_)
    · refine LJ.nil ?_
      refine CJ.condT rfl ?_
      refine CJ.skip ?_
      refine CJ.seq ?_
      refine CJ.block ?_
      refine CJ.region ?_
      refine LJ.yd rfl (Yd.mvS rfl) ?_
      refine LJ.op rfl (OpR.buildSlice (cs := [_]) rfl rfl) ?_
      rintro _ _ ⟨b2, rfl, rfl⟩
      refine LJ.op rfl (OpR.apT (enc := encI) [_] 0 1 rfl rfl rfl (by first | rfl | omega | (simp; done) | (simp; omega) | (simp [upN_len]; omega) | (simp [idxBy_len]; omega) | (simp [marks_len]; omega) | (simp [upN_len]; done) | (simp [idxBy_len]; done) | (simp [marks_len]; done) | (simp at *; omega)) rfl rfl rfl rfl rfl (by first | rfl | omega | (simp; done) | (simp; omega) | (simp [upN_len]; omega) | (simp [idxBy_len]; omega) | (simp [marks_len]; omega) | (simp [upN_len]; done) | (simp [idxBy_len]; done) | (simp [marks_len]; done) | (simp at *; omega))) ?_
      rintro _ _ ⟨ra22, rc22, rfl, rfl⟩
      refine LJ.norm [_, _] rfl ?_
      refine LJ.yd rfl (Yd.asS rfl) ?_
      refine LJ.nil ?_
      refine CJ.region ?_
      refine LJ.yd rfl (Yd.mvI rfl) ?_
      refine LJ.yd rfl (Yd.add rfl rfl (by unfold I64; omega)) ?_
      refine LJ.yd rfl (Yd.asI rfl) ?_
      refine LJ.nil ?_
      refine ⟨(k + 1, _, _, _, _), ?_, ⟨rfl, rfl, rfl, rfl, trivial⟩, ⟨rfl, rfl, trivial⟩, Ent.pick [0] [1] rfl, ?_⟩
      · refine ⟨(by first | rfl | omega | (simp; done) | (simp; omega) | (simp [upN_len]; omega) | (simp [idxBy_len]; omega) | (simp [marks_len]; omega) | (simp [upN_len]; done) | (simp [idxBy_len]; done) | (simp [marks_len]; done) | (simp at *; omega)), ?_⟩
        refine ⟨by omega, ?_⟩
        rw [hr, List.replicate_succ']
      · first | omega | (dsimp only; omega) | (simp only []; omega)
    · refine LJ.nil ?_
      refine CJ.condF rfl ?_
      refine CJ.exit ?_
      refine CJ.seq ?_
      refine CJ.region ?_
      refine LJ.yd rfl (Yd.mvS rfl) ?_
      refine LJ.call0 rfl (fun k hk dk => risingS_ok (RdRow.up hl) (by omega)) ?_
      rintro _ _ ⟨ra24, rc24, rfl, rfl⟩
      refine LJ.norm [_, _] rfl ?_
      refine LJ.yd rfl (Yd.asS rfl) ?_
      refine LJ.nil ?_
      refine CJ.seq ?_
      refine CJ.region ?_
      refine LJ.yd rfl (Yd.mvS rfl) ?_
      refine LJ.call0 rfl (fun k hk dk => risingS_ok (RdRow.up hl2) (by omega)) ?_
      rintro _ _ ⟨ra26, rc26, rfl, rfl⟩
      refine LJ.norm [_, _, _] rfl ?_
      refine LJ.yd rfl (Yd.asS rfl) ?_
      refine LJ.nil ?_
      refine CJ.seq ?_
      refine CJ.region ?_
      refine LJ.yd rfl (Yd.asI rfl) ?_
      refine LJ.nil ?_
      refine CJ.seq ?_
      refine CJ.seq ?_
      refine CJ.region ?_
      refine LJ.yd rfl (Yd.asI rfl) ?_
      refine LJ.nil ?_
      refine CJ.block ?_
      refine CJ.loopF [0, 1, 2, 6, 7, 9, 10] (Nat × Int × List Int) (fun ⟨k, c, o⟩ => k ≤ a.length ∧ 0 ≤ c ∧ c ≤ b.length ∧ o = outP a.length (-1) (grP a b s ((idxBy (ltR a) a.length).take k)) ∧ PtI a b s (idxBy (ltR a) a.length) (idxBy (ltR b) b.length) k c.toNat (grP a b s ((idxBy (ltR a) a.length).take k))) (fun ⟨k, c, o⟩ => [(12, vI k), (11, vI c)]) (fun ⟨k, c, o⟩ => [LR encI 3 1 rA rC o]) (fun ⟨k, c, o⟩ => a.length - k) (0, 0, r) [_, _] [1, 2] [0] rfl rfl rfl ?_ ⟨rfl, rfl, trivial⟩ ?_
      · exact ⟨by omega, by omega, by omega, by rw [hr, show k = a.length by omega]; rfl, ptI_zero _ _ _ _ _⟩
      · rintro ⟨k, c, o⟩ σ ⟨hk1, hc0, hc1, ho, hI⟩
        refine CJ.norm [_, _, _] rfl ?_
        have hol := outP_len a.length (-1) (grP a b s ((idxBy (ltR a) a.length).take k))
        rw [← ho] at hol
        refine CJ.seq ?_
        refine CJ.seq ?_
        refine CJ.region ?_
        refine LJ.yd rfl (Yd.mvI rfl) ?_
        refine LJ.yd rfl (Yd.mvS rfl) ?_
        refine LJ.yd rfl (Yd.len rfl) ?_
        refine LJ.splitD rfl (Yd.lss rfl rfl) (fun h30 => ?_) (fun h30 => ?_)
        · refine LJ.nil ?_
          refine CJ.condT rfl ?_
          refine CJ.skip ?_
          refine CJ.seq ?_
          refine CJ.block ?_
          refine CJ.seq ?_
          refine CJ.block ?_
          obtain ⟨w, hw⟩ := someC (l := idxBy (ltR a) a.length) (j := k) (by omega)
          have hwb := idxBy_mem.1 (List.mem_of_getElem? hw)
          refine CJ.loopK [0, 1, 2, 6, 7, 9, 10, 12, 27, 28, 29, 30] Int (fun d => c ≤ d ∧ d ≤ b.length ∧ ∀ z ∈ (idxBy (ltR b) b.length).take d.toNat, (∃ q ∈ grP a b s ((idxBy (ltR a) a.length).take k), q.2 = z) ∨ gt b z < gt a w - s) (fun d => [(11, vI d)]) (fun d => (b.length - d).toNat) (c) ?_ ⟨rfl, trivial⟩ ?_
          · exact ⟨by omega, by omega, fun z hz => (hI.h2 z hz).imp id fun h => h w (by rw [dropC hw]; exact List.mem_cons_self)⟩
          · rintro d σ ⟨hd1, hd2, hd3⟩
            refine CJ.seq ?_
            refine CJ.seq ?_
            refine CJ.regionD [0, 1, 2] [] (by kernel_rfl) rfl ?_
            refine DJ.norm [_, _, _] [] rfl rfl ?_
            refine DJ.yd 0 rfl (by kernel_rfl) (by kernel_rfl) (by kernel_rfl) rfl rfl (Yd.mvI rfl) ?_
            refine DJ.yd 1 rfl (by kernel_rfl) (by kernel_rfl) (by kernel_rfl) rfl rfl (Yd.mvS rfl) ?_
            refine DJ.yd 2 rfl (by kernel_rfl) (by kernel_rfl) (by kernel_rfl) rfl rfl (Yd.len rfl) ?_
            refine DJ.splitD 3 rfl (by kernel_rfl) (by kernel_rfl) (by kernel_rfl) rfl rfl (Yd.lss rfl rfl) (fun h36 => ?_) (fun h36 => ?_)
            · refine DJ.yd 4 rfl (by kernel_rfl) (by kernel_rfl) (by kernel_rfl) rfl rfl (Yd.mvB rfl) ?_
              refine DJ.yd 5 rfl (by kernel_rfl) (by kernel_rfl) (by kernel_rfl) rfl rfl (Yd.mvS rfl) ?_
              refine DJ.yd 6 rfl (by kernel_rfl) (by kernel_rfl) (by kernel_rfl) rfl rfl (Yd.mvS rfl) ?_
              refine DJ.yd 7 rfl (by kernel_rfl) (by kernel_rfl) (by kernel_rfl) rfl rfl (Yd.mvI rfl) ?_
              refine DJ.idxF 1 rfl 8 rfl (by kernel_rfl) (by kernel_rfl) (by kernel_rfl) rfl rfl rfl rfl (by omega) (by first | rfl | omega | (simp; done) | (simp; omega) | (simp [upN_len]; omega) | (simp [idxBy_len]; omega) | (simp [marks_len]; omega) | (simp [upN_len]; done) | (simp [idxBy_len]; done) | (simp [marks_len]; done) | (simp at *; omega)) (by first | rfl | omega | (simp; done) | (simp; omega) | (simp [upN_len]; omega) | (simp [idxBy_len]; omega) | (simp [marks_len]; omega) | (simp [upN_len]; done) | (simp [idxBy_len]; done) | (simp [marks_len]; done) | (simp at *; omega)) (fun ib41 ia41 => ?_)
              refine DJ.ldF 9 rfl (by kernel_rfl) (by kernel_rfl) (by kernel_rfl) rfl rfl 1 0 (fun u => vI u) (fun _ => rfl) rfl ia41 rfl rfl (by first | rfl | omega | (simp; done) | (simp; omega) | (simp [upN_len]; omega) | (simp [idxBy_len]; omega) | (simp [marks_len]; omega) | (simp [upN_len]; done) | (simp [idxBy_len]; done) | (simp [marks_len]; done) | (simp at *; omega)) (fun u42 hu42 => ?_)
              try simp only [Int.toNat_natCast] at hu42
              have hf42 := idxBy_mem.1 (List.mem_of_getElem? hu42)
              refine DJ.idxA 10 rfl (by kernel_rfl) (by kernel_rfl) (by kernel_rfl) rfl rfl hl2 rfl rfl (by omega) (by first | rfl | omega | (simp; done) | (simp; omega) | (simp [upN_len]; omega) | (simp [idxBy_len]; omega) | (simp [marks_len]; omega) | (simp [upN_len]; done) | (simp [idxBy_len]; done) | (simp [marks_len]; done) | (simp at *; omega)) (fun ib43 io43 ia43 ir43 => ?_)
              refine DJ.ldA 11 rfl (by kernel_rfl) (by kernel_rfl) (by kernel_rfl) rfl rfl 0 (fun u => vI u) (fun _ => rfl) ir43 rfl rfl (by first | rfl | omega | (simp; done) | (simp; omega) | (simp [upN_len]; omega) | (simp [idxBy_len]; omega) | (simp [marks_len]; omega) | (simp [upN_len]; done) | (simp [idxBy_len]; done) | (simp [marks_len]; done) | (simp at *; omega)) (fun u44 hu44 => ?_)
              try simp only [Int.toNat_natCast] at hu44
              have hf44 := hb u44 (List.mem_of_getElem? hu44)
              refine DJ.yd 12 rfl (by kernel_rfl) (by kernel_rfl) (by kernel_rfl) rfl rfl (Yd.mvS rfl) ?_
              refine DJ.yd 13 rfl (by kernel_rfl) (by kernel_rfl) (by kernel_rfl) rfl rfl (Yd.mvS rfl) ?_
              refine DJ.yd 14 rfl (by kernel_rfl) (by kernel_rfl) (by kernel_rfl) rfl rfl (Yd.mvI rfl) ?_
              refine DJ.idxF 0 rfl 15 rfl (by kernel_rfl) (by kernel_rfl) (by kernel_rfl) rfl rfl rfl rfl (by omega) (by first | rfl | omega | (simp; done) | (simp; omega) | (simp [upN_len]; omega) | (simp [idxBy_len]; omega) | (simp [marks_len]; omega) | (simp [upN_len]; done) | (simp [idxBy_len]; done) | (simp [marks_len]; done) | (simp at *; omega)) (by first | rfl | omega | (simp; done) | (simp; omega) | (simp [upN_len]; omega) | (simp [idxBy_len]; omega) | (simp [marks_len]; omega) | (simp [upN_len]; done) | (simp [idxBy_len]; done) | (simp [marks_len]; done) | (simp at *; omega)) (fun ib48 ia48 => ?_)
              refine DJ.ldF 16 rfl (by kernel_rfl) (by kernel_rfl) (by kernel_rfl) rfl rfl 0 0 (fun u => vI u) (fun _ => rfl) rfl ia48 rfl rfl (by first | rfl | omega | (simp; done) | (simp; omega) | (simp [upN_len]; omega) | (simp [idxBy_len]; omega) | (simp [marks_len]; omega) | (simp [upN_len]; done) | (simp [idxBy_len]; done) | (simp [marks_len]; done) | (simp at *; omega)) (fun u49 hu49 => ?_)
              try simp only [Int.toNat_natCast] at hu49
              have e49 : u49 = w := by rw [hw] at hu49; exact (Option.some.inj hu49).symm
              refine DJ.idxA 17 rfl (by kernel_rfl) (by kernel_rfl) (by kernel_rfl) rfl rfl hl rfl rfl (by omega) (by first | rfl | omega | (simp; done) | (simp; omega) | (simp [upN_len]; omega) | (simp [idxBy_len]; omega) | (simp [marks_len]; omega) | (simp [upN_len]; done) | (simp [idxBy_len]; done) | (simp [marks_len]; done) | (simp at *; omega)) (fun ib50 io50 ia50 ir50 => ?_)
              refine DJ.ldA 18 rfl (by kernel_rfl) (by kernel_rfl) (by kernel_rfl) rfl rfl 0 (fun u => vI u) (fun _ => rfl) ir50 rfl rfl (by first | rfl | omega | (simp; done) | (simp; omega) | (simp [upN_len]; omega) | (simp [idxBy_len]; omega) | (simp [marks_len]; omega) | (simp [upN_len]; done) | (simp [idxBy_len]; done) | (simp [marks_len]; done) | (simp at *; omega)) (fun u51 hu51 => ?_)
              try simp only [Int.toNat_natCast] at hu51
              have hf51 := ha u51 (List.mem_of_getElem? hu51)
              refine DJ.yd 19 rfl (by kernel_rfl) (by kernel_rfl) (by kernel_rfl) rfl rfl (Yd.mvI rfl) ?_
              refine DJ.yd 20 rfl (by kernel_rfl) (by kernel_rfl) (by kernel_rfl) rfl rfl (Yd.sub rfl rfl (by unfold I64; omega)) ?_
              refine DJ.splitD 21 rfl (by kernel_rfl) (by kernel_rfl) (by kernel_rfl) rfl rfl (Yd.lss rfl rfl) (fun h54 => ?_) (fun h54 => ?_)
              · refine DJ.yd 22 rfl (by kernel_rfl) (by kernel_rfl) (by kernel_rfl) rfl rfl (Yd.pickTB rfl rfl) ?_
                refine DJ.done (by kernel_rfl) ?_
                refine CJ.condT rfl ?_
                refine CJ.skip ?_
                refine CJ.block ?_
                refine CJ.region ?_
                refine LJ.yd rfl (Yd.mvI rfl) ?_
                refine LJ.yd rfl (Yd.add rfl rfl (by unfold I64; omega)) ?_
                refine LJ.yd rfl (Yd.asI rfl) ?_
                refine LJ.nil ?_
                refine ⟨_, ?_, ⟨rfl, rfl, rfl, rfl, rfl, rfl, rfl, rfl, rfl, rfl, rfl, rfl, trivial⟩, ⟨rfl, trivial⟩, Ent.refl _, ?_⟩
                · exact ⟨by omega, by omega, fun z hz => by
                    rw [show (d + 1).toNat = d.toNat + 1 by omega, takeC hu42, List.mem_append, List.mem_singleton] at hz
                    rcases hz with hz | rfl
                    · exact hd3 z hz
                    · refine .inr ?_
                      rw [gtC hu44, ← e49, gtC hu51]; exact h54⟩
                · first | omega | (dsimp only; omega) | (simp only []; omega)
              · refine DJ.yd 22 rfl (by kernel_rfl) (by kernel_rfl) (by kernel_rfl) rfl rfl (Yd.pickTB rfl rfl) ?_
                refine DJ.done (by kernel_rfl) ?_
                refine CJ.condF rfl ?_
                refine CJ.exit ?_
                refine CJ.seq ?_
                refine CJ.regionD [0, 1, 2] [] (by kernel_rfl) rfl ?_
                refine DJ.norm [_, _, _] [] rfl rfl ?_
                refine DJ.yd 0 rfl (by kernel_rfl) (by kernel_rfl) (by kernel_rfl) rfl rfl (Yd.mvI rfl) ?_
                refine DJ.yd 1 rfl (by kernel_rfl) (by kernel_rfl) (by kernel_rfl) rfl rfl (Yd.mvS rfl) ?_
                refine DJ.yd 2 rfl (by kernel_rfl) (by kernel_rfl) (by kernel_rfl) rfl rfl (Yd.len rfl) ?_
                refine DJ.splitD 3 rfl (by kernel_rfl) (by kernel_rfl) (by kernel_rfl) rfl rfl (Yd.lss rfl rfl) (fun h61 => ?_) (fun h61 => ?_)
                · refine DJ.yd 4 rfl (by kernel_rfl) (by kernel_rfl) (by kernel_rfl) rfl rfl (Yd.mvB rfl) ?_
                  refine DJ.yd 5 rfl (by kernel_rfl) (by kernel_rfl) (by kernel_rfl) rfl rfl (Yd.mvS rfl) ?_
                  refine DJ.yd 6 rfl (by kernel_rfl) (by kernel_rfl) (by kernel_rfl) rfl rfl (Yd.mvS rfl) ?_
                  refine DJ.yd 7 rfl (by kernel_rfl) (by kernel_rfl) (by kernel_rfl) rfl rfl (Yd.mvI rfl) ?_
                  refine DJ.idxF 1 rfl 8 rfl (by kernel_rfl) (by kernel_rfl) (by kernel_rfl) rfl rfl rfl rfl (by omega) (by first | rfl | omega | (simp; done) | (simp; omega) | (simp [upN_len]; omega) | (simp [idxBy_len]; omega) | (simp [marks_len]; omega) | (simp [upN_len]; done) | (simp [idxBy_len]; done) | (simp [marks_len]; done) | (simp at *; omega)) (by first | rfl | omega | (simp; done) | (simp; omega) | (simp [upN_len]; omega) | (simp [idxBy_len]; omega) | (simp [marks_len]; omega) | (simp [upN_len]; done) | (simp [idxBy_len]; done) | (simp [marks_len]; done) | (simp at *; omega)) (fun ib66 ia66 => ?_)
                  refine DJ.ldF 9 rfl (by kernel_rfl) (by kernel_rfl) (by kernel_rfl) rfl rfl 1 0 (fun u => vI u) (fun _ => rfl) rfl ia66 rfl rfl (by first | rfl | omega | (simp; done) | (simp; omega) | (simp [upN_len]; omega) | (simp [idxBy_len]; omega) | (simp [marks_len]; omega) | (simp [upN_len]; done) | (simp [idxBy_len]; done) | (simp [marks_len]; done) | (simp at *; omega)) (fun u67 hu67 => ?_)
                  try simp only [Int.toNat_natCast] at hu67
                  have hf67 := idxBy_mem.1 (List.mem_of_getElem? hu67)
                  refine DJ.idxA 10 rfl (by kernel_rfl) (by kernel_rfl) (by kernel_rfl) rfl rfl hl2 rfl rfl (by omega) (by first | rfl | omega | (simp; done) | (simp; omega) | (simp [upN_len]; omega) | (simp [idxBy_len]; omega) | (simp [marks_len]; omega) | (simp [upN_len]; done) | (simp [idxBy_len]; done) | (simp [marks_len]; done) | (simp at *; omega)) (fun ib68 io68 ia68 ir68 => ?_)
                  refine DJ.ldA 11 rfl (by kernel_rfl) (by kernel_rfl) (by kernel_rfl) rfl rfl 0 (fun u => vI u) (fun _ => rfl) ir68 rfl rfl (by first | rfl | omega | (simp; done) | (simp; omega) | (simp [upN_len]; omega) | (simp [idxBy_len]; omega) | (simp [marks_len]; omega) | (simp [upN_len]; done) | (simp [idxBy_len]; done) | (simp [marks_len]; done) | (simp at *; omega)) (fun u69 hu69 => ?_)
                  try simp only [Int.toNat_natCast] at hu69
                  have hf69 := hb u69 (List.mem_of_getElem? hu69)
                  refine DJ.yd 12 rfl (by kernel_rfl) (by kernel_rfl) (by kernel_rfl) rfl rfl (Yd.mvS rfl) ?_
                  refine DJ.yd 13 rfl (by kernel_rfl) (by kernel_rfl) (by kernel_rfl) rfl rfl (Yd.mvS rfl) ?_
                  refine DJ.yd 14 rfl (by kernel_rfl) (by kernel_rfl) (by kernel_rfl) rfl rfl (Yd.mvI rfl) ?_
                  refine DJ.idxF 0 rfl 15 rfl (by kernel_rfl) (by kernel_rfl) (by kernel_rfl) rfl rfl rfl rfl (by omega) (by first | rfl | omega | (simp; done) | (simp; omega) | (simp [upN_len]; omega) | (simp [idxBy_len]; omega) | (simp [marks_len]; omega) | (simp [upN_len]; done) | (simp [idxBy_len]; done) | (simp [marks_len]; done) | (simp at *; omega)) (by first | rfl | omega | (simp; done) | (simp; omega) | (simp [upN_len]; omega) | (simp [idxBy_len]; omega) | (simp [marks_len]; omega) | (simp [upN_len]; done) | (simp [idxBy_len]; done) | (simp [marks_len]; done) | (simp at *; omega)) (fun ib73 ia73 => ?_)
                  refine DJ.ldF 16 rfl (by kernel_rfl) (by kernel_rfl) (by kernel_rfl) rfl rfl 0 0 (fun u => vI u) (fun _ => rfl) rfl ia73 rfl rfl (by first | rfl | omega | (simp; done) | (simp; omega) | (simp [upN_len]; omega) | (simp [idxBy_len]; omega) | (simp [marks_len]; omega) | (simp [upN_len]; done) | (simp [idxBy_len]; done) | (simp [marks_len]; done) | (simp at *; omega)) (fun u74 hu74 => ?_)
                  try simp only [Int.toNat_natCast] at hu74
                  have e74 : u74 = w := by rw [hw] at hu74; exact (Option.some.inj hu74).symm
                  refine DJ.idxA 17 rfl (by kernel_rfl) (by kernel_rfl) (by kernel_rfl) rfl rfl hl rfl rfl (by omega) (by first | rfl | omega | (simp; done) | (simp; omega) | (simp [upN_len]; omega) | (simp [idxBy_len]; omega) | (simp [marks_len]; omega) | (simp [upN_len]; done) | (simp [idxBy_len]; done) | (simp [marks_len]; done) | (simp at *; omega)) (fun ib75 io75 ia75 ir75 => ?_)
                  refine DJ.ldA 18 rfl (by kernel_rfl) (by kernel_rfl) (by kernel_rfl) rfl rfl 0 (fun u => vI u) (fun _ => rfl) ir75 rfl rfl (by first | rfl | omega | (simp; done) | (simp; omega) | (simp [upN_len]; omega) | (simp [idxBy_len]; omega) | (simp [marks_len]; omega) | (simp [upN_len]; done) | (simp [idxBy_len]; done) | (simp [marks_len]; done) | (simp at *; omega)) (fun u76 hu76 => ?_)
                  try simp only [Int.toNat_natCast] at hu76
                  have hf76 := ha u76 (List.mem_of_getElem? hu76)
                  refine DJ.yd 19 rfl (by kernel_rfl) (by kernel_rfl) (by kernel_rfl) rfl rfl (Yd.mvI rfl) ?_
                  refine DJ.yd 20 rfl (by kernel_rfl) (by kernel_rfl) (by kernel_rfl) rfl rfl (Yd.add rfl rfl (by unfold I64; omega)) ?_
                  refine DJ.splitD 21 rfl (by kernel_rfl) (by kernel_rfl) (by kernel_rfl) rfl rfl (Yd.leq rfl rfl) (fun h79 => ?_) (fun h79 => ?_)
                  · refine DJ.yd 22 rfl (by kernel_rfl) (by kernel_rfl) (by kernel_rfl) rfl rfl (Yd.pickTB rfl rfl) ?_
                    refine DJ.done (by kernel_rfl) ?_
                    refine CJ.condT rfl ?_
                    refine CJ.seq ?_
                    refine CJ.regionD [0, 1] [2] (by kernel_rfl) rfl ?_
                    refine DJ.norm [_, _] [_] rfl rfl ?_
                    refine DJ.yd 0 rfl (by kernel_rfl) (by kernel_rfl) (by kernel_rfl) rfl rfl (Yd.mvS rfl) ?_
                    refine DJ.yd 1 rfl (by kernel_rfl) (by kernel_rfl) (by kernel_rfl) rfl rfl (Yd.mvS rfl) ?_
                    refine DJ.yd 2 rfl (by kernel_rfl) (by kernel_rfl) (by kernel_rfl) rfl rfl (Yd.mvI rfl) ?_
                    refine DJ.idxF 0 rfl 3 rfl (by kernel_rfl) (by kernel_rfl) (by kernel_rfl) rfl rfl rfl rfl (by omega) (by first | rfl | omega | (simp; done) | (simp; omega) | (simp [upN_len]; omega) | (simp [idxBy_len]; omega) | (simp [marks_len]; omega) | (simp [upN_len]; done) | (simp [idxBy_len]; done) | (simp [marks_len]; done) | (simp at *; omega)) (by first | rfl | omega | (simp; done) | (simp; omega) | (simp [upN_len]; omega) | (simp [idxBy_len]; omega) | (simp [marks_len]; omega) | (simp [upN_len]; done) | (simp [idxBy_len]; done) | (simp [marks_len]; done) | (simp at *; omega)) (fun ib84 ia84 => ?_)
                    refine DJ.ldF 4 rfl (by kernel_rfl) (by kernel_rfl) (by kernel_rfl) rfl rfl 0 0 (fun u => vI u) (fun _ => rfl) rfl ia84 rfl rfl (by first | rfl | omega | (simp; done) | (simp; omega) | (simp [upN_len]; omega) | (simp [idxBy_len]; omega) | (simp [marks_len]; omega) | (simp [upN_len]; done) | (simp [idxBy_len]; done) | (simp [marks_len]; done) | (simp at *; omega)) (fun u85 hu85 => ?_)
                    try simp only [Int.toNat_natCast] at hu85
                    have e85 : u85 = w := by rw [hw] at hu85; exact (Option.some.inj hu85).symm
                    refine DJ.yd 5 rfl (by kernel_rfl) (by kernel_rfl) (by kernel_rfl) rfl rfl (Yd.mvS rfl) ?_
                    refine DJ.yd 6 rfl (by kernel_rfl) (by kernel_rfl) (by kernel_rfl) rfl rfl (Yd.mvI rfl) ?_
                    refine DJ.idxF 1 rfl 7 rfl (by kernel_rfl) (by kernel_rfl) (by kernel_rfl) rfl rfl rfl rfl (by omega) (by first | rfl | omega | (simp; done) | (simp; omega) | (simp [upN_len]; omega) | (simp [idxBy_len]; omega) | (simp [marks_len]; omega) | (simp [upN_len]; done) | (simp [idxBy_len]; done) | (simp [marks_len]; done) | (simp at *; omega)) (by first | rfl | omega | (simp; done) | (simp; omega) | (simp [upN_len]; omega) | (simp [idxBy_len]; omega) | (simp [marks_len]; omega) | (simp [upN_len]; done) | (simp [idxBy_len]; done) | (simp [marks_len]; done) | (simp at *; omega)) (fun ib88 ia88 => ?_)
                    refine DJ.ldF 8 rfl (by kernel_rfl) (by kernel_rfl) (by kernel_rfl) rfl rfl 1 0 (fun u => vI u) (fun _ => rfl) rfl ia88 rfl rfl (by first | rfl | omega | (simp; done) | (simp; omega) | (simp [upN_len]; omega) | (simp [idxBy_len]; omega) | (simp [marks_len]; omega) | (simp [upN_len]; done) | (simp [idxBy_len]; done) | (simp [marks_len]; done) | (simp at *; omega)) (fun u89 hu89 => ?_)
                    try simp only [Int.toNat_natCast] at hu89
                    refine DJ.idxR 0 rfl 9 rfl (by kernel_rfl) (by kernel_rfl) (by kernel_rfl) rfl rfl rfl rfl (by omega) (by first | rfl | omega | (simp; done) | (simp; omega) | (simp [upN_len]; omega) | (simp [idxBy_len]; omega) | (simp [marks_len]; omega) | (simp [upN_len]; done) | (simp [idxBy_len]; done) | (simp [marks_len]; done) | (simp at *; omega)) (by first | rfl | omega | (simp; done) | (simp; omega) | (simp [upN_len]; omega) | (simp [idxBy_len]; omega) | (simp [marks_len]; omega) | (simp [upN_len]; done) | (simp [idxBy_len]; done) | (simp [marks_len]; done) | (simp at *; omega)) (fun ib90 ia90 => ?_)
                    refine DJ.one (i := 10) (by kernel_rfl) ?_
                    refine DO.op rfl rfl rfl (fun k0 hk0 dk0 => OpR.st1 (enc := encI) (e1 := fun u => vI u) 0 (fun _ => rfl) (fun _ => rfl) (fun _ => rfl) rfl ia90 rfl rfl rfl (by first | rfl | omega | (simp; done) | (simp; omega) | (simp [upN_len]; omega) | (simp [idxBy_len]; omega) | (simp [marks_len]; omega) | (simp [upN_len]; done) | (simp [idxBy_len]; done) | (simp [marks_len]; done) | (simp at *; omega))) ?_
                    rintro _ _ ⟨rfl, rfl⟩
                    refine DJ.norm [_, _] [_] rfl rfl ?_
                    refine DJ.done (by kernel_rfl) ?_
                    refine CJ.region ?_
                    refine LJ.yd rfl (Yd.mvI rfl) ?_
                    refine LJ.yd rfl (Yd.add rfl rfl (by unfold I64; omega)) ?_
                    refine LJ.yd rfl (Yd.asI rfl) ?_
                    refine LJ.nil ?_
                    refine CJ.region ?_
                    refine LJ.yd rfl (Yd.mvI rfl) ?_
                    refine LJ.yd rfl (Yd.add rfl rfl (by unfold I64; omega)) ?_
                    refine LJ.yd rfl (Yd.asI rfl) ?_
                    refine LJ.nil ?_
                    refine ⟨(k + 1, _, _), ?_, ⟨rfl, rfl, rfl, rfl, rfl, rfl, rfl, trivial⟩, ⟨rfl, rfl, trivial⟩, Ent.refl _, ?_⟩
                    · refine ⟨by omega, ?_⟩
                      first
                        | (exfalso; omega)
                        | (have e42 : u42 = u89 := by rw [hu42] at hu89; exact Option.some.inj hu89
                           have e67 : u67 = u89 := by rw [hu67] at hu89; exact Option.some.inj hu89
                           have g1 : gt a w - s ≤ gt b u89 := by rw [← e42, ← e49, gtC hu44, gtC hu51]; omega
                           have g2 : gt b u89 ≤ gt a w + s := by rw [← e67, ← e74, gtC hu69, gtC hu76]; omega
                           have hx := ptI_hit hX hY hm hI (d := d.toNat) (by omega) hd3 hw hu89 g1 g2
                           rw [takeC hw, grP_snoc, hx.1, show (d + 1).toNat = d.toNat + 1 by omega]
                           exact ⟨by omega, by omega, by rw [ho, outP_cons, e85], hx.2⟩)
                        | (have hne : ∀ q ∈ grP a b s ((idxBy (ltR a) a.length).take k), q.1.toNat ≠ w.toNat := fun q hq e => take_ne (lex_nodup hX) hw (by
                             have h := grP_dom q hq
                             have := idxBy_mem.1 (List.mem_of_mem_take h)
                             rwa [show q.1 = w by omega] at h)
                           have hor : (idxBy (ltR b) b.length).length ≤ d.toNat ∨ ∃ v, (idxBy (ltR b) b.length)[d.toNat]? = some v ∧ gt a w - s ≤ gt b v ∧ gt a w + s < gt b v := by
                             first
                               | exact .inl (by omega)
                               | (have e42 : u42 = u67 := by rw [hu42] at hu67; exact Option.some.inj hu67
                                  refine .inr ⟨u67, hu67, ?_, ?_⟩
                                  · rw [← e42, ← e49, gtC hu44, gtC hu51]; omega
                                  · rw [← e74, gtC hu69, gtC hu76]; omega)
                           have hx := ptI_miss hX hY hm hI (d := d.toNat) (by omega) hd3 hw hor
                           rw [takeC hw, grP_snoc, hx.1]
                           exact ⟨by omega, by omega, by rw [ho, outP_m1 hne], hx.2⟩)
                    · first | omega | (dsimp only; omega) | (simp only []; omega)
                  · refine DJ.yd 22 rfl (by kernel_rfl) (by kernel_rfl) (by kernel_rfl) rfl rfl (Yd.pickTB rfl rfl) ?_
                    refine DJ.done (by kernel_rfl) ?_
                    refine CJ.condF rfl ?_
                    refine CJ.skip ?_
                    refine CJ.region ?_
                    refine LJ.yd rfl (Yd.mvI rfl) ?_
                    refine LJ.yd rfl (Yd.add rfl rfl (by unfold I64; omega)) ?_
                    refine LJ.yd rfl (Yd.asI rfl) ?_
                    refine LJ.nil ?_
                    refine ⟨(k + 1, _, _), ?_, ⟨rfl, rfl, rfl, rfl, rfl, rfl, rfl, trivial⟩, ⟨rfl, rfl, trivial⟩, Ent.refl _, ?_⟩
                    · refine ⟨by omega, ?_⟩
                      first
                        | (exfalso; omega)
                        | (have e42 : u42 = u89 := by rw [hu42] at hu89; exact Option.some.inj hu89
                           have e67 : u67 = u89 := by rw [hu67] at hu89; exact Option.some.inj hu89
                           have g1 : gt a w - s ≤ gt b u89 := by rw [← e42, ← e49, gtC hu44, gtC hu51]; omega
                           have g2 : gt b u89 ≤ gt a w + s := by rw [← e67, ← e74, gtC hu69, gtC hu76]; omega
                           have hx := ptI_hit hX hY hm hI (d := d.toNat) (by omega) hd3 hw hu89 g1 g2
                           rw [takeC hw, grP_snoc, hx.1, show (d + 1).toNat = d.toNat + 1 by omega]
                           exact ⟨by omega, by omega, by rw [ho, outP_cons, e85], hx.2⟩)
                        | (have hne : ∀ q ∈ grP a b s ((idxBy (ltR a) a.length).take k), q.1.toNat ≠ w.toNat := fun q hq e => take_ne (lex_nodup hX) hw (by
                             have h := grP_dom q hq
                             have := idxBy_mem.1 (List.mem_of_mem_take h)
                             rwa [show q.1 = w by omega] at h)
                           have hor : (idxBy (ltR b) b.length).length ≤ d.toNat ∨ ∃ v, (idxBy (ltR b) b.length)[d.toNat]? = some v ∧ gt a w - s ≤ gt b v ∧ gt a w + s < gt b v := by
                             first
                               | exact .inl (by omega)
                               | (have e42 : u42 = u67 := by rw [hu42] at hu67; exact Option.some.inj hu67
                                  refine .inr ⟨u67, hu67, ?_, ?_⟩
                                  · rw [← e42, ← e49, gtC hu44, gtC hu51]; omega
                                  · rw [← e74, gtC hu69, gtC hu76]; omega)
                           have hx := ptI_miss hX hY hm hI (d := d.toNat) (by omega) hd3 hw hor
                           rw [takeC hw, grP_snoc, hx.1]
                           exact ⟨by omega, by omega, by rw [ho, outP_m1 hne], hx.2⟩)
                    · first | omega | (dsimp only; omega) | (simp only []; omega)
                · refine DJ.yd 4 rfl (by kernel_rfl) (by kernel_rfl) (by kernel_rfl) rfl rfl (Yd.mvB rfl) ?_
                  refine DJ.skip 5 rfl (by kernel_rfl) (by kernel_rfl) (by kernel_rfl) rfl rfl ?_
                  refine DJ.skip 6 rfl (by kernel_rfl) (by kernel_rfl) (by kernel_rfl) rfl rfl ?_
                  refine DJ.skip 7 rfl (by kernel_rfl) (by kernel_rfl) (by kernel_rfl) rfl rfl ?_
                  refine DJ.skip 8 rfl (by kernel_rfl) (by kernel_rfl) (by kernel_rfl) rfl rfl ?_
                  refine DJ.skip 9 rfl (by kernel_rfl) (by kernel_rfl) (by kernel_rfl) rfl rfl ?_
                  refine DJ.skip 10 rfl (by kernel_rfl) (by kernel_rfl) (by kernel_rfl) rfl rfl ?_
                  refine DJ.skip 11 rfl (by kernel_rfl) (by kernel_rfl) (by kernel_rfl) rfl rfl ?_
                  refine DJ.skip 12 rfl (by kernel_rfl) (by kernel_rfl) (by kernel_rfl) rfl rfl ?_
                  refine DJ.skip 13 rfl (by kernel_rfl) (by kernel_rfl) (by kernel_rfl) rfl rfl ?_
                  refine DJ.skip 14 rfl (by kernel_rfl) (by kernel_rfl) (by kernel_rfl) rfl rfl ?_
                  refine DJ.skip 15 rfl (by kernel_rfl) (by kernel_rfl) (by kernel_rfl) rfl rfl ?_
                  refine DJ.skip 16 rfl (by kernel_rfl) (by kernel_rfl) (by kernel_rfl) rfl rfl ?_
                  refine DJ.skip 17 rfl (by kernel_rfl) (by kernel_rfl) (by kernel_rfl) rfl rfl ?_
                  refine DJ.skip 18 rfl (by kernel_rfl) (by kernel_rfl) (by kernel_rfl) rfl rfl ?_
                  refine DJ.skip 19 rfl (by kernel_rfl) (by kernel_rfl) (by kernel_rfl) rfl rfl ?_
                  refine DJ.skip 20 rfl (by kernel_rfl) (by kernel_rfl) (by kernel_rfl) rfl rfl ?_
                  refine DJ.skip 21 rfl (by kernel_rfl) (by kernel_rfl) (by kernel_rfl) rfl rfl ?_
                  refine DJ.yd 22 rfl (by kernel_rfl) (by kernel_rfl) (by kernel_rfl) rfl rfl (Yd.pickFB rfl rfl) ?_
                  refine DJ.done (by kernel_rfl) ?_
                  refine CJ.condF rfl ?_
                  refine CJ.skip ?_
                  refine CJ.region ?_
                  refine LJ.yd rfl (Yd.mvI rfl) ?_
                  refine LJ.yd rfl (Yd.add rfl rfl (by unfold I64; omega)) ?_
                  refine LJ.yd rfl (Yd.asI rfl) ?_
                  refine LJ.nil ?_
                  refine ⟨(k + 1, _, _), ?_, ⟨rfl, rfl, rfl, rfl, rfl, rfl, rfl, trivial⟩, ⟨rfl, rfl, trivial⟩, Ent.refl _, ?_⟩
                  · refine ⟨by omega, ?_⟩
                    first
                      | (exfalso; omega)
                      | (have e42 : u42 = u89 := by rw [hu42] at hu89; exact Option.some.inj hu89
                         have e67 : u67 = u89 := by rw [hu67] at hu89; exact Option.some.inj hu89
                         have g1 : gt a w - s ≤ gt b u89 := by rw [← e42, ← e49, gtC hu44, gtC hu51]; omega
                         have g2 : gt b u89 ≤ gt a w + s := by rw [← e67, ← e74, gtC hu69, gtC hu76]; omega
                         have hx := ptI_hit hX hY hm hI (d := d.toNat) (by omega) hd3 hw hu89 g1 g2
                         rw [takeC hw, grP_snoc, hx.1, show (d + 1).toNat = d.toNat + 1 by omega]
                         exact ⟨by omega, by omega, by rw [ho, outP_cons, e85], hx.2⟩)
                      | (have hne : ∀ q ∈ grP a b s ((idxBy (ltR a) a.length).take k), q.1.toNat ≠ w.toNat := fun q hq e => take_ne (lex_nodup hX) hw (by
                           have h := grP_dom q hq
                           have := idxBy_mem.1 (List.mem_of_mem_take h)
                           rwa [show q.1 = w by omega] at h)
                         have hor : (idxBy (ltR b) b.length).length ≤ d.toNat ∨ ∃ v, (idxBy (ltR b) b.length)[d.toNat]? = some v ∧ gt a w - s ≤ gt b v ∧ gt a w + s < gt b v := by
                           first
                             | exact .inl (by omega)
                             | (have e42 : u42 = u67 := by rw [hu42] at hu67; exact Option.some.inj hu67
                                refine .inr ⟨u67, hu67, ?_, ?_⟩
                                · rw [← e42, ← e49, gtC hu44, gtC hu51]; omega
                                · rw [← e74, gtC hu69, gtC hu76]; omega)
                         have hx := ptI_miss hX hY hm hI (d := d.toNat) (by omega) hd3 hw hor
                         rw [takeC hw, grP_snoc, hx.1]
                         exact ⟨by omega, by omega, by rw [ho, outP_m1 hne], hx.2⟩)
                  · first | omega | (dsimp only; omega) | (simp only []; omega)
            · refine DJ.yd 4 rfl (by kernel_rfl) (by kernel_rfl) (by kernel_rfl) rfl rfl (Yd.mvB rfl) ?_
              refine DJ.skip 5 rfl (by kernel_rfl) (by kernel_rfl) (by kernel_rfl) rfl rfl ?_
              refine DJ.skip 6 rfl (by kernel_rfl) (by kernel_rfl) (by kernel_rfl) rfl rfl ?_
              refine DJ.skip 7 rfl (by kernel_rfl) (by kernel_rfl) (by kernel_rfl) rfl rfl ?_
              refine DJ.skip 8 rfl (by kernel_rfl) (by kernel_rfl) (by kernel_rfl) rfl rfl ?_
              refine DJ.skip 9 rfl (by kernel_rfl) (by kernel_rfl) (by kernel_rfl) rfl rfl ?_
              refine DJ.skip 10 rfl (by kernel_rfl) (by kernel_rfl) (by kernel_rfl) rfl rfl ?_
              refine DJ.skip 11 rfl (by kernel_rfl) (by kernel_rfl) (by kernel_rfl) rfl rfl ?_
              refine DJ.skip 12 rfl (by kernel_rfl) (by kernel_rfl) (by kernel_rfl) rfl rfl ?_
              refine DJ.skip 13 rfl (by kernel_rfl) (by kernel_rfl) (by kernel_rfl) rfl rfl ?_
              refine DJ.skip 14 rfl (by kernel_rfl) (by kernel_rfl) (by kernel_rfl) rfl rfl ?_
              refine DJ.skip 15 rfl (by kernel_rfl) (by kernel_rfl) (by kernel_rfl) rfl rfl ?_
              refine DJ.skip 16 rfl (by kernel_rfl) (by kernel_rfl) (by kernel_rfl) rfl rfl ?_
              refine DJ.skip 17 rfl (by kernel_rfl) (by kernel_rfl) (by kernel_rfl) rfl rfl ?_
              refine DJ.skip 18 rfl (by kernel_rfl) (by kernel_rfl) (by kernel_rfl) rfl rfl ?_
              refine DJ.skip 19 rfl (by kernel_rfl) (by kernel_rfl) (by kernel_rfl) rfl rfl ?_
              refine DJ.skip 20 rfl (by kernel_rfl) (by kernel_rfl) (by kernel_rfl) rfl rfl ?_
              refine DJ.skip 21 rfl (by kernel_rfl) (by kernel_rfl) (by kernel_rfl) rfl rfl ?_
              refine DJ.yd 22 rfl (by kernel_rfl) (by kernel_rfl) (by kernel_rfl) rfl rfl (Yd.pickFB rfl rfl) ?_
              refine DJ.done (by kernel_rfl) ?_
              refine CJ.condF rfl ?_
              refine CJ.exit ?_
              refine CJ.seq ?_
              refine CJ.regionD [0, 1, 2] [] (by kernel_rfl) rfl ?_
              refine DJ.norm [_, _, _] [] rfl rfl ?_
              refine DJ.yd 0 rfl (by kernel_rfl) (by kernel_rfl) (by kernel_rfl) rfl rfl (Yd.mvI rfl) ?_
              refine DJ.yd 1 rfl (by kernel_rfl) (by kernel_rfl) (by kernel_rfl) rfl rfl (Yd.mvS rfl) ?_
              refine DJ.yd 2 rfl (by kernel_rfl) (by kernel_rfl) (by kernel_rfl) rfl rfl (Yd.len rfl) ?_
              refine DJ.splitD 3 rfl (by kernel_rfl) (by kernel_rfl) (by kernel_rfl) rfl rfl (Yd.lss rfl rfl) (fun h61 => ?_) (fun h61 => ?_)
              · refine DJ.yd 4 rfl (by kernel_rfl) (by kernel_rfl) (by kernel_rfl) rfl rfl (Yd.mvB rfl) ?_
                refine DJ.yd 5 rfl (by kernel_rfl) (by kernel_rfl) (by kernel_rfl) rfl rfl (Yd.mvS rfl) ?_
                refine DJ.yd 6 rfl (by kernel_rfl) (by kernel_rfl) (by kernel_rfl) rfl rfl (Yd.mvS rfl) ?_
                refine DJ.yd 7 rfl (by kernel_rfl) (by kernel_rfl) (by kernel_rfl) rfl rfl (Yd.mvI rfl) ?_
                refine DJ.idxF 1 rfl 8 rfl (by kernel_rfl) (by kernel_rfl) (by kernel_rfl) rfl rfl rfl rfl (by omega) (by first | rfl | omega | (simp; done) | (simp; omega) | (simp [upN_len]; omega) | (simp [idxBy_len]; omega) | (simp [marks_len]; omega) | (simp [upN_len]; done) | (simp [idxBy_len]; done) | (simp [marks_len]; done) | (simp at *; omega)) (by first | rfl | omega | (simp; done) | (simp; omega) | (simp [upN_len]; omega) | (simp [idxBy_len]; omega) | (simp [marks_len]; omega) | (simp [upN_len]; done) | (simp [idxBy_len]; done) | (simp [marks_len]; done) | (simp at *; omega)) (fun ib66 ia66 => ?_)
                refine DJ.ldF 9 rfl (by kernel_rfl) (by kernel_rfl) (by kernel_rfl) rfl rfl 1 0 (fun u => vI u) (fun _ => rfl) rfl ia66 rfl rfl (by first | rfl | omega | (simp; done) | (simp; omega) | (simp [upN_len]; omega) | (simp [idxBy_len]; omega) | (simp [marks_len]; omega) | (simp [upN_len]; done) | (simp [idxBy_len]; done) | (simp [marks_len]; done) | (simp at *; omega)) (fun u67 hu67 => ?_)
                try simp only [Int.toNat_natCast] at hu67
                have hf67 := idxBy_mem.1 (List.mem_of_getElem? hu67)
                refine DJ.idxA 10 rfl (by kernel_rfl) (by kernel_rfl) (by kernel_rfl) rfl rfl hl2 rfl rfl (by omega) (by first | rfl | omega | (simp; done) | (simp; omega) | (simp [upN_len]; omega) | (simp [idxBy_len]; omega) | (simp [marks_len]; omega) | (simp [upN_len]; done) | (simp [idxBy_len]; done) | (simp [marks_len]; done) | (simp at *; omega)) (fun ib68 io68 ia68 ir68 => ?_)
                refine DJ.ldA 11 rfl (by kernel_rfl) (by kernel_rfl) (by kernel_rfl) rfl rfl 0 (fun u => vI u) (fun _ => rfl) ir68 rfl rfl (by first | rfl | omega | (simp; done) | (simp; omega) | (simp [upN_len]; omega) | (simp [idxBy_len]; omega) | (simp [marks_len]; omega) | (simp [upN_len]; done) | (simp [idxBy_len]; done) | (simp [marks_len]; done) | (simp at *; omega)) (fun u69 hu69 => ?_)
                try simp only [Int.toNat_natCast] at hu69
                have hf69 := hb u69 (List.mem_of_getElem? hu69)
                refine DJ.yd 12 rfl (by kernel_rfl) (by kernel_rfl) (by kernel_rfl) rfl rfl (Yd.mvS rfl) ?_
                refine DJ.yd 13 rfl (by kernel_rfl) (by kernel_rfl) (by kernel_rfl) rfl rfl (Yd.mvS rfl) ?_
                refine DJ.yd 14 rfl (by kernel_rfl) (by kernel_rfl) (by kernel_rfl) rfl rfl (Yd.mvI rfl) ?_
                refine DJ.idxF 0 rfl 15 rfl (by kernel_rfl) (by kernel_rfl) (by kernel_rfl) rfl rfl rfl rfl (by omega) (by first | rfl | omega | (simp; done) | (simp; omega) | (simp [upN_len]; omega) | (simp [idxBy_len]; omega) | (simp [marks_len]; omega) | (simp [upN_len]; done) | (simp [idxBy_len]; done) | (simp [marks_len]; done) | (simp at *; omega)) (by first | rfl | omega | (simp; done) | (simp; omega) | (simp [upN_len]; omega) | (simp [idxBy_len]; omega) | (simp [marks_len]; omega) | (simp [upN_len]; done) | (simp [idxBy_len]; done) | (simp [marks_len]; done) | (simp at *; omega)) (fun ib73 ia73 => ?_)
                refine DJ.ldF 16 rfl (by kernel_rfl) (by kernel_rfl) (by kernel_rfl) rfl rfl 0 0 (fun u => vI u) (fun _ => rfl) rfl ia73 rfl rfl (by first | rfl | omega | (simp; done) | (simp; omega) | (simp [upN_len]; omega) | (simp [idxBy_len]; omega) | (simp [marks_len]; omega) | (simp [upN_len]; done) | (simp [idxBy_len]; done) | (simp [marks_len]; done) | (simp at *; omega)) (fun u74 hu74 => ?_)
                try simp only [Int.toNat_natCast] at hu74
                have e74 : u74 = w := by rw [hw] at hu74; exact (Option.some.inj hu74).symm
                refine DJ.idxA 17 rfl (by kernel_rfl) (by kernel_rfl) (by kernel_rfl) rfl rfl hl rfl rfl (by omega) (by first | rfl | omega | (simp; done) | (simp; omega) | (simp [upN_len]; omega) | (simp [idxBy_len]; omega) | (simp [marks_len]; omega) | (simp [upN_len]; done) | (simp [idxBy_len]; done) | (simp [marks_len]; done) | (simp at *; omega)) (fun ib75 io75 ia75 ir75 => ?_)
                refine DJ.ldA 18 rfl (by kernel_rfl) (by kernel_rfl) (by kernel_rfl) rfl rfl 0 (fun u => vI u) (fun _ => rfl) ir75 rfl rfl (by first | rfl | omega | (simp; done) | (simp; omega) | (simp [upN_len]; omega) | (simp [idxBy_len]; omega) | (simp [marks_len]; omega) | (simp [upN_len]; done) | (simp [idxBy_len]; done) | (simp [marks_len]; done) | (simp at *; omega)) (fun u76 hu76 => ?_)
                try simp only [Int.toNat_natCast] at hu76
                have hf76 := ha u76 (List.mem_of_getElem? hu76)
                refine DJ.yd 19 rfl (by kernel_rfl) (by kernel_rfl) (by kernel_rfl) rfl rfl (Yd.mvI rfl) ?_
                refine DJ.yd 20 rfl (by kernel_rfl) (by kernel_rfl) (by kernel_rfl) rfl rfl (Yd.add rfl rfl (by unfold I64; omega)) ?_
                refine DJ.splitD 21 rfl (by kernel_rfl) (by kernel_rfl) (by kernel_rfl) rfl rfl (Yd.leq rfl rfl) (fun h79 => ?_) (fun h79 => ?_)
                · refine DJ.yd 22 rfl (by kernel_rfl) (by kernel_rfl) (by kernel_rfl) rfl rfl (Yd.pickTB rfl rfl) ?_
                  refine DJ.done (by kernel_rfl) ?_
                  refine CJ.condT rfl ?_
                  refine CJ.seq ?_
                  refine CJ.regionD [0, 1] [2] (by kernel_rfl) rfl ?_
                  refine DJ.norm [_, _] [_] rfl rfl ?_
                  refine DJ.yd 0 rfl (by kernel_rfl) (by kernel_rfl) (by kernel_rfl) rfl rfl (Yd.mvS rfl) ?_
                  refine DJ.yd 1 rfl (by kernel_rfl) (by kernel_rfl) (by kernel_rfl) rfl rfl (Yd.mvS rfl) ?_
                  refine DJ.yd 2 rfl (by kernel_rfl) (by kernel_rfl) (by kernel_rfl) rfl rfl (Yd.mvI rfl) ?_
                  refine DJ.idxF 0 rfl 3 rfl (by kernel_rfl) (by kernel_rfl) (by kernel_rfl) rfl rfl rfl rfl (by omega) (by first | rfl | omega | (simp; done) | (simp; omega) | (simp [upN_len]; omega) | (simp [idxBy_len]; omega) | (simp [marks_len]; omega) | (simp [upN_len]; done) | (simp [idxBy_len]; done) | (simp [marks_len]; done) | (simp at *; omega)) (by first | rfl | omega | (simp; done) | (simp; omega) | (simp [upN_len]; omega) | (simp [idxBy_len]; omega) | (simp [marks_len]; omega) | (simp [upN_len]; done) | (simp [idxBy_len]; done) | (simp [marks_len]; done) | (simp at *; omega)) (fun ib84 ia84 => ?_)
                  refine DJ.ldF 4 rfl (by kernel_rfl) (by kernel_rfl) (by kernel_rfl) rfl rfl 0 0 (fun u => vI u) (fun _ => rfl) rfl ia84 rfl rfl (by first | rfl | omega | (simp; done) | (simp; omega) | (simp [upN_len]; omega) | (simp [idxBy_len]; omega) | (simp [marks_len]; omega) | (simp [upN_len]; done) | (simp [idxBy_len]; done) | (simp [marks_len]; done) | (simp at *; omega)) (fun u85 hu85 => ?_)
                  try simp only [Int.toNat_natCast] at hu85
                  have e85 : u85 = w := by rw [hw] at hu85; exact (Option.some.inj hu85).symm
                  refine DJ.yd 5 rfl (by kernel_rfl) (by kernel_rfl) (by kernel_rfl) rfl rfl (Yd.mvS rfl) ?_
                  refine DJ.yd 6 rfl (by kernel_rfl) (by kernel_rfl) (by kernel_rfl) rfl rfl (Yd.mvI rfl) ?_
                  refine DJ.idxF 1 rfl 7 rfl (by kernel_rfl) (by kernel_rfl) (by kernel_rfl) rfl rfl rfl rfl (by omega) (by first | rfl | omega | (simp; done) | (simp; omega) | (simp [upN_len]; omega) | (simp [idxBy_len]; omega) | (simp [marks_len]; omega) | (simp [upN_len]; done) | (simp [idxBy_len]; done) | (simp [marks_len]; done) | (simp at *; omega)) (by first | rfl | omega | (simp; done) | (simp; omega) | (simp [upN_len]; omega) | (simp [idxBy_len]; omega) | (simp [marks_len]; omega) | (simp [upN_len]; done) | (simp [idxBy_len]; done) | (simp [marks_len]; done) | (simp at *; omega)) (fun ib88 ia88 => ?_)
                  refine DJ.ldF 8 rfl (by kernel_rfl) (by kernel_rfl) (by kernel_rfl) rfl rfl 1 0 (fun u => vI u) (fun _ => rfl) rfl ia88 rfl rfl (by first | rfl | omega | (simp; done) | (simp; omega) | (simp [upN_len]; omega) | (simp [idxBy_len]; omega) | (simp [marks_len]; omega) | (simp [upN_len]; done) | (simp [idxBy_len]; done) | (simp [marks_len]; done) | (simp at *; omega)) (fun u89 hu89 => ?_)
                  try simp only [Int.toNat_natCast] at hu89
                  refine DJ.idxR 0 rfl 9 rfl (by kernel_rfl) (by kernel_rfl) (by kernel_rfl) rfl rfl rfl rfl (by omega) (by first | rfl | omega | (simp; done) | (simp; omega) | (simp [upN_len]; omega) | (simp [idxBy_len]; omega) | (simp [marks_len]; omega) | (simp [upN_len]; done) | (simp [idxBy_len]; done) | (simp [marks_len]; done) | (simp at *; omega)) (by first | rfl | omega | (simp; done) | (simp; omega) | (simp [upN_len]; omega) | (simp [idxBy_len]; omega) | (simp [marks_len]; omega) | (simp [upN_len]; done) | (simp [idxBy_len]; done) | (simp [marks_len]; done) | (simp at *; omega)) (fun ib90 ia90 => ?_)
                  refine DJ.one (i := 10) (by kernel_rfl) ?_
                  refine DO.op rfl rfl rfl (fun k0 hk0 dk0 => OpR.st1 (enc := encI) (e1 := fun u => vI u) 0 (fun _ => rfl) (fun _ => rfl) (fun _ => rfl) rfl ia90 rfl rfl rfl (by first | rfl | omega | (simp; done) | (simp; omega) | (simp [upN_len]; omega) | (simp [idxBy_len]; omega) | (simp [marks_len]; omega) | (simp [upN_len]; done) | (simp [idxBy_len]; done) | (simp [marks_len]; done) | (simp at *; omega))) ?_
                  rintro _ _ ⟨rfl, rfl⟩
                  refine DJ.norm [_, _] [_] rfl rfl ?_
                  refine DJ.done (by kernel_rfl) ?_
                  refine CJ.region ?_
                  refine LJ.yd rfl (Yd.mvI rfl) ?_
                  refine LJ.yd rfl (Yd.add rfl rfl (by unfold I64; omega)) ?_
                  refine LJ.yd rfl (Yd.asI rfl) ?_
                  refine LJ.nil ?_
                  refine CJ.region ?_
                  refine LJ.yd rfl (Yd.mvI rfl) ?_
                  refine LJ.yd rfl (Yd.add rfl rfl (by unfold I64; omega)) ?_
                  refine LJ.yd rfl (Yd.asI rfl) ?_
                  refine LJ.nil ?_
                  refine ⟨(k + 1, _, _), ?_, ⟨rfl, rfl, rfl, rfl, rfl, rfl, rfl, trivial⟩, ⟨rfl, rfl, trivial⟩, Ent.refl _, ?_⟩
                  · refine ⟨by omega, ?_⟩
                    first
                      | (exfalso; omega)
                      | (have e42 : u42 = u89 := by rw [hu42] at hu89; exact Option.some.inj hu89
                         have e67 : u67 = u89 := by rw [hu67] at hu89; exact Option.some.inj hu89
                         have g1 : gt a w - s ≤ gt b u89 := by rw [← e42, ← e49, gtC hu44, gtC hu51]; omega
                         have g2 : gt b u89 ≤ gt a w + s := by rw [← e67, ← e74, gtC hu69, gtC hu76]; omega
                         have hx := ptI_hit hX hY hm hI (d := d.toNat) (by omega) hd3 hw hu89 g1 g2
                         rw [takeC hw, grP_snoc, hx.1, show (d + 1).toNat = d.toNat + 1 by omega]
                         exact ⟨by omega, by omega, by rw [ho, outP_cons, e85], hx.2⟩)
                      | (have hne : ∀ q ∈ grP a b s ((idxBy (ltR a) a.length).take k), q.1.toNat ≠ w.toNat := fun q hq e => take_ne (lex_nodup hX) hw (by
                           have h := grP_dom q hq
                           have := idxBy_mem.1 (List.mem_of_mem_take h)
                           rwa [show q.1 = w by omega] at h)
                         have hor : (idxBy (ltR b) b.length).length ≤ d.toNat ∨ ∃ v, (idxBy (ltR b) b.length)[d.toNat]? = some v ∧ gt a w - s ≤ gt b v ∧ gt a w + s < gt b v := by
                           first
                             | exact .inl (by omega)
                             | (have e42 : u42 = u67 := by rw [hu42] at hu67; exact Option.some.inj hu67
                                refine .inr ⟨u67, hu67, ?_, ?_⟩
                                · rw [← e42, ← e49, gtC hu44, gtC hu51]; omega
                                · rw [← e74, gtC hu69, gtC hu76]; omega)
                         have hx := ptI_miss hX hY hm hI (d := d.toNat) (by omega) hd3 hw hor
                         rw [takeC hw, grP_snoc, hx.1]
                         exact ⟨by omega, by omega, by rw [ho, outP_m1 hne], hx.2⟩)
                  · first | omega | (dsimp only; omega) | (simp only []; omega)
                · refine DJ.yd 22 rfl (by kernel_rfl) (by kernel_rfl) (by kernel_rfl) rfl rfl (Yd.pickTB rfl rfl) ?_
                  refine DJ.done (by kernel_rfl) ?_
                  refine CJ.condF rfl ?_
                  refine CJ.skip ?_
                  refine CJ.region ?_
                  refine LJ.yd rfl (Yd.mvI rfl) ?_
                  refine LJ.yd rfl (Yd.add rfl rfl (by unfold I64; omega)) ?_
                  refine LJ.yd rfl (Yd.asI rfl) ?_
                  refine LJ.nil ?_
                  refine ⟨(k + 1, _, _), ?_, ⟨rfl, rfl, rfl, rfl, rfl, rfl, rfl, trivial⟩, ⟨rfl, rfl, trivial⟩, Ent.refl _, ?_⟩
                  · refine ⟨by omega, ?_⟩
                    first
                      | (exfalso; omega)
                      | (have e42 : u42 = u89 := by rw [hu42] at hu89; exact Option.some.inj hu89
                         have e67 : u67 = u89 := by rw [hu67] at hu89; exact Option.some.inj hu89
                         have g1 : gt a w - s ≤ gt b u89 := by rw [← e42, ← e49, gtC hu44, gtC hu51]; omega
                         have g2 : gt b u89 ≤ gt a w + s := by rw [← e67, ← e74, gtC hu69, gtC hu76]; omega
                         have hx := ptI_hit hX hY hm hI (d := d.toNat) (by omega) hd3 hw hu89 g1 g2
                         rw [takeC hw, grP_snoc, hx.1, show (d + 1).toNat = d.toNat + 1 by omega]
                         exact ⟨by omega, by omega, by rw [ho, outP_cons, e85], hx.2⟩)
                      | (have hne : ∀ q ∈ grP a b s ((idxBy (ltR a) a.length).take k), q.1.toNat ≠ w.toNat := fun q hq e => take_ne (lex_nodup hX) hw (by
                           have h := grP_dom q hq
                           have := idxBy_mem.1 (List.mem_of_mem_take h)
                           rwa [show q.1 = w by omega] at h)
                         have hor : (idxBy (ltR b) b.length).length ≤ d.toNat ∨ ∃ v, (idxBy (ltR b) b.length)[d.toNat]? = some v ∧ gt a w - s ≤ gt b v ∧ gt a w + s < gt b v := by
                           first
                             | exact .inl (by omega)
                             | (have e42 : u42 = u67 := by rw [hu42] at hu67; exact Option.some.inj hu67
                                refine .inr ⟨u67, hu67, ?_, ?_⟩
                                · rw [← e42, ← e49, gtC hu44, gtC hu51]; omega
                                · rw [← e74, gtC hu69, gtC hu76]; omega)
                         have hx := ptI_miss hX hY hm hI (d := d.toNat) (by omega) hd3 hw hor
                         rw [takeC hw, grP_snoc, hx.1]
                         exact ⟨by omega, by omega, by rw [ho, outP_m1 hne], hx.2⟩)
                  · first | omega | (dsimp only; omega) | (simp only []; omega)
              · refine DJ.yd 4 rfl (by kernel_rfl) (by kernel_rfl) (by kernel_rfl) rfl rfl (Yd.mvB rfl) ?_
                refine DJ.skip 5 rfl (by kernel_rfl) (by kernel_rfl) (by kernel_rfl) rfl rfl ?_
                refine DJ.skip 6 rfl (by kernel_rfl) (by kernel_rfl) (by kernel_rfl) rfl rfl ?_
                refine DJ.skip 7 rfl (by kernel_rfl) (by kernel_rfl) (by kernel_rfl) rfl rfl ?_
                refine DJ.skip 8 rfl (by kernel_rfl) (by kernel_rfl) (by kernel_rfl) rfl rfl ?_
                refine DJ.skip 9 rfl (by kernel_rfl) (by kernel_rfl) (by kernel_rfl) rfl rfl ?_
                refine DJ.skip 10 rfl (by kernel_rfl) (by kernel_rfl) (by kernel_rfl) rfl rfl ?_
                refine DJ.skip 11 rfl (by kernel_rfl) (by kernel_rfl) (by kernel_rfl) rfl rfl ?_
                refine DJ.skip 12 rfl (by kernel_rfl) (by kernel_rfl) (by kernel_rfl) rfl rfl ?_
                refine DJ.skip 13 rfl (by kernel_rfl) (by kernel_rfl) (by kernel_rfl) rfl rfl ?_
                refine DJ.skip 14 rfl (by kernel_rfl) (by kernel_rfl) (by kernel_rfl) rfl rfl ?_
                refine DJ.skip 15 rfl (by kernel_rfl) (by kernel_rfl) (by kernel_rfl) rfl rfl ?_
                refine DJ.skip 16 rfl (by kernel_rfl) (by kernel_rfl) (by kernel_rfl) rfl rfl ?_
                refine DJ.skip 17 rfl (by kernel_rfl) (by kernel_rfl) (by kernel_rfl) rfl rfl ?_
                refine DJ.skip 18 rfl (by kernel_rfl) (by kernel_rfl) (by kernel_rfl) rfl rfl ?_
                refine DJ.skip 19 rfl (by kernel_rfl) (by kernel_rfl) (by kernel_rfl) rfl rfl ?_
                refine DJ.skip 20 rfl (by kernel_rfl) (by kernel_rfl) (by kernel_rfl) rfl rfl ?_
                refine DJ.skip 21 rfl (by kernel_rfl) (by kernel_rfl) (by kernel_rfl) rfl rfl ?_
                refine DJ.yd 22 rfl (by kernel_rfl) (by kernel_rfl) (by kernel_rfl) rfl rfl (Yd.pickFB rfl rfl) ?_
                refine DJ.done (by kernel_rfl) ?_
                refine CJ.condF rfl ?_
                refine CJ.skip ?_
                refine CJ.region ?_
                refine LJ.yd rfl (Yd.mvI rfl) ?_
                refine LJ.yd rfl (Yd.add rfl rfl (by unfold I64; omega)) ?_
                refine LJ.yd rfl (Yd.asI rfl) ?_
                refine LJ.nil ?_
                refine ⟨(k + 1, _, _), ?_, ⟨rfl, rfl, rfl, rfl, rfl, rfl, rfl, trivial⟩, ⟨rfl, rfl, trivial⟩, Ent.refl _, ?_⟩
                · refine ⟨by omega, ?_⟩
                  first
                    | (exfalso; omega)
                    | (have e42 : u42 = u89 := by rw [hu42] at hu89; exact Option.some.inj hu89
                       have e67 : u67 = u89 := by rw [hu67] at hu89; exact Option.some.inj hu89
                       have g1 : gt a w - s ≤ gt b u89 := by rw [← e42, ← e49, gtC hu44, gtC hu51]; omega
                       have g2 : gt b u89 ≤ gt a w + s := by rw [← e67, ← e74, gtC hu69, gtC hu76]; omega
                       have hx := ptI_hit hX hY hm hI (d := d.toNat) (by omega) hd3 hw hu89 g1 g2
                       rw [takeC hw, grP_snoc, hx.1, show (d + 1).toNat = d.toNat + 1 by omega]
                       exact ⟨by omega, by omega, by rw [ho, outP_cons, e85], hx.2⟩)
                    | (have hne : ∀ q ∈ grP a b s ((idxBy (ltR a) a.length).take k), q.1.toNat ≠ w.toNat := fun q hq e => take_ne (lex_nodup hX) hw (by
                         have h := grP_dom q hq
                         have := idxBy_mem.1 (List.mem_of_mem_take h)
                         rwa [show q.1 = w by omega] at h)
                       have hor : (idxBy (ltR b) b.length).length ≤ d.toNat ∨ ∃ v, (idxBy (ltR b) b.length)[d.toNat]? = some v ∧ gt a w - s ≤ gt b v ∧ gt a w + s < gt b v := by
                         first
                           | exact .inl (by omega)
                           | (have e42 : u42 = u67 := by rw [hu42] at hu67; exact Option.some.inj hu67
                              refine .inr ⟨u67, hu67, ?_, ?_⟩
                              · rw [← e42, ← e49, gtC hu44, gtC hu51]; omega
                              · rw [← e74, gtC hu69, gtC hu76]; omega)
                       have hx := ptI_miss hX hY hm hI (d := d.toNat) (by omega) hd3 hw hor
                       rw [takeC hw, grP_snoc, hx.1]
                       exact ⟨by omega, by omega, by rw [ho, outP_m1 hne], hx.2⟩)
                · first | omega | (dsimp only; omega) | (simp only []; omega)
        · refine LJ.nil ?_
          refine CJ.condF rfl ?_
          refine CJ.exit ?_
          refine CJ.seq ?_
          refine CJ.region ?_
          refine LJ.yd rfl (Yd.mvS rfl) ?_
          refine LJ.yd rfl (Yd.asS rfl) ?_
          refine LJ.nil ?_
          refine CJ.ret ?_
          refine Fin.RL 2 (Res.one (ResV.tmp (v := .slice _ _ _) rfl)) rfl (by omega) ?_
          rw [ho, List.take_of_length_le (by omega), pairR_m1]
theorem PairUpS_ok {A : Amb} {v w : Value} {a b : List Int} {s : Int} (hl : RdL encI 1 A.h v a) (hl2 : RdL encI 1 A.h w b) : Ctr Try.prog 13 #[v, w, vI s] A [] (RLP encI 3 1 (puR a b s)) := by
  obtain ⟨la, lc, rfl, hlb, hl⟩ := hl.un
  obtain ⟨la2, lc2, rfl, hlb2, hl2⟩ := hl2.un
  refine Ctr.body (args := [_, _, _]) Try.func13 rfl Try.ntmps13 Try.results13 (by simp) ?_
  refine CJ.seq ?_
  refine CJ.region ?_
  refine LJ.yd rfl (Yd.asS rfl) ?_
  refine LJ.nil ?_
  refine CJ.seq ?_
  refine CJ.seq ?_
  refine CJ.region ?_
  refine LJ.yd rfl (Yd.mvS rfl) ?_
  refine LJ.callB rfl (fun k hk dk => validSizesS_ok (RdRow.up hl)) (fun h8 => ?_) (fun h8 => ?_)
  · refine LJ.yd rfl (Yd.not rfl) ?_
    refine LJ.yd rfl (Yd.mvB rfl) ?_
    refine LJ.gT rfl ?_
    refine LJ.yd rfl (Yd.mvS rfl) ?_
    refine LJ.gT rfl ?_
    refine LJ.callB rfl (fun k hk dk => validSizesS_ok (RdRow.up hl2)) (fun h12 => ?_) (fun h12 => ?_)
    · refine LJ.gT rfl ?_
      refine LJ.yd rfl (Yd.not rfl) ?_
      refine LJ.yd rfl (Yd.pickFB rfl rfl) ?_
      refine LJ.yd rfl (Yd.mvB rfl) ?_
      refine LJ.gT rfl ?_
      refine LJ.yd rfl (Yd.mvI rfl) ?_
      refine LJ.gT rfl ?_
      refine LJ.callB rfl (fun k hk dk => inRange_ok _ _ _ _) (fun h17 => ?_) (fun h17 => ?_)
      · refine LJ.gT rfl ?_
        refine LJ.yd rfl (Yd.not rfl) ?_
        refine LJ.yd rfl (Yd.pickFB rfl rfl) ?_
        refine LJ.nil ?_
        refine CJ.condF rfl ?_
        refine CJ.skip ?_
        refine CJ.seq ?_
        have hpo : PairOk a b s := ⟨h8, h12, by simpa using h17⟩
        refine CJ.region ?_
        refine LJ.yd rfl (Yd.mvS rfl) ?_
        refine LJ.yd rfl (Yd.mvS rfl) ?_
        refine LJ.yd rfl (Yd.mvI rfl) ?_
        refine LJ.call0 rfl (fun k hk dk => pairUpS_ok (RdRow.up hl) (RdRow.up hl2) hpo) ?_
        rintro _ _ ⟨ra23, rc23, rfl, rfl⟩
        refine LJ.norm [_] rfl ?_
        refine LJ.yd rfl (Yd.asS rfl) ?_
        refine LJ.nil ?_
        refine CJ.ret ?_
        refine Fin.RL 0 (Res.one (ResV.tmp (v := .slice _ _ _) rfl)) rfl (by first | rfl | omega | (simp; done) | (simp; omega) | (simp [upN_len]; omega) | (simp [idxBy_len]; omega) | (simp [marks_len]; omega) | (simp [upN_len]; done) | (simp [idxBy_len]; done) | (simp [marks_len]; done) | (simp at *; omega)) ?_
        first
          | (rw [puR, if_pos hpo]; done)
          | (rw [puR, if_neg (fun h => nomatch (show true = false from h.1.symm.trans h8))]; done)
          | (rw [puR, if_neg (fun h => nomatch (show true = false from h.2.1.symm.trans h12))]; done)
          | (rw [puR, if_neg (fun h => by have h2 := h.2.2; simp at h17; omega)]; done)
      · refine LJ.gT rfl ?_
        refine LJ.yd rfl (Yd.not rfl) ?_
        refine LJ.yd rfl (Yd.pickFB rfl rfl) ?_
        refine LJ.nil ?_
        refine CJ.condT rfl ?_
        refine CJ.seq ?_
        refine CJ.region ?_
        refine LJ.yd rfl (Yd.asS rfl) ?_
        refine LJ.nil ?_
        refine CJ.ret ?_
        refine Fin.RN (Res.one (ResV.tmp (v := .slice _ _ _) rfl)) ?_
        first
          | (rw [puR, if_pos hpo]; done)
          | (rw [puR, if_neg (fun h => nomatch (show true = false from h.1.symm.trans h8))]; done)
          | (rw [puR, if_neg (fun h => nomatch (show true = false from h.2.1.symm.trans h12))]; done)
          | (rw [puR, if_neg (fun h => by have h2 := h.2.2; simp at h17; omega)]; done)
    · refine LJ.gT rfl ?_
      refine LJ.yd rfl (Yd.not rfl) ?_
      refine LJ.yd rfl (Yd.pickFB rfl rfl) ?_
      refine LJ.yd rfl (Yd.mvB rfl) ?_
      refine LJ.gF rfl rfl ?_
      refine LJ.gF rfl rfl ?_
      refine LJ.gF rfl rfl ?_
      refine LJ.yd rfl (Yd.pickTB rfl rfl) ?_
      refine LJ.nil ?_
      refine CJ.condT rfl ?_
      refine CJ.seq ?_
      refine CJ.region ?_
      refine LJ.yd rfl (Yd.asS rfl) ?_
      refine LJ.nil ?_
      refine CJ.ret ?_
      refine Fin.RN (Res.one (ResV.tmp (v := .slice _ _ _) rfl)) ?_
      first
        | (rw [puR, if_pos hpo]; done)
        | (rw [puR, if_neg (fun h => nomatch (show true = false from h.1.symm.trans h8))]; done)
        | (rw [puR, if_neg (fun h => nomatch (show true = false from h.2.1.symm.trans h12))]; done)
        | (rw [puR, if_neg (fun h => by have h2 := h.2.2; simp at h17; omega)]; done)
  · refine LJ.yd rfl (Yd.not rfl) ?_
    refine LJ.yd rfl (Yd.mvB rfl) ?_
    refine LJ.gF rfl rfl ?_
    refine LJ.gF rfl rfl ?_
    refine LJ.gF rfl rfl ?_
    refine LJ.yd rfl (Yd.pickTB rfl rfl) ?_
    refine LJ.yd rfl (Yd.mvB rfl) ?_
    refine LJ.gF rfl rfl ?_
    refine LJ.gF rfl rfl ?_
    refine LJ.gF rfl rfl ?_
    refine LJ.yd rfl (Yd.pickTB rfl rfl) ?_
    refine LJ.nil ?_
    refine CJ.condT rfl ?_
    refine CJ.seq ?_
    refine CJ.region ?_
    refine LJ.yd rfl (Yd.asS rfl) ?_
    refine LJ.nil ?_
    refine CJ.ret ?_
    refine Fin.RN (Res.one (ResV.tmp (v := .slice _ _ _) rfl)) ?_
    first
      | (rw [puR, if_pos hpo]; done)
      | (rw [puR, if_neg (fun h => nomatch (show true = false from h.1.symm.trans h8))]; done)
      | (rw [puR, if_neg (fun h => nomatch (show true = false from h.2.1.symm.trans h12))]; done)
      | (rw [puR, if_neg (fun h => by have h2 := h.2.2; simp at h17; omega)]; done)
theorem isIn_ok {A : Amb} {v : Value} {l : List Int} {x : Int} (hl : RdL encI 1 A.h v l) : Ctr Try.prog 23 #[v, vI x] A [] (Val (.bool (decide (x ∈ l)))) := by
  obtain ⟨la, lc, rfl, hlb, hl⟩ := hl.un
  refine Ctr.body (args := [_, _]) Try.func23 rfl Try.ntmps23 Try.results23 (by simp) ?_
  refine CJ.seq ?_
  refine CJ.region ?_
  refine LJ.yd rfl (Yd.asB rfl) ?_
  refine LJ.nil ?_
  refine CJ.seq ?_
  refine CJ.seq ?_
  refine CJ.region ?_
  refine LJ.yd rfl (Yd.asI rfl) ?_
  refine LJ.nil ?_
  refine CJ.block ?_
  refine CJ.loopK [0, 1] Nat (fun k => k ≤ l.length ∧ x ∉ l.take k) (fun k => [(5, vI k)]) (fun k => l.length - k) (0) ?_ ⟨rfl, trivial⟩ ?_
  · exact ⟨by omega, by simp⟩
  · rintro k σ ⟨hk1, hi1⟩
    refine CJ.seq ?_
    refine CJ.seq ?_
    refine CJ.region ?_
    refine LJ.yd rfl (Yd.mvI rfl) ?_
    refine LJ.yd rfl (Yd.mvS rfl) ?_
    refine LJ.yd rfl (Yd.len rfl) ?_
    refine LJ.splitD rfl (Yd.lss rfl rfl) (fun h9 => ?_) (fun h9 => ?_)
    · refine LJ.nil ?_
      refine CJ.condT rfl ?_
      refine CJ.skip ?_
      refine CJ.seq ?_
      refine CJ.block ?_
      refine CJ.seq ?_
      refine CJ.region ?_
      refine LJ.yd rfl (Yd.mvS rfl) ?_
      refine LJ.yd rfl (Yd.mvI rfl) ?_
      refine LJ.idxA rfl hl rfl rfl (by omega) (by first | rfl | omega | (simp; done) | (simp; omega) | (simp [upN_len]; omega) | (simp [idxBy_len]; omega) | (simp [marks_len]; omega) | (simp [upN_len]; done) | (simp [idxBy_len]; done) | (simp [marks_len]; done) | (simp at *; omega)) (fun ib14 io14 ia14 ir14 => ?_)
      refine LJ.ldA 0 (fun u => vI u) (fun _ => rfl) ir14 rfl rfl rfl (by first | rfl | omega | (simp; done) | (simp; omega) | (simp [upN_len]; omega) | (simp [idxBy_len]; omega) | (simp [marks_len]; omega) | (simp [upN_len]; done) | (simp [idxBy_len]; done) | (simp [marks_len]; done) | (simp at *; omega)) (fun u15 hu15 => ?_)
      try simp only [Int.toNat_natCast] at hu15
      refine LJ.yd rfl (Yd.mvI rfl) ?_
      refine LJ.splitD rfl (Yd.eql rfl rfl) (fun h17 => ?_) (fun h17 => ?_)
      · refine LJ.nil ?_
        refine CJ.condT rfl ?_
        refine CJ.seq ?_
        refine CJ.region ?_
        refine LJ.yd rfl (Yd.asB rfl) ?_
        refine LJ.nil ?_
        refine CJ.ret ?_
        refine Fin.V (Res.one (ResV.tmp (v := .bool true) rfl)) ?_
        refine congrArg Value.bool (Eq.symm ?_)
        first
          | (refine decide_eq_true ?_; rw [← h17]; exact List.mem_of_getElem? hu15)
          | (rw [List.take_of_length_le (by omega)] at hi1; exact decide_eq_false hi1)
      · refine LJ.nil ?_
        refine CJ.condF rfl ?_
        refine CJ.skip ?_
        refine CJ.region ?_
        refine LJ.yd rfl (Yd.mvI rfl) ?_
        refine LJ.yd rfl (Yd.add rfl rfl (by unfold I64; omega)) ?_
        refine LJ.yd rfl (Yd.asI rfl) ?_
        refine LJ.nil ?_
        refine ⟨(k + 1), ?_, ⟨rfl, rfl, trivial⟩, ⟨rfl, trivial⟩, Ent.refl _, ?_⟩
        · refine ⟨by omega, ?_⟩
          rw [takeC hu15, List.mem_append, List.mem_singleton]; rintro (h | h)
          · exact hi1 h
          · omega
        · first | omega | (dsimp only; omega) | (simp only []; omega)
    · refine LJ.nil ?_
      refine CJ.condF rfl ?_
      refine CJ.exit ?_
      refine CJ.seq ?_
      refine CJ.region ?_
      refine LJ.yd rfl (Yd.asB rfl) ?_
      refine LJ.nil ?_
      refine CJ.ret ?_
      refine Fin.V (Res.one (ResV.tmp (v := .bool false) rfl)) ?_
      refine congrArg Value.bool (Eq.symm ?_)
      first
        | (refine decide_eq_true ?_; rw [← h17]; exact List.mem_of_getElem? hu15)
        | (rw [List.take_of_length_le (by omega)] at hi1; exact decide_eq_false hi1)
def SizesD (rb : Nat) (a : Option Addr) (n c : Nat) (p : Int) (v : Value) (gs : List HProp) : Prop :=
  ∃ (l : List Int) (aa : Option Addr) (m cc : Nat) (q : Int), v = .slice aa m cc ∧ gs = [Rd rb a n c q, LR encI 3 1 aa cc l] ∧ m = l.length ∧ p ≤ q ∧ q ≤ p + 100 ∧ l.length ≤ 9
theorem someSizes_ok {A : Amb} {rb n c : Nat} {a : Option Addr} {p : Int} (hcode : RdCode A.h a n) (hp0 : 0 ≤ p) (hp1 : p ≤ 10000) :
    Ctr Try.prog 49 #[.pointer (some ⟨rb, 0, none⟩)] A [Rd rb a n c p] (SizesD rb a n c p) := by
  refine Ctr.body (args := [_]) Try.func49 rfl Try.ntmps49 Try.results49 (by simp) ?_
  refine CJ.seq ?_
  refine CJ.region ?_
  refine LJ.yd rfl (Yd.asS rfl) ?_
  refine LJ.nil ?_
  refine CJ.seq ?_
  refine CJ.region ?_
  refine LJ.op rfl (OpR.buildSlice (cs := []) rfl rfl) ?_
  rintro _ _ ⟨b1, rfl, rfl⟩
  refine LJ.yd rfl (Yd.asS rfl) ?_
  refine LJ.nil ?_
  refine CJ.seq ?_
  refine CJ.seq ?_
  refine CJ.region ?_
  refine LJ.yd rfl (Yd.mvP rfl) ?_
  refine LJ.op rfl (OpR.buildSlice (cs := [_, _, _, _, _, _]) rfl rfl) ?_
  rintro _ _ ⟨b2, rfl, rfl⟩
  refine LJ.call (pickF _ [1, 2]) (pickF _ [0]) rfl (perm_pickF _ [1, 2] [0] rfl) (fun k hk dk => one_ok (l := [5, 7, 3, 1, 0, 9]) (hcode.up) (LitAt.of (l := [5, 7, 3, 1, 0, 9]) hk dk 1 rfl) (by simp) (by omega) (by omega)) ?_
  rintro _ _ ⟨x8, rfl, hx8, rfl⟩
  simp only [List.mem_cons, List.not_mem_nil, or_false] at hx8
  refine LJ.norm [_, _, _] rfl ?_
  refine LJ.yd rfl (Yd.asI rfl) ?_
  refine LJ.nil ?_
  refine CJ.block ?_
  refine CJ.imp1 0 rfl (fun _ h => Cel.lr (enc := encI) (k := 1) (m := 0) [] rfl rfl rfl rfl h) ?_
  refine CJ.norm [_, _, _] rfl ?_
  refine CJ.loopF [0, 2] (Int × Int × List Int × Option Addr × Nat × Nat) (fun ⟨m, q, l, lA, lN, lC⟩ => (lN = l.length) ∧ 0 ≤ m ∧ m + l.length ≤ 9 ∧ p ≤ q ∧ q + 2 * m ≤ p + 40) (fun ⟨m, q, l, lA, lN, lC⟩ => [(4, vI m), (3, .slice lA lN lC)]) (fun ⟨m, q, l, lA, lN, lC⟩ => [LR encI 3 1 lA lC l, Rd rb a n c q]) (fun ⟨m, q, l, lA, lN, lC⟩ => m.toNat) (x8, p + 1, [], _, _, _) [_] [1] [0, 2] rfl rfl rfl ?_ ⟨rfl, rfl, trivial⟩ ?_
  · exact ⟨(by first | rfl | omega | (simp; done) | (simp; omega) | (simp [upN_len]; omega) | (simp [idxBy_len]; omega) | (simp [marks_len]; omega) | (simp [upN_len]; done) | (simp [idxBy_len]; done) | (simp [marks_len]; done) | (simp at *; omega)), ⟨by omega, by simp; omega, by omega, by omega⟩⟩
  · rintro ⟨m, q, l, lA, lN, lC⟩ σ ⟨hlNl, ⟨hm0, hml, hq0, hq1⟩⟩
    subst hlNl
    refine CJ.norm [_, _, _] rfl ?_
    refine CJ.seq ?_
    refine CJ.seq ?_
    refine CJ.region ?_
    refine LJ.yd rfl (Yd.mvI rfl) ?_
    refine LJ.splitD rfl (Yd.gtr rfl rfl) (fun h10 => ?_) (fun h10 => ?_)
    · refine LJ.nil ?_
      refine CJ.condT rfl ?_
      refine CJ.skip ?_
      refine CJ.seq ?_
      refine CJ.block ?_
      refine CJ.region ?_
      refine LJ.yd rfl (Yd.mvS rfl) ?_
      refine LJ.yd rfl (Yd.mvP rfl) ?_
      refine LJ.call (pickF _ [0, 1]) (pickF _ [2]) rfl (perm_pickF _ [0, 1] [2] rfl) (fun k hk dk => pick_ok (hcode.up) (by omega) (by omega)) ?_
      rintro _ _ ⟨x15, rfl, hx15, hy15, rfl⟩
      refine LJ.norm [_, _, _] rfl ?_
      refine LJ.yd rfl (Yd.add rfl rfl (by unfold I64; omega)) ?_
      refine LJ.op rfl (OpR.buildSlice (cs := [_]) rfl rfl) ?_
      rintro _ _ ⟨b3, rfl, rfl⟩
      refine LJ.op rfl (OpR.apT (enc := encI) [_] 1 3 rfl rfl rfl (by first | rfl | omega | (simp; done) | (simp; omega) | (simp [upN_len]; omega) | (simp [idxBy_len]; omega) | (simp [marks_len]; omega) | (simp [upN_len]; done) | (simp [idxBy_len]; done) | (simp [marks_len]; done) | (simp at *; omega)) rfl rfl rfl rfl rfl (by first | rfl | omega | (simp; done) | (simp; omega) | (simp [upN_len]; omega) | (simp [idxBy_len]; omega) | (simp [marks_len]; omega) | (simp [upN_len]; done) | (simp [idxBy_len]; done) | (simp [marks_len]; done) | (simp at *; omega))) ?_
      rintro _ _ ⟨ra18, rc18, rfl, rfl⟩
      refine LJ.norm [_, _, _, _] rfl ?_
      refine LJ.yd rfl (Yd.asS rfl) ?_
      refine LJ.nil ?_
      refine CJ.region ?_
      refine LJ.yd rfl (Yd.mvI rfl) ?_
      refine LJ.yd rfl (Yd.sub rfl rfl (by unfold I64; omega)) ?_
      refine LJ.yd rfl (Yd.asI rfl) ?_
      refine LJ.nil ?_
      refine ⟨(_, _, _, _, _, _), ?_, ⟨rfl, rfl, trivial⟩, ⟨rfl, rfl, trivial⟩, Ent.pick [0, 1, 2] [3] rfl, ?_⟩
      · refine ⟨(by first | rfl | omega | (simp; done) | (simp; omega) | (simp [upN_len]; omega) | (simp [idxBy_len]; omega) | (simp [marks_len]; omega) | (simp [upN_len]; done) | (simp [idxBy_len]; done) | (simp [marks_len]; done) | (simp at *; omega)), ?_⟩
        exact ⟨by omega, by simp; omega, by omega, by omega⟩
      · first | omega | (dsimp only; omega) | (simp only []; omega)
    · refine LJ.nil ?_
      refine CJ.condF rfl ?_
      refine CJ.exit ?_
      refine CJ.seq ?_
      refine CJ.seq ?_
      refine CJ.region ?_
      refine LJ.yd rfl (Yd.mvS rfl) ?_
      refine LJ.yd rfl (Yd.len rfl) ?_
      refine LJ.splitD rfl (Yd.gtr rfl rfl) (fun h21 => ?_) (fun h21 => ?_)
      · refine LJ.yd rfl (Yd.mvB rfl) ?_
        refine LJ.gT rfl ?_
        refine LJ.yd rfl (Yd.mvP rfl) ?_
        refine LJ.gT rfl ?_
        refine LJ.call (pickF _ [0, 1]) (pickF _ [2]) rfl (perm_pickF _ [0, 1] [2] rfl) (fun k hk dk => pick_ok (hcode.up) (by omega) (by omega)) ?_
        rintro _ _ ⟨x24, rfl, hx24, hy24, rfl⟩
        refine LJ.norm [_, _, _] rfl ?_
        refine LJ.gT rfl ?_
        refine LJ.splitD rfl (Yd.eql rfl rfl) (fun h25 => ?_) (fun h25 => ?_)
        · refine LJ.yd rfl (Yd.pickTB rfl rfl) ?_
          refine LJ.nil ?_
          refine CJ.condT rfl ?_
          refine CJ.region ?_
          refine LJ.yd rfl (Yd.mvS rfl) ?_
          refine LJ.yd rfl (Yd.mvP rfl) ?_
          refine LJ.op rfl (OpR.buildSlice (cs := [_, _]) rfl rfl) ?_
          rintro _ _ ⟨b4, rfl, rfl⟩
          refine LJ.call (pickF _ [0, 1, 3]) (pickF _ [2]) rfl (perm_pickF _ [0, 1, 3] [2] rfl) (fun k hk dk => one_ok (l := [0, 201]) (hcode.up) (LitAt.of (l := [0, 201]) hk dk 2 rfl) (by simp) (by omega) (by omega)) ?_
          rintro _ _ ⟨x30, rfl, hx30, rfl⟩
          simp only [List.mem_cons, List.not_mem_nil, or_false] at hx30
          refine LJ.norm [_, _, _, _] rfl ?_
          refine LJ.idxR 1 rfl rfl rfl rfl (by omega) (by first | rfl | omega | (simp; done) | (simp; omega) | (simp [upN_len]; omega) | (simp [idxBy_len]; omega) | (simp [marks_len]; omega) | (simp [upN_len]; done) | (simp [idxBy_len]; done) | (simp [marks_len]; done) | (simp at *; omega)) (by first | rfl | omega | (simp; done) | (simp; omega) | (simp [upN_len]; omega) | (simp [idxBy_len]; omega) | (simp [marks_len]; omega) | (simp [upN_len]; done) | (simp [idxBy_len]; done) | (simp [marks_len]; done) | (simp at *; omega)) (fun ib31 ia31 => ?_)
          refine LJ.op rfl (OpR.st1 (enc := encI) (e1 := fun u => vI u) 1 (fun _ => rfl) (fun _ => rfl) (fun _ => rfl) rfl ia31 rfl rfl rfl (by first | rfl | omega | (simp; done) | (simp; omega) | (simp [upN_len]; omega) | (simp [idxBy_len]; omega) | (simp [marks_len]; omega) | (simp [upN_len]; done) | (simp [idxBy_len]; done) | (simp [marks_len]; done) | (simp at *; omega))) ?_
          rintro _ _ ⟨rfl, rfl⟩
          refine LJ.norm [_, _, _, _] rfl ?_
          refine LJ.nil ?_
          refine CJ.seq ?_
          refine CJ.region ?_
          refine LJ.yd rfl (Yd.mvS rfl) ?_
          refine LJ.yd rfl (Yd.asS rfl) ?_
          refine LJ.nil ?_
          refine CJ.ret ?_
          exact Fin.R [_, _] (Res.one (ResV.tmp (v := .slice _ _ _) rfl)) ⟨_, _, _, _, _, rfl, rfl, by first | rfl | simp, by omega, by omega, by first | omega | (simp; omega)⟩ (Ent.pick [3, 1] [0, 2] rfl)
        · refine LJ.yd rfl (Yd.pickTB rfl rfl) ?_
          refine LJ.nil ?_
          refine CJ.condF rfl ?_
          refine CJ.skip ?_
          refine CJ.seq ?_
          refine CJ.region ?_
          refine LJ.yd rfl (Yd.mvS rfl) ?_
          refine LJ.yd rfl (Yd.asS rfl) ?_
          refine LJ.nil ?_
          refine CJ.ret ?_
          exact Fin.R [_, _] (Res.one (ResV.tmp (v := .slice _ _ _) rfl)) ⟨_, _, _, _, _, rfl, rfl, by first | rfl | simp, by omega, by omega, by first | omega | (simp; omega)⟩ (Ent.pick [2, 1] [0] rfl)
      · refine LJ.yd rfl (Yd.mvB rfl) ?_
        refine LJ.gF rfl rfl ?_
        refine LJ.gF rfl rfl ?_
        refine LJ.gF rfl rfl ?_
        refine LJ.yd rfl (Yd.pickFB rfl rfl) ?_
        refine LJ.nil ?_
        refine CJ.condF rfl ?_
        refine CJ.skip ?_
        refine CJ.seq ?_
        refine CJ.region ?_
        refine LJ.yd rfl (Yd.mvS rfl) ?_
        refine LJ.yd rfl (Yd.asS rfl) ?_
        refine LJ.nil ?_
        refine CJ.ret ?_
        exact Fin.R [_, _] (Res.one (ResV.tmp (v := .slice _ _ _) rfl)) ⟨_, _, _, _, _, rfl, rfl, by first | rfl | simp, by omega, by omega, by first | omega | (simp; omega)⟩ (Ent.pick [2, 1] [0] rfl)
def PairL (v : Value) (gs : List HProp) : Prop :=
  ∃ (l g : List Int) (s : Int) (aa : Option Addr) (m cc : Nat) (ba : Option Addr) (k bc : Nat), v = .tuple #[.slice aa m cc, .slice ba k bc, vI s] ∧ gs = [LR encI 3 1 aa cc l, LR encI 3 1 ba bc g] ∧ m = l.length ∧ k = g.length ∧ l.length ≤ 9 ∧ g.length ≤ 9 ∧ -1 ≤ s ∧ s ≤ 200
theorem DrawPairUp_ok {A : Amb} {a : Option Addr} {n c : Nat} (h : Code A.h a n c) : Ctr Try.prog 21 #[.slice a n c] A [] PairL := by
  obtain ⟨hcode, hn, ha, hs⟩ := h
  refine Ctr.body (args := [_]) Try.func21 rfl Try.ntmps21 Try.results21 (by simp) ?_
  refine CJ.seq ?_
  refine CJ.region ?_
  refine LJ.yd rfl (Yd.asS rfl) ?_
  refine LJ.yd rfl (Yd.asS rfl) ?_
  refine LJ.yd rfl (Yd.asI rfl) ?_
  refine LJ.nil ?_
  refine CJ.seq ?_
  refine CJ.region ?_
  refine LJ.yd rfl (Yd.mvS rfl) ?_
  refine LJ.call0 rfl (fun k hk dk => newReader_ok hn hcode.up ha hs) ?_
  rintro _ _ ⟨rb, n2, rfl, hn1, hn2, rfl⟩
  have hcode2 := hcode.le hn2
  refine LJ.yd rfl (Yd.asP rfl) ?_
  refine LJ.nil ?_
  refine CJ.seq ?_
  refine CJ.region ?_
  refine LJ.yd rfl (Yd.mvP rfl) ?_
  refine LJ.call (pickF _ []) (pickF _ [0]) rfl (perm_pickF _ [] [0] rfl) (fun k hk dk => someSizes_ok hcode2.up (by omega) (by omega)) ?_
  rintro _ _ ⟨l, aa, m, cc, q, rfl, rfl, rfl, hq0, hq1, hl1⟩
  refine LJ.norm [_, _] rfl ?_
  refine LJ.yd rfl (Yd.mvP rfl) ?_
  refine LJ.call (pickF _ [1]) (pickF _ [0]) rfl (perm_pickF _ [1] [0] rfl) (fun k hk dk => someSizes_ok hcode2.up (by omega) (by omega)) ?_
  rintro _ _ ⟨g, ba, k, bc, q2, rfl, rfl, rfl, hp0, hp1, hg1⟩
  refine LJ.norm [_, _, _] rfl ?_
  refine LJ.yd rfl (Yd.mvP rfl) ?_
  refine LJ.op rfl (OpR.buildSlice (cs := [_, _, _, _, _, _]) rfl rfl) ?_
  rintro _ _ ⟨b1, rfl, rfl⟩
  refine LJ.call (pickF _ [0, 2, 3]) (pickF _ [1]) rfl (perm_pickF _ [0, 2, 3] [1] rfl) (fun k hk dk => one_ok (l := [0, 1, 2, 5, 200, -1]) (hcode2.up) (LitAt.of (l := [0, 1, 2, 5, 200, -1]) hk dk 2 rfl) (by simp) (by omega) (by omega)) ?_
  rintro _ _ ⟨x14, rfl, hx14, rfl⟩
  simp only [List.mem_cons, List.not_mem_nil, or_false] at hx14
  refine LJ.norm [_, _, _, _] rfl ?_
  refine LJ.yd rfl (Yd.asS rfl) ?_
  refine LJ.yd rfl (Yd.asS rfl) ?_
  refine LJ.yd rfl (Yd.asI rfl) ?_
  refine LJ.nil ?_
  refine CJ.ret ?_
  exact Fin.R [_, _] (Res.three (ResV.tmp (v := .slice _ _ _) rfl) (ResV.tmp (v := .slice _ _ _) rfl) (ResV.tmp (v := .int _ _) rfl)) ⟨_, _, _, _, _, _, _, _, _, rfl, rfl, rfl, rfl, hl1, hg1, by omega, by omega⟩ (Ent.pick [0, 1] [2, 3] rfl)
theorem DrawPairsIn_ok {A : Amb} {a : Option Addr} {n c : Nat} (h : Code A.h a n c) : Ctr Try.prog 24 #[.slice a n c] A [] PairL := by
  refine Ctr.body (args := [_]) Try.func24 rfl Try.ntmps24 Try.results24 (by simp) ?_
  refine CJ.seq ?_
  refine CJ.region ?_
  refine LJ.yd rfl (Yd.asS rfl) ?_
  refine LJ.yd rfl (Yd.asS rfl) ?_
  refine LJ.yd rfl (Yd.asI rfl) ?_
  refine LJ.nil ?_
  refine CJ.seq ?_
  refine CJ.region ?_
  refine LJ.yd rfl (Yd.mvS rfl) ?_
  refine LJ.call0 rfl (fun k hk dk => DrawPairUp_ok h.up) ?_
  rintro _ _ ⟨l, g, s, aa, m, cc, ba, k, bc, rfl, rfl, rfl, rfl, hl1, hg1, hs0, hs1⟩
  refine LJ.norm [_, _] rfl ?_
  refine LJ.yd rfl (Yd.extract rfl rfl) ?_
  refine LJ.yd rfl (Yd.extract rfl rfl) ?_
  refine LJ.yd rfl (Yd.extract rfl rfl) ?_
  refine LJ.yd rfl (Yd.asS rfl) ?_
  refine LJ.yd rfl (Yd.asS rfl) ?_
  refine LJ.yd rfl (Yd.asI rfl) ?_
  refine LJ.nil ?_
  refine CJ.ret ?_
  exact Fin.R [_, _] (Res.three (ResV.tmp (v := .slice _ _ _) rfl) (ResV.tmp (v := .slice _ _ _) rfl) (ResV.tmp (v := .int _ _) rfl)) ⟨_, _, _, _, _, _, _, _, _, rfl, rfl, rfl, rfl, hl1, hg1, hs0, hs1⟩ (Ent.pick [0, 1] [] rfl)
theorem equalInts_eq {A : Amb} {v w : Value} {l : List Int} (hl : RdL encI 1 A.h v l) (hl2 : RdL encI 1 A.h w l) : Ctr Try.prog 22 #[v, w] A [] (Val (.bool true)) := by
  have := equalInts_ok hl hl2
  rwa [decide_eq_true rfl] at this
end Go.Proofs.Ytbgalcjkmgdaiaa
