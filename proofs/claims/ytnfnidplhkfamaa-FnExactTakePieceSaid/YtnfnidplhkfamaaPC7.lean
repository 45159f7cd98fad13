/-
  The law on the smallest piece for a pane.
-/
import Derived.Test.YtnfnidplhkfamaaPC6
namespace Go.Proofs.Ytnfnidplhkfamaa
open Go
set_option maxRecDepth 20000
set_option maxHeartbeats 1000000

theorem INN.toQ {X : List Pc} {A : Amb} {m : Hp} (s : INN rowQ X m) (d : A.h.Dj m) (hb : ∀ u ∈ X, u.p.fl.length ≤ 281474976710656) : Fls (A.ext m).h X := fun u hu => by
  obtain ⟨j, hj⟩ := List.getElem?_of_mem hu
  obtain ⟨q, hq, lq⟩ := INN.get hj s
  have := (Row.rd hq (by rw [List.length_map]; exact hb u hu)).mono (lq.trans (Amb.ext_own d))
  rwa [List.length_map] at this
theorem PcB.big {X : List Pc} (h : PcB X) : ∀ u ∈ X, u.p.fl.length ≤ 281474976710656 := fun u hu => by have := (h u hu).2.2; omega
theorem PcB.wf {X : List Pc} (h : PcB X) : Wfs X := fun u hu => by obtain ⟨h1, h2, _⟩ := h u hu; unfold I64; omega
theorem fpR_facts {L : List Piece} {q : Pane} (h : ¬ fpR L q = 0) : stOk L = true ∧ q.ok = true ∧ ∃ p ∈ L, fpR L q = p.l ∧ ccB p q = true ∧ ∀ z ∈ L, ccB z q = true → p.w * p.h ≤ z.w * z.h := by
  unfold fpR at *
  split at h
  · rename_i hc
    have ha := stGo_all (stOk_iff.1 hc.1).2
    obtain ⟨h1, h2⟩ := fp_facts (q := q) (L := L) (o := (0, 0)) (fun p hp => (pcOk_iff.1 (ha p hp).1).1)
    refine ⟨hc.1, hc.2, ?_⟩
    rw [if_pos hc]
    rcases h1 with ⟨h1, _⟩ | ⟨p, hp, h1, h3, _⟩
    · rw [h1] at h; exact absurd rfl h
    · exact ⟨p, hp, by rw [h1], h3, fun z hz hzc => by have := h2 h z hz hzc; rw [h1] at this; exact this⟩
  · exact absurd rfl h
theorem DrawFindPiece_ok {A : Amb} {a : Option Addr} {n c : Nat} (h : Code A.h a n c) : Ctr Try.prog 11 #[.slice a n c] A []
    (fun v gs => ∃ (X : List Pc) (aa : Option Addr) (cc : Nat) (W H K : Int) (t : Bool), v = .tuple #[.slice aa X.length cc, .agg #[vI W, vI H, .bool t, vI K]] ∧ gs = [LR encQ 31 4 aa cc X, INN rowQ X] ∧ X.length ≤ 10 ∧ PcB X) := by
  obtain ⟨hcode, hn, ha, hs⟩ := h
  refine Ctr.body (args := [_]) Try.func11 rfl Try.ntmps11 Try.results11 (by simp) ?_
  refine CJ.seq ?_
  refine CJ.region ?_
  refine LJ.yd rfl (Yd.asS rfl) ?_
  refine LJ.alloc ([_, _, _, _] : List Value) rfl rfl (fun b1 => ?_)
  refine LJ.nil ?_
  refine CJ.seq ?_
  refine CJ.region ?_
  refine LJ.yd rfl (Yd.mvS rfl) ?_
  refine LJ.call0 rfl (fun k hk dk => newReader_ok hn hcode.up ha hs) ?_
  rintro _ _ ⟨rb, n2, rfl, hn1, hn2, rfl⟩
  have hcode2 := hcode.le hn2
  refine LJ.yd rfl (Yd.asP rfl) ?_
  refine LJ.nil ?_
  refine CJ.seq ?_
  refine CJ.region ?_
  refine LJ.yd rfl (Yd.mvP rfl) ?_
  refine LJ.call (pickF _ [0]) (pickF _ [1]) rfl (perm_pickF _ [0] [1] rfl) (fun k hk dk => anyPane_ok hcode2.up (by omega) (by omega)) ?_
  rintro _ _ ⟨pW, pH, pK, q1, pT, rfl, rfl, hq1, hq2, hb1, hb2, hb3, hb4⟩
  refine LJ.norm [_, _] rfl ?_
  refine LJ.alloc ([_, _, _, _] : List Value) rfl rfl (fun b2 => ?_)
  refine LJ.store (v := .agg #[_, _, _, _]) (us := [_, _, _, _]) 2 rfl rfl rfl rfl rfl rfl rfl rfl ?_
  refine LJ.nil ?_
  refine CJ.seq ?_
  refine CJ.region ?_
  refine LJ.yd rfl (Yd.mvP rfl) ?_
  refine LJ.yd rfl (Yd.fieldAddr rfl) ?_
  refine LJ.yd rfl (Yd.loadC 2 rfl rfl rfl) ?_
  refine LJ.yd rfl (Yd.fieldAddr rfl) ?_
  refine LJ.yd rfl (Yd.loadC 2 rfl rfl rfl) ?_
  refine LJ.yd rfl (Yd.add rfl rfl (by unfold I64; omega)) ?_
  refine LJ.yd rfl (Yd.fieldAddr rfl) ?_
  refine LJ.yd rfl (Yd.loadC 2 rfl rfl rfl) ?_
  refine LJ.op rfl (OpR.buildSlice (cs := [_, _, _]) rfl rfl) ?_
  rintro _ _ ⟨b3, rfl, rfl⟩
  refine LJ.call (pickF _ [0, 2, 3]) (pickF _ [1]) rfl (perm_pickF _ [0, 2, 3] [1] rfl) (fun k hk dk => one_ok (l := [pW, pW + 8, pW]) (hcode2.up) (LitAt.of (l := [pW, pW + 8, pW]) hk dk 2 rfl) (by simp) (by omega) (by omega)) ?_
  rintro _ _ ⟨x19, rfl, hx19, rfl⟩
  simp only [List.mem_cons, List.not_mem_nil, or_false] at hx19
  refine LJ.norm [_, _, _, _] rfl ?_
  refine LJ.yd rfl (Yd.fieldAddr rfl) ?_
  refine LJ.store (v := .int _ _) (us := [_, _, _, _]) 1 rfl rfl rfl rfl rfl rfl rfl rfl ?_
  refine LJ.nil ?_
  refine CJ.seq ?_
  refine CJ.regionD [1, 2] [0, 3] (by kernel_rfl) rfl ?_
  refine DJ.norm [_, _] [_, _] rfl rfl ?_
  refine DJ.yd 0 rfl (by kernel_rfl) (by kernel_rfl) (by kernel_rfl) rfl rfl (Yd.mvP rfl) ?_
  refine DJ.yd 2 rfl (by kernel_rfl) (by kernel_rfl) (by kernel_rfl) rfl rfl (Yd.loadG (us := [_, _, _, _]) 0 rfl rfl rfl rfl) ?_
  refine DJ.one (i := 1) (by kernel_rfl) ?_
  refine DO.call (pickF _ [0]) (pickF _ [1]) rfl rfl rfl (perm_pickF _ [0] [1] rfl) (fun k0 hk0 dk0 k hk dk => anyStock_ok hcode2.up (by omega) (by omega)) ?_
  rintro _ _ ⟨X, xa, xc, q2, rfl, rfl, hq3, hq4, hXl, hXb⟩
  refine DJ.norm [_, _] [_, _, _, _] rfl rfl ?_
  refine DJ.yd 3 rfl (by kernel_rfl) (by kernel_rfl) (by kernel_rfl) rfl rfl (Yd.asS rfl) ?_
  refine DJ.one (i := 4) (by kernel_rfl) ?_
  refine DO.store (v := .agg #[_, _, _, _]) (us := [_, _, _, _]) 0 rfl rfl rfl rfl rfl rfl rfl rfl rfl rfl ?_
  refine DJ.done (by kernel_rfl) ?_
  refine CJ.ret ?_
  exact Fin.R [_, _] (Res.two (ResV.tmp (v := .slice _ _ _) rfl) (ResV.cell (us := [_, _, _, _]) 2 rfl rfl rfl rfl)) ⟨X, _, _, _, _, _, _, rfl, rfl, hXl, hXb⟩ (Ent.pick [4, 5] [0, 1, 2, 3] rfl)
theorem FnFindPiece_ok {A : Amb} {a : Option Addr} {n c : Nat} (h : Code A.h a n c) : Ctr Try.prog 3 #[.slice a n c] A [] (Val (.bool true)) := by
  refine Ctr.body (args := [_]) Try.func3 rfl Try.ntmps3 Try.results3 (by simp) ?_
  refine CJ.seq ?_
  refine CJ.region ?_
  refine LJ.yd rfl (Yd.asB rfl) ?_
  refine LJ.nil ?_
  refine CJ.seq ?_
  refine CJ.seq ?_
  refine CJ.region ?_
  refine LJ.yd rfl (Yd.mvS rfl) ?_
  refine LJ.yd rfl (Yd.len rfl) ?_
  refine LJ.splitD rfl (Yd.gtr rfl rfl) (fun h16 => ?_) (fun h16 => ?_)
  · refine LJ.nil ?_
    refine CJ.condT rfl ?_
    refine CJ.seq ?_
    refine CJ.region ?_
    refine LJ.yd rfl (Yd.asB rfl) ?_
    refine LJ.nil ?_
    refine CJ.ret ?_
    refine Fin.V (Res.one (ResV.tmp (v := .bool true) rfl)) ?_
    first
      | rfl
      | (exfalso; refine hA ⟨by assumption, ?_⟩; simp [ccB, *]; done)
      | (exfalso; refine hB ⟨?_, by assumption⟩; simp [ccB, *]; done)
  · refine LJ.nil ?_
    refine CJ.condF rfl ?_
    refine CJ.skip ?_
    refine CJ.seq ?_
    refine CJ.region ?_
    refine LJ.yd rfl (Yd.mvS rfl) ?_
    refine LJ.call0 rfl (fun k hk dk => DrawFindPiece_ok h.up) ?_
    rintro _ _ ⟨X, xa, xc, pW, pH, pK, pT, rfl, rfl, hXl, hXb⟩
    refine LJ.norm [_, _] rfl ?_
    refine LJ.yd rfl (Yd.mvU rfl) ?_
    refine LJ.yd rfl (Yd.extract rfl rfl) ?_
    refine LJ.yd rfl (Yd.extract rfl rfl) ?_
    refine LJ.alloc ([_, _, _, _] : List Value) rfl rfl (fun b1 => ?_)
    refine LJ.yd rfl (Yd.asS rfl) ?_
    refine LJ.store (v := .agg #[_, _, _, _]) (us := [_, _, _, _]) 2 rfl rfl rfl rfl rfl rfl rfl rfl ?_
    refine LJ.nil ?_
    refine CJ.seq ?_
    refine CJ.amb (perm_pickF _ [0] [1, 2] rfl) (fun mlx wlx dlx => ?_)
    refine CJ.norm [_, _] rfl ?_
    have hlx := Row.toA (enc := encQ) wlx dlx (by first | rfl | omega | (simp; done) | (simp; omega) | (simp [upN_len]; omega) | (simp [idxBy_len]; omega) | (simp [marks_len]; omega) | (simp [upN_len]; done) | (simp [idxBy_len]; done) | (simp [marks_len]; done) | (simp at *; omega))
    refine CJ.amb (perm_pickF _ [0] [1] rfl) (fun m9 h9 d9 => ?_)
    refine CJ.norm [_] rfl ?_
    have hx9 : Fls ((A.ext mlx).ext m9).h X := INN.toQ h9 d9 hXb.big
    replace hlx : RdL encQ 4 ((A.ext mlx).ext m9).h (.slice xa X.length xc) X := RdRow.up hlx
    refine CJ.region ?_
    refine LJ.yd rfl (Yd.mvS rfl) ?_
    refine LJ.yd rfl (Yd.loadG (us := [_, _, _, _]) 0 rfl rfl rfl rfl) ?_
    refine LJ.callV rfl (fun k hk dk => FindPieceI_ok (q := ⟨pW, pH, pT, pK⟩) (RdRow.up hlx) (Fls.up hx9)) ?_
    refine LJ.yd rfl (Yd.asI rfl) ?_
    refine LJ.nil ?_
    refine CJ.seq ?_
    refine CJ.seq ?_
    refine CJ.region ?_
    refine LJ.yd rfl (Yd.mvI rfl) ?_
    refine LJ.yd rfl (Yd.mvS rfl) ?_
    refine LJ.yd rfl (Yd.loadG (us := [_, _, _, _]) 0 rfl rfl rfl rfl) ?_
    refine LJ.callV rfl (fun k hk dk => FindPieceS_ok (q := ⟨pW, pH, pT, pK⟩) (RdRow.up hlx) (Fls.up hx9) hXb.wf) ?_
    refine LJ.yd rfl (Yd.cmpNF (Yd.neq rfl rfl) (by omega)) ?_
    refine LJ.yd rfl (Yd.mvB rfl) ?_
    refine LJ.gT rfl ?_
    refine LJ.yd rfl (Yd.mvI rfl) ?_
    refine LJ.gT rfl ?_
    refine LJ.splitD rfl (Yd.eql rfl rfl) (fun h32 => ?_) (fun h32 => ?_)
    · refine LJ.yd rfl (Yd.pickFB rfl rfl) ?_
      refine LJ.nil ?_
      refine CJ.condT rfl ?_
      refine CJ.seq ?_
      refine CJ.region ?_
      refine LJ.yd rfl (Yd.mvI rfl) ?_
      refine LJ.yd rfl (Yd.mvS rfl) ?_
      refine LJ.yd rfl (Yd.loadG (us := [_, _, _, _]) 0 rfl rfl rfl rfl) ?_
      refine LJ.callV rfl (fun k hk dk => FindPieceS_ok (q := ⟨pW, pH, pT, pK⟩) (RdRow.up hlx) (Fls.up hx9) hXb.wf) ?_
      refine LJ.yd rfl (Yd.cmpT (Yd.eql rfl rfl) (by omega)) ?_
      refine LJ.yd rfl (Yd.asB rfl) ?_
      refine LJ.nil ?_
      refine CJ.ret ?_
      refine Fin.V (Res.one (ResV.tmp (v := .bool true) rfl)) ?_
      first
        | rfl
        | (exfalso; refine hA ⟨by assumption, ?_⟩; simp [ccB, *]; done)
        | (exfalso; refine hB ⟨?_, by assumption⟩; simp [ccB, *]; done)
    · refine LJ.yd rfl (Yd.pickFB rfl rfl) ?_
      refine LJ.nil ?_
      refine CJ.condF rfl ?_
      refine CJ.skip ?_
      refine CJ.seq ?_
      obtain ⟨hst, hqo, p0, hp0, hR, hcc0, hmin⟩ := fpR_facts h32
      have hall := stGo_all (stOk_iff.1 hst).2
      have huq := stGo_uniq (stOk_iff.1 hst).2
      refine CJ.region ?_
      refine LJ.yd rfl (Yd.asI rfl) ?_
      refine LJ.nil ?_
      refine CJ.seq ?_
      refine CJ.seq ?_
      refine CJ.region ?_
      refine LJ.yd rfl (Yd.asI rfl) ?_
      refine LJ.nil ?_
      refine CJ.block ?_
      refine CJ.loopK [2, 3, 4, 5] (Nat × Int) (fun ⟨k, sz⟩ => k ≤ X.length ∧ ∀ u ∈ X.take k, u.p.l = fpR (psX X) ⟨pW, pH, pT, pK⟩ → sz = u.p.w * u.p.h) (fun ⟨k, sz⟩ => [(7, vI k), (6, vI sz)]) (fun ⟨k, sz⟩ => X.length - k) (0, 0) ?_ ⟨rfl, rfl, trivial⟩ ?_
      · exact ⟨by omega, by simp⟩
      · rintro ⟨k, sz⟩ σ ⟨hk1, hsz⟩
        refine CJ.seq ?_
        refine CJ.seq ?_
        refine CJ.region ?_
        refine LJ.yd rfl (Yd.mvI rfl) ?_
        refine LJ.yd rfl (Yd.mvS rfl) ?_
        refine LJ.yd rfl (Yd.len rfl) ?_
        refine LJ.splitD rfl (Yd.lss rfl rfl) (fun h42 => ?_) (fun h42 => ?_)
        · refine LJ.nil ?_
          refine CJ.condT rfl ?_
          refine CJ.skip ?_
          refine CJ.seq ?_
          refine CJ.block ?_
          refine CJ.seq ?_
          refine CJ.region ?_
          refine LJ.yd rfl (Yd.mvS rfl) ?_
          refine LJ.yd rfl (Yd.mvI rfl) ?_
          refine LJ.idxA rfl hlx rfl rfl (by omega) (by first | rfl | omega | (simp; done) | (simp; omega) | (simp [upN_len]; omega) | (simp [idxBy_len]; omega) | (simp [marks_len]; omega) | (simp [upN_len]; done) | (simp [idxBy_len]; done) | (simp [marks_len]; done) | (simp at *; omega)) (fun ib47 io47 ia47 ir47 => ?_)
          refine LJ.yd rfl (Yd.fieldAddr rfl) ?_
          refine LJ.ldA 0 (fun u => vI u.p.l) (fun _ => rfl) ir47 rfl rfl rfl (by first | rfl | omega | (simp; done) | (simp; omega) | (simp [upN_len]; omega) | (simp [idxBy_len]; omega) | (simp [marks_len]; omega) | (simp [upN_len]; done) | (simp [idxBy_len]; done) | (simp [marks_len]; done) | (simp at *; omega)) (fun u49 hu49 => ?_)
          try simp only [Int.toNat_natCast] at hu49
          refine LJ.yd rfl (Yd.mvI rfl) ?_
          refine LJ.splitD rfl (Yd.eql rfl rfl) (fun h51 => ?_) (fun h51 => ?_)
          · refine LJ.nil ?_
            refine CJ.condT rfl ?_
            refine CJ.regionD [0] [] (by kernel_rfl) rfl ?_
            refine DJ.norm [_] [] rfl rfl ?_
            refine DJ.yd 0 rfl (by kernel_rfl) (by kernel_rfl) (by kernel_rfl) rfl rfl (Yd.mvS rfl) ?_
            refine DJ.yd 1 rfl (by kernel_rfl) (by kernel_rfl) (by kernel_rfl) rfl rfl (Yd.mvI rfl) ?_
            refine DJ.idxA 2 rfl (by kernel_rfl) (by kernel_rfl) (by kernel_rfl) rfl rfl hlx rfl rfl (by omega) (by first | rfl | omega | (simp; done) | (simp; omega) | (simp [upN_len]; omega) | (simp [idxBy_len]; omega) | (simp [marks_len]; omega) | (simp [upN_len]; done) | (simp [idxBy_len]; done) | (simp [marks_len]; done) | (simp at *; omega)) (fun ib54 io54 ia54 ir54 => ?_)
            refine DJ.yd 3 rfl (by kernel_rfl) (by kernel_rfl) (by kernel_rfl) rfl rfl (Yd.fieldAddr rfl) ?_
            refine DJ.ldA 4 rfl (by kernel_rfl) (by kernel_rfl) (by kernel_rfl) rfl rfl 1 (fun u => vI u.p.w) (fun _ => rfl) ir54 rfl rfl (by first | rfl | omega | (simp; done) | (simp; omega) | (simp [upN_len]; omega) | (simp [idxBy_len]; omega) | (simp [marks_len]; omega) | (simp [upN_len]; done) | (simp [idxBy_len]; done) | (simp [marks_len]; done) | (simp at *; omega)) (fun u56 hu56 => ?_)
            try simp only [Int.toNat_natCast] at hu56
            obtain rfl : u49 = u56 := by rw [hu49] at hu56; exact Option.some.inj hu56
            refine DJ.yd 5 rfl (by kernel_rfl) (by kernel_rfl) (by kernel_rfl) rfl rfl (Yd.mvS rfl) ?_
            refine DJ.yd 6 rfl (by kernel_rfl) (by kernel_rfl) (by kernel_rfl) rfl rfl (Yd.mvI rfl) ?_
            refine DJ.idxA 7 rfl (by kernel_rfl) (by kernel_rfl) (by kernel_rfl) rfl rfl hlx rfl rfl (by omega) (by first | rfl | omega | (simp; done) | (simp; omega) | (simp [upN_len]; omega) | (simp [idxBy_len]; omega) | (simp [marks_len]; omega) | (simp [upN_len]; done) | (simp [idxBy_len]; done) | (simp [marks_len]; done) | (simp at *; omega)) (fun ib59 io59 ia59 ir59 => ?_)
            refine DJ.yd 8 rfl (by kernel_rfl) (by kernel_rfl) (by kernel_rfl) rfl rfl (Yd.fieldAddr rfl) ?_
            refine DJ.ldA 9 rfl (by kernel_rfl) (by kernel_rfl) (by kernel_rfl) rfl rfl 2 (fun u => vI u.p.h) (fun _ => rfl) ir59 rfl rfl (by first | rfl | omega | (simp; done) | (simp; omega) | (simp [upN_len]; omega) | (simp [idxBy_len]; omega) | (simp [marks_len]; omega) | (simp [upN_len]; done) | (simp [idxBy_len]; done) | (simp [marks_len]; done) | (simp at *; omega)) (fun u61 hu61 => ?_)
            try simp only [Int.toNat_natCast] at hu61
            obtain rfl : u49 = u61 := by rw [hu49] at hu61; exact Option.some.inj hu61
            refine DJ.yd 10 rfl (by kernel_rfl) (by kernel_rfl) (by kernel_rfl) rfl rfl (Yd.mul rfl rfl (by have := area_b (hall _ (List.mem_map_of_mem (List.mem_of_getElem? hu56))).1; unfold I64; omega)) ?_
            refine DJ.yd 11 rfl (by kernel_rfl) (by kernel_rfl) (by kernel_rfl) rfl rfl (Yd.asI rfl) ?_
            refine DJ.done (by kernel_rfl) ?_
            refine CJ.region ?_
            refine LJ.yd rfl (Yd.mvI rfl) ?_
            refine LJ.yd rfl (Yd.add rfl rfl (by unfold I64; omega)) ?_
            refine LJ.yd rfl (Yd.asI rfl) ?_
            refine LJ.nil ?_
            refine ⟨(k + 1, _), ?_, ⟨rfl, rfl, rfl, rfl, trivial⟩, ⟨rfl, rfl, trivial⟩, Ent.refl _, ?_⟩
            · refine ⟨by omega, ?_⟩
              intro u hu hul
              rw [takeC hu49, List.mem_append, List.mem_singleton] at hu
              first
                | (rcases hu with hu | rfl
                   · have := huq u.p (List.mem_map_of_mem (List.mem_of_mem_take hu)) u49.p (List.mem_map_of_mem (List.mem_of_getElem? hu49)) (by omega)
                     rw [this]
                   · rfl)
                | (rcases hu with hu | rfl
                   · exact hsz u hu hul
                   · omega)
            · first | omega | (dsimp only; omega) | (simp only []; omega)
          · refine LJ.nil ?_
            refine CJ.condF rfl ?_
            refine CJ.skip ?_
            refine CJ.region ?_
            refine LJ.yd rfl (Yd.mvI rfl) ?_
            refine LJ.yd rfl (Yd.add rfl rfl (by unfold I64; omega)) ?_
            refine LJ.yd rfl (Yd.asI rfl) ?_
            refine LJ.nil ?_
            refine ⟨(k + 1, _), ?_, ⟨rfl, rfl, rfl, rfl, trivial⟩, ⟨rfl, rfl, trivial⟩, Ent.refl _, ?_⟩
            · refine ⟨by omega, ?_⟩
              intro u hu hul
              rw [takeC hu49, List.mem_append, List.mem_singleton] at hu
              first
                | (rcases hu with hu | rfl
                   · have := huq u.p (List.mem_map_of_mem (List.mem_of_mem_take hu)) u49.p (List.mem_map_of_mem (List.mem_of_getElem? hu49)) (by omega)
                     rw [this]
                   · rfl)
                | (rcases hu with hu | rfl
                   · exact hsz u hu hul
                   · omega)
            · first | omega | (dsimp only; omega) | (simp only []; omega)
        · refine LJ.nil ?_
          refine CJ.condF rfl ?_
          refine CJ.exit ?_
          refine CJ.seq ?_
          refine CJ.seq ?_
          rw [List.take_of_length_le (by omega)] at hsz
          obtain ⟨u0, hu0, rfl⟩ := List.mem_map.1 hp0
          have hsz0 := hsz u0 hu0 hR.symm
          have har0 := area_b (hall _ hp0).1
          refine CJ.region ?_
          refine LJ.yd rfl (Yd.asI rfl) ?_
          refine LJ.nil ?_
          refine CJ.block ?_
          refine CJ.loopK [3, 4, 5, 6] Nat (fun k => k ≤ X.length) (fun k => [(8, vI k)]) (fun k => X.length - k) (0) ?_ ⟨rfl, trivial⟩ ?_
          · exact by omega
          · rintro k σ hk2
            refine CJ.seq ?_
            refine CJ.seq ?_
            refine CJ.region ?_
            refine LJ.yd rfl (Yd.mvI rfl) ?_
            refine LJ.yd rfl (Yd.mvS rfl) ?_
            refine LJ.yd rfl (Yd.len rfl) ?_
            refine LJ.splitD rfl (Yd.lss rfl rfl) (fun h66 => ?_) (fun h66 => ?_)
            · refine LJ.nil ?_
              refine CJ.condT rfl ?_
              refine CJ.skip ?_
              refine CJ.seq ?_
              refine CJ.block ?_
              refine CJ.seq ?_
              refine CJ.regionD [0] [] (by kernel_rfl) rfl ?_
              refine DJ.norm [_] [] rfl rfl ?_
              refine DJ.yd 0 rfl (by kernel_rfl) (by kernel_rfl) (by kernel_rfl) rfl rfl (Yd.mvS rfl) ?_
              refine DJ.yd 1 rfl (by kernel_rfl) (by kernel_rfl) (by kernel_rfl) rfl rfl (Yd.mvI rfl) ?_
              refine DJ.idxA 2 rfl (by kernel_rfl) (by kernel_rfl) (by kernel_rfl) rfl rfl hlx rfl rfl (by omega) (by first | rfl | omega | (simp; done) | (simp; omega) | (simp [upN_len]; omega) | (simp [idxBy_len]; omega) | (simp [marks_len]; omega) | (simp [upN_len]; done) | (simp [idxBy_len]; done) | (simp [marks_len]; done) | (simp at *; omega)) (fun ib72 io72 ia72 ir72 => ?_)
              refine DJ.lgA 3 rfl (by kernel_rfl) (by kernel_rfl) (by kernel_rfl) rfl rfl (enc := encQ) (fun u => [vI u.p.l, vI u.p.w, vI u.p.h, .slice u.a u.p.fl.length u.c]) (fun _ => rfl) (fun _ => rfl) ir72 rfl rfl (by first | rfl | omega | (simp; done) | (simp; omega) | (simp [upN_len]; omega) | (simp [idxBy_len]; omega) | (simp [marks_len]; omega) | (simp [upN_len]; done) | (simp [idxBy_len]; done) | (simp [marks_len]; done) | (simp at *; omega)) (fun u73 hu73 => ?_)
              try simp only [Int.toNat_natCast] at hu73
              refine DJ.yd 4 rfl (by kernel_rfl) (by kernel_rfl) (by kernel_rfl) rfl rfl (Yd.fieldAddr rfl) ?_
              refine DJ.yd 5 rfl (by kernel_rfl) (by kernel_rfl) (by kernel_rfl) rfl rfl (Yd.loadC 0 rfl rfl rfl) ?_
              refine DJ.yd 6 rfl (by kernel_rfl) (by kernel_rfl) (by kernel_rfl) rfl rfl (Yd.fieldAddr rfl) ?_
              refine DJ.yd 7 rfl (by kernel_rfl) (by kernel_rfl) (by kernel_rfl) rfl rfl (Yd.loadC 0 rfl rfl rfl) ?_
              refine DJ.two (i := 8) (j := 12) (by kernel_rfl) ?_ ?_
              · refine DO.call0 rfl rfl rfl (fun k0 hk0 dk0 k hk dk => FirstClearI_ok (p := u73.p) (RdRow.up (hx9 u73 (List.mem_of_getElem? hu73)))) ?_
                rintro _ _ ⟨r78, rfl, rfl⟩
                refine DJ.yd 9 rfl (by kernel_rfl) (by kernel_rfl) (by kernel_rfl) rfl rfl (Yd.mvU rfl) ?_
                refine DJ.yd 10 rfl (by kernel_rfl) (by kernel_rfl) (by kernel_rfl) rfl rfl (Yd.extract rfl rfl) ?_
                refine DJ.split 11 rfl (by kernel_rfl) (by kernel_rfl) (by kernel_rfl) rfl rfl (Yd.extract rfl rfl) (fun h80 => ?_) (fun h80 => ?_)
                · refine DJ.one (i := 12) (by kernel_rfl) ?_
                  refine DO.alloc ([_, _, _, _] : List Value) rfl rfl rfl rfl (fun b2 => ?_)
                  refine DJ.one (i := 13) (by kernel_rfl) ?_
                  refine DO.store (v := .agg #[_, _, _, _]) (us := [_, _, _, _]) 0 rfl rfl rfl rfl rfl rfl rfl rfl rfl rfl ?_
                  refine DJ.yd 14 rfl (by kernel_rfl) (by kernel_rfl) (by kernel_rfl) rfl rfl (Yd.asB rfl) ?_
                  refine DJ.done (by kernel_rfl) ?_
                  refine CJ.seq ?_
                  refine CJ.regionD [0, 1] [] (by kernel_rfl) rfl ?_
                  refine DJ.norm [_, _] [] rfl rfl ?_
                  refine DJ.yd 0 rfl (by kernel_rfl) (by kernel_rfl) (by kernel_rfl) rfl rfl (Yd.mvS rfl) ?_
                  refine DJ.yd 1 rfl (by kernel_rfl) (by kernel_rfl) (by kernel_rfl) rfl rfl (Yd.mvI rfl) ?_
                  refine DJ.idxA 2 rfl (by kernel_rfl) (by kernel_rfl) (by kernel_rfl) rfl rfl hlx rfl rfl (by omega) (by first | rfl | omega | (simp; done) | (simp; omega) | (simp [upN_len]; omega) | (simp [idxBy_len]; omega) | (simp [marks_len]; omega) | (simp [upN_len]; done) | (simp [idxBy_len]; done) | (simp [marks_len]; done) | (simp at *; omega)) (fun ib84 io84 ia84 ir84 => ?_)
                  refine DJ.lgA 3 rfl (by kernel_rfl) (by kernel_rfl) (by kernel_rfl) rfl rfl (enc := encQ) (fun u => [vI u.p.l, vI u.p.w, vI u.p.h, .slice u.a u.p.fl.length u.c]) (fun _ => rfl) (fun _ => rfl) ir84 rfl rfl (by first | rfl | omega | (simp; done) | (simp; omega) | (simp [upN_len]; omega) | (simp [idxBy_len]; omega) | (simp [marks_len]; omega) | (simp [upN_len]; done) | (simp [idxBy_len]; done) | (simp [marks_len]; done) | (simp at *; omega)) (fun u85 hu85 => ?_)
                  try simp only [Int.toNat_natCast] at hu85
                  obtain rfl : u73 = u85 := by rw [hu73] at hu85; exact Option.some.inj hu85
                  refine DJ.yd 4 rfl (by kernel_rfl) (by kernel_rfl) (by kernel_rfl) rfl rfl (Yd.fieldAddr rfl) ?_
                  refine DJ.yd 5 rfl (by kernel_rfl) (by kernel_rfl) (by kernel_rfl) rfl rfl (Yd.loadC 0 rfl rfl rfl) ?_
                  refine DJ.yd 6 rfl (by kernel_rfl) (by kernel_rfl) (by kernel_rfl) rfl rfl (Yd.fieldAddr rfl) ?_
                  refine DJ.yd 7 rfl (by kernel_rfl) (by kernel_rfl) (by kernel_rfl) rfl rfl (Yd.loadC 0 rfl rfl rfl) ?_
                  refine DJ.two (i := 8) (j := 12) (by kernel_rfl) ?_ ?_
                  · refine DO.call0 rfl rfl rfl (fun k0 hk0 dk0 k hk dk => FirstClearI_ok (p := u73.p) (RdRow.up (hx9 u73 (List.mem_of_getElem? hu73)))) ?_
                    rintro _ _ ⟨r90, rfl, rfl⟩
                    refine DJ.yd 9 rfl (by kernel_rfl) (by kernel_rfl) (by kernel_rfl) rfl rfl (Yd.mvU rfl) ?_
                    refine DJ.yd 10 rfl (by kernel_rfl) (by kernel_rfl) (by kernel_rfl) rfl rfl (Yd.extract rfl rfl) ?_
                    refine DJ.split 11 rfl (by kernel_rfl) (by kernel_rfl) (by kernel_rfl) rfl rfl (Yd.extract rfl rfl) (fun h92 => ?_) (fun h92 => ?_)
                    · refine DJ.one (i := 12) (by kernel_rfl) ?_
                      refine DO.alloc ([_, _, _, _] : List Value) rfl rfl rfl rfl (fun b3 => ?_)
                      refine DJ.one (i := 13) (by kernel_rfl) ?_
                      refine DO.store (v := .agg #[_, _, _, _]) (us := [_, _, _, _]) 0 rfl rfl rfl rfl rfl rfl rfl rfl rfl rfl ?_
                      refine DJ.yd 14 rfl (by kernel_rfl) (by kernel_rfl) (by kernel_rfl) rfl rfl (Yd.asB rfl) ?_
                      refine DJ.done (by kernel_rfl) ?_
                      refine CJ.seq ?_
                      refine CJ.region ?_
                      refine LJ.yd rfl (Yd.mvB rfl) ?_
                      refine LJ.yd rfl (Yd.mvB rfl) ?_
                      refine LJ.gF rfl rfl ?_
                      refine LJ.gF rfl rfl ?_
                      refine LJ.gF rfl rfl ?_
                      refine LJ.gF rfl rfl ?_
                      refine LJ.gF rfl rfl ?_
                      refine LJ.yd rfl (Yd.pickTB rfl rfl) ?_
                      refine LJ.yd rfl (Yd.asB rfl) ?_
                      refine LJ.nil ?_
                      refine CJ.seq ?_
                      have hpm : u73.p ∈ psX X := List.mem_map_of_mem (List.mem_of_getElem? hu73)
                      have hA : ¬ (u73.p.l = fpR (psX X) ⟨pW, pH, pT, pK⟩ ∧ ccB u73.p ⟨pW, pH, pT, pK⟩ = false) := fun ⟨h1, h2⟩ => by
                        have := huq u73.p hpm u0.p hp0 (by omega)
                        rw [this, hcc0] at h2; cases h2
                      have hB : ¬ (ccB u73.p ⟨pW, pH, pT, pK⟩ = true ∧ u73.p.w * u73.p.h < sz) := fun ⟨h1, h2⟩ => by
                        have := hmin u73.p hpm h1
                        omega
                      have har3 := area_b (hall _ hpm).1
                      refine CJ.regionD [0, 1, 2] [] (by kernel_rfl) rfl ?_
                      refine DJ.norm [_, _, _] [] rfl rfl ?_
                      refine DJ.yd 0 rfl (by kernel_rfl) (by kernel_rfl) (by kernel_rfl) rfl rfl (Yd.mvS rfl) ?_
                      refine DJ.yd 1 rfl (by kernel_rfl) (by kernel_rfl) (by kernel_rfl) rfl rfl (Yd.mvI rfl) ?_
                      refine DJ.idxA 2 rfl (by kernel_rfl) (by kernel_rfl) (by kernel_rfl) rfl rfl hlx rfl rfl (by omega) (by first | rfl | omega | (simp; done) | (simp; omega) | (simp [upN_len]; omega) | (simp [idxBy_len]; omega) | (simp [marks_len]; omega) | (simp [upN_len]; done) | (simp [idxBy_len]; done) | (simp [marks_len]; done) | (simp at *; omega)) (fun ib103 io103 ia103 ir103 => ?_)
                      refine DJ.yd 3 rfl (by kernel_rfl) (by kernel_rfl) (by kernel_rfl) rfl rfl (Yd.fieldAddr rfl) ?_
                      refine DJ.ldA 4 rfl (by kernel_rfl) (by kernel_rfl) (by kernel_rfl) rfl rfl 0 (fun u => vI u.p.l) (fun _ => rfl) ir103 rfl rfl (by first | rfl | omega | (simp; done) | (simp; omega) | (simp [upN_len]; omega) | (simp [idxBy_len]; omega) | (simp [marks_len]; omega) | (simp [upN_len]; done) | (simp [idxBy_len]; done) | (simp [marks_len]; done) | (simp at *; omega)) (fun u105 hu105 => ?_)
                      try simp only [Int.toNat_natCast] at hu105
                      obtain rfl : u73 = u105 := by rw [hu73] at hu105; exact Option.some.inj hu105
                      refine DJ.yd 5 rfl (by kernel_rfl) (by kernel_rfl) (by kernel_rfl) rfl rfl (Yd.mvI rfl) ?_
                      refine DJ.splitD 6 rfl (by kernel_rfl) (by kernel_rfl) (by kernel_rfl) rfl rfl (Yd.eql rfl rfl) (fun h107 => ?_) (fun h107 => ?_)
                      · refine DJ.yd 7 rfl (by kernel_rfl) (by kernel_rfl) (by kernel_rfl) rfl rfl (Yd.mvB rfl) ?_
                        refine DJ.yd 8 rfl (by kernel_rfl) (by kernel_rfl) (by kernel_rfl) rfl rfl (Yd.mvB rfl) ?_
                        refine DJ.yd 9 rfl (by kernel_rfl) (by kernel_rfl) (by kernel_rfl) rfl rfl (Yd.not rfl) ?_
                        refine DJ.yd 10 rfl (by kernel_rfl) (by kernel_rfl) (by kernel_rfl) rfl rfl (Yd.pickTB rfl rfl) ?_
                        refine DJ.yd 11 rfl (by kernel_rfl) (by kernel_rfl) (by kernel_rfl) rfl rfl (Yd.mvB rfl) ?_
                        refine DJ.yd 12 rfl (by kernel_rfl) (by kernel_rfl) (by kernel_rfl) rfl rfl (Yd.mvB rfl) ?_
                        refine DJ.yd 13 rfl (by kernel_rfl) (by kernel_rfl) (by kernel_rfl) rfl rfl (Yd.mvB rfl) ?_
                        refine DJ.yd 14 rfl (by kernel_rfl) (by kernel_rfl) (by kernel_rfl) rfl rfl (Yd.mvS rfl) ?_
                        refine DJ.yd 15 rfl (by kernel_rfl) (by kernel_rfl) (by kernel_rfl) rfl rfl (Yd.mvI rfl) ?_
                        refine DJ.idxA 16 rfl (by kernel_rfl) (by kernel_rfl) (by kernel_rfl) rfl rfl hlx rfl rfl (by omega) (by first | rfl | omega | (simp; done) | (simp; omega) | (simp [upN_len]; omega) | (simp [idxBy_len]; omega) | (simp [marks_len]; omega) | (simp [upN_len]; done) | (simp [idxBy_len]; done) | (simp [marks_len]; done) | (simp at *; omega)) (fun ib117 io117 ia117 ir117 => ?_)
                        refine DJ.yd 17 rfl (by kernel_rfl) (by kernel_rfl) (by kernel_rfl) rfl rfl (Yd.fieldAddr rfl) ?_
                        refine DJ.ldA 18 rfl (by kernel_rfl) (by kernel_rfl) (by kernel_rfl) rfl rfl 1 (fun u => vI u.p.w) (fun _ => rfl) ir117 rfl rfl (by first | rfl | omega | (simp; done) | (simp; omega) | (simp [upN_len]; omega) | (simp [idxBy_len]; omega) | (simp [marks_len]; omega) | (simp [upN_len]; done) | (simp [idxBy_len]; done) | (simp [marks_len]; done) | (simp at *; omega)) (fun u119 hu119 => ?_)
                        try simp only [Int.toNat_natCast] at hu119
                        obtain rfl : u73 = u119 := by rw [hu73] at hu119; exact Option.some.inj hu119
                        refine DJ.yd 19 rfl (by kernel_rfl) (by kernel_rfl) (by kernel_rfl) rfl rfl (Yd.mvS rfl) ?_
                        refine DJ.yd 20 rfl (by kernel_rfl) (by kernel_rfl) (by kernel_rfl) rfl rfl (Yd.mvI rfl) ?_
                        refine DJ.idxA 21 rfl (by kernel_rfl) (by kernel_rfl) (by kernel_rfl) rfl rfl hlx rfl rfl (by omega) (by first | rfl | omega | (simp; done) | (simp; omega) | (simp [upN_len]; omega) | (simp [idxBy_len]; omega) | (simp [marks_len]; omega) | (simp [upN_len]; done) | (simp [idxBy_len]; done) | (simp [marks_len]; done) | (simp at *; omega)) (fun ib122 io122 ia122 ir122 => ?_)
                        refine DJ.yd 22 rfl (by kernel_rfl) (by kernel_rfl) (by kernel_rfl) rfl rfl (Yd.fieldAddr rfl) ?_
                        refine DJ.ldA 23 rfl (by kernel_rfl) (by kernel_rfl) (by kernel_rfl) rfl rfl 2 (fun u => vI u.p.h) (fun _ => rfl) ir122 rfl rfl (by first | rfl | omega | (simp; done) | (simp; omega) | (simp [upN_len]; omega) | (simp [idxBy_len]; omega) | (simp [marks_len]; omega) | (simp [upN_len]; done) | (simp [idxBy_len]; done) | (simp [marks_len]; done) | (simp at *; omega)) (fun u124 hu124 => ?_)
                        try simp only [Int.toNat_natCast] at hu124
                        obtain rfl : u73 = u124 := by rw [hu73] at hu124; exact Option.some.inj hu124
                        refine DJ.yd 24 rfl (by kernel_rfl) (by kernel_rfl) (by kernel_rfl) rfl rfl (Yd.mul rfl rfl (by unfold I64; omega)) ?_
                        refine DJ.yd 25 rfl (by kernel_rfl) (by kernel_rfl) (by kernel_rfl) rfl rfl (Yd.mvI rfl) ?_
                        refine DJ.splitD 26 rfl (by kernel_rfl) (by kernel_rfl) (by kernel_rfl) rfl rfl (Yd.lss rfl rfl) (fun h127 => ?_) (fun h127 => ?_)
                        · refine DJ.yd 27 rfl (by kernel_rfl) (by kernel_rfl) (by kernel_rfl) rfl rfl (Yd.pickTB rfl rfl) ?_
                          refine DJ.yd 28 rfl (by kernel_rfl) (by kernel_rfl) (by kernel_rfl) rfl rfl (Yd.pickFB rfl rfl) ?_
                          refine DJ.done (by kernel_rfl) ?_
                          refine CJ.condT rfl ?_
                          refine CJ.seq ?_
                          refine CJ.region ?_
                          refine LJ.yd rfl (Yd.asB rfl) ?_
                          refine LJ.nil ?_
                          refine CJ.ret ?_
                          refine Fin.V (Res.one (ResV.tmp (v := .bool false) rfl)) ?_
                          first
                            | rfl
                            | (exfalso; refine hA ⟨by assumption, ?_⟩; simp [ccB, *]; done)
                            | (exfalso; refine hB ⟨?_, by assumption⟩; simp [ccB, *]; done)
                        · refine DJ.yd 27 rfl (by kernel_rfl) (by kernel_rfl) (by kernel_rfl) rfl rfl (Yd.pickTB rfl rfl) ?_
                          refine DJ.yd 28 rfl (by kernel_rfl) (by kernel_rfl) (by kernel_rfl) rfl rfl (Yd.pickFB rfl rfl) ?_
                          refine DJ.done (by kernel_rfl) ?_
                          refine CJ.condF rfl ?_
                          refine CJ.skip ?_
                          refine CJ.region ?_
                          refine LJ.yd rfl (Yd.mvI rfl) ?_
                          refine LJ.yd rfl (Yd.add rfl rfl (by unfold I64; omega)) ?_
                          refine LJ.yd rfl (Yd.asI rfl) ?_
                          refine LJ.nil ?_
                          refine ⟨(k + 1), ?_, ⟨rfl, rfl, rfl, rfl, trivial⟩, ⟨rfl, trivial⟩, Ent.pick [0] [1, 2] rfl, ?_⟩
                          · omega
                          · first | omega | (dsimp only; omega) | (simp only []; omega)
                      · refine DJ.yd 7 rfl (by kernel_rfl) (by kernel_rfl) (by kernel_rfl) rfl rfl (Yd.mvB rfl) ?_
                        refine DJ.skip 8 rfl (by kernel_rfl) (by kernel_rfl) (by kernel_rfl) rfl rfl ?_
                        refine DJ.skip 9 rfl (by kernel_rfl) (by kernel_rfl) (by kernel_rfl) rfl rfl ?_
                        refine DJ.yd 10 rfl (by kernel_rfl) (by kernel_rfl) (by kernel_rfl) rfl rfl (Yd.pickFB rfl rfl) ?_
                        refine DJ.yd 11 rfl (by kernel_rfl) (by kernel_rfl) (by kernel_rfl) rfl rfl (Yd.mvB rfl) ?_
                        refine DJ.yd 12 rfl (by kernel_rfl) (by kernel_rfl) (by kernel_rfl) rfl rfl (Yd.mvB rfl) ?_
                        refine DJ.yd 13 rfl (by kernel_rfl) (by kernel_rfl) (by kernel_rfl) rfl rfl (Yd.mvB rfl) ?_
                        refine DJ.yd 14 rfl (by kernel_rfl) (by kernel_rfl) (by kernel_rfl) rfl rfl (Yd.mvS rfl) ?_
                        refine DJ.yd 15 rfl (by kernel_rfl) (by kernel_rfl) (by kernel_rfl) rfl rfl (Yd.mvI rfl) ?_
                        refine DJ.idxA 16 rfl (by kernel_rfl) (by kernel_rfl) (by kernel_rfl) rfl rfl hlx rfl rfl (by omega) (by first | rfl | omega | (simp; done) | (simp; omega) | (simp [upN_len]; omega) | (simp [idxBy_len]; omega) | (simp [marks_len]; omega) | (simp [upN_len]; done) | (simp [idxBy_len]; done) | (simp [marks_len]; done) | (simp at *; omega)) (fun ib117 io117 ia117 ir117 => ?_)
                        refine DJ.yd 17 rfl (by kernel_rfl) (by kernel_rfl) (by kernel_rfl) rfl rfl (Yd.fieldAddr rfl) ?_
                        refine DJ.ldA 18 rfl (by kernel_rfl) (by kernel_rfl) (by kernel_rfl) rfl rfl 1 (fun u => vI u.p.w) (fun _ => rfl) ir117 rfl rfl (by first | rfl | omega | (simp; done) | (simp; omega) | (simp [upN_len]; omega) | (simp [idxBy_len]; omega) | (simp [marks_len]; omega) | (simp [upN_len]; done) | (simp [idxBy_len]; done) | (simp [marks_len]; done) | (simp at *; omega)) (fun u119 hu119 => ?_)
                        try simp only [Int.toNat_natCast] at hu119
                        obtain rfl : u73 = u119 := by rw [hu73] at hu119; exact Option.some.inj hu119
                        refine DJ.yd 19 rfl (by kernel_rfl) (by kernel_rfl) (by kernel_rfl) rfl rfl (Yd.mvS rfl) ?_
                        refine DJ.yd 20 rfl (by kernel_rfl) (by kernel_rfl) (by kernel_rfl) rfl rfl (Yd.mvI rfl) ?_
                        refine DJ.idxA 21 rfl (by kernel_rfl) (by kernel_rfl) (by kernel_rfl) rfl rfl hlx rfl rfl (by omega) (by first | rfl | omega | (simp; done) | (simp; omega) | (simp [upN_len]; omega) | (simp [idxBy_len]; omega) | (simp [marks_len]; omega) | (simp [upN_len]; done) | (simp [idxBy_len]; done) | (simp [marks_len]; done) | (simp at *; omega)) (fun ib122 io122 ia122 ir122 => ?_)
                        refine DJ.yd 22 rfl (by kernel_rfl) (by kernel_rfl) (by kernel_rfl) rfl rfl (Yd.fieldAddr rfl) ?_
                        refine DJ.ldA 23 rfl (by kernel_rfl) (by kernel_rfl) (by kernel_rfl) rfl rfl 2 (fun u => vI u.p.h) (fun _ => rfl) ir122 rfl rfl (by first | rfl | omega | (simp; done) | (simp; omega) | (simp [upN_len]; omega) | (simp [idxBy_len]; omega) | (simp [marks_len]; omega) | (simp [upN_len]; done) | (simp [idxBy_len]; done) | (simp [marks_len]; done) | (simp at *; omega)) (fun u124 hu124 => ?_)
                        try simp only [Int.toNat_natCast] at hu124
                        obtain rfl : u73 = u124 := by rw [hu73] at hu124; exact Option.some.inj hu124
                        refine DJ.yd 24 rfl (by kernel_rfl) (by kernel_rfl) (by kernel_rfl) rfl rfl (Yd.mul rfl rfl (by unfold I64; omega)) ?_
                        refine DJ.yd 25 rfl (by kernel_rfl) (by kernel_rfl) (by kernel_rfl) rfl rfl (Yd.mvI rfl) ?_
                        refine DJ.splitD 26 rfl (by kernel_rfl) (by kernel_rfl) (by kernel_rfl) rfl rfl (Yd.lss rfl rfl) (fun h127 => ?_) (fun h127 => ?_)
                        · refine DJ.yd 27 rfl (by kernel_rfl) (by kernel_rfl) (by kernel_rfl) rfl rfl (Yd.pickTB rfl rfl) ?_
                          refine DJ.yd 28 rfl (by kernel_rfl) (by kernel_rfl) (by kernel_rfl) rfl rfl (Yd.pickFB rfl rfl) ?_
                          refine DJ.done (by kernel_rfl) ?_
                          refine CJ.condT rfl ?_
                          refine CJ.seq ?_
                          refine CJ.region ?_
                          refine LJ.yd rfl (Yd.asB rfl) ?_
                          refine LJ.nil ?_
                          refine CJ.ret ?_
                          refine Fin.V (Res.one (ResV.tmp (v := .bool false) rfl)) ?_
                          first
                            | rfl
                            | (exfalso; refine hA ⟨by assumption, ?_⟩; simp [ccB, *]; done)
                            | (exfalso; refine hB ⟨?_, by assumption⟩; simp [ccB, *]; done)
                        · refine DJ.yd 27 rfl (by kernel_rfl) (by kernel_rfl) (by kernel_rfl) rfl rfl (Yd.pickTB rfl rfl) ?_
                          refine DJ.yd 28 rfl (by kernel_rfl) (by kernel_rfl) (by kernel_rfl) rfl rfl (Yd.pickFB rfl rfl) ?_
                          refine DJ.done (by kernel_rfl) ?_
                          refine CJ.condF rfl ?_
                          refine CJ.skip ?_
                          refine CJ.region ?_
                          refine LJ.yd rfl (Yd.mvI rfl) ?_
                          refine LJ.yd rfl (Yd.add rfl rfl (by unfold I64; omega)) ?_
                          refine LJ.yd rfl (Yd.asI rfl) ?_
                          refine LJ.nil ?_
                          refine ⟨(k + 1), ?_, ⟨rfl, rfl, rfl, rfl, trivial⟩, ⟨rfl, trivial⟩, Ent.pick [0] [1, 2] rfl, ?_⟩
                          · omega
                          · first | omega | (dsimp only; omega) | (simp only []; omega)
                    · refine DJ.one (i := 12) (by kernel_rfl) ?_
                      refine DO.alloc ([_, _, _, _] : List Value) rfl rfl rfl rfl (fun b4 => ?_)
                      refine DJ.one (i := 13) (by kernel_rfl) ?_
                      refine DO.store (v := .agg #[_, _, _, _]) (us := [_, _, _, _]) 0 rfl rfl rfl rfl rfl rfl rfl rfl rfl rfl ?_
                      refine DJ.yd 14 rfl (by kernel_rfl) (by kernel_rfl) (by kernel_rfl) rfl rfl (Yd.asB rfl) ?_
                      refine DJ.done (by kernel_rfl) ?_
                      refine CJ.seq ?_
                      refine CJ.region ?_
                      refine LJ.yd rfl (Yd.mvB rfl) ?_
                      refine LJ.yd rfl (Yd.mvB rfl) ?_
                      refine LJ.gF rfl rfl ?_
                      refine LJ.gF rfl rfl ?_
                      refine LJ.gF rfl rfl ?_
                      refine LJ.gF rfl rfl ?_
                      refine LJ.gF rfl rfl ?_
                      refine LJ.yd rfl (Yd.pickTB rfl rfl) ?_
                      refine LJ.yd rfl (Yd.asB rfl) ?_
                      refine LJ.nil ?_
                      refine CJ.seq ?_
                      have hpm : u73.p ∈ psX X := List.mem_map_of_mem (List.mem_of_getElem? hu73)
                      have hA : ¬ (u73.p.l = fpR (psX X) ⟨pW, pH, pT, pK⟩ ∧ ccB u73.p ⟨pW, pH, pT, pK⟩ = false) := fun ⟨h1, h2⟩ => by
                        have := huq u73.p hpm u0.p hp0 (by omega)
                        rw [this, hcc0] at h2; cases h2
                      have hB : ¬ (ccB u73.p ⟨pW, pH, pT, pK⟩ = true ∧ u73.p.w * u73.p.h < sz) := fun ⟨h1, h2⟩ => by
                        have := hmin u73.p hpm h1
                        omega
                      have har3 := area_b (hall _ hpm).1
                      refine CJ.regionD [0, 1, 2] [] (by kernel_rfl) rfl ?_
                      refine DJ.norm [_, _, _] [] rfl rfl ?_
                      refine DJ.yd 0 rfl (by kernel_rfl) (by kernel_rfl) (by kernel_rfl) rfl rfl (Yd.mvS rfl) ?_
                      refine DJ.yd 1 rfl (by kernel_rfl) (by kernel_rfl) (by kernel_rfl) rfl rfl (Yd.mvI rfl) ?_
                      refine DJ.idxA 2 rfl (by kernel_rfl) (by kernel_rfl) (by kernel_rfl) rfl rfl hlx rfl rfl (by omega) (by first | rfl | omega | (simp; done) | (simp; omega) | (simp [upN_len]; omega) | (simp [idxBy_len]; omega) | (simp [marks_len]; omega) | (simp [upN_len]; done) | (simp [idxBy_len]; done) | (simp [marks_len]; done) | (simp at *; omega)) (fun ib103 io103 ia103 ir103 => ?_)
                      refine DJ.yd 3 rfl (by kernel_rfl) (by kernel_rfl) (by kernel_rfl) rfl rfl (Yd.fieldAddr rfl) ?_
                      refine DJ.ldA 4 rfl (by kernel_rfl) (by kernel_rfl) (by kernel_rfl) rfl rfl 0 (fun u => vI u.p.l) (fun _ => rfl) ir103 rfl rfl (by first | rfl | omega | (simp; done) | (simp; omega) | (simp [upN_len]; omega) | (simp [idxBy_len]; omega) | (simp [marks_len]; omega) | (simp [upN_len]; done) | (simp [idxBy_len]; done) | (simp [marks_len]; done) | (simp at *; omega)) (fun u105 hu105 => ?_)
                      try simp only [Int.toNat_natCast] at hu105
                      obtain rfl : u73 = u105 := by rw [hu73] at hu105; exact Option.some.inj hu105
                      refine DJ.yd 5 rfl (by kernel_rfl) (by kernel_rfl) (by kernel_rfl) rfl rfl (Yd.mvI rfl) ?_
                      refine DJ.splitD 6 rfl (by kernel_rfl) (by kernel_rfl) (by kernel_rfl) rfl rfl (Yd.eql rfl rfl) (fun h107 => ?_) (fun h107 => ?_)
                      · refine DJ.yd 7 rfl (by kernel_rfl) (by kernel_rfl) (by kernel_rfl) rfl rfl (Yd.mvB rfl) ?_
                        refine DJ.yd 8 rfl (by kernel_rfl) (by kernel_rfl) (by kernel_rfl) rfl rfl (Yd.mvB rfl) ?_
                        refine DJ.yd 9 rfl (by kernel_rfl) (by kernel_rfl) (by kernel_rfl) rfl rfl (Yd.not rfl) ?_
                        refine DJ.yd 10 rfl (by kernel_rfl) (by kernel_rfl) (by kernel_rfl) rfl rfl (Yd.pickTB rfl rfl) ?_
                        refine DJ.yd 11 rfl (by kernel_rfl) (by kernel_rfl) (by kernel_rfl) rfl rfl (Yd.mvB rfl) ?_
                        refine DJ.yd 12 rfl (by kernel_rfl) (by kernel_rfl) (by kernel_rfl) rfl rfl (Yd.mvB rfl) ?_
                        refine DJ.yd 13 rfl (by kernel_rfl) (by kernel_rfl) (by kernel_rfl) rfl rfl (Yd.mvB rfl) ?_
                        refine DJ.yd 14 rfl (by kernel_rfl) (by kernel_rfl) (by kernel_rfl) rfl rfl (Yd.mvS rfl) ?_
                        refine DJ.yd 15 rfl (by kernel_rfl) (by kernel_rfl) (by kernel_rfl) rfl rfl (Yd.mvI rfl) ?_
                        refine DJ.idxA 16 rfl (by kernel_rfl) (by kernel_rfl) (by kernel_rfl) rfl rfl hlx rfl rfl (by omega) (by first | rfl | omega | (simp; done) | (simp; omega) | (simp [upN_len]; omega) | (simp [idxBy_len]; omega) | (simp [marks_len]; omega) | (simp [upN_len]; done) | (simp [idxBy_len]; done) | (simp [marks_len]; done) | (simp at *; omega)) (fun ib117 io117 ia117 ir117 => ?_)
                        refine DJ.yd 17 rfl (by kernel_rfl) (by kernel_rfl) (by kernel_rfl) rfl rfl (Yd.fieldAddr rfl) ?_
                        refine DJ.ldA 18 rfl (by kernel_rfl) (by kernel_rfl) (by kernel_rfl) rfl rfl 1 (fun u => vI u.p.w) (fun _ => rfl) ir117 rfl rfl (by first | rfl | omega | (simp; done) | (simp; omega) | (simp [upN_len]; omega) | (simp [idxBy_len]; omega) | (simp [marks_len]; omega) | (simp [upN_len]; done) | (simp [idxBy_len]; done) | (simp [marks_len]; done) | (simp at *; omega)) (fun u119 hu119 => ?_)
                        try simp only [Int.toNat_natCast] at hu119
                        obtain rfl : u73 = u119 := by rw [hu73] at hu119; exact Option.some.inj hu119
                        refine DJ.yd 19 rfl (by kernel_rfl) (by kernel_rfl) (by kernel_rfl) rfl rfl (Yd.mvS rfl) ?_
                        refine DJ.yd 20 rfl (by kernel_rfl) (by kernel_rfl) (by kernel_rfl) rfl rfl (Yd.mvI rfl) ?_
                        refine DJ.idxA 21 rfl (by kernel_rfl) (by kernel_rfl) (by kernel_rfl) rfl rfl hlx rfl rfl (by omega) (by first | rfl | omega | (simp; done) | (simp; omega) | (simp [upN_len]; omega) | (simp [idxBy_len]; omega) | (simp [marks_len]; omega) | (simp [upN_len]; done) | (simp [idxBy_len]; done) | (simp [marks_len]; done) | (simp at *; omega)) (fun ib122 io122 ia122 ir122 => ?_)
                        refine DJ.yd 22 rfl (by kernel_rfl) (by kernel_rfl) (by kernel_rfl) rfl rfl (Yd.fieldAddr rfl) ?_
                        refine DJ.ldA 23 rfl (by kernel_rfl) (by kernel_rfl) (by kernel_rfl) rfl rfl 2 (fun u => vI u.p.h) (fun _ => rfl) ir122 rfl rfl (by first | rfl | omega | (simp; done) | (simp; omega) | (simp [upN_len]; omega) | (simp [idxBy_len]; omega) | (simp [marks_len]; omega) | (simp [upN_len]; done) | (simp [idxBy_len]; done) | (simp [marks_len]; done) | (simp at *; omega)) (fun u124 hu124 => ?_)
                        try simp only [Int.toNat_natCast] at hu124
                        obtain rfl : u73 = u124 := by rw [hu73] at hu124; exact Option.some.inj hu124
                        refine DJ.yd 24 rfl (by kernel_rfl) (by kernel_rfl) (by kernel_rfl) rfl rfl (Yd.mul rfl rfl (by unfold I64; omega)) ?_
                        refine DJ.yd 25 rfl (by kernel_rfl) (by kernel_rfl) (by kernel_rfl) rfl rfl (Yd.mvI rfl) ?_
                        refine DJ.splitD 26 rfl (by kernel_rfl) (by kernel_rfl) (by kernel_rfl) rfl rfl (Yd.lss rfl rfl) (fun h127 => ?_) (fun h127 => ?_)
                        · refine DJ.yd 27 rfl (by kernel_rfl) (by kernel_rfl) (by kernel_rfl) rfl rfl (Yd.pickTB rfl rfl) ?_
                          refine DJ.yd 28 rfl (by kernel_rfl) (by kernel_rfl) (by kernel_rfl) rfl rfl (Yd.pickFB rfl rfl) ?_
                          refine DJ.done (by kernel_rfl) ?_
                          refine CJ.condT rfl ?_
                          refine CJ.seq ?_
                          refine CJ.region ?_
                          refine LJ.yd rfl (Yd.asB rfl) ?_
                          refine LJ.nil ?_
                          refine CJ.ret ?_
                          refine Fin.V (Res.one (ResV.tmp (v := .bool false) rfl)) ?_
                          first
                            | rfl
                            | (exfalso; refine hA ⟨by assumption, ?_⟩; simp [ccB, *]; done)
                            | (exfalso; refine hB ⟨?_, by assumption⟩; simp [ccB, *]; done)
                        · refine DJ.yd 27 rfl (by kernel_rfl) (by kernel_rfl) (by kernel_rfl) rfl rfl (Yd.pickTB rfl rfl) ?_
                          refine DJ.yd 28 rfl (by kernel_rfl) (by kernel_rfl) (by kernel_rfl) rfl rfl (Yd.pickFB rfl rfl) ?_
                          refine DJ.done (by kernel_rfl) ?_
                          refine CJ.condF rfl ?_
                          refine CJ.skip ?_
                          refine CJ.region ?_
                          refine LJ.yd rfl (Yd.mvI rfl) ?_
                          refine LJ.yd rfl (Yd.add rfl rfl (by unfold I64; omega)) ?_
                          refine LJ.yd rfl (Yd.asI rfl) ?_
                          refine LJ.nil ?_
                          refine ⟨(k + 1), ?_, ⟨rfl, rfl, rfl, rfl, trivial⟩, ⟨rfl, trivial⟩, Ent.pick [0] [1, 2] rfl, ?_⟩
                          · omega
                          · first | omega | (dsimp only; omega) | (simp only []; omega)
                      · refine DJ.yd 7 rfl (by kernel_rfl) (by kernel_rfl) (by kernel_rfl) rfl rfl (Yd.mvB rfl) ?_
                        refine DJ.skip 8 rfl (by kernel_rfl) (by kernel_rfl) (by kernel_rfl) rfl rfl ?_
                        refine DJ.skip 9 rfl (by kernel_rfl) (by kernel_rfl) (by kernel_rfl) rfl rfl ?_
                        refine DJ.yd 10 rfl (by kernel_rfl) (by kernel_rfl) (by kernel_rfl) rfl rfl (Yd.pickFB rfl rfl) ?_
                        refine DJ.yd 11 rfl (by kernel_rfl) (by kernel_rfl) (by kernel_rfl) rfl rfl (Yd.mvB rfl) ?_
                        refine DJ.yd 12 rfl (by kernel_rfl) (by kernel_rfl) (by kernel_rfl) rfl rfl (Yd.mvB rfl) ?_
                        refine DJ.yd 13 rfl (by kernel_rfl) (by kernel_rfl) (by kernel_rfl) rfl rfl (Yd.mvB rfl) ?_
                        refine DJ.yd 14 rfl (by kernel_rfl) (by kernel_rfl) (by kernel_rfl) rfl rfl (Yd.mvS rfl) ?_
                        refine DJ.yd 15 rfl (by kernel_rfl) (by kernel_rfl) (by kernel_rfl) rfl rfl (Yd.mvI rfl) ?_
                        refine DJ.idxA 16 rfl (by kernel_rfl) (by kernel_rfl) (by kernel_rfl) rfl rfl hlx rfl rfl (by omega) (by first | rfl | omega | (simp; done) | (simp; omega) | (simp [upN_len]; omega) | (simp [idxBy_len]; omega) | (simp [marks_len]; omega) | (simp [upN_len]; done) | (simp [idxBy_len]; done) | (simp [marks_len]; done) | (simp at *; omega)) (fun ib117 io117 ia117 ir117 => ?_)
                        refine DJ.yd 17 rfl (by kernel_rfl) (by kernel_rfl) (by kernel_rfl) rfl rfl (Yd.fieldAddr rfl) ?_
                        refine DJ.ldA 18 rfl (by kernel_rfl) (by kernel_rfl) (by kernel_rfl) rfl rfl 1 (fun u => vI u.p.w) (fun _ => rfl) ir117 rfl rfl (by first | rfl | omega | (simp; done) | (simp; omega) | (simp [upN_len]; omega) | (simp [idxBy_len]; omega) | (simp [marks_len]; omega) | (simp [upN_len]; done) | (simp [idxBy_len]; done) | (simp [marks_len]; done) | (simp at *; omega)) (fun u119 hu119 => ?_)
                        try simp only [Int.toNat_natCast] at hu119
                        obtain rfl : u73 = u119 := by rw [hu73] at hu119; exact Option.some.inj hu119
                        refine DJ.yd 19 rfl (by kernel_rfl) (by kernel_rfl) (by kernel_rfl) rfl rfl (Yd.mvS rfl) ?_
                        refine DJ.yd 20 rfl (by kernel_rfl) (by kernel_rfl) (by kernel_rfl) rfl rfl (Yd.mvI rfl) ?_
                        refine DJ.idxA 21 rfl (by kernel_rfl) (by kernel_rfl) (by kernel_rfl) rfl rfl hlx rfl rfl (by omega) (by first | rfl | omega | (simp; done) | (simp; omega) | (simp [upN_len]; omega) | (simp [idxBy_len]; omega) | (simp [marks_len]; omega) | (simp [upN_len]; done) | (simp [idxBy_len]; done) | (simp [marks_len]; done) | (simp at *; omega)) (fun ib122 io122 ia122 ir122 => ?_)
                        refine DJ.yd 22 rfl (by kernel_rfl) (by kernel_rfl) (by kernel_rfl) rfl rfl (Yd.fieldAddr rfl) ?_
                        refine DJ.ldA 23 rfl (by kernel_rfl) (by kernel_rfl) (by kernel_rfl) rfl rfl 2 (fun u => vI u.p.h) (fun _ => rfl) ir122 rfl rfl (by first | rfl | omega | (simp; done) | (simp; omega) | (simp [upN_len]; omega) | (simp [idxBy_len]; omega) | (simp [marks_len]; omega) | (simp [upN_len]; done) | (simp [idxBy_len]; done) | (simp [marks_len]; done) | (simp at *; omega)) (fun u124 hu124 => ?_)
                        try simp only [Int.toNat_natCast] at hu124
                        obtain rfl : u73 = u124 := by rw [hu73] at hu124; exact Option.some.inj hu124
                        refine DJ.yd 24 rfl (by kernel_rfl) (by kernel_rfl) (by kernel_rfl) rfl rfl (Yd.mul rfl rfl (by unfold I64; omega)) ?_
                        refine DJ.yd 25 rfl (by kernel_rfl) (by kernel_rfl) (by kernel_rfl) rfl rfl (Yd.mvI rfl) ?_
                        refine DJ.splitD 26 rfl (by kernel_rfl) (by kernel_rfl) (by kernel_rfl) rfl rfl (Yd.lss rfl rfl) (fun h127 => ?_) (fun h127 => ?_)
                        · refine DJ.yd 27 rfl (by kernel_rfl) (by kernel_rfl) (by kernel_rfl) rfl rfl (Yd.pickTB rfl rfl) ?_
                          refine DJ.yd 28 rfl (by kernel_rfl) (by kernel_rfl) (by kernel_rfl) rfl rfl (Yd.pickFB rfl rfl) ?_
                          refine DJ.done (by kernel_rfl) ?_
                          refine CJ.condT rfl ?_
                          refine CJ.seq ?_
                          refine CJ.region ?_
                          refine LJ.yd rfl (Yd.asB rfl) ?_
                          refine LJ.nil ?_
                          refine CJ.ret ?_
                          refine Fin.V (Res.one (ResV.tmp (v := .bool false) rfl)) ?_
                          first
                            | rfl
                            | (exfalso; refine hA ⟨by assumption, ?_⟩; simp [ccB, *]; done)
                            | (exfalso; refine hB ⟨?_, by assumption⟩; simp [ccB, *]; done)
                        · refine DJ.yd 27 rfl (by kernel_rfl) (by kernel_rfl) (by kernel_rfl) rfl rfl (Yd.pickTB rfl rfl) ?_
                          refine DJ.yd 28 rfl (by kernel_rfl) (by kernel_rfl) (by kernel_rfl) rfl rfl (Yd.pickFB rfl rfl) ?_
                          refine DJ.done (by kernel_rfl) ?_
                          refine CJ.condF rfl ?_
                          refine CJ.skip ?_
                          refine CJ.region ?_
                          refine LJ.yd rfl (Yd.mvI rfl) ?_
                          refine LJ.yd rfl (Yd.add rfl rfl (by unfold I64; omega)) ?_
                          refine LJ.yd rfl (Yd.asI rfl) ?_
                          refine LJ.nil ?_
                          refine ⟨(k + 1), ?_, ⟨rfl, rfl, rfl, rfl, trivial⟩, ⟨rfl, trivial⟩, Ent.pick [0] [1, 2] rfl, ?_⟩
                          · omega
                          · first | omega | (dsimp only; omega) | (simp only []; omega)
                  · refine DO.alloc ([_, _, _, _] : List Value) rfl rfl rfl rfl (fun b5 => ?_)
                    refine DJ.one (i := 8) (by kernel_rfl) ?_
                    refine DO.call0 rfl rfl rfl (fun k0 hk0 dk0 k hk dk => FirstClearI_ok (p := u73.p) (RdRow.up (hx9 u73 (List.mem_of_getElem? hu73)))) ?_
                    rintro _ _ ⟨r90, rfl, rfl⟩
                    refine DJ.yd 9 rfl (by kernel_rfl) (by kernel_rfl) (by kernel_rfl) rfl rfl (Yd.mvU rfl) ?_
                    refine DJ.yd 10 rfl (by kernel_rfl) (by kernel_rfl) (by kernel_rfl) rfl rfl (Yd.extract rfl rfl) ?_
                    refine DJ.split 11 rfl (by kernel_rfl) (by kernel_rfl) (by kernel_rfl) rfl rfl (Yd.extract rfl rfl) (fun h92 => ?_) (fun h92 => ?_)
                    · refine DJ.one (i := 13) (by kernel_rfl) ?_
                      refine DO.store (v := .agg #[_, _, _, _]) (us := [_, _, _, _]) 0 rfl rfl rfl rfl rfl rfl rfl rfl rfl rfl ?_
                      refine DJ.yd 14 rfl (by kernel_rfl) (by kernel_rfl) (by kernel_rfl) rfl rfl (Yd.asB rfl) ?_
                      refine DJ.done (by kernel_rfl) ?_
                      refine CJ.seq ?_
                      refine CJ.region ?_
                      refine LJ.yd rfl (Yd.mvB rfl) ?_
                      refine LJ.yd rfl (Yd.mvB rfl) ?_
                      refine LJ.gF rfl rfl ?_
                      refine LJ.gF rfl rfl ?_
                      refine LJ.gF rfl rfl ?_
                      refine LJ.gF rfl rfl ?_
                      refine LJ.gF rfl rfl ?_
                      refine LJ.yd rfl (Yd.pickTB rfl rfl) ?_
                      refine LJ.yd rfl (Yd.asB rfl) ?_
                      refine LJ.nil ?_
                      refine CJ.seq ?_
                      have hpm : u73.p ∈ psX X := List.mem_map_of_mem (List.mem_of_getElem? hu73)
                      have hA : ¬ (u73.p.l = fpR (psX X) ⟨pW, pH, pT, pK⟩ ∧ ccB u73.p ⟨pW, pH, pT, pK⟩ = false) := fun ⟨h1, h2⟩ => by
                        have := huq u73.p hpm u0.p hp0 (by omega)
                        rw [this, hcc0] at h2; cases h2
                      have hB : ¬ (ccB u73.p ⟨pW, pH, pT, pK⟩ = true ∧ u73.p.w * u73.p.h < sz) := fun ⟨h1, h2⟩ => by
                        have := hmin u73.p hpm h1
                        omega
                      have har3 := area_b (hall _ hpm).1
                      refine CJ.regionD [0, 1, 2] [] (by kernel_rfl) rfl ?_
                      refine DJ.norm [_, _, _] [] rfl rfl ?_
                      refine DJ.yd 0 rfl (by kernel_rfl) (by kernel_rfl) (by kernel_rfl) rfl rfl (Yd.mvS rfl) ?_
                      refine DJ.yd 1 rfl (by kernel_rfl) (by kernel_rfl) (by kernel_rfl) rfl rfl (Yd.mvI rfl) ?_
                      refine DJ.idxA 2 rfl (by kernel_rfl) (by kernel_rfl) (by kernel_rfl) rfl rfl hlx rfl rfl (by omega) (by first | rfl | omega | (simp; done) | (simp; omega) | (simp [upN_len]; omega) | (simp [idxBy_len]; omega) | (simp [marks_len]; omega) | (simp [upN_len]; done) | (simp [idxBy_len]; done) | (simp [marks_len]; done) | (simp at *; omega)) (fun ib103 io103 ia103 ir103 => ?_)
                      refine DJ.yd 3 rfl (by kernel_rfl) (by kernel_rfl) (by kernel_rfl) rfl rfl (Yd.fieldAddr rfl) ?_
                      refine DJ.ldA 4 rfl (by kernel_rfl) (by kernel_rfl) (by kernel_rfl) rfl rfl 0 (fun u => vI u.p.l) (fun _ => rfl) ir103 rfl rfl (by first | rfl | omega | (simp; done) | (simp; omega) | (simp [upN_len]; omega) | (simp [idxBy_len]; omega) | (simp [marks_len]; omega) | (simp [upN_len]; done) | (simp [idxBy_len]; done) | (simp [marks_len]; done) | (simp at *; omega)) (fun u105 hu105 => ?_)
                      try simp only [Int.toNat_natCast] at hu105
                      obtain rfl : u73 = u105 := by rw [hu73] at hu105; exact Option.some.inj hu105
                      refine DJ.yd 5 rfl (by kernel_rfl) (by kernel_rfl) (by kernel_rfl) rfl rfl (Yd.mvI rfl) ?_
                      refine DJ.splitD 6 rfl (by kernel_rfl) (by kernel_rfl) (by kernel_rfl) rfl rfl (Yd.eql rfl rfl) (fun h107 => ?_) (fun h107 => ?_)
                      · refine DJ.yd 7 rfl (by kernel_rfl) (by kernel_rfl) (by kernel_rfl) rfl rfl (Yd.mvB rfl) ?_
                        refine DJ.yd 8 rfl (by kernel_rfl) (by kernel_rfl) (by kernel_rfl) rfl rfl (Yd.mvB rfl) ?_
                        refine DJ.yd 9 rfl (by kernel_rfl) (by kernel_rfl) (by kernel_rfl) rfl rfl (Yd.not rfl) ?_
                        refine DJ.yd 10 rfl (by kernel_rfl) (by kernel_rfl) (by kernel_rfl) rfl rfl (Yd.pickTB rfl rfl) ?_
                        refine DJ.yd 11 rfl (by kernel_rfl) (by kernel_rfl) (by kernel_rfl) rfl rfl (Yd.mvB rfl) ?_
                        refine DJ.yd 12 rfl (by kernel_rfl) (by kernel_rfl) (by kernel_rfl) rfl rfl (Yd.mvB rfl) ?_
                        refine DJ.yd 13 rfl (by kernel_rfl) (by kernel_rfl) (by kernel_rfl) rfl rfl (Yd.mvB rfl) ?_
                        refine DJ.yd 14 rfl (by kernel_rfl) (by kernel_rfl) (by kernel_rfl) rfl rfl (Yd.mvS rfl) ?_
                        refine DJ.yd 15 rfl (by kernel_rfl) (by kernel_rfl) (by kernel_rfl) rfl rfl (Yd.mvI rfl) ?_
                        refine DJ.idxA 16 rfl (by kernel_rfl) (by kernel_rfl) (by kernel_rfl) rfl rfl hlx rfl rfl (by omega) (by first | rfl | omega | (simp; done) | (simp; omega) | (simp [upN_len]; omega) | (simp [idxBy_len]; omega) | (simp [marks_len]; omega) | (simp [upN_len]; done) | (simp [idxBy_len]; done) | (simp [marks_len]; done) | (simp at *; omega)) (fun ib117 io117 ia117 ir117 => ?_)
                        refine DJ.yd 17 rfl (by kernel_rfl) (by kernel_rfl) (by kernel_rfl) rfl rfl (Yd.fieldAddr rfl) ?_
                        refine DJ.ldA 18 rfl (by kernel_rfl) (by kernel_rfl) (by kernel_rfl) rfl rfl 1 (fun u => vI u.p.w) (fun _ => rfl) ir117 rfl rfl (by first | rfl | omega | (simp; done) | (simp; omega) | (simp [upN_len]; omega) | (simp [idxBy_len]; omega) | (simp [marks_len]; omega) | (simp [upN_len]; done) | (simp [idxBy_len]; done) | (simp [marks_len]; done) | (simp at *; omega)) (fun u119 hu119 => ?_)
                        try simp only [Int.toNat_natCast] at hu119
                        obtain rfl : u73 = u119 := by rw [hu73] at hu119; exact Option.some.inj hu119
                        refine DJ.yd 19 rfl (by kernel_rfl) (by kernel_rfl) (by kernel_rfl) rfl rfl (Yd.mvS rfl) ?_
                        refine DJ.yd 20 rfl (by kernel_rfl) (by kernel_rfl) (by kernel_rfl) rfl rfl (Yd.mvI rfl) ?_
                        refine DJ.idxA 21 rfl (by kernel_rfl) (by kernel_rfl) (by kernel_rfl) rfl rfl hlx rfl rfl (by omega) (by first | rfl | omega | (simp; done) | (simp; omega) | (simp [upN_len]; omega) | (simp [idxBy_len]; omega) | (simp [marks_len]; omega) | (simp [upN_len]; done) | (simp [idxBy_len]; done) | (simp [marks_len]; done) | (simp at *; omega)) (fun ib122 io122 ia122 ir122 => ?_)
                        refine DJ.yd 22 rfl (by kernel_rfl) (by kernel_rfl) (by kernel_rfl) rfl rfl (Yd.fieldAddr rfl) ?_
                        refine DJ.ldA 23 rfl (by kernel_rfl) (by kernel_rfl) (by kernel_rfl) rfl rfl 2 (fun u => vI u.p.h) (fun _ => rfl) ir122 rfl rfl (by first | rfl | omega | (simp; done) | (simp; omega) | (simp [upN_len]; omega) | (simp [idxBy_len]; omega) | (simp [marks_len]; omega) | (simp [upN_len]; done) | (simp [idxBy_len]; done) | (simp [marks_len]; done) | (simp at *; omega)) (fun u124 hu124 => ?_)
                        try simp only [Int.toNat_natCast] at hu124
                        obtain rfl : u73 = u124 := by rw [hu73] at hu124; exact Option.some.inj hu124
                        refine DJ.yd 24 rfl (by kernel_rfl) (by kernel_rfl) (by kernel_rfl) rfl rfl (Yd.mul rfl rfl (by unfold I64; omega)) ?_
                        refine DJ.yd 25 rfl (by kernel_rfl) (by kernel_rfl) (by kernel_rfl) rfl rfl (Yd.mvI rfl) ?_
                        refine DJ.splitD 26 rfl (by kernel_rfl) (by kernel_rfl) (by kernel_rfl) rfl rfl (Yd.lss rfl rfl) (fun h127 => ?_) (fun h127 => ?_)
                        · refine DJ.yd 27 rfl (by kernel_rfl) (by kernel_rfl) (by kernel_rfl) rfl rfl (Yd.pickTB rfl rfl) ?_
                          refine DJ.yd 28 rfl (by kernel_rfl) (by kernel_rfl) (by kernel_rfl) rfl rfl (Yd.pickFB rfl rfl) ?_
                          refine DJ.done (by kernel_rfl) ?_
                          refine CJ.condT rfl ?_
                          refine CJ.seq ?_
                          refine CJ.region ?_
                          refine LJ.yd rfl (Yd.asB rfl) ?_
                          refine LJ.nil ?_
                          refine CJ.ret ?_
                          refine Fin.V (Res.one (ResV.tmp (v := .bool false) rfl)) ?_
                          first
                            | rfl
                            | (exfalso; refine hA ⟨by assumption, ?_⟩; simp [ccB, *]; done)
                            | (exfalso; refine hB ⟨?_, by assumption⟩; simp [ccB, *]; done)
                        · refine DJ.yd 27 rfl (by kernel_rfl) (by kernel_rfl) (by kernel_rfl) rfl rfl (Yd.pickTB rfl rfl) ?_
                          refine DJ.yd 28 rfl (by kernel_rfl) (by kernel_rfl) (by kernel_rfl) rfl rfl (Yd.pickFB rfl rfl) ?_
                          refine DJ.done (by kernel_rfl) ?_
                          refine CJ.condF rfl ?_
                          refine CJ.skip ?_
                          refine CJ.region ?_
                          refine LJ.yd rfl (Yd.mvI rfl) ?_
                          refine LJ.yd rfl (Yd.add rfl rfl (by unfold I64; omega)) ?_
                          refine LJ.yd rfl (Yd.asI rfl) ?_
                          refine LJ.nil ?_
                          refine ⟨(k + 1), ?_, ⟨rfl, rfl, rfl, rfl, trivial⟩, ⟨rfl, trivial⟩, Ent.pick [0] [1, 2] rfl, ?_⟩
                          · omega
                          · first | omega | (dsimp only; omega) | (simp only []; omega)
                      · refine DJ.yd 7 rfl (by kernel_rfl) (by kernel_rfl) (by kernel_rfl) rfl rfl (Yd.mvB rfl) ?_
                        refine DJ.skip 8 rfl (by kernel_rfl) (by kernel_rfl) (by kernel_rfl) rfl rfl ?_
                        refine DJ.skip 9 rfl (by kernel_rfl) (by kernel_rfl) (by kernel_rfl) rfl rfl ?_
                        refine DJ.yd 10 rfl (by kernel_rfl) (by kernel_rfl) (by kernel_rfl) rfl rfl (Yd.pickFB rfl rfl) ?_
                        refine DJ.yd 11 rfl (by kernel_rfl) (by kernel_rfl) (by kernel_rfl) rfl rfl (Yd.mvB rfl) ?_
                        refine DJ.yd 12 rfl (by kernel_rfl) (by kernel_rfl) (by kernel_rfl) rfl rfl (Yd.mvB rfl) ?_
                        refine DJ.yd 13 rfl (by kernel_rfl) (by kernel_rfl) (by kernel_rfl) rfl rfl (Yd.mvB rfl) ?_
                        refine DJ.yd 14 rfl (by kernel_rfl) (by kernel_rfl) (by kernel_rfl) rfl rfl (Yd.mvS rfl) ?_
                        refine DJ.yd 15 rfl (by kernel_rfl) (by kernel_rfl) (by kernel_rfl) rfl rfl (Yd.mvI rfl) ?_
                        refine DJ.idxA 16 rfl (by kernel_rfl) (by kernel_rfl) (by kernel_rfl) rfl rfl hlx rfl rfl (by omega) (by first | rfl | omega | (simp; done) | (simp; omega) | (simp [upN_len]; omega) | (simp [idxBy_len]; omega) | (simp [marks_len]; omega) | (simp [upN_len]; done) | (simp [idxBy_len]; done) | (simp [marks_len]; done) | (simp at *; omega)) (fun ib117 io117 ia117 ir117 => ?_)
                        refine DJ.yd 17 rfl (by kernel_rfl) (by kernel_rfl) (by kernel_rfl) rfl rfl (Yd.fieldAddr rfl) ?_
                        refine DJ.ldA 18 rfl (by kernel_rfl) (by kernel_rfl) (by kernel_rfl) rfl rfl 1 (fun u => vI u.p.w) (fun _ => rfl) ir117 rfl rfl (by first | rfl | omega | (simp; done) | (simp; omega) | (simp [upN_len]; omega) | (simp [idxBy_len]; omega) | (simp [marks_len]; omega) | (simp [upN_len]; done) | (simp [idxBy_len]; done) | (simp [marks_len]; done) | (simp at *; omega)) (fun u119 hu119 => ?_)
                        try simp only [Int.toNat_natCast] at hu119
                        obtain rfl : u73 = u119 := by rw [hu73] at hu119; exact Option.some.inj hu119
                        refine DJ.yd 19 rfl (by kernel_rfl) (by kernel_rfl) (by kernel_rfl) rfl rfl (Yd.mvS rfl) ?_
                        refine DJ.yd 20 rfl (by kernel_rfl) (by kernel_rfl) (by kernel_rfl) rfl rfl (Yd.mvI rfl) ?_
                        refine DJ.idxA 21 rfl (by kernel_rfl) (by kernel_rfl) (by kernel_rfl) rfl rfl hlx rfl rfl (by omega) (by first | rfl | omega | (simp; done) | (simp; omega) | (simp [upN_len]; omega) | (simp [idxBy_len]; omega) | (simp [marks_len]; omega) | (simp [upN_len]; done) | (simp [idxBy_len]; done) | (simp [marks_len]; done) | (simp at *; omega)) (fun ib122 io122 ia122 ir122 => ?_)
                        refine DJ.yd 22 rfl (by kernel_rfl) (by kernel_rfl) (by kernel_rfl) rfl rfl (Yd.fieldAddr rfl) ?_
                        refine DJ.ldA 23 rfl (by kernel_rfl) (by kernel_rfl) (by kernel_rfl) rfl rfl 2 (fun u => vI u.p.h) (fun _ => rfl) ir122 rfl rfl (by first | rfl | omega | (simp; done) | (simp; omega) | (simp [upN_len]; omega) | (simp [idxBy_len]; omega) | (simp [marks_len]; omega) | (simp [upN_len]; done) | (simp [idxBy_len]; done) | (simp [marks_len]; done) | (simp at *; omega)) (fun u124 hu124 => ?_)
                        try simp only [Int.toNat_natCast] at hu124
                        obtain rfl : u73 = u124 := by rw [hu73] at hu124; exact Option.some.inj hu124
                        refine DJ.yd 24 rfl (by kernel_rfl) (by kernel_rfl) (by kernel_rfl) rfl rfl (Yd.mul rfl rfl (by unfold I64; omega)) ?_
                        refine DJ.yd 25 rfl (by kernel_rfl) (by kernel_rfl) (by kernel_rfl) rfl rfl (Yd.mvI rfl) ?_
                        refine DJ.splitD 26 rfl (by kernel_rfl) (by kernel_rfl) (by kernel_rfl) rfl rfl (Yd.lss rfl rfl) (fun h127 => ?_) (fun h127 => ?_)
                        · refine DJ.yd 27 rfl (by kernel_rfl) (by kernel_rfl) (by kernel_rfl) rfl rfl (Yd.pickTB rfl rfl) ?_
                          refine DJ.yd 28 rfl (by kernel_rfl) (by kernel_rfl) (by kernel_rfl) rfl rfl (Yd.pickFB rfl rfl) ?_
                          refine DJ.done (by kernel_rfl) ?_
                          refine CJ.condT rfl ?_
                          refine CJ.seq ?_
                          refine CJ.region ?_
                          refine LJ.yd rfl (Yd.asB rfl) ?_
                          refine LJ.nil ?_
                          refine CJ.ret ?_
                          refine Fin.V (Res.one (ResV.tmp (v := .bool false) rfl)) ?_
                          first
                            | rfl
                            | (exfalso; refine hA ⟨by assumption, ?_⟩; simp [ccB, *]; done)
                            | (exfalso; refine hB ⟨?_, by assumption⟩; simp [ccB, *]; done)
                        · refine DJ.yd 27 rfl (by kernel_rfl) (by kernel_rfl) (by kernel_rfl) rfl rfl (Yd.pickTB rfl rfl) ?_
                          refine DJ.yd 28 rfl (by kernel_rfl) (by kernel_rfl) (by kernel_rfl) rfl rfl (Yd.pickFB rfl rfl) ?_
                          refine DJ.done (by kernel_rfl) ?_
                          refine CJ.condF rfl ?_
                          refine CJ.skip ?_
                          refine CJ.region ?_
                          refine LJ.yd rfl (Yd.mvI rfl) ?_
                          refine LJ.yd rfl (Yd.add rfl rfl (by unfold I64; omega)) ?_
                          refine LJ.yd rfl (Yd.asI rfl) ?_
                          refine LJ.nil ?_
                          refine ⟨(k + 1), ?_, ⟨rfl, rfl, rfl, rfl, trivial⟩, ⟨rfl, trivial⟩, Ent.pick [0] [1, 2] rfl, ?_⟩
                          · omega
                          · first | omega | (dsimp only; omega) | (simp only []; omega)
                    · refine DJ.one (i := 13) (by kernel_rfl) ?_
                      refine DO.store (v := .agg #[_, _, _, _]) (us := [_, _, _, _]) 0 rfl rfl rfl rfl rfl rfl rfl rfl rfl rfl ?_
                      refine DJ.yd 14 rfl (by kernel_rfl) (by kernel_rfl) (by kernel_rfl) rfl rfl (Yd.asB rfl) ?_
                      refine DJ.done (by kernel_rfl) ?_
                      refine CJ.seq ?_
                      refine CJ.region ?_
                      refine LJ.yd rfl (Yd.mvB rfl) ?_
                      refine LJ.yd rfl (Yd.mvB rfl) ?_
                      refine LJ.gF rfl rfl ?_
                      refine LJ.gF rfl rfl ?_
                      refine LJ.gF rfl rfl ?_
                      refine LJ.gF rfl rfl ?_
                      refine LJ.gF rfl rfl ?_
                      refine LJ.yd rfl (Yd.pickTB rfl rfl) ?_
                      refine LJ.yd rfl (Yd.asB rfl) ?_
                      refine LJ.nil ?_
                      refine CJ.seq ?_
                      have hpm : u73.p ∈ psX X := List.mem_map_of_mem (List.mem_of_getElem? hu73)
                      have hA : ¬ (u73.p.l = fpR (psX X) ⟨pW, pH, pT, pK⟩ ∧ ccB u73.p ⟨pW, pH, pT, pK⟩ = false) := fun ⟨h1, h2⟩ => by
                        have := huq u73.p hpm u0.p hp0 (by omega)
                        rw [this, hcc0] at h2; cases h2
                      have hB : ¬ (ccB u73.p ⟨pW, pH, pT, pK⟩ = true ∧ u73.p.w * u73.p.h < sz) := fun ⟨h1, h2⟩ => by
                        have := hmin u73.p hpm h1
                        omega
                      have har3 := area_b (hall _ hpm).1
                      refine CJ.regionD [0, 1, 2] [] (by kernel_rfl) rfl ?_
                      refine DJ.norm [_, _, _] [] rfl rfl ?_
                      refine DJ.yd 0 rfl (by kernel_rfl) (by kernel_rfl) (by kernel_rfl) rfl rfl (Yd.mvS rfl) ?_
                      refine DJ.yd 1 rfl (by kernel_rfl) (by kernel_rfl) (by kernel_rfl) rfl rfl (Yd.mvI rfl) ?_
                      refine DJ.idxA 2 rfl (by kernel_rfl) (by kernel_rfl) (by kernel_rfl) rfl rfl hlx rfl rfl (by omega) (by first | rfl | omega | (simp; done) | (simp; omega) | (simp [upN_len]; omega) | (simp [idxBy_len]; omega) | (simp [marks_len]; omega) | (simp [upN_len]; done) | (simp [idxBy_len]; done) | (simp [marks_len]; done) | (simp at *; omega)) (fun ib103 io103 ia103 ir103 => ?_)
                      refine DJ.yd 3 rfl (by kernel_rfl) (by kernel_rfl) (by kernel_rfl) rfl rfl (Yd.fieldAddr rfl) ?_
                      refine DJ.ldA 4 rfl (by kernel_rfl) (by kernel_rfl) (by kernel_rfl) rfl rfl 0 (fun u => vI u.p.l) (fun _ => rfl) ir103 rfl rfl (by first | rfl | omega | (simp; done) | (simp; omega) | (simp [upN_len]; omega) | (simp [idxBy_len]; omega) | (simp [marks_len]; omega) | (simp [upN_len]; done) | (simp [idxBy_len]; done) | (simp [marks_len]; done) | (simp at *; omega)) (fun u105 hu105 => ?_)
                      try simp only [Int.toNat_natCast] at hu105
                      obtain rfl : u73 = u105 := by rw [hu73] at hu105; exact Option.some.inj hu105
                      refine DJ.yd 5 rfl (by kernel_rfl) (by kernel_rfl) (by kernel_rfl) rfl rfl (Yd.mvI rfl) ?_
                      refine DJ.splitD 6 rfl (by kernel_rfl) (by kernel_rfl) (by kernel_rfl) rfl rfl (Yd.eql rfl rfl) (fun h107 => ?_) (fun h107 => ?_)
                      · refine DJ.yd 7 rfl (by kernel_rfl) (by kernel_rfl) (by kernel_rfl) rfl rfl (Yd.mvB rfl) ?_
                        refine DJ.yd 8 rfl (by kernel_rfl) (by kernel_rfl) (by kernel_rfl) rfl rfl (Yd.mvB rfl) ?_
                        refine DJ.yd 9 rfl (by kernel_rfl) (by kernel_rfl) (by kernel_rfl) rfl rfl (Yd.not rfl) ?_
                        refine DJ.yd 10 rfl (by kernel_rfl) (by kernel_rfl) (by kernel_rfl) rfl rfl (Yd.pickTB rfl rfl) ?_
                        refine DJ.yd 11 rfl (by kernel_rfl) (by kernel_rfl) (by kernel_rfl) rfl rfl (Yd.mvB rfl) ?_
                        refine DJ.yd 12 rfl (by kernel_rfl) (by kernel_rfl) (by kernel_rfl) rfl rfl (Yd.mvB rfl) ?_
                        refine DJ.yd 13 rfl (by kernel_rfl) (by kernel_rfl) (by kernel_rfl) rfl rfl (Yd.mvB rfl) ?_
                        refine DJ.yd 14 rfl (by kernel_rfl) (by kernel_rfl) (by kernel_rfl) rfl rfl (Yd.mvS rfl) ?_
                        refine DJ.yd 15 rfl (by kernel_rfl) (by kernel_rfl) (by kernel_rfl) rfl rfl (Yd.mvI rfl) ?_
                        refine DJ.idxA 16 rfl (by kernel_rfl) (by kernel_rfl) (by kernel_rfl) rfl rfl hlx rfl rfl (by omega) (by first | rfl | omega | (simp; done) | (simp; omega) | (simp [upN_len]; omega) | (simp [idxBy_len]; omega) | (simp [marks_len]; omega) | (simp [upN_len]; done) | (simp [idxBy_len]; done) | (simp [marks_len]; done) | (simp at *; omega)) (fun ib117 io117 ia117 ir117 => ?_)
                        refine DJ.yd 17 rfl (by kernel_rfl) (by kernel_rfl) (by kernel_rfl) rfl rfl (Yd.fieldAddr rfl) ?_
                        refine DJ.ldA 18 rfl (by kernel_rfl) (by kernel_rfl) (by kernel_rfl) rfl rfl 1 (fun u => vI u.p.w) (fun _ => rfl) ir117 rfl rfl (by first | rfl | omega | (simp; done) | (simp; omega) | (simp [upN_len]; omega) | (simp [idxBy_len]; omega) | (simp [marks_len]; omega) | (simp [upN_len]; done) | (simp [idxBy_len]; done) | (simp [marks_len]; done) | (simp at *; omega)) (fun u119 hu119 => ?_)
                        try simp only [Int.toNat_natCast] at hu119
                        obtain rfl : u73 = u119 := by rw [hu73] at hu119; exact Option.some.inj hu119
                        refine DJ.yd 19 rfl (by kernel_rfl) (by kernel_rfl) (by kernel_rfl) rfl rfl (Yd.mvS rfl) ?_
                        refine DJ.yd 20 rfl (by kernel_rfl) (by kernel_rfl) (by kernel_rfl) rfl rfl (Yd.mvI rfl) ?_
                        refine DJ.idxA 21 rfl (by kernel_rfl) (by kernel_rfl) (by kernel_rfl) rfl rfl hlx rfl rfl (by omega) (by first | rfl | omega | (simp; done) | (simp; omega) | (simp [upN_len]; omega) | (simp [idxBy_len]; omega) | (simp [marks_len]; omega) | (simp [upN_len]; done) | (simp [idxBy_len]; done) | (simp [marks_len]; done) | (simp at *; omega)) (fun ib122 io122 ia122 ir122 => ?_)
                        refine DJ.yd 22 rfl (by kernel_rfl) (by kernel_rfl) (by kernel_rfl) rfl rfl (Yd.fieldAddr rfl) ?_
                        refine DJ.ldA 23 rfl (by kernel_rfl) (by kernel_rfl) (by kernel_rfl) rfl rfl 2 (fun u => vI u.p.h) (fun _ => rfl) ir122 rfl rfl (by first | rfl | omega | (simp; done) | (simp; omega) | (simp [upN_len]; omega) | (simp [idxBy_len]; omega) | (simp [marks_len]; omega) | (simp [upN_len]; done) | (simp [idxBy_len]; done) | (simp [marks_len]; done) | (simp at *; omega)) (fun u124 hu124 => ?_)
                        try simp only [Int.toNat_natCast] at hu124
                        obtain rfl : u73 = u124 := by rw [hu73] at hu124; exact Option.some.inj hu124
                        refine DJ.yd 24 rfl (by kernel_rfl) (by kernel_rfl) (by kernel_rfl) rfl rfl (Yd.mul rfl rfl (by unfold I64; omega)) ?_
                        refine DJ.yd 25 rfl (by kernel_rfl) (by kernel_rfl) (by kernel_rfl) rfl rfl (Yd.mvI rfl) ?_
                        refine DJ.splitD 26 rfl (by kernel_rfl) (by kernel_rfl) (by kernel_rfl) rfl rfl (Yd.lss rfl rfl) (fun h127 => ?_) (fun h127 => ?_)
                        · refine DJ.yd 27 rfl (by kernel_rfl) (by kernel_rfl) (by kernel_rfl) rfl rfl (Yd.pickTB rfl rfl) ?_
                          refine DJ.yd 28 rfl (by kernel_rfl) (by kernel_rfl) (by kernel_rfl) rfl rfl (Yd.pickFB rfl rfl) ?_
                          refine DJ.done (by kernel_rfl) ?_
                          refine CJ.condT rfl ?_
                          refine CJ.seq ?_
                          refine CJ.region ?_
                          refine LJ.yd rfl (Yd.asB rfl) ?_
                          refine LJ.nil ?_
                          refine CJ.ret ?_
                          refine Fin.V (Res.one (ResV.tmp (v := .bool false) rfl)) ?_
                          first
                            | rfl
                            | (exfalso; refine hA ⟨by assumption, ?_⟩; simp [ccB, *]; done)
                            | (exfalso; refine hB ⟨?_, by assumption⟩; simp [ccB, *]; done)
                        · refine DJ.yd 27 rfl (by kernel_rfl) (by kernel_rfl) (by kernel_rfl) rfl rfl (Yd.pickTB rfl rfl) ?_
                          refine DJ.yd 28 rfl (by kernel_rfl) (by kernel_rfl) (by kernel_rfl) rfl rfl (Yd.pickFB rfl rfl) ?_
                          refine DJ.done (by kernel_rfl) ?_
                          refine CJ.condF rfl ?_
                          refine CJ.skip ?_
                          refine CJ.region ?_
                          refine LJ.yd rfl (Yd.mvI rfl) ?_
                          refine LJ.yd rfl (Yd.add rfl rfl (by unfold I64; omega)) ?_
                          refine LJ.yd rfl (Yd.asI rfl) ?_
                          refine LJ.nil ?_
                          refine ⟨(k + 1), ?_, ⟨rfl, rfl, rfl, rfl, trivial⟩, ⟨rfl, trivial⟩, Ent.pick [0] [1, 2] rfl, ?_⟩
                          · omega
                          · first | omega | (dsimp only; omega) | (simp only []; omega)
                      · refine DJ.yd 7 rfl (by kernel_rfl) (by kernel_rfl) (by kernel_rfl) rfl rfl (Yd.mvB rfl) ?_
                        refine DJ.skip 8 rfl (by kernel_rfl) (by kernel_rfl) (by kernel_rfl) rfl rfl ?_
                        refine DJ.skip 9 rfl (by kernel_rfl) (by kernel_rfl) (by kernel_rfl) rfl rfl ?_
                        refine DJ.yd 10 rfl (by kernel_rfl) (by kernel_rfl) (by kernel_rfl) rfl rfl (Yd.pickFB rfl rfl) ?_
                        refine DJ.yd 11 rfl (by kernel_rfl) (by kernel_rfl) (by kernel_rfl) rfl rfl (Yd.mvB rfl) ?_
                        refine DJ.yd 12 rfl (by kernel_rfl) (by kernel_rfl) (by kernel_rfl) rfl rfl (Yd.mvB rfl) ?_
                        refine DJ.yd 13 rfl (by kernel_rfl) (by kernel_rfl) (by kernel_rfl) rfl rfl (Yd.mvB rfl) ?_
                        refine DJ.yd 14 rfl (by kernel_rfl) (by kernel_rfl) (by kernel_rfl) rfl rfl (Yd.mvS rfl) ?_
                        refine DJ.yd 15 rfl (by kernel_rfl) (by kernel_rfl) (by kernel_rfl) rfl rfl (Yd.mvI rfl) ?_
                        refine DJ.idxA 16 rfl (by kernel_rfl) (by kernel_rfl) (by kernel_rfl) rfl rfl hlx rfl rfl (by omega) (by first | rfl | omega | (simp; done) | (simp; omega) | (simp [upN_len]; omega) | (simp [idxBy_len]; omega) | (simp [marks_len]; omega) | (simp [upN_len]; done) | (simp [idxBy_len]; done) | (simp [marks_len]; done) | (simp at *; omega)) (fun ib117 io117 ia117 ir117 => ?_)
                        refine DJ.yd 17 rfl (by kernel_rfl) (by kernel_rfl) (by kernel_rfl) rfl rfl (Yd.fieldAddr rfl) ?_
                        refine DJ.ldA 18 rfl (by kernel_rfl) (by kernel_rfl) (by kernel_rfl) rfl rfl 1 (fun u => vI u.p.w) (fun _ => rfl) ir117 rfl rfl (by first | rfl | omega | (simp; done) | (simp; omega) | (simp [upN_len]; omega) | (simp [idxBy_len]; omega) | (simp [marks_len]; omega) | (simp [upN_len]; done) | (simp [idxBy_len]; done) | (simp [marks_len]; done) | (simp at *; omega)) (fun u119 hu119 => ?_)
                        try simp only [Int.toNat_natCast] at hu119
                        obtain rfl : u73 = u119 := by rw [hu73] at hu119; exact Option.some.inj hu119
                        refine DJ.yd 19 rfl (by kernel_rfl) (by kernel_rfl) (by kernel_rfl) rfl rfl (Yd.mvS rfl) ?_
                        refine DJ.yd 20 rfl (by kernel_rfl) (by kernel_rfl) (by kernel_rfl) rfl rfl (Yd.mvI rfl) ?_
                        refine DJ.idxA 21 rfl (by kernel_rfl) (by kernel_rfl) (by kernel_rfl) rfl rfl hlx rfl rfl (by omega) (by first | rfl | omega | (simp; done) | (simp; omega) | (simp [upN_len]; omega) | (simp [idxBy_len]; omega) | (simp [marks_len]; omega) | (simp [upN_len]; done) | (simp [idxBy_len]; done) | (simp [marks_len]; done) | (simp at *; omega)) (fun ib122 io122 ia122 ir122 => ?_)
                        refine DJ.yd 22 rfl (by kernel_rfl) (by kernel_rfl) (by kernel_rfl) rfl rfl (Yd.fieldAddr rfl) ?_
                        refine DJ.ldA 23 rfl (by kernel_rfl) (by kernel_rfl) (by kernel_rfl) rfl rfl 2 (fun u => vI u.p.h) (fun _ => rfl) ir122 rfl rfl (by first | rfl | omega | (simp; done) | (simp; omega) | (simp [upN_len]; omega) | (simp [idxBy_len]; omega) | (simp [marks_len]; omega) | (simp [upN_len]; done) | (simp [idxBy_len]; done) | (simp [marks_len]; done) | (simp at *; omega)) (fun u124 hu124 => ?_)
                        try simp only [Int.toNat_natCast] at hu124
                        obtain rfl : u73 = u124 := by rw [hu73] at hu124; exact Option.some.inj hu124
                        refine DJ.yd 24 rfl (by kernel_rfl) (by kernel_rfl) (by kernel_rfl) rfl rfl (Yd.mul rfl rfl (by unfold I64; omega)) ?_
                        refine DJ.yd 25 rfl (by kernel_rfl) (by kernel_rfl) (by kernel_rfl) rfl rfl (Yd.mvI rfl) ?_
                        refine DJ.splitD 26 rfl (by kernel_rfl) (by kernel_rfl) (by kernel_rfl) rfl rfl (Yd.lss rfl rfl) (fun h127 => ?_) (fun h127 => ?_)
                        · refine DJ.yd 27 rfl (by kernel_rfl) (by kernel_rfl) (by kernel_rfl) rfl rfl (Yd.pickTB rfl rfl) ?_
                          refine DJ.yd 28 rfl (by kernel_rfl) (by kernel_rfl) (by kernel_rfl) rfl rfl (Yd.pickFB rfl rfl) ?_
                          refine DJ.done (by kernel_rfl) ?_
                          refine CJ.condT rfl ?_
                          refine CJ.seq ?_
                          refine CJ.region ?_
                          refine LJ.yd rfl (Yd.asB rfl) ?_
                          refine LJ.nil ?_
                          refine CJ.ret ?_
                          refine Fin.V (Res.one (ResV.tmp (v := .bool false) rfl)) ?_
                          first
                            | rfl
                            | (exfalso; refine hA ⟨by assumption, ?_⟩; simp [ccB, *]; done)
                            | (exfalso; refine hB ⟨?_, by assumption⟩; simp [ccB, *]; done)
                        · refine DJ.yd 27 rfl (by kernel_rfl) (by kernel_rfl) (by kernel_rfl) rfl rfl (Yd.pickTB rfl rfl) ?_
                          refine DJ.yd 28 rfl (by kernel_rfl) (by kernel_rfl) (by kernel_rfl) rfl rfl (Yd.pickFB rfl rfl) ?_
                          refine DJ.done (by kernel_rfl) ?_
                          refine CJ.condF rfl ?_
                          refine CJ.skip ?_
                          refine CJ.region ?_
                          refine LJ.yd rfl (Yd.mvI rfl) ?_
                          refine LJ.yd rfl (Yd.add rfl rfl (by unfold I64; omega)) ?_
                          refine LJ.yd rfl (Yd.asI rfl) ?_
                          refine LJ.nil ?_
                          refine ⟨(k + 1), ?_, ⟨rfl, rfl, rfl, rfl, trivial⟩, ⟨rfl, trivial⟩, Ent.pick [0] [1, 2] rfl, ?_⟩
                          · omega
                          · first | omega | (dsimp only; omega) | (simp only []; omega)
                · refine DJ.one (i := 12) (by kernel_rfl) ?_
                  refine DO.alloc ([_, _, _, _] : List Value) rfl rfl rfl rfl (fun b6 => ?_)
                  refine DJ.one (i := 13) (by kernel_rfl) ?_
                  refine DO.store (v := .agg #[_, _, _, _]) (us := [_, _, _, _]) 0 rfl rfl rfl rfl rfl rfl rfl rfl rfl rfl ?_
                  refine DJ.yd 14 rfl (by kernel_rfl) (by kernel_rfl) (by kernel_rfl) rfl rfl (Yd.asB rfl) ?_
                  refine DJ.done (by kernel_rfl) ?_
                  refine CJ.seq ?_
                  refine CJ.regionD [0, 1] [] (by kernel_rfl) rfl ?_
                  refine DJ.norm [_, _] [] rfl rfl ?_
                  refine DJ.yd 0 rfl (by kernel_rfl) (by kernel_rfl) (by kernel_rfl) rfl rfl (Yd.mvS rfl) ?_
                  refine DJ.yd 1 rfl (by kernel_rfl) (by kernel_rfl) (by kernel_rfl) rfl rfl (Yd.mvI rfl) ?_
                  refine DJ.idxA 2 rfl (by kernel_rfl) (by kernel_rfl) (by kernel_rfl) rfl rfl hlx rfl rfl (by omega) (by first | rfl | omega | (simp; done) | (simp; omega) | (simp [upN_len]; omega) | (simp [idxBy_len]; omega) | (simp [marks_len]; omega) | (simp [upN_len]; done) | (simp [idxBy_len]; done) | (simp [marks_len]; done) | (simp at *; omega)) (fun ib84 io84 ia84 ir84 => ?_)
                  refine DJ.lgA 3 rfl (by kernel_rfl) (by kernel_rfl) (by kernel_rfl) rfl rfl (enc := encQ) (fun u => [vI u.p.l, vI u.p.w, vI u.p.h, .slice u.a u.p.fl.length u.c]) (fun _ => rfl) (fun _ => rfl) ir84 rfl rfl (by first | rfl | omega | (simp; done) | (simp; omega) | (simp [upN_len]; omega) | (simp [idxBy_len]; omega) | (simp [marks_len]; omega) | (simp [upN_len]; done) | (simp [idxBy_len]; done) | (simp [marks_len]; done) | (simp at *; omega)) (fun u85 hu85 => ?_)
                  try simp only [Int.toNat_natCast] at hu85
                  obtain rfl : u73 = u85 := by rw [hu73] at hu85; exact Option.some.inj hu85
                  refine DJ.yd 4 rfl (by kernel_rfl) (by kernel_rfl) (by kernel_rfl) rfl rfl (Yd.fieldAddr rfl) ?_
                  refine DJ.yd 5 rfl (by kernel_rfl) (by kernel_rfl) (by kernel_rfl) rfl rfl (Yd.loadC 0 rfl rfl rfl) ?_
                  refine DJ.yd 6 rfl (by kernel_rfl) (by kernel_rfl) (by kernel_rfl) rfl rfl (Yd.fieldAddr rfl) ?_
                  refine DJ.yd 7 rfl (by kernel_rfl) (by kernel_rfl) (by kernel_rfl) rfl rfl (Yd.loadC 0 rfl rfl rfl) ?_
                  refine DJ.two (i := 8) (j := 12) (by kernel_rfl) ?_ ?_
                  · refine DO.call0 rfl rfl rfl (fun k0 hk0 dk0 k hk dk => FirstClearI_ok (p := u73.p) (RdRow.up (hx9 u73 (List.mem_of_getElem? hu73)))) ?_
                    rintro _ _ ⟨r90, rfl, rfl⟩
                    refine DJ.yd 9 rfl (by kernel_rfl) (by kernel_rfl) (by kernel_rfl) rfl rfl (Yd.mvU rfl) ?_
                    refine DJ.yd 10 rfl (by kernel_rfl) (by kernel_rfl) (by kernel_rfl) rfl rfl (Yd.extract rfl rfl) ?_
                    refine DJ.split 11 rfl (by kernel_rfl) (by kernel_rfl) (by kernel_rfl) rfl rfl (Yd.extract rfl rfl) (fun h92 => ?_) (fun h92 => ?_)
                    · refine DJ.one (i := 12) (by kernel_rfl) ?_
                      refine DO.alloc ([_, _, _, _] : List Value) rfl rfl rfl rfl (fun b7 => ?_)
                      refine DJ.one (i := 13) (by kernel_rfl) ?_
                      refine DO.store (v := .agg #[_, _, _, _]) (us := [_, _, _, _]) 0 rfl rfl rfl rfl rfl rfl rfl rfl rfl rfl ?_
                      refine DJ.yd 14 rfl (by kernel_rfl) (by kernel_rfl) (by kernel_rfl) rfl rfl (Yd.asB rfl) ?_
                      refine DJ.done (by kernel_rfl) ?_
                      refine CJ.seq ?_
                      refine CJ.region ?_
                      refine LJ.yd rfl (Yd.mvB rfl) ?_
                      refine LJ.yd rfl (Yd.mvB rfl) ?_
                      refine LJ.gT rfl ?_
                      refine LJ.yd rfl (Yd.mvB rfl) ?_
                      refine LJ.gT rfl ?_
                      refine LJ.yd rfl (Yd.mvB rfl) ?_
                      refine LJ.gT rfl ?_
                      refine LJ.yd rfl (Yd.fieldAddr rfl) ?_
                      refine LJ.gT rfl ?_
                      refine LJ.split rfl (Yd.loadC 0 rfl rfl rfl) (fun h98 => ?_) (fun h98 => ?_)
                      · refine LJ.gT rfl ?_
                        refine LJ.yd rfl (Yd.pickTB rfl rfl) ?_
                        refine LJ.yd rfl (Yd.pickFB rfl rfl) ?_
                        refine LJ.yd rfl (Yd.asB rfl) ?_
                        refine LJ.nil ?_
                        refine CJ.seq ?_
                        have hpm : u73.p ∈ psX X := List.mem_map_of_mem (List.mem_of_getElem? hu73)
                        have hA : ¬ (u73.p.l = fpR (psX X) ⟨pW, pH, pT, pK⟩ ∧ ccB u73.p ⟨pW, pH, pT, pK⟩ = false) := fun ⟨h1, h2⟩ => by
                          have := huq u73.p hpm u0.p hp0 (by omega)
                          rw [this, hcc0] at h2; cases h2
                        have hB : ¬ (ccB u73.p ⟨pW, pH, pT, pK⟩ = true ∧ u73.p.w * u73.p.h < sz) := fun ⟨h1, h2⟩ => by
                          have := hmin u73.p hpm h1
                          omega
                        have har3 := area_b (hall _ hpm).1
                        refine CJ.regionD [0, 1, 2] [] (by kernel_rfl) rfl ?_
                        refine DJ.norm [_, _, _] [] rfl rfl ?_
                        refine DJ.yd 0 rfl (by kernel_rfl) (by kernel_rfl) (by kernel_rfl) rfl rfl (Yd.mvS rfl) ?_
                        refine DJ.yd 1 rfl (by kernel_rfl) (by kernel_rfl) (by kernel_rfl) rfl rfl (Yd.mvI rfl) ?_
                        refine DJ.idxA 2 rfl (by kernel_rfl) (by kernel_rfl) (by kernel_rfl) rfl rfl hlx rfl rfl (by omega) (by first | rfl | omega | (simp; done) | (simp; omega) | (simp [upN_len]; omega) | (simp [idxBy_len]; omega) | (simp [marks_len]; omega) | (simp [upN_len]; done) | (simp [idxBy_len]; done) | (simp [marks_len]; done) | (simp at *; omega)) (fun ib103 io103 ia103 ir103 => ?_)
                        refine DJ.yd 3 rfl (by kernel_rfl) (by kernel_rfl) (by kernel_rfl) rfl rfl (Yd.fieldAddr rfl) ?_
                        refine DJ.ldA 4 rfl (by kernel_rfl) (by kernel_rfl) (by kernel_rfl) rfl rfl 0 (fun u => vI u.p.l) (fun _ => rfl) ir103 rfl rfl (by first | rfl | omega | (simp; done) | (simp; omega) | (simp [upN_len]; omega) | (simp [idxBy_len]; omega) | (simp [marks_len]; omega) | (simp [upN_len]; done) | (simp [idxBy_len]; done) | (simp [marks_len]; done) | (simp at *; omega)) (fun u105 hu105 => ?_)
                        try simp only [Int.toNat_natCast] at hu105
                        obtain rfl : u73 = u105 := by rw [hu73] at hu105; exact Option.some.inj hu105
                        refine DJ.yd 5 rfl (by kernel_rfl) (by kernel_rfl) (by kernel_rfl) rfl rfl (Yd.mvI rfl) ?_
                        refine DJ.splitD 6 rfl (by kernel_rfl) (by kernel_rfl) (by kernel_rfl) rfl rfl (Yd.eql rfl rfl) (fun h107 => ?_) (fun h107 => ?_)
                        · refine DJ.yd 7 rfl (by kernel_rfl) (by kernel_rfl) (by kernel_rfl) rfl rfl (Yd.mvB rfl) ?_
                          refine DJ.yd 8 rfl (by kernel_rfl) (by kernel_rfl) (by kernel_rfl) rfl rfl (Yd.mvB rfl) ?_
                          refine DJ.yd 9 rfl (by kernel_rfl) (by kernel_rfl) (by kernel_rfl) rfl rfl (Yd.not rfl) ?_
                          refine DJ.yd 10 rfl (by kernel_rfl) (by kernel_rfl) (by kernel_rfl) rfl rfl (Yd.pickTB rfl rfl) ?_
                          refine DJ.yd 11 rfl (by kernel_rfl) (by kernel_rfl) (by kernel_rfl) rfl rfl (Yd.mvB rfl) ?_
                          refine DJ.yd 12 rfl (by kernel_rfl) (by kernel_rfl) (by kernel_rfl) rfl rfl (Yd.mvB rfl) ?_
                          refine DJ.yd 13 rfl (by kernel_rfl) (by kernel_rfl) (by kernel_rfl) rfl rfl (Yd.mvB rfl) ?_
                          refine DJ.yd 14 rfl (by kernel_rfl) (by kernel_rfl) (by kernel_rfl) rfl rfl (Yd.mvS rfl) ?_
                          refine DJ.yd 15 rfl (by kernel_rfl) (by kernel_rfl) (by kernel_rfl) rfl rfl (Yd.mvI rfl) ?_
                          refine DJ.idxA 16 rfl (by kernel_rfl) (by kernel_rfl) (by kernel_rfl) rfl rfl hlx rfl rfl (by omega) (by first | rfl | omega | (simp; done) | (simp; omega) | (simp [upN_len]; omega) | (simp [idxBy_len]; omega) | (simp [marks_len]; omega) | (simp [upN_len]; done) | (simp [idxBy_len]; done) | (simp [marks_len]; done) | (simp at *; omega)) (fun ib117 io117 ia117 ir117 => ?_)
                          refine DJ.yd 17 rfl (by kernel_rfl) (by kernel_rfl) (by kernel_rfl) rfl rfl (Yd.fieldAddr rfl) ?_
                          refine DJ.ldA 18 rfl (by kernel_rfl) (by kernel_rfl) (by kernel_rfl) rfl rfl 1 (fun u => vI u.p.w) (fun _ => rfl) ir117 rfl rfl (by first | rfl | omega | (simp; done) | (simp; omega) | (simp [upN_len]; omega) | (simp [idxBy_len]; omega) | (simp [marks_len]; omega) | (simp [upN_len]; done) | (simp [idxBy_len]; done) | (simp [marks_len]; done) | (simp at *; omega)) (fun u119 hu119 => ?_)
                          try simp only [Int.toNat_natCast] at hu119
                          obtain rfl : u73 = u119 := by rw [hu73] at hu119; exact Option.some.inj hu119
                          refine DJ.yd 19 rfl (by kernel_rfl) (by kernel_rfl) (by kernel_rfl) rfl rfl (Yd.mvS rfl) ?_
                          refine DJ.yd 20 rfl (by kernel_rfl) (by kernel_rfl) (by kernel_rfl) rfl rfl (Yd.mvI rfl) ?_
                          refine DJ.idxA 21 rfl (by kernel_rfl) (by kernel_rfl) (by kernel_rfl) rfl rfl hlx rfl rfl (by omega) (by first | rfl | omega | (simp; done) | (simp; omega) | (simp [upN_len]; omega) | (simp [idxBy_len]; omega) | (simp [marks_len]; omega) | (simp [upN_len]; done) | (simp [idxBy_len]; done) | (simp [marks_len]; done) | (simp at *; omega)) (fun ib122 io122 ia122 ir122 => ?_)
                          refine DJ.yd 22 rfl (by kernel_rfl) (by kernel_rfl) (by kernel_rfl) rfl rfl (Yd.fieldAddr rfl) ?_
                          refine DJ.ldA 23 rfl (by kernel_rfl) (by kernel_rfl) (by kernel_rfl) rfl rfl 2 (fun u => vI u.p.h) (fun _ => rfl) ir122 rfl rfl (by first | rfl | omega | (simp; done) | (simp; omega) | (simp [upN_len]; omega) | (simp [idxBy_len]; omega) | (simp [marks_len]; omega) | (simp [upN_len]; done) | (simp [idxBy_len]; done) | (simp [marks_len]; done) | (simp at *; omega)) (fun u124 hu124 => ?_)
                          try simp only [Int.toNat_natCast] at hu124
                          obtain rfl : u73 = u124 := by rw [hu73] at hu124; exact Option.some.inj hu124
                          refine DJ.yd 24 rfl (by kernel_rfl) (by kernel_rfl) (by kernel_rfl) rfl rfl (Yd.mul rfl rfl (by unfold I64; omega)) ?_
                          refine DJ.yd 25 rfl (by kernel_rfl) (by kernel_rfl) (by kernel_rfl) rfl rfl (Yd.mvI rfl) ?_
                          refine DJ.splitD 26 rfl (by kernel_rfl) (by kernel_rfl) (by kernel_rfl) rfl rfl (Yd.lss rfl rfl) (fun h127 => ?_) (fun h127 => ?_)
                          · refine DJ.yd 27 rfl (by kernel_rfl) (by kernel_rfl) (by kernel_rfl) rfl rfl (Yd.pickTB rfl rfl) ?_
                            refine DJ.yd 28 rfl (by kernel_rfl) (by kernel_rfl) (by kernel_rfl) rfl rfl (Yd.pickFB rfl rfl) ?_
                            refine DJ.done (by kernel_rfl) ?_
                            refine CJ.condT rfl ?_
                            refine CJ.seq ?_
                            refine CJ.region ?_
                            refine LJ.yd rfl (Yd.asB rfl) ?_
                            refine LJ.nil ?_
                            refine CJ.ret ?_
                            refine Fin.V (Res.one (ResV.tmp (v := .bool false) rfl)) ?_
                            first
                              | rfl
                              | (exfalso; refine hA ⟨by assumption, ?_⟩; simp [ccB, *]; done)
                              | (exfalso; refine hB ⟨?_, by assumption⟩; simp [ccB, *]; done)
                          · refine DJ.yd 27 rfl (by kernel_rfl) (by kernel_rfl) (by kernel_rfl) rfl rfl (Yd.pickTB rfl rfl) ?_
                            refine DJ.yd 28 rfl (by kernel_rfl) (by kernel_rfl) (by kernel_rfl) rfl rfl (Yd.pickFB rfl rfl) ?_
                            refine DJ.done (by kernel_rfl) ?_
                            refine CJ.condF rfl ?_
                            refine CJ.skip ?_
                            refine CJ.region ?_
                            refine LJ.yd rfl (Yd.mvI rfl) ?_
                            refine LJ.yd rfl (Yd.add rfl rfl (by unfold I64; omega)) ?_
                            refine LJ.yd rfl (Yd.asI rfl) ?_
                            refine LJ.nil ?_
                            refine ⟨(k + 1), ?_, ⟨rfl, rfl, rfl, rfl, trivial⟩, ⟨rfl, trivial⟩, Ent.pick [0] [1, 2] rfl, ?_⟩
                            · omega
                            · first | omega | (dsimp only; omega) | (simp only []; omega)
                        · refine DJ.yd 7 rfl (by kernel_rfl) (by kernel_rfl) (by kernel_rfl) rfl rfl (Yd.mvB rfl) ?_
                          refine DJ.skip 8 rfl (by kernel_rfl) (by kernel_rfl) (by kernel_rfl) rfl rfl ?_
                          refine DJ.skip 9 rfl (by kernel_rfl) (by kernel_rfl) (by kernel_rfl) rfl rfl ?_
                          refine DJ.yd 10 rfl (by kernel_rfl) (by kernel_rfl) (by kernel_rfl) rfl rfl (Yd.pickFB rfl rfl) ?_
                          refine DJ.yd 11 rfl (by kernel_rfl) (by kernel_rfl) (by kernel_rfl) rfl rfl (Yd.mvB rfl) ?_
                          refine DJ.yd 12 rfl (by kernel_rfl) (by kernel_rfl) (by kernel_rfl) rfl rfl (Yd.mvB rfl) ?_
                          refine DJ.yd 13 rfl (by kernel_rfl) (by kernel_rfl) (by kernel_rfl) rfl rfl (Yd.mvB rfl) ?_
                          refine DJ.yd 14 rfl (by kernel_rfl) (by kernel_rfl) (by kernel_rfl) rfl rfl (Yd.mvS rfl) ?_
                          refine DJ.yd 15 rfl (by kernel_rfl) (by kernel_rfl) (by kernel_rfl) rfl rfl (Yd.mvI rfl) ?_
                          refine DJ.idxA 16 rfl (by kernel_rfl) (by kernel_rfl) (by kernel_rfl) rfl rfl hlx rfl rfl (by omega) (by first | rfl | omega | (simp; done) | (simp; omega) | (simp [upN_len]; omega) | (simp [idxBy_len]; omega) | (simp [marks_len]; omega) | (simp [upN_len]; done) | (simp [idxBy_len]; done) | (simp [marks_len]; done) | (simp at *; omega)) (fun ib117 io117 ia117 ir117 => ?_)
                          refine DJ.yd 17 rfl (by kernel_rfl) (by kernel_rfl) (by kernel_rfl) rfl rfl (Yd.fieldAddr rfl) ?_
                          refine DJ.ldA 18 rfl (by kernel_rfl) (by kernel_rfl) (by kernel_rfl) rfl rfl 1 (fun u => vI u.p.w) (fun _ => rfl) ir117 rfl rfl (by first | rfl | omega | (simp; done) | (simp; omega) | (simp [upN_len]; omega) | (simp [idxBy_len]; omega) | (simp [marks_len]; omega) | (simp [upN_len]; done) | (simp [idxBy_len]; done) | (simp [marks_len]; done) | (simp at *; omega)) (fun u119 hu119 => ?_)
                          try simp only [Int.toNat_natCast] at hu119
                          obtain rfl : u73 = u119 := by rw [hu73] at hu119; exact Option.some.inj hu119
                          refine DJ.yd 19 rfl (by kernel_rfl) (by kernel_rfl) (by kernel_rfl) rfl rfl (Yd.mvS rfl) ?_
                          refine DJ.yd 20 rfl (by kernel_rfl) (by kernel_rfl) (by kernel_rfl) rfl rfl (Yd.mvI rfl) ?_
                          refine DJ.idxA 21 rfl (by kernel_rfl) (by kernel_rfl) (by kernel_rfl) rfl rfl hlx rfl rfl (by omega) (by first | rfl | omega | (simp; done) | (simp; omega) | (simp [upN_len]; omega) | (simp [idxBy_len]; omega) | (simp [marks_len]; omega) | (simp [upN_len]; done) | (simp [idxBy_len]; done) | (simp [marks_len]; done) | (simp at *; omega)) (fun ib122 io122 ia122 ir122 => ?_)
                          refine DJ.yd 22 rfl (by kernel_rfl) (by kernel_rfl) (by kernel_rfl) rfl rfl (Yd.fieldAddr rfl) ?_
                          refine DJ.ldA 23 rfl (by kernel_rfl) (by kernel_rfl) (by kernel_rfl) rfl rfl 2 (fun u => vI u.p.h) (fun _ => rfl) ir122 rfl rfl (by first | rfl | omega | (simp; done) | (simp; omega) | (simp [upN_len]; omega) | (simp [idxBy_len]; omega) | (simp [marks_len]; omega) | (simp [upN_len]; done) | (simp [idxBy_len]; done) | (simp [marks_len]; done) | (simp at *; omega)) (fun u124 hu124 => ?_)
                          try simp only [Int.toNat_natCast] at hu124
                          obtain rfl : u73 = u124 := by rw [hu73] at hu124; exact Option.some.inj hu124
                          refine DJ.yd 24 rfl (by kernel_rfl) (by kernel_rfl) (by kernel_rfl) rfl rfl (Yd.mul rfl rfl (by unfold I64; omega)) ?_
                          refine DJ.yd 25 rfl (by kernel_rfl) (by kernel_rfl) (by kernel_rfl) rfl rfl (Yd.mvI rfl) ?_
                          refine DJ.splitD 26 rfl (by kernel_rfl) (by kernel_rfl) (by kernel_rfl) rfl rfl (Yd.lss rfl rfl) (fun h127 => ?_) (fun h127 => ?_)
                          · refine DJ.yd 27 rfl (by kernel_rfl) (by kernel_rfl) (by kernel_rfl) rfl rfl (Yd.pickTB rfl rfl) ?_
                            refine DJ.yd 28 rfl (by kernel_rfl) (by kernel_rfl) (by kernel_rfl) rfl rfl (Yd.pickFB rfl rfl) ?_
                            refine DJ.done (by kernel_rfl) ?_
                            refine CJ.condT rfl ?_
                            refine CJ.seq ?_
                            refine CJ.region ?_
                            refine LJ.yd rfl (Yd.asB rfl) ?_
                            refine LJ.nil ?_
                            refine CJ.ret ?_
                            refine Fin.V (Res.one (ResV.tmp (v := .bool false) rfl)) ?_
                            first
                              | rfl
                              | (exfalso; refine hA ⟨by assumption, ?_⟩; simp [ccB, *]; done)
                              | (exfalso; refine hB ⟨?_, by assumption⟩; simp [ccB, *]; done)
                          · refine DJ.yd 27 rfl (by kernel_rfl) (by kernel_rfl) (by kernel_rfl) rfl rfl (Yd.pickTB rfl rfl) ?_
                            refine DJ.yd 28 rfl (by kernel_rfl) (by kernel_rfl) (by kernel_rfl) rfl rfl (Yd.pickFB rfl rfl) ?_
                            refine DJ.done (by kernel_rfl) ?_
                            refine CJ.condF rfl ?_
                            refine CJ.skip ?_
                            refine CJ.region ?_
                            refine LJ.yd rfl (Yd.mvI rfl) ?_
                            refine LJ.yd rfl (Yd.add rfl rfl (by unfold I64; omega)) ?_
                            refine LJ.yd rfl (Yd.asI rfl) ?_
                            refine LJ.nil ?_
                            refine ⟨(k + 1), ?_, ⟨rfl, rfl, rfl, rfl, trivial⟩, ⟨rfl, trivial⟩, Ent.pick [0] [1, 2] rfl, ?_⟩
                            · omega
                            · first | omega | (dsimp only; omega) | (simp only []; omega)
                      · refine LJ.gT rfl ?_
                        refine LJ.yd rfl (Yd.pickTB rfl rfl) ?_
                        refine LJ.yd rfl (Yd.pickFB rfl rfl) ?_
                        refine LJ.yd rfl (Yd.asB rfl) ?_
                        refine LJ.nil ?_
                        refine CJ.seq ?_
                        have hpm : u73.p ∈ psX X := List.mem_map_of_mem (List.mem_of_getElem? hu73)
                        have hA : ¬ (u73.p.l = fpR (psX X) ⟨pW, pH, pT, pK⟩ ∧ ccB u73.p ⟨pW, pH, pT, pK⟩ = false) := fun ⟨h1, h2⟩ => by
                          have := huq u73.p hpm u0.p hp0 (by omega)
                          rw [this, hcc0] at h2; cases h2
                        have hB : ¬ (ccB u73.p ⟨pW, pH, pT, pK⟩ = true ∧ u73.p.w * u73.p.h < sz) := fun ⟨h1, h2⟩ => by
                          have := hmin u73.p hpm h1
                          omega
                        have har3 := area_b (hall _ hpm).1
                        refine CJ.regionD [0, 1, 2] [] (by kernel_rfl) rfl ?_
                        refine DJ.norm [_, _, _] [] rfl rfl ?_
                        refine DJ.yd 0 rfl (by kernel_rfl) (by kernel_rfl) (by kernel_rfl) rfl rfl (Yd.mvS rfl) ?_
                        refine DJ.yd 1 rfl (by kernel_rfl) (by kernel_rfl) (by kernel_rfl) rfl rfl (Yd.mvI rfl) ?_
                        refine DJ.idxA 2 rfl (by kernel_rfl) (by kernel_rfl) (by kernel_rfl) rfl rfl hlx rfl rfl (by omega) (by first | rfl | omega | (simp; done) | (simp; omega) | (simp [upN_len]; omega) | (simp [idxBy_len]; omega) | (simp [marks_len]; omega) | (simp [upN_len]; done) | (simp [idxBy_len]; done) | (simp [marks_len]; done) | (simp at *; omega)) (fun ib103 io103 ia103 ir103 => ?_)
                        refine DJ.yd 3 rfl (by kernel_rfl) (by kernel_rfl) (by kernel_rfl) rfl rfl (Yd.fieldAddr rfl) ?_
                        refine DJ.ldA 4 rfl (by kernel_rfl) (by kernel_rfl) (by kernel_rfl) rfl rfl 0 (fun u => vI u.p.l) (fun _ => rfl) ir103 rfl rfl (by first | rfl | omega | (simp; done) | (simp; omega) | (simp [upN_len]; omega) | (simp [idxBy_len]; omega) | (simp [marks_len]; omega) | (simp [upN_len]; done) | (simp [idxBy_len]; done) | (simp [marks_len]; done) | (simp at *; omega)) (fun u105 hu105 => ?_)
                        try simp only [Int.toNat_natCast] at hu105
                        obtain rfl : u73 = u105 := by rw [hu73] at hu105; exact Option.some.inj hu105
                        refine DJ.yd 5 rfl (by kernel_rfl) (by kernel_rfl) (by kernel_rfl) rfl rfl (Yd.mvI rfl) ?_
                        refine DJ.splitD 6 rfl (by kernel_rfl) (by kernel_rfl) (by kernel_rfl) rfl rfl (Yd.eql rfl rfl) (fun h107 => ?_) (fun h107 => ?_)
                        · refine DJ.yd 7 rfl (by kernel_rfl) (by kernel_rfl) (by kernel_rfl) rfl rfl (Yd.mvB rfl) ?_
                          refine DJ.yd 8 rfl (by kernel_rfl) (by kernel_rfl) (by kernel_rfl) rfl rfl (Yd.mvB rfl) ?_
                          refine DJ.yd 9 rfl (by kernel_rfl) (by kernel_rfl) (by kernel_rfl) rfl rfl (Yd.not rfl) ?_
                          refine DJ.yd 10 rfl (by kernel_rfl) (by kernel_rfl) (by kernel_rfl) rfl rfl (Yd.pickTB rfl rfl) ?_
                          refine DJ.yd 11 rfl (by kernel_rfl) (by kernel_rfl) (by kernel_rfl) rfl rfl (Yd.mvB rfl) ?_
                          refine DJ.skip 12 rfl (by kernel_rfl) (by kernel_rfl) (by kernel_rfl) rfl rfl ?_
                          refine DJ.skip 13 rfl (by kernel_rfl) (by kernel_rfl) (by kernel_rfl) rfl rfl ?_
                          refine DJ.skip 14 rfl (by kernel_rfl) (by kernel_rfl) (by kernel_rfl) rfl rfl ?_
                          refine DJ.skip 15 rfl (by kernel_rfl) (by kernel_rfl) (by kernel_rfl) rfl rfl ?_
                          refine DJ.skip 16 rfl (by kernel_rfl) (by kernel_rfl) (by kernel_rfl) rfl rfl ?_
                          refine DJ.skip 17 rfl (by kernel_rfl) (by kernel_rfl) (by kernel_rfl) rfl rfl ?_
                          refine DJ.skip 18 rfl (by kernel_rfl) (by kernel_rfl) (by kernel_rfl) rfl rfl ?_
                          refine DJ.skip 19 rfl (by kernel_rfl) (by kernel_rfl) (by kernel_rfl) rfl rfl ?_
                          refine DJ.skip 20 rfl (by kernel_rfl) (by kernel_rfl) (by kernel_rfl) rfl rfl ?_
                          refine DJ.skip 21 rfl (by kernel_rfl) (by kernel_rfl) (by kernel_rfl) rfl rfl ?_
                          refine DJ.skip 22 rfl (by kernel_rfl) (by kernel_rfl) (by kernel_rfl) rfl rfl ?_
                          refine DJ.skip 23 rfl (by kernel_rfl) (by kernel_rfl) (by kernel_rfl) rfl rfl ?_
                          refine DJ.skip 24 rfl (by kernel_rfl) (by kernel_rfl) (by kernel_rfl) rfl rfl ?_
                          refine DJ.skip 25 rfl (by kernel_rfl) (by kernel_rfl) (by kernel_rfl) rfl rfl ?_
                          refine DJ.skip 26 rfl (by kernel_rfl) (by kernel_rfl) (by kernel_rfl) rfl rfl ?_
                          refine DJ.skip 27 rfl (by kernel_rfl) (by kernel_rfl) (by kernel_rfl) rfl rfl ?_
                          refine DJ.yd 28 rfl (by kernel_rfl) (by kernel_rfl) (by kernel_rfl) rfl rfl (Yd.pickTB rfl rfl) ?_
                          refine DJ.done (by kernel_rfl) ?_
                          refine CJ.condT rfl ?_
                          refine CJ.seq ?_
                          refine CJ.region ?_
                          refine LJ.yd rfl (Yd.asB rfl) ?_
                          refine LJ.nil ?_
                          refine CJ.ret ?_
                          refine Fin.V (Res.one (ResV.tmp (v := .bool false) rfl)) ?_
                          first
                            | rfl
                            | (exfalso; refine hA ⟨by assumption, ?_⟩; simp [ccB, *]; done)
                            | (exfalso; refine hB ⟨?_, by assumption⟩; simp [ccB, *]; done)
                        · refine DJ.yd 7 rfl (by kernel_rfl) (by kernel_rfl) (by kernel_rfl) rfl rfl (Yd.mvB rfl) ?_
                          refine DJ.skip 8 rfl (by kernel_rfl) (by kernel_rfl) (by kernel_rfl) rfl rfl ?_
                          refine DJ.skip 9 rfl (by kernel_rfl) (by kernel_rfl) (by kernel_rfl) rfl rfl ?_
                          refine DJ.yd 10 rfl (by kernel_rfl) (by kernel_rfl) (by kernel_rfl) rfl rfl (Yd.pickFB rfl rfl) ?_
                          refine DJ.yd 11 rfl (by kernel_rfl) (by kernel_rfl) (by kernel_rfl) rfl rfl (Yd.mvB rfl) ?_
                          refine DJ.yd 12 rfl (by kernel_rfl) (by kernel_rfl) (by kernel_rfl) rfl rfl (Yd.mvB rfl) ?_
                          refine DJ.yd 13 rfl (by kernel_rfl) (by kernel_rfl) (by kernel_rfl) rfl rfl (Yd.mvB rfl) ?_
                          refine DJ.skip 14 rfl (by kernel_rfl) (by kernel_rfl) (by kernel_rfl) rfl rfl ?_
                          refine DJ.skip 15 rfl (by kernel_rfl) (by kernel_rfl) (by kernel_rfl) rfl rfl ?_
                          refine DJ.skip 16 rfl (by kernel_rfl) (by kernel_rfl) (by kernel_rfl) rfl rfl ?_
                          refine DJ.skip 17 rfl (by kernel_rfl) (by kernel_rfl) (by kernel_rfl) rfl rfl ?_
                          refine DJ.skip 18 rfl (by kernel_rfl) (by kernel_rfl) (by kernel_rfl) rfl rfl ?_
                          refine DJ.skip 19 rfl (by kernel_rfl) (by kernel_rfl) (by kernel_rfl) rfl rfl ?_
                          refine DJ.skip 20 rfl (by kernel_rfl) (by kernel_rfl) (by kernel_rfl) rfl rfl ?_
                          refine DJ.skip 21 rfl (by kernel_rfl) (by kernel_rfl) (by kernel_rfl) rfl rfl ?_
                          refine DJ.skip 22 rfl (by kernel_rfl) (by kernel_rfl) (by kernel_rfl) rfl rfl ?_
                          refine DJ.skip 23 rfl (by kernel_rfl) (by kernel_rfl) (by kernel_rfl) rfl rfl ?_
                          refine DJ.skip 24 rfl (by kernel_rfl) (by kernel_rfl) (by kernel_rfl) rfl rfl ?_
                          refine DJ.skip 25 rfl (by kernel_rfl) (by kernel_rfl) (by kernel_rfl) rfl rfl ?_
                          refine DJ.skip 26 rfl (by kernel_rfl) (by kernel_rfl) (by kernel_rfl) rfl rfl ?_
                          refine DJ.yd 27 rfl (by kernel_rfl) (by kernel_rfl) (by kernel_rfl) rfl rfl (Yd.pickFB rfl rfl) ?_
                          refine DJ.yd 28 rfl (by kernel_rfl) (by kernel_rfl) (by kernel_rfl) rfl rfl (Yd.pickFB rfl rfl) ?_
                          refine DJ.done (by kernel_rfl) ?_
                          refine CJ.condF rfl ?_
                          refine CJ.skip ?_
                          refine CJ.region ?_
                          refine LJ.yd rfl (Yd.mvI rfl) ?_
                          refine LJ.yd rfl (Yd.add rfl rfl (by unfold I64; omega)) ?_
                          refine LJ.yd rfl (Yd.asI rfl) ?_
                          refine LJ.nil ?_
                          refine ⟨(k + 1), ?_, ⟨rfl, rfl, rfl, rfl, trivial⟩, ⟨rfl, trivial⟩, Ent.pick [0] [1, 2] rfl, ?_⟩
                          · omega
                          · first | omega | (dsimp only; omega) | (simp only []; omega)
                    · refine DJ.one (i := 12) (by kernel_rfl) ?_
                      refine DO.alloc ([_, _, _, _] : List Value) rfl rfl rfl rfl (fun b8 => ?_)
                      refine DJ.one (i := 13) (by kernel_rfl) ?_
                      refine DO.store (v := .agg #[_, _, _, _]) (us := [_, _, _, _]) 0 rfl rfl rfl rfl rfl rfl rfl rfl rfl rfl ?_
                      refine DJ.yd 14 rfl (by kernel_rfl) (by kernel_rfl) (by kernel_rfl) rfl rfl (Yd.asB rfl) ?_
                      refine DJ.done (by kernel_rfl) ?_
                      refine CJ.seq ?_
                      refine CJ.region ?_
                      refine LJ.yd rfl (Yd.mvB rfl) ?_
                      refine LJ.yd rfl (Yd.mvB rfl) ?_
                      refine LJ.gT rfl ?_
                      refine LJ.yd rfl (Yd.mvB rfl) ?_
                      refine LJ.gT rfl ?_
                      refine LJ.yd rfl (Yd.mvB rfl) ?_
                      refine LJ.gF rfl rfl ?_
                      refine LJ.gF rfl rfl ?_
                      refine LJ.gT rfl ?_
                      refine LJ.yd rfl (Yd.pickFB rfl rfl) ?_
                      refine LJ.yd rfl (Yd.pickFB rfl rfl) ?_
                      refine LJ.yd rfl (Yd.asB rfl) ?_
                      refine LJ.nil ?_
                      refine CJ.seq ?_
                      have hpm : u73.p ∈ psX X := List.mem_map_of_mem (List.mem_of_getElem? hu73)
                      have hA : ¬ (u73.p.l = fpR (psX X) ⟨pW, pH, pT, pK⟩ ∧ ccB u73.p ⟨pW, pH, pT, pK⟩ = false) := fun ⟨h1, h2⟩ => by
                        have := huq u73.p hpm u0.p hp0 (by omega)
                        rw [this, hcc0] at h2; cases h2
                      have hB : ¬ (ccB u73.p ⟨pW, pH, pT, pK⟩ = true ∧ u73.p.w * u73.p.h < sz) := fun ⟨h1, h2⟩ => by
                        have := hmin u73.p hpm h1
                        omega
                      have har3 := area_b (hall _ hpm).1
                      refine CJ.regionD [0, 1, 2] [] (by kernel_rfl) rfl ?_
                      refine DJ.norm [_, _, _] [] rfl rfl ?_
                      refine DJ.yd 0 rfl (by kernel_rfl) (by kernel_rfl) (by kernel_rfl) rfl rfl (Yd.mvS rfl) ?_
                      refine DJ.yd 1 rfl (by kernel_rfl) (by kernel_rfl) (by kernel_rfl) rfl rfl (Yd.mvI rfl) ?_
                      refine DJ.idxA 2 rfl (by kernel_rfl) (by kernel_rfl) (by kernel_rfl) rfl rfl hlx rfl rfl (by omega) (by first | rfl | omega | (simp; done) | (simp; omega) | (simp [upN_len]; omega) | (simp [idxBy_len]; omega) | (simp [marks_len]; omega) | (simp [upN_len]; done) | (simp [idxBy_len]; done) | (simp [marks_len]; done) | (simp at *; omega)) (fun ib103 io103 ia103 ir103 => ?_)
                      refine DJ.yd 3 rfl (by kernel_rfl) (by kernel_rfl) (by kernel_rfl) rfl rfl (Yd.fieldAddr rfl) ?_
                      refine DJ.ldA 4 rfl (by kernel_rfl) (by kernel_rfl) (by kernel_rfl) rfl rfl 0 (fun u => vI u.p.l) (fun _ => rfl) ir103 rfl rfl (by first | rfl | omega | (simp; done) | (simp; omega) | (simp [upN_len]; omega) | (simp [idxBy_len]; omega) | (simp [marks_len]; omega) | (simp [upN_len]; done) | (simp [idxBy_len]; done) | (simp [marks_len]; done) | (simp at *; omega)) (fun u105 hu105 => ?_)
                      try simp only [Int.toNat_natCast] at hu105
                      obtain rfl : u73 = u105 := by rw [hu73] at hu105; exact Option.some.inj hu105
                      refine DJ.yd 5 rfl (by kernel_rfl) (by kernel_rfl) (by kernel_rfl) rfl rfl (Yd.mvI rfl) ?_
                      refine DJ.splitD 6 rfl (by kernel_rfl) (by kernel_rfl) (by kernel_rfl) rfl rfl (Yd.eql rfl rfl) (fun h107 => ?_) (fun h107 => ?_)
                      · refine DJ.yd 7 rfl (by kernel_rfl) (by kernel_rfl) (by kernel_rfl) rfl rfl (Yd.mvB rfl) ?_
                        refine DJ.yd 8 rfl (by kernel_rfl) (by kernel_rfl) (by kernel_rfl) rfl rfl (Yd.mvB rfl) ?_
                        refine DJ.yd 9 rfl (by kernel_rfl) (by kernel_rfl) (by kernel_rfl) rfl rfl (Yd.not rfl) ?_
                        refine DJ.yd 10 rfl (by kernel_rfl) (by kernel_rfl) (by kernel_rfl) rfl rfl (Yd.pickTB rfl rfl) ?_
                        refine DJ.yd 11 rfl (by kernel_rfl) (by kernel_rfl) (by kernel_rfl) rfl rfl (Yd.mvB rfl) ?_
                        refine DJ.skip 12 rfl (by kernel_rfl) (by kernel_rfl) (by kernel_rfl) rfl rfl ?_
                        refine DJ.skip 13 rfl (by kernel_rfl) (by kernel_rfl) (by kernel_rfl) rfl rfl ?_
                        refine DJ.skip 14 rfl (by kernel_rfl) (by kernel_rfl) (by kernel_rfl) rfl rfl ?_
                        refine DJ.skip 15 rfl (by kernel_rfl) (by kernel_rfl) (by kernel_rfl) rfl rfl ?_
                        refine DJ.skip 16 rfl (by kernel_rfl) (by kernel_rfl) (by kernel_rfl) rfl rfl ?_
                        refine DJ.skip 17 rfl (by kernel_rfl) (by kernel_rfl) (by kernel_rfl) rfl rfl ?_
                        refine DJ.skip 18 rfl (by kernel_rfl) (by kernel_rfl) (by kernel_rfl) rfl rfl ?_
                        refine DJ.skip 19 rfl (by kernel_rfl) (by kernel_rfl) (by kernel_rfl) rfl rfl ?_
                        refine DJ.skip 20 rfl (by kernel_rfl) (by kernel_rfl) (by kernel_rfl) rfl rfl ?_
                        refine DJ.skip 21 rfl (by kernel_rfl) (by kernel_rfl) (by kernel_rfl) rfl rfl ?_
                        refine DJ.skip 22 rfl (by kernel_rfl) (by kernel_rfl) (by kernel_rfl) rfl rfl ?_
                        refine DJ.skip 23 rfl (by kernel_rfl) (by kernel_rfl) (by kernel_rfl) rfl rfl ?_
                        refine DJ.skip 24 rfl (by kernel_rfl) (by kernel_rfl) (by kernel_rfl) rfl rfl ?_
                        refine DJ.skip 25 rfl (by kernel_rfl) (by kernel_rfl) (by kernel_rfl) rfl rfl ?_
                        refine DJ.skip 26 rfl (by kernel_rfl) (by kernel_rfl) (by kernel_rfl) rfl rfl ?_
                        refine DJ.skip 27 rfl (by kernel_rfl) (by kernel_rfl) (by kernel_rfl) rfl rfl ?_
                        refine DJ.yd 28 rfl (by kernel_rfl) (by kernel_rfl) (by kernel_rfl) rfl rfl (Yd.pickTB rfl rfl) ?_
                        refine DJ.done (by kernel_rfl) ?_
                        refine CJ.condT rfl ?_
                        refine CJ.seq ?_
                        refine CJ.region ?_
                        refine LJ.yd rfl (Yd.asB rfl) ?_
                        refine LJ.nil ?_
                        refine CJ.ret ?_
                        refine Fin.V (Res.one (ResV.tmp (v := .bool false) rfl)) ?_
                        first
                          | rfl
                          | (exfalso; refine hA ⟨by assumption, ?_⟩; simp [ccB, *]; done)
                          | (exfalso; refine hB ⟨?_, by assumption⟩; simp [ccB, *]; done)
                      · refine DJ.yd 7 rfl (by kernel_rfl) (by kernel_rfl) (by kernel_rfl) rfl rfl (Yd.mvB rfl) ?_
                        refine DJ.skip 8 rfl (by kernel_rfl) (by kernel_rfl) (by kernel_rfl) rfl rfl ?_
                        refine DJ.skip 9 rfl (by kernel_rfl) (by kernel_rfl) (by kernel_rfl) rfl rfl ?_
                        refine DJ.yd 10 rfl (by kernel_rfl) (by kernel_rfl) (by kernel_rfl) rfl rfl (Yd.pickFB rfl rfl) ?_
                        refine DJ.yd 11 rfl (by kernel_rfl) (by kernel_rfl) (by kernel_rfl) rfl rfl (Yd.mvB rfl) ?_
                        refine DJ.yd 12 rfl (by kernel_rfl) (by kernel_rfl) (by kernel_rfl) rfl rfl (Yd.mvB rfl) ?_
                        refine DJ.yd 13 rfl (by kernel_rfl) (by kernel_rfl) (by kernel_rfl) rfl rfl (Yd.mvB rfl) ?_
                        refine DJ.skip 14 rfl (by kernel_rfl) (by kernel_rfl) (by kernel_rfl) rfl rfl ?_
                        refine DJ.skip 15 rfl (by kernel_rfl) (by kernel_rfl) (by kernel_rfl) rfl rfl ?_
                        refine DJ.skip 16 rfl (by kernel_rfl) (by kernel_rfl) (by kernel_rfl) rfl rfl ?_
                        refine DJ.skip 17 rfl (by kernel_rfl) (by kernel_rfl) (by kernel_rfl) rfl rfl ?_
                        refine DJ.skip 18 rfl (by kernel_rfl) (by kernel_rfl) (by kernel_rfl) rfl rfl ?_
                        refine DJ.skip 19 rfl (by kernel_rfl) (by kernel_rfl) (by kernel_rfl) rfl rfl ?_
                        refine DJ.skip 20 rfl (by kernel_rfl) (by kernel_rfl) (by kernel_rfl) rfl rfl ?_
                        refine DJ.skip 21 rfl (by kernel_rfl) (by kernel_rfl) (by kernel_rfl) rfl rfl ?_
                        refine DJ.skip 22 rfl (by kernel_rfl) (by kernel_rfl) (by kernel_rfl) rfl rfl ?_
                        refine DJ.skip 23 rfl (by kernel_rfl) (by kernel_rfl) (by kernel_rfl) rfl rfl ?_
                        refine DJ.skip 24 rfl (by kernel_rfl) (by kernel_rfl) (by kernel_rfl) rfl rfl ?_
                        refine DJ.skip 25 rfl (by kernel_rfl) (by kernel_rfl) (by kernel_rfl) rfl rfl ?_
                        refine DJ.skip 26 rfl (by kernel_rfl) (by kernel_rfl) (by kernel_rfl) rfl rfl ?_
                        refine DJ.yd 27 rfl (by kernel_rfl) (by kernel_rfl) (by kernel_rfl) rfl rfl (Yd.pickFB rfl rfl) ?_
                        refine DJ.yd 28 rfl (by kernel_rfl) (by kernel_rfl) (by kernel_rfl) rfl rfl (Yd.pickFB rfl rfl) ?_
                        refine DJ.done (by kernel_rfl) ?_
                        refine CJ.condF rfl ?_
                        refine CJ.skip ?_
                        refine CJ.region ?_
                        refine LJ.yd rfl (Yd.mvI rfl) ?_
                        refine LJ.yd rfl (Yd.add rfl rfl (by unfold I64; omega)) ?_
                        refine LJ.yd rfl (Yd.asI rfl) ?_
                        refine LJ.nil ?_
                        refine ⟨(k + 1), ?_, ⟨rfl, rfl, rfl, rfl, trivial⟩, ⟨rfl, trivial⟩, Ent.pick [0] [1, 2] rfl, ?_⟩
                        · omega
                        · first | omega | (dsimp only; omega) | (simp only []; omega)
                  · refine DO.alloc ([_, _, _, _] : List Value) rfl rfl rfl rfl (fun b9 => ?_)
                    refine DJ.one (i := 8) (by kernel_rfl) ?_
                    refine DO.call0 rfl rfl rfl (fun k0 hk0 dk0 k hk dk => FirstClearI_ok (p := u73.p) (RdRow.up (hx9 u73 (List.mem_of_getElem? hu73)))) ?_
                    rintro _ _ ⟨r90, rfl, rfl⟩
                    refine DJ.yd 9 rfl (by kernel_rfl) (by kernel_rfl) (by kernel_rfl) rfl rfl (Yd.mvU rfl) ?_
                    refine DJ.yd 10 rfl (by kernel_rfl) (by kernel_rfl) (by kernel_rfl) rfl rfl (Yd.extract rfl rfl) ?_
                    refine DJ.split 11 rfl (by kernel_rfl) (by kernel_rfl) (by kernel_rfl) rfl rfl (Yd.extract rfl rfl) (fun h92 => ?_) (fun h92 => ?_)
                    · refine DJ.one (i := 13) (by kernel_rfl) ?_
                      refine DO.store (v := .agg #[_, _, _, _]) (us := [_, _, _, _]) 0 rfl rfl rfl rfl rfl rfl rfl rfl rfl rfl ?_
                      refine DJ.yd 14 rfl (by kernel_rfl) (by kernel_rfl) (by kernel_rfl) rfl rfl (Yd.asB rfl) ?_
                      refine DJ.done (by kernel_rfl) ?_
                      refine CJ.seq ?_
                      refine CJ.region ?_
                      refine LJ.yd rfl (Yd.mvB rfl) ?_
                      refine LJ.yd rfl (Yd.mvB rfl) ?_
                      refine LJ.gT rfl ?_
                      refine LJ.yd rfl (Yd.mvB rfl) ?_
                      refine LJ.gT rfl ?_
                      refine LJ.yd rfl (Yd.mvB rfl) ?_
                      refine LJ.gT rfl ?_
                      refine LJ.yd rfl (Yd.fieldAddr rfl) ?_
                      refine LJ.gT rfl ?_
                      refine LJ.split rfl (Yd.loadC 0 rfl rfl rfl) (fun h98 => ?_) (fun h98 => ?_)
                      · refine LJ.gT rfl ?_
                        refine LJ.yd rfl (Yd.pickTB rfl rfl) ?_
                        refine LJ.yd rfl (Yd.pickFB rfl rfl) ?_
                        refine LJ.yd rfl (Yd.asB rfl) ?_
                        refine LJ.nil ?_
                        refine CJ.seq ?_
                        have hpm : u73.p ∈ psX X := List.mem_map_of_mem (List.mem_of_getElem? hu73)
                        have hA : ¬ (u73.p.l = fpR (psX X) ⟨pW, pH, pT, pK⟩ ∧ ccB u73.p ⟨pW, pH, pT, pK⟩ = false) := fun ⟨h1, h2⟩ => by
                          have := huq u73.p hpm u0.p hp0 (by omega)
                          rw [this, hcc0] at h2; cases h2
                        have hB : ¬ (ccB u73.p ⟨pW, pH, pT, pK⟩ = true ∧ u73.p.w * u73.p.h < sz) := fun ⟨h1, h2⟩ => by
                          have := hmin u73.p hpm h1
                          omega
                        have har3 := area_b (hall _ hpm).1
                        refine CJ.regionD [0, 1, 2] [] (by kernel_rfl) rfl ?_
                        refine DJ.norm [_, _, _] [] rfl rfl ?_
                        refine DJ.yd 0 rfl (by kernel_rfl) (by kernel_rfl) (by kernel_rfl) rfl rfl (Yd.mvS rfl) ?_
                        refine DJ.yd 1 rfl (by kernel_rfl) (by kernel_rfl) (by kernel_rfl) rfl rfl (Yd.mvI rfl) ?_
                        refine DJ.idxA 2 rfl (by kernel_rfl) (by kernel_rfl) (by kernel_rfl) rfl rfl hlx rfl rfl (by omega) (by first | rfl | omega | (simp; done) | (simp; omega) | (simp [upN_len]; omega) | (simp [idxBy_len]; omega) | (simp [marks_len]; omega) | (simp [upN_len]; done) | (simp [idxBy_len]; done) | (simp [marks_len]; done) | (simp at *; omega)) (fun ib103 io103 ia103 ir103 => ?_)
                        refine DJ.yd 3 rfl (by kernel_rfl) (by kernel_rfl) (by kernel_rfl) rfl rfl (Yd.fieldAddr rfl) ?_
                        refine DJ.ldA 4 rfl (by kernel_rfl) (by kernel_rfl) (by kernel_rfl) rfl rfl 0 (fun u => vI u.p.l) (fun _ => rfl) ir103 rfl rfl (by first | rfl | omega | (simp; done) | (simp; omega) | (simp [upN_len]; omega) | (simp [idxBy_len]; omega) | (simp [marks_len]; omega) | (simp [upN_len]; done) | (simp [idxBy_len]; done) | (simp [marks_len]; done) | (simp at *; omega)) (fun u105 hu105 => ?_)
                        try simp only [Int.toNat_natCast] at hu105
                        obtain rfl : u73 = u105 := by rw [hu73] at hu105; exact Option.some.inj hu105
                        refine DJ.yd 5 rfl (by kernel_rfl) (by kernel_rfl) (by kernel_rfl) rfl rfl (Yd.mvI rfl) ?_
                        refine DJ.splitD 6 rfl (by kernel_rfl) (by kernel_rfl) (by kernel_rfl) rfl rfl (Yd.eql rfl rfl) (fun h107 => ?_) (fun h107 => ?_)
                        · refine DJ.yd 7 rfl (by kernel_rfl) (by kernel_rfl) (by kernel_rfl) rfl rfl (Yd.mvB rfl) ?_
                          refine DJ.yd 8 rfl (by kernel_rfl) (by kernel_rfl) (by kernel_rfl) rfl rfl (Yd.mvB rfl) ?_
                          refine DJ.yd 9 rfl (by kernel_rfl) (by kernel_rfl) (by kernel_rfl) rfl rfl (Yd.not rfl) ?_
                          refine DJ.yd 10 rfl (by kernel_rfl) (by kernel_rfl) (by kernel_rfl) rfl rfl (Yd.pickTB rfl rfl) ?_
                          refine DJ.yd 11 rfl (by kernel_rfl) (by kernel_rfl) (by kernel_rfl) rfl rfl (Yd.mvB rfl) ?_
                          refine DJ.yd 12 rfl (by kernel_rfl) (by kernel_rfl) (by kernel_rfl) rfl rfl (Yd.mvB rfl) ?_
                          refine DJ.yd 13 rfl (by kernel_rfl) (by kernel_rfl) (by kernel_rfl) rfl rfl (Yd.mvB rfl) ?_
                          refine DJ.yd 14 rfl (by kernel_rfl) (by kernel_rfl) (by kernel_rfl) rfl rfl (Yd.mvS rfl) ?_
                          refine DJ.yd 15 rfl (by kernel_rfl) (by kernel_rfl) (by kernel_rfl) rfl rfl (Yd.mvI rfl) ?_
                          refine DJ.idxA 16 rfl (by kernel_rfl) (by kernel_rfl) (by kernel_rfl) rfl rfl hlx rfl rfl (by omega) (by first | rfl | omega | (simp; done) | (simp; omega) | (simp [upN_len]; omega) | (simp [idxBy_len]; omega) | (simp [marks_len]; omega) | (simp [upN_len]; done) | (simp [idxBy_len]; done) | (simp [marks_len]; done) | (simp at *; omega)) (fun ib117 io117 ia117 ir117 => ?_)
                          refine DJ.yd 17 rfl (by kernel_rfl) (by kernel_rfl) (by kernel_rfl) rfl rfl (Yd.fieldAddr rfl) ?_
                          refine DJ.ldA 18 rfl (by kernel_rfl) (by kernel_rfl) (by kernel_rfl) rfl rfl 1 (fun u => vI u.p.w) (fun _ => rfl) ir117 rfl rfl (by first | rfl | omega | (simp; done) | (simp; omega) | (simp [upN_len]; omega) | (simp [idxBy_len]; omega) | (simp [marks_len]; omega) | (simp [upN_len]; done) | (simp [idxBy_len]; done) | (simp [marks_len]; done) | (simp at *; omega)) (fun u119 hu119 => ?_)
                          try simp only [Int.toNat_natCast] at hu119
                          obtain rfl : u73 = u119 := by rw [hu73] at hu119; exact Option.some.inj hu119
                          refine DJ.yd 19 rfl (by kernel_rfl) (by kernel_rfl) (by kernel_rfl) rfl rfl (Yd.mvS rfl) ?_
                          refine DJ.yd 20 rfl (by kernel_rfl) (by kernel_rfl) (by kernel_rfl) rfl rfl (Yd.mvI rfl) ?_
                          refine DJ.idxA 21 rfl (by kernel_rfl) (by kernel_rfl) (by kernel_rfl) rfl rfl hlx rfl rfl (by omega) (by first | rfl | omega | (simp; done) | (simp; omega) | (simp [upN_len]; omega) | (simp [idxBy_len]; omega) | (simp [marks_len]; omega) | (simp [upN_len]; done) | (simp [idxBy_len]; done) | (simp [marks_len]; done) | (simp at *; omega)) (fun ib122 io122 ia122 ir122 => ?_)
                          refine DJ.yd 22 rfl (by kernel_rfl) (by kernel_rfl) (by kernel_rfl) rfl rfl (Yd.fieldAddr rfl) ?_
                          refine DJ.ldA 23 rfl (by kernel_rfl) (by kernel_rfl) (by kernel_rfl) rfl rfl 2 (fun u => vI u.p.h) (fun _ => rfl) ir122 rfl rfl (by first | rfl | omega | (simp; done) | (simp; omega) | (simp [upN_len]; omega) | (simp [idxBy_len]; omega) | (simp [marks_len]; omega) | (simp [upN_len]; done) | (simp [idxBy_len]; done) | (simp [marks_len]; done) | (simp at *; omega)) (fun u124 hu124 => ?_)
                          try simp only [Int.toNat_natCast] at hu124
                          obtain rfl : u73 = u124 := by rw [hu73] at hu124; exact Option.some.inj hu124
                          refine DJ.yd 24 rfl (by kernel_rfl) (by kernel_rfl) (by kernel_rfl) rfl rfl (Yd.mul rfl rfl (by unfold I64; omega)) ?_
                          refine DJ.yd 25 rfl (by kernel_rfl) (by kernel_rfl) (by kernel_rfl) rfl rfl (Yd.mvI rfl) ?_
                          refine DJ.splitD 26 rfl (by kernel_rfl) (by kernel_rfl) (by kernel_rfl) rfl rfl (Yd.lss rfl rfl) (fun h127 => ?_) (fun h127 => ?_)
                          · refine DJ.yd 27 rfl (by kernel_rfl) (by kernel_rfl) (by kernel_rfl) rfl rfl (Yd.pickTB rfl rfl) ?_
                            refine DJ.yd 28 rfl (by kernel_rfl) (by kernel_rfl) (by kernel_rfl) rfl rfl (Yd.pickFB rfl rfl) ?_
                            refine DJ.done (by kernel_rfl) ?_
                            refine CJ.condT rfl ?_
                            refine CJ.seq ?_
                            refine CJ.region ?_
                            refine LJ.yd rfl (Yd.asB rfl) ?_
                            refine LJ.nil ?_
                            refine CJ.ret ?_
                            refine Fin.V (Res.one (ResV.tmp (v := .bool false) rfl)) ?_
                            first
                              | rfl
                              | (exfalso; refine hA ⟨by assumption, ?_⟩; simp [ccB, *]; done)
                              | (exfalso; refine hB ⟨?_, by assumption⟩; simp [ccB, *]; done)
                          · refine DJ.yd 27 rfl (by kernel_rfl) (by kernel_rfl) (by kernel_rfl) rfl rfl (Yd.pickTB rfl rfl) ?_
                            refine DJ.yd 28 rfl (by kernel_rfl) (by kernel_rfl) (by kernel_rfl) rfl rfl (Yd.pickFB rfl rfl) ?_
                            refine DJ.done (by kernel_rfl) ?_
                            refine CJ.condF rfl ?_
                            refine CJ.skip ?_
                            refine CJ.region ?_
                            refine LJ.yd rfl (Yd.mvI rfl) ?_
                            refine LJ.yd rfl (Yd.add rfl rfl (by unfold I64; omega)) ?_
                            refine LJ.yd rfl (Yd.asI rfl) ?_
                            refine LJ.nil ?_
                            refine ⟨(k + 1), ?_, ⟨rfl, rfl, rfl, rfl, trivial⟩, ⟨rfl, trivial⟩, Ent.pick [0] [1, 2] rfl, ?_⟩
                            · omega
                            · first | omega | (dsimp only; omega) | (simp only []; omega)
                        · refine DJ.yd 7 rfl (by kernel_rfl) (by kernel_rfl) (by kernel_rfl) rfl rfl (Yd.mvB rfl) ?_
                          refine DJ.skip 8 rfl (by kernel_rfl) (by kernel_rfl) (by kernel_rfl) rfl rfl ?_
                          refine DJ.skip 9 rfl (by kernel_rfl) (by kernel_rfl) (by kernel_rfl) rfl rfl ?_
                          refine DJ.yd 10 rfl (by kernel_rfl) (by kernel_rfl) (by kernel_rfl) rfl rfl (Yd.pickFB rfl rfl) ?_
                          refine DJ.yd 11 rfl (by kernel_rfl) (by kernel_rfl) (by kernel_rfl) rfl rfl (Yd.mvB rfl) ?_
                          refine DJ.yd 12 rfl (by kernel_rfl) (by kernel_rfl) (by kernel_rfl) rfl rfl (Yd.mvB rfl) ?_
                          refine DJ.yd 13 rfl (by kernel_rfl) (by kernel_rfl) (by kernel_rfl) rfl rfl (Yd.mvB rfl) ?_
                          refine DJ.yd 14 rfl (by kernel_rfl) (by kernel_rfl) (by kernel_rfl) rfl rfl (Yd.mvS rfl) ?_
                          refine DJ.yd 15 rfl (by kernel_rfl) (by kernel_rfl) (by kernel_rfl) rfl rfl (Yd.mvI rfl) ?_
                          refine DJ.idxA 16 rfl (by kernel_rfl) (by kernel_rfl) (by kernel_rfl) rfl rfl hlx rfl rfl (by omega) (by first | rfl | omega | (simp; done) | (simp; omega) | (simp [upN_len]; omega) | (simp [idxBy_len]; omega) | (simp [marks_len]; omega) | (simp [upN_len]; done) | (simp [idxBy_len]; done) | (simp [marks_len]; done) | (simp at *; omega)) (fun ib117 io117 ia117 ir117 => ?_)
                          refine DJ.yd 17 rfl (by kernel_rfl) (by kernel_rfl) (by kernel_rfl) rfl rfl (Yd.fieldAddr rfl) ?_
                          refine DJ.ldA 18 rfl (by kernel_rfl) (by kernel_rfl) (by kernel_rfl) rfl rfl 1 (fun u => vI u.p.w) (fun _ => rfl) ir117 rfl rfl (by first | rfl | omega | (simp; done) | (simp; omega) | (simp [upN_len]; omega) | (simp [idxBy_len]; omega) | (simp [marks_len]; omega) | (simp [upN_len]; done) | (simp [idxBy_len]; done) | (simp [marks_len]; done) | (simp at *; omega)) (fun u119 hu119 => ?_)
                          try simp only [Int.toNat_natCast] at hu119
                          obtain rfl : u73 = u119 := by rw [hu73] at hu119; exact Option.some.inj hu119
                          refine DJ.yd 19 rfl (by kernel_rfl) (by kernel_rfl) (by kernel_rfl) rfl rfl (Yd.mvS rfl) ?_
                          refine DJ.yd 20 rfl (by kernel_rfl) (by kernel_rfl) (by kernel_rfl) rfl rfl (Yd.mvI rfl) ?_
                          refine DJ.idxA 21 rfl (by kernel_rfl) (by kernel_rfl) (by kernel_rfl) rfl rfl hlx rfl rfl (by omega) (by first | rfl | omega | (simp; done) | (simp; omega) | (simp [upN_len]; omega) | (simp [idxBy_len]; omega) | (simp [marks_len]; omega) | (simp [upN_len]; done) | (simp [idxBy_len]; done) | (simp [marks_len]; done) | (simp at *; omega)) (fun ib122 io122 ia122 ir122 => ?_)
                          refine DJ.yd 22 rfl (by kernel_rfl) (by kernel_rfl) (by kernel_rfl) rfl rfl (Yd.fieldAddr rfl) ?_
                          refine DJ.ldA 23 rfl (by kernel_rfl) (by kernel_rfl) (by kernel_rfl) rfl rfl 2 (fun u => vI u.p.h) (fun _ => rfl) ir122 rfl rfl (by first | rfl | omega | (simp; done) | (simp; omega) | (simp [upN_len]; omega) | (simp [idxBy_len]; omega) | (simp [marks_len]; omega) | (simp [upN_len]; done) | (simp [idxBy_len]; done) | (simp [marks_len]; done) | (simp at *; omega)) (fun u124 hu124 => ?_)
                          try simp only [Int.toNat_natCast] at hu124
                          obtain rfl : u73 = u124 := by rw [hu73] at hu124; exact Option.some.inj hu124
                          refine DJ.yd 24 rfl (by kernel_rfl) (by kernel_rfl) (by kernel_rfl) rfl rfl (Yd.mul rfl rfl (by unfold I64; omega)) ?_
                          refine DJ.yd 25 rfl (by kernel_rfl) (by kernel_rfl) (by kernel_rfl) rfl rfl (Yd.mvI rfl) ?_
                          refine DJ.splitD 26 rfl (by kernel_rfl) (by kernel_rfl) (by kernel_rfl) rfl rfl (Yd.lss rfl rfl) (fun h127 => ?_) (fun h127 => ?_)
                          · refine DJ.yd 27 rfl (by kernel_rfl) (by kernel_rfl) (by kernel_rfl) rfl rfl (Yd.pickTB rfl rfl) ?_
                            refine DJ.yd 28 rfl (by kernel_rfl) (by kernel_rfl) (by kernel_rfl) rfl rfl (Yd.pickFB rfl rfl) ?_
                            refine DJ.done (by kernel_rfl) ?_
                            refine CJ.condT rfl ?_
                            refine CJ.seq ?_
                            refine CJ.region ?_
                            refine LJ.yd rfl (Yd.asB rfl) ?_
                            refine LJ.nil ?_
                            refine CJ.ret ?_
                            refine Fin.V (Res.one (ResV.tmp (v := .bool false) rfl)) ?_
                            first
                              | rfl
                              | (exfalso; refine hA ⟨by assumption, ?_⟩; simp [ccB, *]; done)
                              | (exfalso; refine hB ⟨?_, by assumption⟩; simp [ccB, *]; done)
                          · refine DJ.yd 27 rfl (by kernel_rfl) (by kernel_rfl) (by kernel_rfl) rfl rfl (Yd.pickTB rfl rfl) ?_
                            refine DJ.yd 28 rfl (by kernel_rfl) (by kernel_rfl) (by kernel_rfl) rfl rfl (Yd.pickFB rfl rfl) ?_
                            refine DJ.done (by kernel_rfl) ?_
                            refine CJ.condF rfl ?_
                            refine CJ.skip ?_
                            refine CJ.region ?_
                            refine LJ.yd rfl (Yd.mvI rfl) ?_
                            refine LJ.yd rfl (Yd.add rfl rfl (by unfold I64; omega)) ?_
                            refine LJ.yd rfl (Yd.asI rfl) ?_
                            refine LJ.nil ?_
                            refine ⟨(k + 1), ?_, ⟨rfl, rfl, rfl, rfl, trivial⟩, ⟨rfl, trivial⟩, Ent.pick [0] [1, 2] rfl, ?_⟩
                            · omega
                            · first | omega | (dsimp only; omega) | (simp only []; omega)
                      · refine LJ.gT rfl ?_
                        refine LJ.yd rfl (Yd.pickTB rfl rfl) ?_
                        refine LJ.yd rfl (Yd.pickFB rfl rfl) ?_
                        refine LJ.yd rfl (Yd.asB rfl) ?_
                        refine LJ.nil ?_
                        refine CJ.seq ?_
                        have hpm : u73.p ∈ psX X := List.mem_map_of_mem (List.mem_of_getElem? hu73)
                        have hA : ¬ (u73.p.l = fpR (psX X) ⟨pW, pH, pT, pK⟩ ∧ ccB u73.p ⟨pW, pH, pT, pK⟩ = false) := fun ⟨h1, h2⟩ => by
                          have := huq u73.p hpm u0.p hp0 (by omega)
                          rw [this, hcc0] at h2; cases h2
                        have hB : ¬ (ccB u73.p ⟨pW, pH, pT, pK⟩ = true ∧ u73.p.w * u73.p.h < sz) := fun ⟨h1, h2⟩ => by
                          have := hmin u73.p hpm h1
                          omega
                        have har3 := area_b (hall _ hpm).1
                        refine CJ.regionD [0, 1, 2] [] (by kernel_rfl) rfl ?_
                        refine DJ.norm [_, _, _] [] rfl rfl ?_
                        refine DJ.yd 0 rfl (by kernel_rfl) (by kernel_rfl) (by kernel_rfl) rfl rfl (Yd.mvS rfl) ?_
                        refine DJ.yd 1 rfl (by kernel_rfl) (by kernel_rfl) (by kernel_rfl) rfl rfl (Yd.mvI rfl) ?_
                        refine DJ.idxA 2 rfl (by kernel_rfl) (by kernel_rfl) (by kernel_rfl) rfl rfl hlx rfl rfl (by omega) (by first | rfl | omega | (simp; done) | (simp; omega) | (simp [upN_len]; omega) | (simp [idxBy_len]; omega) | (simp [marks_len]; omega) | (simp [upN_len]; done) | (simp [idxBy_len]; done) | (simp [marks_len]; done) | (simp at *; omega)) (fun ib103 io103 ia103 ir103 => ?_)
                        refine DJ.yd 3 rfl (by kernel_rfl) (by kernel_rfl) (by kernel_rfl) rfl rfl (Yd.fieldAddr rfl) ?_
                        refine DJ.ldA 4 rfl (by kernel_rfl) (by kernel_rfl) (by kernel_rfl) rfl rfl 0 (fun u => vI u.p.l) (fun _ => rfl) ir103 rfl rfl (by first | rfl | omega | (simp; done) | (simp; omega) | (simp [upN_len]; omega) | (simp [idxBy_len]; omega) | (simp [marks_len]; omega) | (simp [upN_len]; done) | (simp [idxBy_len]; done) | (simp [marks_len]; done) | (simp at *; omega)) (fun u105 hu105 => ?_)
                        try simp only [Int.toNat_natCast] at hu105
                        obtain rfl : u73 = u105 := by rw [hu73] at hu105; exact Option.some.inj hu105
                        refine DJ.yd 5 rfl (by kernel_rfl) (by kernel_rfl) (by kernel_rfl) rfl rfl (Yd.mvI rfl) ?_
                        refine DJ.splitD 6 rfl (by kernel_rfl) (by kernel_rfl) (by kernel_rfl) rfl rfl (Yd.eql rfl rfl) (fun h107 => ?_) (fun h107 => ?_)
                        · refine DJ.yd 7 rfl (by kernel_rfl) (by kernel_rfl) (by kernel_rfl) rfl rfl (Yd.mvB rfl) ?_
                          refine DJ.yd 8 rfl (by kernel_rfl) (by kernel_rfl) (by kernel_rfl) rfl rfl (Yd.mvB rfl) ?_
                          refine DJ.yd 9 rfl (by kernel_rfl) (by kernel_rfl) (by kernel_rfl) rfl rfl (Yd.not rfl) ?_
                          refine DJ.yd 10 rfl (by kernel_rfl) (by kernel_rfl) (by kernel_rfl) rfl rfl (Yd.pickTB rfl rfl) ?_
                          refine DJ.yd 11 rfl (by kernel_rfl) (by kernel_rfl) (by kernel_rfl) rfl rfl (Yd.mvB rfl) ?_
                          refine DJ.skip 12 rfl (by kernel_rfl) (by kernel_rfl) (by kernel_rfl) rfl rfl ?_
                          refine DJ.skip 13 rfl (by kernel_rfl) (by kernel_rfl) (by kernel_rfl) rfl rfl ?_
                          refine DJ.skip 14 rfl (by kernel_rfl) (by kernel_rfl) (by kernel_rfl) rfl rfl ?_
                          refine DJ.skip 15 rfl (by kernel_rfl) (by kernel_rfl) (by kernel_rfl) rfl rfl ?_
                          refine DJ.skip 16 rfl (by kernel_rfl) (by kernel_rfl) (by kernel_rfl) rfl rfl ?_
                          refine DJ.skip 17 rfl (by kernel_rfl) (by kernel_rfl) (by kernel_rfl) rfl rfl ?_
                          refine DJ.skip 18 rfl (by kernel_rfl) (by kernel_rfl) (by kernel_rfl) rfl rfl ?_
                          refine DJ.skip 19 rfl (by kernel_rfl) (by kernel_rfl) (by kernel_rfl) rfl rfl ?_
                          refine DJ.skip 20 rfl (by kernel_rfl) (by kernel_rfl) (by kernel_rfl) rfl rfl ?_
                          refine DJ.skip 21 rfl (by kernel_rfl) (by kernel_rfl) (by kernel_rfl) rfl rfl ?_
                          refine DJ.skip 22 rfl (by kernel_rfl) (by kernel_rfl) (by kernel_rfl) rfl rfl ?_
                          refine DJ.skip 23 rfl (by kernel_rfl) (by kernel_rfl) (by kernel_rfl) rfl rfl ?_
                          refine DJ.skip 24 rfl (by kernel_rfl) (by kernel_rfl) (by kernel_rfl) rfl rfl ?_
                          refine DJ.skip 25 rfl (by kernel_rfl) (by kernel_rfl) (by kernel_rfl) rfl rfl ?_
                          refine DJ.skip 26 rfl (by kernel_rfl) (by kernel_rfl) (by kernel_rfl) rfl rfl ?_
                          refine DJ.skip 27 rfl (by kernel_rfl) (by kernel_rfl) (by kernel_rfl) rfl rfl ?_
                          refine DJ.yd 28 rfl (by kernel_rfl) (by kernel_rfl) (by kernel_rfl) rfl rfl (Yd.pickTB rfl rfl) ?_
                          refine DJ.done (by kernel_rfl) ?_
                          refine CJ.condT rfl ?_
                          refine CJ.seq ?_
                          refine CJ.region ?_
                          refine LJ.yd rfl (Yd.asB rfl) ?_
                          refine LJ.nil ?_
                          refine CJ.ret ?_
                          refine Fin.V (Res.one (ResV.tmp (v := .bool false) rfl)) ?_
                          first
                            | rfl
                            | (exfalso; refine hA ⟨by assumption, ?_⟩; simp [ccB, *]; done)
                            | (exfalso; refine hB ⟨?_, by assumption⟩; simp [ccB, *]; done)
                        · refine DJ.yd 7 rfl (by kernel_rfl) (by kernel_rfl) (by kernel_rfl) rfl rfl (Yd.mvB rfl) ?_
                          refine DJ.skip 8 rfl (by kernel_rfl) (by kernel_rfl) (by kernel_rfl) rfl rfl ?_
                          refine DJ.skip 9 rfl (by kernel_rfl) (by kernel_rfl) (by kernel_rfl) rfl rfl ?_
                          refine DJ.yd 10 rfl (by kernel_rfl) (by kernel_rfl) (by kernel_rfl) rfl rfl (Yd.pickFB rfl rfl) ?_
                          refine DJ.yd 11 rfl (by kernel_rfl) (by kernel_rfl) (by kernel_rfl) rfl rfl (Yd.mvB rfl) ?_
                          refine DJ.yd 12 rfl (by kernel_rfl) (by kernel_rfl) (by kernel_rfl) rfl rfl (Yd.mvB rfl) ?_
                          refine DJ.yd 13 rfl (by kernel_rfl) (by kernel_rfl) (by kernel_rfl) rfl rfl (Yd.mvB rfl) ?_
                          refine DJ.skip 14 rfl (by kernel_rfl) (by kernel_rfl) (by kernel_rfl) rfl rfl ?_
                          refine DJ.skip 15 rfl (by kernel_rfl) (by kernel_rfl) (by kernel_rfl) rfl rfl ?_
                          refine DJ.skip 16 rfl (by kernel_rfl) (by kernel_rfl) (by kernel_rfl) rfl rfl ?_
                          refine DJ.skip 17 rfl (by kernel_rfl) (by kernel_rfl) (by kernel_rfl) rfl rfl ?_
                          refine DJ.skip 18 rfl (by kernel_rfl) (by kernel_rfl) (by kernel_rfl) rfl rfl ?_
                          refine DJ.skip 19 rfl (by kernel_rfl) (by kernel_rfl) (by kernel_rfl) rfl rfl ?_
                          refine DJ.skip 20 rfl (by kernel_rfl) (by kernel_rfl) (by kernel_rfl) rfl rfl ?_
                          refine DJ.skip 21 rfl (by kernel_rfl) (by kernel_rfl) (by kernel_rfl) rfl rfl ?_
                          refine DJ.skip 22 rfl (by kernel_rfl) (by kernel_rfl) (by kernel_rfl) rfl rfl ?_
                          refine DJ.skip 23 rfl (by kernel_rfl) (by kernel_rfl) (by kernel_rfl) rfl rfl ?_
                          refine DJ.skip 24 rfl (by kernel_rfl) (by kernel_rfl) (by kernel_rfl) rfl rfl ?_
                          refine DJ.skip 25 rfl (by kernel_rfl) (by kernel_rfl) (by kernel_rfl) rfl rfl ?_
                          refine DJ.skip 26 rfl (by kernel_rfl) (by kernel_rfl) (by kernel_rfl) rfl rfl ?_
                          refine DJ.yd 27 rfl (by kernel_rfl) (by kernel_rfl) (by kernel_rfl) rfl rfl (Yd.pickFB rfl rfl) ?_
                          refine DJ.yd 28 rfl (by kernel_rfl) (by kernel_rfl) (by kernel_rfl) rfl rfl (Yd.pickFB rfl rfl) ?_
                          refine DJ.done (by kernel_rfl) ?_
                          refine CJ.condF rfl ?_
                          refine CJ.skip ?_
                          refine CJ.region ?_
                          refine LJ.yd rfl (Yd.mvI rfl) ?_
                          refine LJ.yd rfl (Yd.add rfl rfl (by unfold I64; omega)) ?_
                          refine LJ.yd rfl (Yd.asI rfl) ?_
                          refine LJ.nil ?_
                          refine ⟨(k + 1), ?_, ⟨rfl, rfl, rfl, rfl, trivial⟩, ⟨rfl, trivial⟩, Ent.pick [0] [1, 2] rfl, ?_⟩
                          · omega
                          · first | omega | (dsimp only; omega) | (simp only []; omega)
                    · refine DJ.one (i := 13) (by kernel_rfl) ?_
                      refine DO.store (v := .agg #[_, _, _, _]) (us := [_, _, _, _]) 0 rfl rfl rfl rfl rfl rfl rfl rfl rfl rfl ?_
                      refine DJ.yd 14 rfl (by kernel_rfl) (by kernel_rfl) (by kernel_rfl) rfl rfl (Yd.asB rfl) ?_
                      refine DJ.done (by kernel_rfl) ?_
                      refine CJ.seq ?_
                      refine CJ.region ?_
                      refine LJ.yd rfl (Yd.mvB rfl) ?_
                      refine LJ.yd rfl (Yd.mvB rfl) ?_
                      refine LJ.gT rfl ?_
                      refine LJ.yd rfl (Yd.mvB rfl) ?_
                      refine LJ.gT rfl ?_
                      refine LJ.yd rfl (Yd.mvB rfl) ?_
                      refine LJ.gF rfl rfl ?_
                      refine LJ.gF rfl rfl ?_
                      refine LJ.gT rfl ?_
                      refine LJ.yd rfl (Yd.pickFB rfl rfl) ?_
                      refine LJ.yd rfl (Yd.pickFB rfl rfl) ?_
                      refine LJ.yd rfl (Yd.asB rfl) ?_
                      refine LJ.nil ?_
                      refine CJ.seq ?_
                      have hpm : u73.p ∈ psX X := List.mem_map_of_mem (List.mem_of_getElem? hu73)
                      have hA : ¬ (u73.p.l = fpR (psX X) ⟨pW, pH, pT, pK⟩ ∧ ccB u73.p ⟨pW, pH, pT, pK⟩ = false) := fun ⟨h1, h2⟩ => by
                        have := huq u73.p hpm u0.p hp0 (by omega)
                        rw [this, hcc0] at h2; cases h2
                      have hB : ¬ (ccB u73.p ⟨pW, pH, pT, pK⟩ = true ∧ u73.p.w * u73.p.h < sz) := fun ⟨h1, h2⟩ => by
                        have := hmin u73.p hpm h1
                        omega
                      have har3 := area_b (hall _ hpm).1
                      refine CJ.regionD [0, 1, 2] [] (by kernel_rfl) rfl ?_
                      refine DJ.norm [_, _, _] [] rfl rfl ?_
                      refine DJ.yd 0 rfl (by kernel_rfl) (by kernel_rfl) (by kernel_rfl) rfl rfl (Yd.mvS rfl) ?_
                      refine DJ.yd 1 rfl (by kernel_rfl) (by kernel_rfl) (by kernel_rfl) rfl rfl (Yd.mvI rfl) ?_
                      refine DJ.idxA 2 rfl (by kernel_rfl) (by kernel_rfl) (by kernel_rfl) rfl rfl hlx rfl rfl (by omega) (by first | rfl | omega | (simp; done) | (simp; omega) | (simp [upN_len]; omega) | (simp [idxBy_len]; omega) | (simp [marks_len]; omega) | (simp [upN_len]; done) | (simp [idxBy_len]; done) | (simp [marks_len]; done) | (simp at *; omega)) (fun ib103 io103 ia103 ir103 => ?_)
                      refine DJ.yd 3 rfl (by kernel_rfl) (by kernel_rfl) (by kernel_rfl) rfl rfl (Yd.fieldAddr rfl) ?_
                      refine DJ.ldA 4 rfl (by kernel_rfl) (by kernel_rfl) (by kernel_rfl) rfl rfl 0 (fun u => vI u.p.l) (fun _ => rfl) ir103 rfl rfl (by first | rfl | omega | (simp; done) | (simp; omega) | (simp [upN_len]; omega) | (simp [idxBy_len]; omega) | (simp [marks_len]; omega) | (simp [upN_len]; done) | (simp [idxBy_len]; done) | (simp [marks_len]; done) | (simp at *; omega)) (fun u105 hu105 => ?_)
                      try simp only [Int.toNat_natCast] at hu105
                      obtain rfl : u73 = u105 := by rw [hu73] at hu105; exact Option.some.inj hu105
                      refine DJ.yd 5 rfl (by kernel_rfl) (by kernel_rfl) (by kernel_rfl) rfl rfl (Yd.mvI rfl) ?_
                      refine DJ.splitD 6 rfl (by kernel_rfl) (by kernel_rfl) (by kernel_rfl) rfl rfl (Yd.eql rfl rfl) (fun h107 => ?_) (fun h107 => ?_)
                      · refine DJ.yd 7 rfl (by kernel_rfl) (by kernel_rfl) (by kernel_rfl) rfl rfl (Yd.mvB rfl) ?_
                        refine DJ.yd 8 rfl (by kernel_rfl) (by kernel_rfl) (by kernel_rfl) rfl rfl (Yd.mvB rfl) ?_
                        refine DJ.yd 9 rfl (by kernel_rfl) (by kernel_rfl) (by kernel_rfl) rfl rfl (Yd.not rfl) ?_
                        refine DJ.yd 10 rfl (by kernel_rfl) (by kernel_rfl) (by kernel_rfl) rfl rfl (Yd.pickTB rfl rfl) ?_
                        refine DJ.yd 11 rfl (by kernel_rfl) (by kernel_rfl) (by kernel_rfl) rfl rfl (Yd.mvB rfl) ?_
                        refine DJ.skip 12 rfl (by kernel_rfl) (by kernel_rfl) (by kernel_rfl) rfl rfl ?_
                        refine DJ.skip 13 rfl (by kernel_rfl) (by kernel_rfl) (by kernel_rfl) rfl rfl ?_
                        refine DJ.skip 14 rfl (by kernel_rfl) (by kernel_rfl) (by kernel_rfl) rfl rfl ?_
                        refine DJ.skip 15 rfl (by kernel_rfl) (by kernel_rfl) (by kernel_rfl) rfl rfl ?_
                        refine DJ.skip 16 rfl (by kernel_rfl) (by kernel_rfl) (by kernel_rfl) rfl rfl ?_
                        refine DJ.skip 17 rfl (by kernel_rfl) (by kernel_rfl) (by kernel_rfl) rfl rfl ?_
                        refine DJ.skip 18 rfl (by kernel_rfl) (by kernel_rfl) (by kernel_rfl) rfl rfl ?_
                        refine DJ.skip 19 rfl (by kernel_rfl) (by kernel_rfl) (by kernel_rfl) rfl rfl ?_
                        refine DJ.skip 20 rfl (by kernel_rfl) (by kernel_rfl) (by kernel_rfl) rfl rfl ?_
                        refine DJ.skip 21 rfl (by kernel_rfl) (by kernel_rfl) (by kernel_rfl) rfl rfl ?_
                        refine DJ.skip 22 rfl (by kernel_rfl) (by kernel_rfl) (by kernel_rfl) rfl rfl ?_
                        refine DJ.skip 23 rfl (by kernel_rfl) (by kernel_rfl) (by kernel_rfl) rfl rfl ?_
                        refine DJ.skip 24 rfl (by kernel_rfl) (by kernel_rfl) (by kernel_rfl) rfl rfl ?_
                        refine DJ.skip 25 rfl (by kernel_rfl) (by kernel_rfl) (by kernel_rfl) rfl rfl ?_
                        refine DJ.skip 26 rfl (by kernel_rfl) (by kernel_rfl) (by kernel_rfl) rfl rfl ?_
                        refine DJ.skip 27 rfl (by kernel_rfl) (by kernel_rfl) (by kernel_rfl) rfl rfl ?_
                        refine DJ.yd 28 rfl (by kernel_rfl) (by kernel_rfl) (by kernel_rfl) rfl rfl (Yd.pickTB rfl rfl) ?_
                        refine DJ.done (by kernel_rfl) ?_
                        refine CJ.condT rfl ?_
                        refine CJ.seq ?_
                        refine CJ.region ?_
                        refine LJ.yd rfl (Yd.asB rfl) ?_
                        refine LJ.nil ?_
                        refine CJ.ret ?_
                        refine Fin.V (Res.one (ResV.tmp (v := .bool false) rfl)) ?_
                        first
                          | rfl
                          | (exfalso; refine hA ⟨by assumption, ?_⟩; simp [ccB, *]; done)
                          | (exfalso; refine hB ⟨?_, by assumption⟩; simp [ccB, *]; done)
                      · refine DJ.yd 7 rfl (by kernel_rfl) (by kernel_rfl) (by kernel_rfl) rfl rfl (Yd.mvB rfl) ?_
                        refine DJ.skip 8 rfl (by kernel_rfl) (by kernel_rfl) (by kernel_rfl) rfl rfl ?_
                        refine DJ.skip 9 rfl (by kernel_rfl) (by kernel_rfl) (by kernel_rfl) rfl rfl ?_
                        refine DJ.yd 10 rfl (by kernel_rfl) (by kernel_rfl) (by kernel_rfl) rfl rfl (Yd.pickFB rfl rfl) ?_
                        refine DJ.yd 11 rfl (by kernel_rfl) (by kernel_rfl) (by kernel_rfl) rfl rfl (Yd.mvB rfl) ?_
                        refine DJ.yd 12 rfl (by kernel_rfl) (by kernel_rfl) (by kernel_rfl) rfl rfl (Yd.mvB rfl) ?_
                        refine DJ.yd 13 rfl (by kernel_rfl) (by kernel_rfl) (by kernel_rfl) rfl rfl (Yd.mvB rfl) ?_
                        refine DJ.skip 14 rfl (by kernel_rfl) (by kernel_rfl) (by kernel_rfl) rfl rfl ?_
                        refine DJ.skip 15 rfl (by kernel_rfl) (by kernel_rfl) (by kernel_rfl) rfl rfl ?_
                        refine DJ.skip 16 rfl (by kernel_rfl) (by kernel_rfl) (by kernel_rfl) rfl rfl ?_
                        refine DJ.skip 17 rfl (by kernel_rfl) (by kernel_rfl) (by kernel_rfl) rfl rfl ?_
                        refine DJ.skip 18 rfl (by kernel_rfl) (by kernel_rfl) (by kernel_rfl) rfl rfl ?_
                        refine DJ.skip 19 rfl (by kernel_rfl) (by kernel_rfl) (by kernel_rfl) rfl rfl ?_
                        refine DJ.skip 20 rfl (by kernel_rfl) (by kernel_rfl) (by kernel_rfl) rfl rfl ?_
                        refine DJ.skip 21 rfl (by kernel_rfl) (by kernel_rfl) (by kernel_rfl) rfl rfl ?_
                        refine DJ.skip 22 rfl (by kernel_rfl) (by kernel_rfl) (by kernel_rfl) rfl rfl ?_
                        refine DJ.skip 23 rfl (by kernel_rfl) (by kernel_rfl) (by kernel_rfl) rfl rfl ?_
                        refine DJ.skip 24 rfl (by kernel_rfl) (by kernel_rfl) (by kernel_rfl) rfl rfl ?_
                        refine DJ.skip 25 rfl (by kernel_rfl) (by kernel_rfl) (by kernel_rfl) rfl rfl ?_
                        refine DJ.skip 26 rfl (by kernel_rfl) (by kernel_rfl) (by kernel_rfl) rfl rfl ?_
                        refine DJ.yd 27 rfl (by kernel_rfl) (by kernel_rfl) (by kernel_rfl) rfl rfl (Yd.pickFB rfl rfl) ?_
                        refine DJ.yd 28 rfl (by kernel_rfl) (by kernel_rfl) (by kernel_rfl) rfl rfl (Yd.pickFB rfl rfl) ?_
                        refine DJ.done (by kernel_rfl) ?_
                        refine CJ.condF rfl ?_
                        refine CJ.skip ?_
                        refine CJ.region ?_
                        refine LJ.yd rfl (Yd.mvI rfl) ?_
                        refine LJ.yd rfl (Yd.add rfl rfl (by unfold I64; omega)) ?_
                        refine LJ.yd rfl (Yd.asI rfl) ?_
                        refine LJ.nil ?_
                        refine ⟨(k + 1), ?_, ⟨rfl, rfl, rfl, rfl, trivial⟩, ⟨rfl, trivial⟩, Ent.pick [0] [1, 2] rfl, ?_⟩
                        · omega
                        · first | omega | (dsimp only; omega) | (simp only []; omega)
              · refine DO.alloc ([_, _, _, _] : List Value) rfl rfl rfl rfl (fun b10 => ?_)
                refine DJ.one (i := 8) (by kernel_rfl) ?_
                refine DO.call0 rfl rfl rfl (fun k0 hk0 dk0 k hk dk => FirstClearI_ok (p := u73.p) (RdRow.up (hx9 u73 (List.mem_of_getElem? hu73)))) ?_
                rintro _ _ ⟨r78, rfl, rfl⟩
                refine DJ.yd 9 rfl (by kernel_rfl) (by kernel_rfl) (by kernel_rfl) rfl rfl (Yd.mvU rfl) ?_
                refine DJ.yd 10 rfl (by kernel_rfl) (by kernel_rfl) (by kernel_rfl) rfl rfl (Yd.extract rfl rfl) ?_
                refine DJ.split 11 rfl (by kernel_rfl) (by kernel_rfl) (by kernel_rfl) rfl rfl (Yd.extract rfl rfl) (fun h80 => ?_) (fun h80 => ?_)
                · refine DJ.one (i := 13) (by kernel_rfl) ?_
                  refine DO.store (v := .agg #[_, _, _, _]) (us := [_, _, _, _]) 0 rfl rfl rfl rfl rfl rfl rfl rfl rfl rfl ?_
                  refine DJ.yd 14 rfl (by kernel_rfl) (by kernel_rfl) (by kernel_rfl) rfl rfl (Yd.asB rfl) ?_
                  refine DJ.done (by kernel_rfl) ?_
                  refine CJ.seq ?_
                  refine CJ.regionD [0, 1] [] (by kernel_rfl) rfl ?_
                  refine DJ.norm [_, _] [] rfl rfl ?_
                  refine DJ.yd 0 rfl (by kernel_rfl) (by kernel_rfl) (by kernel_rfl) rfl rfl (Yd.mvS rfl) ?_
                  refine DJ.yd 1 rfl (by kernel_rfl) (by kernel_rfl) (by kernel_rfl) rfl rfl (Yd.mvI rfl) ?_
                  refine DJ.idxA 2 rfl (by kernel_rfl) (by kernel_rfl) (by kernel_rfl) rfl rfl hlx rfl rfl (by omega) (by first | rfl | omega | (simp; done) | (simp; omega) | (simp [upN_len]; omega) | (simp [idxBy_len]; omega) | (simp [marks_len]; omega) | (simp [upN_len]; done) | (simp [idxBy_len]; done) | (simp [marks_len]; done) | (simp at *; omega)) (fun ib84 io84 ia84 ir84 => ?_)
                  refine DJ.lgA 3 rfl (by kernel_rfl) (by kernel_rfl) (by kernel_rfl) rfl rfl (enc := encQ) (fun u => [vI u.p.l, vI u.p.w, vI u.p.h, .slice u.a u.p.fl.length u.c]) (fun _ => rfl) (fun _ => rfl) ir84 rfl rfl (by first | rfl | omega | (simp; done) | (simp; omega) | (simp [upN_len]; omega) | (simp [idxBy_len]; omega) | (simp [marks_len]; omega) | (simp [upN_len]; done) | (simp [idxBy_len]; done) | (simp [marks_len]; done) | (simp at *; omega)) (fun u85 hu85 => ?_)
                  try simp only [Int.toNat_natCast] at hu85
                  obtain rfl : u73 = u85 := by rw [hu73] at hu85; exact Option.some.inj hu85
                  refine DJ.yd 4 rfl (by kernel_rfl) (by kernel_rfl) (by kernel_rfl) rfl rfl (Yd.fieldAddr rfl) ?_
                  refine DJ.yd 5 rfl (by kernel_rfl) (by kernel_rfl) (by kernel_rfl) rfl rfl (Yd.loadC 0 rfl rfl rfl) ?_
                  refine DJ.yd 6 rfl (by kernel_rfl) (by kernel_rfl) (by kernel_rfl) rfl rfl (Yd.fieldAddr rfl) ?_
                  refine DJ.yd 7 rfl (by kernel_rfl) (by kernel_rfl) (by kernel_rfl) rfl rfl (Yd.loadC 0 rfl rfl rfl) ?_
                  refine DJ.two (i := 8) (j := 12) (by kernel_rfl) ?_ ?_
                  · refine DO.call0 rfl rfl rfl (fun k0 hk0 dk0 k hk dk => FirstClearI_ok (p := u73.p) (RdRow.up (hx9 u73 (List.mem_of_getElem? hu73)))) ?_
                    rintro _ _ ⟨r90, rfl, rfl⟩
                    refine DJ.yd 9 rfl (by kernel_rfl) (by kernel_rfl) (by kernel_rfl) rfl rfl (Yd.mvU rfl) ?_
                    refine DJ.yd 10 rfl (by kernel_rfl) (by kernel_rfl) (by kernel_rfl) rfl rfl (Yd.extract rfl rfl) ?_
                    refine DJ.split 11 rfl (by kernel_rfl) (by kernel_rfl) (by kernel_rfl) rfl rfl (Yd.extract rfl rfl) (fun h92 => ?_) (fun h92 => ?_)
                    · refine DJ.one (i := 12) (by kernel_rfl) ?_
                      refine DO.alloc ([_, _, _, _] : List Value) rfl rfl rfl rfl (fun b11 => ?_)
                      refine DJ.one (i := 13) (by kernel_rfl) ?_
                      refine DO.store (v := .agg #[_, _, _, _]) (us := [_, _, _, _]) 0 rfl rfl rfl rfl rfl rfl rfl rfl rfl rfl ?_
                      refine DJ.yd 14 rfl (by kernel_rfl) (by kernel_rfl) (by kernel_rfl) rfl rfl (Yd.asB rfl) ?_
                      refine DJ.done (by kernel_rfl) ?_
                      refine CJ.seq ?_
                      refine CJ.region ?_
                      refine LJ.yd rfl (Yd.mvB rfl) ?_
                      refine LJ.yd rfl (Yd.mvB rfl) ?_
                      refine LJ.gF rfl rfl ?_
                      refine LJ.gF rfl rfl ?_
                      refine LJ.gF rfl rfl ?_
                      refine LJ.gF rfl rfl ?_
                      refine LJ.gF rfl rfl ?_
                      refine LJ.yd rfl (Yd.pickTB rfl rfl) ?_
                      refine LJ.yd rfl (Yd.asB rfl) ?_
                      refine LJ.nil ?_
                      refine CJ.seq ?_
                      have hpm : u73.p ∈ psX X := List.mem_map_of_mem (List.mem_of_getElem? hu73)
                      have hA : ¬ (u73.p.l = fpR (psX X) ⟨pW, pH, pT, pK⟩ ∧ ccB u73.p ⟨pW, pH, pT, pK⟩ = false) := fun ⟨h1, h2⟩ => by
                        have := huq u73.p hpm u0.p hp0 (by omega)
                        rw [this, hcc0] at h2; cases h2
                      have hB : ¬ (ccB u73.p ⟨pW, pH, pT, pK⟩ = true ∧ u73.p.w * u73.p.h < sz) := fun ⟨h1, h2⟩ => by
                        have := hmin u73.p hpm h1
                        omega
                      have har3 := area_b (hall _ hpm).1
                      refine CJ.regionD [0, 1, 2] [] (by kernel_rfl) rfl ?_
                      refine DJ.norm [_, _, _] [] rfl rfl ?_
                      refine DJ.yd 0 rfl (by kernel_rfl) (by kernel_rfl) (by kernel_rfl) rfl rfl (Yd.mvS rfl) ?_
                      refine DJ.yd 1 rfl (by kernel_rfl) (by kernel_rfl) (by kernel_rfl) rfl rfl (Yd.mvI rfl) ?_
                      refine DJ.idxA 2 rfl (by kernel_rfl) (by kernel_rfl) (by kernel_rfl) rfl rfl hlx rfl rfl (by omega) (by first | rfl | omega | (simp; done) | (simp; omega) | (simp [upN_len]; omega) | (simp [idxBy_len]; omega) | (simp [marks_len]; omega) | (simp [upN_len]; done) | (simp [idxBy_len]; done) | (simp [marks_len]; done) | (simp at *; omega)) (fun ib103 io103 ia103 ir103 => ?_)
                      refine DJ.yd 3 rfl (by kernel_rfl) (by kernel_rfl) (by kernel_rfl) rfl rfl (Yd.fieldAddr rfl) ?_
                      refine DJ.ldA 4 rfl (by kernel_rfl) (by kernel_rfl) (by kernel_rfl) rfl rfl 0 (fun u => vI u.p.l) (fun _ => rfl) ir103 rfl rfl (by first | rfl | omega | (simp; done) | (simp; omega) | (simp [upN_len]; omega) | (simp [idxBy_len]; omega) | (simp [marks_len]; omega) | (simp [upN_len]; done) | (simp [idxBy_len]; done) | (simp [marks_len]; done) | (simp at *; omega)) (fun u105 hu105 => ?_)
                      try simp only [Int.toNat_natCast] at hu105
                      obtain rfl : u73 = u105 := by rw [hu73] at hu105; exact Option.some.inj hu105
                      refine DJ.yd 5 rfl (by kernel_rfl) (by kernel_rfl) (by kernel_rfl) rfl rfl (Yd.mvI rfl) ?_
                      refine DJ.splitD 6 rfl (by kernel_rfl) (by kernel_rfl) (by kernel_rfl) rfl rfl (Yd.eql rfl rfl) (fun h107 => ?_) (fun h107 => ?_)
                      · refine DJ.yd 7 rfl (by kernel_rfl) (by kernel_rfl) (by kernel_rfl) rfl rfl (Yd.mvB rfl) ?_
                        refine DJ.yd 8 rfl (by kernel_rfl) (by kernel_rfl) (by kernel_rfl) rfl rfl (Yd.mvB rfl) ?_
                        refine DJ.yd 9 rfl (by kernel_rfl) (by kernel_rfl) (by kernel_rfl) rfl rfl (Yd.not rfl) ?_
                        refine DJ.yd 10 rfl (by kernel_rfl) (by kernel_rfl) (by kernel_rfl) rfl rfl (Yd.pickTB rfl rfl) ?_
                        refine DJ.yd 11 rfl (by kernel_rfl) (by kernel_rfl) (by kernel_rfl) rfl rfl (Yd.mvB rfl) ?_
                        refine DJ.yd 12 rfl (by kernel_rfl) (by kernel_rfl) (by kernel_rfl) rfl rfl (Yd.mvB rfl) ?_
                        refine DJ.yd 13 rfl (by kernel_rfl) (by kernel_rfl) (by kernel_rfl) rfl rfl (Yd.mvB rfl) ?_
                        refine DJ.yd 14 rfl (by kernel_rfl) (by kernel_rfl) (by kernel_rfl) rfl rfl (Yd.mvS rfl) ?_
                        refine DJ.yd 15 rfl (by kernel_rfl) (by kernel_rfl) (by kernel_rfl) rfl rfl (Yd.mvI rfl) ?_
                        refine DJ.idxA 16 rfl (by kernel_rfl) (by kernel_rfl) (by kernel_rfl) rfl rfl hlx rfl rfl (by omega) (by first | rfl | omega | (simp; done) | (simp; omega) | (simp [upN_len]; omega) | (simp [idxBy_len]; omega) | (simp [marks_len]; omega) | (simp [upN_len]; done) | (simp [idxBy_len]; done) | (simp [marks_len]; done) | (simp at *; omega)) (fun ib117 io117 ia117 ir117 => ?_)
                        refine DJ.yd 17 rfl (by kernel_rfl) (by kernel_rfl) (by kernel_rfl) rfl rfl (Yd.fieldAddr rfl) ?_
                        refine DJ.ldA 18 rfl (by kernel_rfl) (by kernel_rfl) (by kernel_rfl) rfl rfl 1 (fun u => vI u.p.w) (fun _ => rfl) ir117 rfl rfl (by first | rfl | omega | (simp; done) | (simp; omega) | (simp [upN_len]; omega) | (simp [idxBy_len]; omega) | (simp [marks_len]; omega) | (simp [upN_len]; done) | (simp [idxBy_len]; done) | (simp [marks_len]; done) | (simp at *; omega)) (fun u119 hu119 => ?_)
                        try simp only [Int.toNat_natCast] at hu119
                        obtain rfl : u73 = u119 := by rw [hu73] at hu119; exact Option.some.inj hu119
                        refine DJ.yd 19 rfl (by kernel_rfl) (by kernel_rfl) (by kernel_rfl) rfl rfl (Yd.mvS rfl) ?_
                        refine DJ.yd 20 rfl (by kernel_rfl) (by kernel_rfl) (by kernel_rfl) rfl rfl (Yd.mvI rfl) ?_
                        refine DJ.idxA 21 rfl (by kernel_rfl) (by kernel_rfl) (by kernel_rfl) rfl rfl hlx rfl rfl (by omega) (by first | rfl | omega | (simp; done) | (simp; omega) | (simp [upN_len]; omega) | (simp [idxBy_len]; omega) | (simp [marks_len]; omega) | (simp [upN_len]; done) | (simp [idxBy_len]; done) | (simp [marks_len]; done) | (simp at *; omega)) (fun ib122 io122 ia122 ir122 => ?_)
                        refine DJ.yd 22 rfl (by kernel_rfl) (by kernel_rfl) (by kernel_rfl) rfl rfl (Yd.fieldAddr rfl) ?_
                        refine DJ.ldA 23 rfl (by kernel_rfl) (by kernel_rfl) (by kernel_rfl) rfl rfl 2 (fun u => vI u.p.h) (fun _ => rfl) ir122 rfl rfl (by first | rfl | omega | (simp; done) | (simp; omega) | (simp [upN_len]; omega) | (simp [idxBy_len]; omega) | (simp [marks_len]; omega) | (simp [upN_len]; done) | (simp [idxBy_len]; done) | (simp [marks_len]; done) | (simp at *; omega)) (fun u124 hu124 => ?_)
                        try simp only [Int.toNat_natCast] at hu124
                        obtain rfl : u73 = u124 := by rw [hu73] at hu124; exact Option.some.inj hu124
                        refine DJ.yd 24 rfl (by kernel_rfl) (by kernel_rfl) (by kernel_rfl) rfl rfl (Yd.mul rfl rfl (by unfold I64; omega)) ?_
                        refine DJ.yd 25 rfl (by kernel_rfl) (by kernel_rfl) (by kernel_rfl) rfl rfl (Yd.mvI rfl) ?_
                        refine DJ.splitD 26 rfl (by kernel_rfl) (by kernel_rfl) (by kernel_rfl) rfl rfl (Yd.lss rfl rfl) (fun h127 => ?_) (fun h127 => ?_)
                        · refine DJ.yd 27 rfl (by kernel_rfl) (by kernel_rfl) (by kernel_rfl) rfl rfl (Yd.pickTB rfl rfl) ?_
                          refine DJ.yd 28 rfl (by kernel_rfl) (by kernel_rfl) (by kernel_rfl) rfl rfl (Yd.pickFB rfl rfl) ?_
                          refine DJ.done (by kernel_rfl) ?_
                          refine CJ.condT rfl ?_
                          refine CJ.seq ?_
                          refine CJ.region ?_
                          refine LJ.yd rfl (Yd.asB rfl) ?_
                          refine LJ.nil ?_
                          refine CJ.ret ?_
                          refine Fin.V (Res.one (ResV.tmp (v := .bool false) rfl)) ?_
                          first
                            | rfl
                            | (exfalso; refine hA ⟨by assumption, ?_⟩; simp [ccB, *]; done)
                            | (exfalso; refine hB ⟨?_, by assumption⟩; simp [ccB, *]; done)
                        · refine DJ.yd 27 rfl (by kernel_rfl) (by kernel_rfl) (by kernel_rfl) rfl rfl (Yd.pickTB rfl rfl) ?_
                          refine DJ.yd 28 rfl (by kernel_rfl) (by kernel_rfl) (by kernel_rfl) rfl rfl (Yd.pickFB rfl rfl) ?_
                          refine DJ.done (by kernel_rfl) ?_
                          refine CJ.condF rfl ?_
                          refine CJ.skip ?_
                          refine CJ.region ?_
                          refine LJ.yd rfl (Yd.mvI rfl) ?_
                          refine LJ.yd rfl (Yd.add rfl rfl (by unfold I64; omega)) ?_
                          refine LJ.yd rfl (Yd.asI rfl) ?_
                          refine LJ.nil ?_
                          refine ⟨(k + 1), ?_, ⟨rfl, rfl, rfl, rfl, trivial⟩, ⟨rfl, trivial⟩, Ent.pick [0] [1, 2] rfl, ?_⟩
                          · omega
                          · first | omega | (dsimp only; omega) | (simp only []; omega)
                      · refine DJ.yd 7 rfl (by kernel_rfl) (by kernel_rfl) (by kernel_rfl) rfl rfl (Yd.mvB rfl) ?_
                        refine DJ.skip 8 rfl (by kernel_rfl) (by kernel_rfl) (by kernel_rfl) rfl rfl ?_
                        refine DJ.skip 9 rfl (by kernel_rfl) (by kernel_rfl) (by kernel_rfl) rfl rfl ?_
                        refine DJ.yd 10 rfl (by kernel_rfl) (by kernel_rfl) (by kernel_rfl) rfl rfl (Yd.pickFB rfl rfl) ?_
                        refine DJ.yd 11 rfl (by kernel_rfl) (by kernel_rfl) (by kernel_rfl) rfl rfl (Yd.mvB rfl) ?_
                        refine DJ.yd 12 rfl (by kernel_rfl) (by kernel_rfl) (by kernel_rfl) rfl rfl (Yd.mvB rfl) ?_
                        refine DJ.yd 13 rfl (by kernel_rfl) (by kernel_rfl) (by kernel_rfl) rfl rfl (Yd.mvB rfl) ?_
                        refine DJ.yd 14 rfl (by kernel_rfl) (by kernel_rfl) (by kernel_rfl) rfl rfl (Yd.mvS rfl) ?_
                        refine DJ.yd 15 rfl (by kernel_rfl) (by kernel_rfl) (by kernel_rfl) rfl rfl (Yd.mvI rfl) ?_
                        refine DJ.idxA 16 rfl (by kernel_rfl) (by kernel_rfl) (by kernel_rfl) rfl rfl hlx rfl rfl (by omega) (by first | rfl | omega | (simp; done) | (simp; omega) | (simp [upN_len]; omega) | (simp [idxBy_len]; omega) | (simp [marks_len]; omega) | (simp [upN_len]; done) | (simp [idxBy_len]; done) | (simp [marks_len]; done) | (simp at *; omega)) (fun ib117 io117 ia117 ir117 => ?_)
                        refine DJ.yd 17 rfl (by kernel_rfl) (by kernel_rfl) (by kernel_rfl) rfl rfl (Yd.fieldAddr rfl) ?_
                        refine DJ.ldA 18 rfl (by kernel_rfl) (by kernel_rfl) (by kernel_rfl) rfl rfl 1 (fun u => vI u.p.w) (fun _ => rfl) ir117 rfl rfl (by first | rfl | omega | (simp; done) | (simp; omega) | (simp [upN_len]; omega) | (simp [idxBy_len]; omega) | (simp [marks_len]; omega) | (simp [upN_len]; done) | (simp [idxBy_len]; done) | (simp [marks_len]; done) | (simp at *; omega)) (fun u119 hu119 => ?_)
                        try simp only [Int.toNat_natCast] at hu119
                        obtain rfl : u73 = u119 := by rw [hu73] at hu119; exact Option.some.inj hu119
                        refine DJ.yd 19 rfl (by kernel_rfl) (by kernel_rfl) (by kernel_rfl) rfl rfl (Yd.mvS rfl) ?_
                        refine DJ.yd 20 rfl (by kernel_rfl) (by kernel_rfl) (by kernel_rfl) rfl rfl (Yd.mvI rfl) ?_
                        refine DJ.idxA 21 rfl (by kernel_rfl) (by kernel_rfl) (by kernel_rfl) rfl rfl hlx rfl rfl (by omega) (by first | rfl | omega | (simp; done) | (simp; omega) | (simp [upN_len]; omega) | (simp [idxBy_len]; omega) | (simp [marks_len]; omega) | (simp [upN_len]; done) | (simp [idxBy_len]; done) | (simp [marks_len]; done) | (simp at *; omega)) (fun ib122 io122 ia122 ir122 => ?_)
                        refine DJ.yd 22 rfl (by kernel_rfl) (by kernel_rfl) (by kernel_rfl) rfl rfl (Yd.fieldAddr rfl) ?_
                        refine DJ.ldA 23 rfl (by kernel_rfl) (by kernel_rfl) (by kernel_rfl) rfl rfl 2 (fun u => vI u.p.h) (fun _ => rfl) ir122 rfl rfl (by first | rfl | omega | (simp; done) | (simp; omega) | (simp [upN_len]; omega) | (simp [idxBy_len]; omega) | (simp [marks_len]; omega) | (simp [upN_len]; done) | (simp [idxBy_len]; done) | (simp [marks_len]; done) | (simp at *; omega)) (fun u124 hu124 => ?_)
                        try simp only [Int.toNat_natCast] at hu124
                        obtain rfl : u73 = u124 := by rw [hu73] at hu124; exact Option.some.inj hu124
                        refine DJ.yd 24 rfl (by kernel_rfl) (by kernel_rfl) (by kernel_rfl) rfl rfl (Yd.mul rfl rfl (by unfold I64; omega)) ?_
                        refine DJ.yd 25 rfl (by kernel_rfl) (by kernel_rfl) (by kernel_rfl) rfl rfl (Yd.mvI rfl) ?_
                        refine DJ.splitD 26 rfl (by kernel_rfl) (by kernel_rfl) (by kernel_rfl) rfl rfl (Yd.lss rfl rfl) (fun h127 => ?_) (fun h127 => ?_)
                        · refine DJ.yd 27 rfl (by kernel_rfl) (by kernel_rfl) (by kernel_rfl) rfl rfl (Yd.pickTB rfl rfl) ?_
                          refine DJ.yd 28 rfl (by kernel_rfl) (by kernel_rfl) (by kernel_rfl) rfl rfl (Yd.pickFB rfl rfl) ?_
                          refine DJ.done (by kernel_rfl) ?_
                          refine CJ.condT rfl ?_
                          refine CJ.seq ?_
                          refine CJ.region ?_
                          refine LJ.yd rfl (Yd.asB rfl) ?_
                          refine LJ.nil ?_
                          refine CJ.ret ?_
                          refine Fin.V (Res.one (ResV.tmp (v := .bool false) rfl)) ?_
                          first
                            | rfl
                            | (exfalso; refine hA ⟨by assumption, ?_⟩; simp [ccB, *]; done)
                            | (exfalso; refine hB ⟨?_, by assumption⟩; simp [ccB, *]; done)
                        · refine DJ.yd 27 rfl (by kernel_rfl) (by kernel_rfl) (by kernel_rfl) rfl rfl (Yd.pickTB rfl rfl) ?_
                          refine DJ.yd 28 rfl (by kernel_rfl) (by kernel_rfl) (by kernel_rfl) rfl rfl (Yd.pickFB rfl rfl) ?_
                          refine DJ.done (by kernel_rfl) ?_
                          refine CJ.condF rfl ?_
                          refine CJ.skip ?_
                          refine CJ.region ?_
                          refine LJ.yd rfl (Yd.mvI rfl) ?_
                          refine LJ.yd rfl (Yd.add rfl rfl (by unfold I64; omega)) ?_
                          refine LJ.yd rfl (Yd.asI rfl) ?_
                          refine LJ.nil ?_
                          refine ⟨(k + 1), ?_, ⟨rfl, rfl, rfl, rfl, trivial⟩, ⟨rfl, trivial⟩, Ent.pick [0] [1, 2] rfl, ?_⟩
                          · omega
                          · first | omega | (dsimp only; omega) | (simp only []; omega)
                    · refine DJ.one (i := 12) (by kernel_rfl) ?_
                      refine DO.alloc ([_, _, _, _] : List Value) rfl rfl rfl rfl (fun b12 => ?_)
                      refine DJ.one (i := 13) (by kernel_rfl) ?_
                      refine DO.store (v := .agg #[_, _, _, _]) (us := [_, _, _, _]) 0 rfl rfl rfl rfl rfl rfl rfl rfl rfl rfl ?_
                      refine DJ.yd 14 rfl (by kernel_rfl) (by kernel_rfl) (by kernel_rfl) rfl rfl (Yd.asB rfl) ?_
                      refine DJ.done (by kernel_rfl) ?_
                      refine CJ.seq ?_
                      refine CJ.region ?_
                      refine LJ.yd rfl (Yd.mvB rfl) ?_
                      refine LJ.yd rfl (Yd.mvB rfl) ?_
                      refine LJ.gF rfl rfl ?_
                      refine LJ.gF rfl rfl ?_
                      refine LJ.gF rfl rfl ?_
                      refine LJ.gF rfl rfl ?_
                      refine LJ.gF rfl rfl ?_
                      refine LJ.yd rfl (Yd.pickTB rfl rfl) ?_
                      refine LJ.yd rfl (Yd.asB rfl) ?_
                      refine LJ.nil ?_
                      refine CJ.seq ?_
                      have hpm : u73.p ∈ psX X := List.mem_map_of_mem (List.mem_of_getElem? hu73)
                      have hA : ¬ (u73.p.l = fpR (psX X) ⟨pW, pH, pT, pK⟩ ∧ ccB u73.p ⟨pW, pH, pT, pK⟩ = false) := fun ⟨h1, h2⟩ => by
                        have := huq u73.p hpm u0.p hp0 (by omega)
                        rw [this, hcc0] at h2; cases h2
                      have hB : ¬ (ccB u73.p ⟨pW, pH, pT, pK⟩ = true ∧ u73.p.w * u73.p.h < sz) := fun ⟨h1, h2⟩ => by
                        have := hmin u73.p hpm h1
                        omega
                      have har3 := area_b (hall _ hpm).1
                      refine CJ.regionD [0, 1, 2] [] (by kernel_rfl) rfl ?_
                      refine DJ.norm [_, _, _] [] rfl rfl ?_
                      refine DJ.yd 0 rfl (by kernel_rfl) (by kernel_rfl) (by kernel_rfl) rfl rfl (Yd.mvS rfl) ?_
                      refine DJ.yd 1 rfl (by kernel_rfl) (by kernel_rfl) (by kernel_rfl) rfl rfl (Yd.mvI rfl) ?_
                      refine DJ.idxA 2 rfl (by kernel_rfl) (by kernel_rfl) (by kernel_rfl) rfl rfl hlx rfl rfl (by omega) (by first | rfl | omega | (simp; done) | (simp; omega) | (simp [upN_len]; omega) | (simp [idxBy_len]; omega) | (simp [marks_len]; omega) | (simp [upN_len]; done) | (simp [idxBy_len]; done) | (simp [marks_len]; done) | (simp at *; omega)) (fun ib103 io103 ia103 ir103 => ?_)
                      refine DJ.yd 3 rfl (by kernel_rfl) (by kernel_rfl) (by kernel_rfl) rfl rfl (Yd.fieldAddr rfl) ?_
                      refine DJ.ldA 4 rfl (by kernel_rfl) (by kernel_rfl) (by kernel_rfl) rfl rfl 0 (fun u => vI u.p.l) (fun _ => rfl) ir103 rfl rfl (by first | rfl | omega | (simp; done) | (simp; omega) | (simp [upN_len]; omega) | (simp [idxBy_len]; omega) | (simp [marks_len]; omega) | (simp [upN_len]; done) | (simp [idxBy_len]; done) | (simp [marks_len]; done) | (simp at *; omega)) (fun u105 hu105 => ?_)
                      try simp only [Int.toNat_natCast] at hu105
                      obtain rfl : u73 = u105 := by rw [hu73] at hu105; exact Option.some.inj hu105
                      refine DJ.yd 5 rfl (by kernel_rfl) (by kernel_rfl) (by kernel_rfl) rfl rfl (Yd.mvI rfl) ?_
                      refine DJ.splitD 6 rfl (by kernel_rfl) (by kernel_rfl) (by kernel_rfl) rfl rfl (Yd.eql rfl rfl) (fun h107 => ?_) (fun h107 => ?_)
                      · refine DJ.yd 7 rfl (by kernel_rfl) (by kernel_rfl) (by kernel_rfl) rfl rfl (Yd.mvB rfl) ?_
                        refine DJ.yd 8 rfl (by kernel_rfl) (by kernel_rfl) (by kernel_rfl) rfl rfl (Yd.mvB rfl) ?_
                        refine DJ.yd 9 rfl (by kernel_rfl) (by kernel_rfl) (by kernel_rfl) rfl rfl (Yd.not rfl) ?_
                        refine DJ.yd 10 rfl (by kernel_rfl) (by kernel_rfl) (by kernel_rfl) rfl rfl (Yd.pickTB rfl rfl) ?_
                        refine DJ.yd 11 rfl (by kernel_rfl) (by kernel_rfl) (by kernel_rfl) rfl rfl (Yd.mvB rfl) ?_
                        refine DJ.yd 12 rfl (by kernel_rfl) (by kernel_rfl) (by kernel_rfl) rfl rfl (Yd.mvB rfl) ?_
                        refine DJ.yd 13 rfl (by kernel_rfl) (by kernel_rfl) (by kernel_rfl) rfl rfl (Yd.mvB rfl) ?_
                        refine DJ.yd 14 rfl (by kernel_rfl) (by kernel_rfl) (by kernel_rfl) rfl rfl (Yd.mvS rfl) ?_
                        refine DJ.yd 15 rfl (by kernel_rfl) (by kernel_rfl) (by kernel_rfl) rfl rfl (Yd.mvI rfl) ?_
                        refine DJ.idxA 16 rfl (by kernel_rfl) (by kernel_rfl) (by kernel_rfl) rfl rfl hlx rfl rfl (by omega) (by first | rfl | omega | (simp; done) | (simp; omega) | (simp [upN_len]; omega) | (simp [idxBy_len]; omega) | (simp [marks_len]; omega) | (simp [upN_len]; done) | (simp [idxBy_len]; done) | (simp [marks_len]; done) | (simp at *; omega)) (fun ib117 io117 ia117 ir117 => ?_)
                        refine DJ.yd 17 rfl (by kernel_rfl) (by kernel_rfl) (by kernel_rfl) rfl rfl (Yd.fieldAddr rfl) ?_
                        refine DJ.ldA 18 rfl (by kernel_rfl) (by kernel_rfl) (by kernel_rfl) rfl rfl 1 (fun u => vI u.p.w) (fun _ => rfl) ir117 rfl rfl (by first | rfl | omega | (simp; done) | (simp; omega) | (simp [upN_len]; omega) | (simp [idxBy_len]; omega) | (simp [marks_len]; omega) | (simp [upN_len]; done) | (simp [idxBy_len]; done) | (simp [marks_len]; done) | (simp at *; omega)) (fun u119 hu119 => ?_)
                        try simp only [Int.toNat_natCast] at hu119
                        obtain rfl : u73 = u119 := by rw [hu73] at hu119; exact Option.some.inj hu119
                        refine DJ.yd 19 rfl (by kernel_rfl) (by kernel_rfl) (by kernel_rfl) rfl rfl (Yd.mvS rfl) ?_
                        refine DJ.yd 20 rfl (by kernel_rfl) (by kernel_rfl) (by kernel_rfl) rfl rfl (Yd.mvI rfl) ?_
                        refine DJ.idxA 21 rfl (by kernel_rfl) (by kernel_rfl) (by kernel_rfl) rfl rfl hlx rfl rfl (by omega) (by first | rfl | omega | (simp; done) | (simp; omega) | (simp [upN_len]; omega) | (simp [idxBy_len]; omega) | (simp [marks_len]; omega) | (simp [upN_len]; done) | (simp [idxBy_len]; done) | (simp [marks_len]; done) | (simp at *; omega)) (fun ib122 io122 ia122 ir122 => ?_)
                        refine DJ.yd 22 rfl (by kernel_rfl) (by kernel_rfl) (by kernel_rfl) rfl rfl (Yd.fieldAddr rfl) ?_
                        refine DJ.ldA 23 rfl (by kernel_rfl) (by kernel_rfl) (by kernel_rfl) rfl rfl 2 (fun u => vI u.p.h) (fun _ => rfl) ir122 rfl rfl (by first | rfl | omega | (simp; done) | (simp; omega) | (simp [upN_len]; omega) | (simp [idxBy_len]; omega) | (simp [marks_len]; omega) | (simp [upN_len]; done) | (simp [idxBy_len]; done) | (simp [marks_len]; done) | (simp at *; omega)) (fun u124 hu124 => ?_)
                        try simp only [Int.toNat_natCast] at hu124
                        obtain rfl : u73 = u124 := by rw [hu73] at hu124; exact Option.some.inj hu124
                        refine DJ.yd 24 rfl (by kernel_rfl) (by kernel_rfl) (by kernel_rfl) rfl rfl (Yd.mul rfl rfl (by unfold I64; omega)) ?_
                        refine DJ.yd 25 rfl (by kernel_rfl) (by kernel_rfl) (by kernel_rfl) rfl rfl (Yd.mvI rfl) ?_
                        refine DJ.splitD 26 rfl (by kernel_rfl) (by kernel_rfl) (by kernel_rfl) rfl rfl (Yd.lss rfl rfl) (fun h127 => ?_) (fun h127 => ?_)
                        · refine DJ.yd 27 rfl (by kernel_rfl) (by kernel_rfl) (by kernel_rfl) rfl rfl (Yd.pickTB rfl rfl) ?_
                          refine DJ.yd 28 rfl (by kernel_rfl) (by kernel_rfl) (by kernel_rfl) rfl rfl (Yd.pickFB rfl rfl) ?_
                          refine DJ.done (by kernel_rfl) ?_
                          refine CJ.condT rfl ?_
                          refine CJ.seq ?_
                          refine CJ.region ?_
                          refine LJ.yd rfl (Yd.asB rfl) ?_
                          refine LJ.nil ?_
                          refine CJ.ret ?_
                          refine Fin.V (Res.one (ResV.tmp (v := .bool false) rfl)) ?_
                          first
                            | rfl
                            | (exfalso; refine hA ⟨by assumption, ?_⟩; simp [ccB, *]; done)
                            | (exfalso; refine hB ⟨?_, by assumption⟩; simp [ccB, *]; done)
                        · refine DJ.yd 27 rfl (by kernel_rfl) (by kernel_rfl) (by kernel_rfl) rfl rfl (Yd.pickTB rfl rfl) ?_
                          refine DJ.yd 28 rfl (by kernel_rfl) (by kernel_rfl) (by kernel_rfl) rfl rfl (Yd.pickFB rfl rfl) ?_
                          refine DJ.done (by kernel_rfl) ?_
                          refine CJ.condF rfl ?_
                          refine CJ.skip ?_
                          refine CJ.region ?_
                          refine LJ.yd rfl (Yd.mvI rfl) ?_
                          refine LJ.yd rfl (Yd.add rfl rfl (by unfold I64; omega)) ?_
                          refine LJ.yd rfl (Yd.asI rfl) ?_
                          refine LJ.nil ?_
                          refine ⟨(k + 1), ?_, ⟨rfl, rfl, rfl, rfl, trivial⟩, ⟨rfl, trivial⟩, Ent.pick [0] [1, 2] rfl, ?_⟩
                          · omega
                          · first | omega | (dsimp only; omega) | (simp only []; omega)
                      · refine DJ.yd 7 rfl (by kernel_rfl) (by kernel_rfl) (by kernel_rfl) rfl rfl (Yd.mvB rfl) ?_
                        refine DJ.skip 8 rfl (by kernel_rfl) (by kernel_rfl) (by kernel_rfl) rfl rfl ?_
                        refine DJ.skip 9 rfl (by kernel_rfl) (by kernel_rfl) (by kernel_rfl) rfl rfl ?_
                        refine DJ.yd 10 rfl (by kernel_rfl) (by kernel_rfl) (by kernel_rfl) rfl rfl (Yd.pickFB rfl rfl) ?_
                        refine DJ.yd 11 rfl (by kernel_rfl) (by kernel_rfl) (by kernel_rfl) rfl rfl (Yd.mvB rfl) ?_
                        refine DJ.yd 12 rfl (by kernel_rfl) (by kernel_rfl) (by kernel_rfl) rfl rfl (Yd.mvB rfl) ?_
                        refine DJ.yd 13 rfl (by kernel_rfl) (by kernel_rfl) (by kernel_rfl) rfl rfl (Yd.mvB rfl) ?_
                        refine DJ.yd 14 rfl (by kernel_rfl) (by kernel_rfl) (by kernel_rfl) rfl rfl (Yd.mvS rfl) ?_
                        refine DJ.yd 15 rfl (by kernel_rfl) (by kernel_rfl) (by kernel_rfl) rfl rfl (Yd.mvI rfl) ?_
                        refine DJ.idxA 16 rfl (by kernel_rfl) (by kernel_rfl) (by kernel_rfl) rfl rfl hlx rfl rfl (by omega) (by first | rfl | omega | (simp; done) | (simp; omega) | (simp [upN_len]; omega) | (simp [idxBy_len]; omega) | (simp [marks_len]; omega) | (simp [upN_len]; done) | (simp [idxBy_len]; done) | (simp [marks_len]; done) | (simp at *; omega)) (fun ib117 io117 ia117 ir117 => ?_)
                        refine DJ.yd 17 rfl (by kernel_rfl) (by kernel_rfl) (by kernel_rfl) rfl rfl (Yd.fieldAddr rfl) ?_
                        refine DJ.ldA 18 rfl (by kernel_rfl) (by kernel_rfl) (by kernel_rfl) rfl rfl 1 (fun u => vI u.p.w) (fun _ => rfl) ir117 rfl rfl (by first | rfl | omega | (simp; done) | (simp; omega) | (simp [upN_len]; omega) | (simp [idxBy_len]; omega) | (simp [marks_len]; omega) | (simp [upN_len]; done) | (simp [idxBy_len]; done) | (simp [marks_len]; done) | (simp at *; omega)) (fun u119 hu119 => ?_)
                        try simp only [Int.toNat_natCast] at hu119
                        obtain rfl : u73 = u119 := by rw [hu73] at hu119; exact Option.some.inj hu119
                        refine DJ.yd 19 rfl (by kernel_rfl) (by kernel_rfl) (by kernel_rfl) rfl rfl (Yd.mvS rfl) ?_
                        refine DJ.yd 20 rfl (by kernel_rfl) (by kernel_rfl) (by kernel_rfl) rfl rfl (Yd.mvI rfl) ?_
                        refine DJ.idxA 21 rfl (by kernel_rfl) (by kernel_rfl) (by kernel_rfl) rfl rfl hlx rfl rfl (by omega) (by first | rfl | omega | (simp; done) | (simp; omega) | (simp [upN_len]; omega) | (simp [idxBy_len]; omega) | (simp [marks_len]; omega) | (simp [upN_len]; done) | (simp [idxBy_len]; done) | (simp [marks_len]; done) | (simp at *; omega)) (fun ib122 io122 ia122 ir122 => ?_)
                        refine DJ.yd 22 rfl (by kernel_rfl) (by kernel_rfl) (by kernel_rfl) rfl rfl (Yd.fieldAddr rfl) ?_
                        refine DJ.ldA 23 rfl (by kernel_rfl) (by kernel_rfl) (by kernel_rfl) rfl rfl 2 (fun u => vI u.p.h) (fun _ => rfl) ir122 rfl rfl (by first | rfl | omega | (simp; done) | (simp; omega) | (simp [upN_len]; omega) | (simp [idxBy_len]; omega) | (simp [marks_len]; omega) | (simp [upN_len]; done) | (simp [idxBy_len]; done) | (simp [marks_len]; done) | (simp at *; omega)) (fun u124 hu124 => ?_)
                        try simp only [Int.toNat_natCast] at hu124
                        obtain rfl : u73 = u124 := by rw [hu73] at hu124; exact Option.some.inj hu124
                        refine DJ.yd 24 rfl (by kernel_rfl) (by kernel_rfl) (by kernel_rfl) rfl rfl (Yd.mul rfl rfl (by unfold I64; omega)) ?_
                        refine DJ.yd 25 rfl (by kernel_rfl) (by kernel_rfl) (by kernel_rfl) rfl rfl (Yd.mvI rfl) ?_
                        refine DJ.splitD 26 rfl (by kernel_rfl) (by kernel_rfl) (by kernel_rfl) rfl rfl (Yd.lss rfl rfl) (fun h127 => ?_) (fun h127 => ?_)
                        · refine DJ.yd 27 rfl (by kernel_rfl) (by kernel_rfl) (by kernel_rfl) rfl rfl (Yd.pickTB rfl rfl) ?_
                          refine DJ.yd 28 rfl (by kernel_rfl) (by kernel_rfl) (by kernel_rfl) rfl rfl (Yd.pickFB rfl rfl) ?_
                          refine DJ.done (by kernel_rfl) ?_
                          refine CJ.condT rfl ?_
                          refine CJ.seq ?_
                          refine CJ.region ?_
                          refine LJ.yd rfl (Yd.asB rfl) ?_
                          refine LJ.nil ?_
                          refine CJ.ret ?_
                          refine Fin.V (Res.one (ResV.tmp (v := .bool false) rfl)) ?_
                          first
                            | rfl
                            | (exfalso; refine hA ⟨by assumption, ?_⟩; simp [ccB, *]; done)
                            | (exfalso; refine hB ⟨?_, by assumption⟩; simp [ccB, *]; done)
                        · refine DJ.yd 27 rfl (by kernel_rfl) (by kernel_rfl) (by kernel_rfl) rfl rfl (Yd.pickTB rfl rfl) ?_
                          refine DJ.yd 28 rfl (by kernel_rfl) (by kernel_rfl) (by kernel_rfl) rfl rfl (Yd.pickFB rfl rfl) ?_
                          refine DJ.done (by kernel_rfl) ?_
                          refine CJ.condF rfl ?_
                          refine CJ.skip ?_
                          refine CJ.region ?_
                          refine LJ.yd rfl (Yd.mvI rfl) ?_
                          refine LJ.yd rfl (Yd.add rfl rfl (by unfold I64; omega)) ?_
                          refine LJ.yd rfl (Yd.asI rfl) ?_
                          refine LJ.nil ?_
                          refine ⟨(k + 1), ?_, ⟨rfl, rfl, rfl, rfl, trivial⟩, ⟨rfl, trivial⟩, Ent.pick [0] [1, 2] rfl, ?_⟩
                          · omega
                          · first | omega | (dsimp only; omega) | (simp only []; omega)
                  · refine DO.alloc ([_, _, _, _] : List Value) rfl rfl rfl rfl (fun b13 => ?_)
                    refine DJ.one (i := 8) (by kernel_rfl) ?_
                    refine DO.call0 rfl rfl rfl (fun k0 hk0 dk0 k hk dk => FirstClearI_ok (p := u73.p) (RdRow.up (hx9 u73 (List.mem_of_getElem? hu73)))) ?_
                    rintro _ _ ⟨r90, rfl, rfl⟩
                    refine DJ.yd 9 rfl (by kernel_rfl) (by kernel_rfl) (by kernel_rfl) rfl rfl (Yd.mvU rfl) ?_
                    refine DJ.yd 10 rfl (by kernel_rfl) (by kernel_rfl) (by kernel_rfl) rfl rfl (Yd.extract rfl rfl) ?_
                    refine DJ.split 11 rfl (by kernel_rfl) (by kernel_rfl) (by kernel_rfl) rfl rfl (Yd.extract rfl rfl) (fun h92 => ?_) (fun h92 => ?_)
                    · refine DJ.one (i := 13) (by kernel_rfl) ?_
                      refine DO.store (v := .agg #[_, _, _, _]) (us := [_, _, _, _]) 0 rfl rfl rfl rfl rfl rfl rfl rfl rfl rfl ?_
                      refine DJ.yd 14 rfl (by kernel_rfl) (by kernel_rfl) (by kernel_rfl) rfl rfl (Yd.asB rfl) ?_
                      refine DJ.done (by kernel_rfl) ?_
                      refine CJ.seq ?_
                      refine CJ.region ?_
                      refine LJ.yd rfl (Yd.mvB rfl) ?_
                      refine LJ.yd rfl (Yd.mvB rfl) ?_
                      refine LJ.gF rfl rfl ?_
                      refine LJ.gF rfl rfl ?_
                      refine LJ.gF rfl rfl ?_
                      refine LJ.gF rfl rfl ?_
                      refine LJ.gF rfl rfl ?_
                      refine LJ.yd rfl (Yd.pickTB rfl rfl) ?_
                      refine LJ.yd rfl (Yd.asB rfl) ?_
                      refine LJ.nil ?_
                      refine CJ.seq ?_
                      have hpm : u73.p ∈ psX X := List.mem_map_of_mem (List.mem_of_getElem? hu73)
                      have hA : ¬ (u73.p.l = fpR (psX X) ⟨pW, pH, pT, pK⟩ ∧ ccB u73.p ⟨pW, pH, pT, pK⟩ = false) := fun ⟨h1, h2⟩ => by
                        have := huq u73.p hpm u0.p hp0 (by omega)
                        rw [this, hcc0] at h2; cases h2
                      have hB : ¬ (ccB u73.p ⟨pW, pH, pT, pK⟩ = true ∧ u73.p.w * u73.p.h < sz) := fun ⟨h1, h2⟩ => by
                        have := hmin u73.p hpm h1
                        omega
                      have har3 := area_b (hall _ hpm).1
                      refine CJ.regionD [0, 1, 2] [] (by kernel_rfl) rfl ?_
                      refine DJ.norm [_, _, _] [] rfl rfl ?_
                      refine DJ.yd 0 rfl (by kernel_rfl) (by kernel_rfl) (by kernel_rfl) rfl rfl (Yd.mvS rfl) ?_
                      refine DJ.yd 1 rfl (by kernel_rfl) (by kernel_rfl) (by kernel_rfl) rfl rfl (Yd.mvI rfl) ?_
                      refine DJ.idxA 2 rfl (by kernel_rfl) (by kernel_rfl) (by kernel_rfl) rfl rfl hlx rfl rfl (by omega) (by first | rfl | omega | (simp; done) | (simp; omega) | (simp [upN_len]; omega) | (simp [idxBy_len]; omega) | (simp [marks_len]; omega) | (simp [upN_len]; done) | (simp [idxBy_len]; done) | (simp [marks_len]; done) | (simp at *; omega)) (fun ib103 io103 ia103 ir103 => ?_)
                      refine DJ.yd 3 rfl (by kernel_rfl) (by kernel_rfl) (by kernel_rfl) rfl rfl (Yd.fieldAddr rfl) ?_
                      refine DJ.ldA 4 rfl (by kernel_rfl) (by kernel_rfl) (by kernel_rfl) rfl rfl 0 (fun u => vI u.p.l) (fun _ => rfl) ir103 rfl rfl (by first | rfl | omega | (simp; done) | (simp; omega) | (simp [upN_len]; omega) | (simp [idxBy_len]; omega) | (simp [marks_len]; omega) | (simp [upN_len]; done) | (simp [idxBy_len]; done) | (simp [marks_len]; done) | (simp at *; omega)) (fun u105 hu105 => ?_)
                      try simp only [Int.toNat_natCast] at hu105
                      obtain rfl : u73 = u105 := by rw [hu73] at hu105; exact Option.some.inj hu105
                      refine DJ.yd 5 rfl (by kernel_rfl) (by kernel_rfl) (by kernel_rfl) rfl rfl (Yd.mvI rfl) ?_
                      refine DJ.splitD 6 rfl (by kernel_rfl) (by kernel_rfl) (by kernel_rfl) rfl rfl (Yd.eql rfl rfl) (fun h107 => ?_) (fun h107 => ?_)
                      · refine DJ.yd 7 rfl (by kernel_rfl) (by kernel_rfl) (by kernel_rfl) rfl rfl (Yd.mvB rfl) ?_
                        refine DJ.yd 8 rfl (by kernel_rfl) (by kernel_rfl) (by kernel_rfl) rfl rfl (Yd.mvB rfl) ?_
                        refine DJ.yd 9 rfl (by kernel_rfl) (by kernel_rfl) (by kernel_rfl) rfl rfl (Yd.not rfl) ?_
                        refine DJ.yd 10 rfl (by kernel_rfl) (by kernel_rfl) (by kernel_rfl) rfl rfl (Yd.pickTB rfl rfl) ?_
                        refine DJ.yd 11 rfl (by kernel_rfl) (by kernel_rfl) (by kernel_rfl) rfl rfl (Yd.mvB rfl) ?_
                        refine DJ.yd 12 rfl (by kernel_rfl) (by kernel_rfl) (by kernel_rfl) rfl rfl (Yd.mvB rfl) ?_
                        refine DJ.yd 13 rfl (by kernel_rfl) (by kernel_rfl) (by kernel_rfl) rfl rfl (Yd.mvB rfl) ?_
                        refine DJ.yd 14 rfl (by kernel_rfl) (by kernel_rfl) (by kernel_rfl) rfl rfl (Yd.mvS rfl) ?_
                        refine DJ.yd 15 rfl (by kernel_rfl) (by kernel_rfl) (by kernel_rfl) rfl rfl (Yd.mvI rfl) ?_
                        refine DJ.idxA 16 rfl (by kernel_rfl) (by kernel_rfl) (by kernel_rfl) rfl rfl hlx rfl rfl (by omega) (by first | rfl | omega | (simp; done) | (simp; omega) | (simp [upN_len]; omega) | (simp [idxBy_len]; omega) | (simp [marks_len]; omega) | (simp [upN_len]; done) | (simp [idxBy_len]; done) | (simp [marks_len]; done) | (simp at *; omega)) (fun ib117 io117 ia117 ir117 => ?_)
                        refine DJ.yd 17 rfl (by kernel_rfl) (by kernel_rfl) (by kernel_rfl) rfl rfl (Yd.fieldAddr rfl) ?_
                        refine DJ.ldA 18 rfl (by kernel_rfl) (by kernel_rfl) (by kernel_rfl) rfl rfl 1 (fun u => vI u.p.w) (fun _ => rfl) ir117 rfl rfl (by first | rfl | omega | (simp; done) | (simp; omega) | (simp [upN_len]; omega) | (simp [idxBy_len]; omega) | (simp [marks_len]; omega) | (simp [upN_len]; done) | (simp [idxBy_len]; done) | (simp [marks_len]; done) | (simp at *; omega)) (fun u119 hu119 => ?_)
                        try simp only [Int.toNat_natCast] at hu119
                        obtain rfl : u73 = u119 := by rw [hu73] at hu119; exact Option.some.inj hu119
                        refine DJ.yd 19 rfl (by kernel_rfl) (by kernel_rfl) (by kernel_rfl) rfl rfl (Yd.mvS rfl) ?_
                        refine DJ.yd 20 rfl (by kernel_rfl) (by kernel_rfl) (by kernel_rfl) rfl rfl (Yd.mvI rfl) ?_
                        refine DJ.idxA 21 rfl (by kernel_rfl) (by kernel_rfl) (by kernel_rfl) rfl rfl hlx rfl rfl (by omega) (by first | rfl | omega | (simp; done) | (simp; omega) | (simp [upN_len]; omega) | (simp [idxBy_len]; omega) | (simp [marks_len]; omega) | (simp [upN_len]; done) | (simp [idxBy_len]; done) | (simp [marks_len]; done) | (simp at *; omega)) (fun ib122 io122 ia122 ir122 => ?_)
                        refine DJ.yd 22 rfl (by kernel_rfl) (by kernel_rfl) (by kernel_rfl) rfl rfl (Yd.fieldAddr rfl) ?_
                        refine DJ.ldA 23 rfl (by kernel_rfl) (by kernel_rfl) (by kernel_rfl) rfl rfl 2 (fun u => vI u.p.h) (fun _ => rfl) ir122 rfl rfl (by first | rfl | omega | (simp; done) | (simp; omega) | (simp [upN_len]; omega) | (simp [idxBy_len]; omega) | (simp [marks_len]; omega) | (simp [upN_len]; done) | (simp [idxBy_len]; done) | (simp [marks_len]; done) | (simp at *; omega)) (fun u124 hu124 => ?_)
                        try simp only [Int.toNat_natCast] at hu124
                        obtain rfl : u73 = u124 := by rw [hu73] at hu124; exact Option.some.inj hu124
                        refine DJ.yd 24 rfl (by kernel_rfl) (by kernel_rfl) (by kernel_rfl) rfl rfl (Yd.mul rfl rfl (by unfold I64; omega)) ?_
                        refine DJ.yd 25 rfl (by kernel_rfl) (by kernel_rfl) (by kernel_rfl) rfl rfl (Yd.mvI rfl) ?_
                        refine DJ.splitD 26 rfl (by kernel_rfl) (by kernel_rfl) (by kernel_rfl) rfl rfl (Yd.lss rfl rfl) (fun h127 => ?_) (fun h127 => ?_)
                        · refine DJ.yd 27 rfl (by kernel_rfl) (by kernel_rfl) (by kernel_rfl) rfl rfl (Yd.pickTB rfl rfl) ?_
                          refine DJ.yd 28 rfl (by kernel_rfl) (by kernel_rfl) (by kernel_rfl) rfl rfl (Yd.pickFB rfl rfl) ?_
                          refine DJ.done (by kernel_rfl) ?_
                          refine CJ.condT rfl ?_
                          refine CJ.seq ?_
                          refine CJ.region ?_
                          refine LJ.yd rfl (Yd.asB rfl) ?_
                          refine LJ.nil ?_
                          refine CJ.ret ?_
                          refine Fin.V (Res.one (ResV.tmp (v := .bool false) rfl)) ?_
                          first
                            | rfl
                            | (exfalso; refine hA ⟨by assumption, ?_⟩; simp [ccB, *]; done)
                            | (exfalso; refine hB ⟨?_, by assumption⟩; simp [ccB, *]; done)
                        · refine DJ.yd 27 rfl (by kernel_rfl) (by kernel_rfl) (by kernel_rfl) rfl rfl (Yd.pickTB rfl rfl) ?_
                          refine DJ.yd 28 rfl (by kernel_rfl) (by kernel_rfl) (by kernel_rfl) rfl rfl (Yd.pickFB rfl rfl) ?_
                          refine DJ.done (by kernel_rfl) ?_
                          refine CJ.condF rfl ?_
                          refine CJ.skip ?_
                          refine CJ.region ?_
                          refine LJ.yd rfl (Yd.mvI rfl) ?_
                          refine LJ.yd rfl (Yd.add rfl rfl (by unfold I64; omega)) ?_
                          refine LJ.yd rfl (Yd.asI rfl) ?_
                          refine LJ.nil ?_
                          refine ⟨(k + 1), ?_, ⟨rfl, rfl, rfl, rfl, trivial⟩, ⟨rfl, trivial⟩, Ent.pick [0] [1, 2] rfl, ?_⟩
                          · omega
                          · first | omega | (dsimp only; omega) | (simp only []; omega)
                      · refine DJ.yd 7 rfl (by kernel_rfl) (by kernel_rfl) (by kernel_rfl) rfl rfl (Yd.mvB rfl) ?_
                        refine DJ.skip 8 rfl (by kernel_rfl) (by kernel_rfl) (by kernel_rfl) rfl rfl ?_
                        refine DJ.skip 9 rfl (by kernel_rfl) (by kernel_rfl) (by kernel_rfl) rfl rfl ?_
                        refine DJ.yd 10 rfl (by kernel_rfl) (by kernel_rfl) (by kernel_rfl) rfl rfl (Yd.pickFB rfl rfl) ?_
                        refine DJ.yd 11 rfl (by kernel_rfl) (by kernel_rfl) (by kernel_rfl) rfl rfl (Yd.mvB rfl) ?_
                        refine DJ.yd 12 rfl (by kernel_rfl) (by kernel_rfl) (by kernel_rfl) rfl rfl (Yd.mvB rfl) ?_
                        refine DJ.yd 13 rfl (by kernel_rfl) (by kernel_rfl) (by kernel_rfl) rfl rfl (Yd.mvB rfl) ?_
                        refine DJ.yd 14 rfl (by kernel_rfl) (by kernel_rfl) (by kernel_rfl) rfl rfl (Yd.mvS rfl) ?_
                        refine DJ.yd 15 rfl (by kernel_rfl) (by kernel_rfl) (by kernel_rfl) rfl rfl (Yd.mvI rfl) ?_
                        refine DJ.idxA 16 rfl (by kernel_rfl) (by kernel_rfl) (by kernel_rfl) rfl rfl hlx rfl rfl (by omega) (by first | rfl | omega | (simp; done) | (simp; omega) | (simp [upN_len]; omega) | (simp [idxBy_len]; omega) | (simp [marks_len]; omega) | (simp [upN_len]; done) | (simp [idxBy_len]; done) | (simp [marks_len]; done) | (simp at *; omega)) (fun ib117 io117 ia117 ir117 => ?_)
                        refine DJ.yd 17 rfl (by kernel_rfl) (by kernel_rfl) (by kernel_rfl) rfl rfl (Yd.fieldAddr rfl) ?_
                        refine DJ.ldA 18 rfl (by kernel_rfl) (by kernel_rfl) (by kernel_rfl) rfl rfl 1 (fun u => vI u.p.w) (fun _ => rfl) ir117 rfl rfl (by first | rfl | omega | (simp; done) | (simp; omega) | (simp [upN_len]; omega) | (simp [idxBy_len]; omega) | (simp [marks_len]; omega) | (simp [upN_len]; done) | (simp [idxBy_len]; done) | (simp [marks_len]; done) | (simp at *; omega)) (fun u119 hu119 => ?_)
                        try simp only [Int.toNat_natCast] at hu119
                        obtain rfl : u73 = u119 := by rw [hu73] at hu119; exact Option.some.inj hu119
                        refine DJ.yd 19 rfl (by kernel_rfl) (by kernel_rfl) (by kernel_rfl) rfl rfl (Yd.mvS rfl) ?_
                        refine DJ.yd 20 rfl (by kernel_rfl) (by kernel_rfl) (by kernel_rfl) rfl rfl (Yd.mvI rfl) ?_
                        refine DJ.idxA 21 rfl (by kernel_rfl) (by kernel_rfl) (by kernel_rfl) rfl rfl hlx rfl rfl (by omega) (by first | rfl | omega | (simp; done) | (simp; omega) | (simp [upN_len]; omega) | (simp [idxBy_len]; omega) | (simp [marks_len]; omega) | (simp [upN_len]; done) | (simp [idxBy_len]; done) | (simp [marks_len]; done) | (simp at *; omega)) (fun ib122 io122 ia122 ir122 => ?_)
                        refine DJ.yd 22 rfl (by kernel_rfl) (by kernel_rfl) (by kernel_rfl) rfl rfl (Yd.fieldAddr rfl) ?_
                        refine DJ.ldA 23 rfl (by kernel_rfl) (by kernel_rfl) (by kernel_rfl) rfl rfl 2 (fun u => vI u.p.h) (fun _ => rfl) ir122 rfl rfl (by first | rfl | omega | (simp; done) | (simp; omega) | (simp [upN_len]; omega) | (simp [idxBy_len]; omega) | (simp [marks_len]; omega) | (simp [upN_len]; done) | (simp [idxBy_len]; done) | (simp [marks_len]; done) | (simp at *; omega)) (fun u124 hu124 => ?_)
                        try simp only [Int.toNat_natCast] at hu124
                        obtain rfl : u73 = u124 := by rw [hu73] at hu124; exact Option.some.inj hu124
                        refine DJ.yd 24 rfl (by kernel_rfl) (by kernel_rfl) (by kernel_rfl) rfl rfl (Yd.mul rfl rfl (by unfold I64; omega)) ?_
                        refine DJ.yd 25 rfl (by kernel_rfl) (by kernel_rfl) (by kernel_rfl) rfl rfl (Yd.mvI rfl) ?_
                        refine DJ.splitD 26 rfl (by kernel_rfl) (by kernel_rfl) (by kernel_rfl) rfl rfl (Yd.lss rfl rfl) (fun h127 => ?_) (fun h127 => ?_)
                        · refine DJ.yd 27 rfl (by kernel_rfl) (by kernel_rfl) (by kernel_rfl) rfl rfl (Yd.pickTB rfl rfl) ?_
                          refine DJ.yd 28 rfl (by kernel_rfl) (by kernel_rfl) (by kernel_rfl) rfl rfl (Yd.pickFB rfl rfl) ?_
                          refine DJ.done (by kernel_rfl) ?_
                          refine CJ.condT rfl ?_
                          refine CJ.seq ?_
                          refine CJ.region ?_
                          refine LJ.yd rfl (Yd.asB rfl) ?_
                          refine LJ.nil ?_
                          refine CJ.ret ?_
                          refine Fin.V (Res.one (ResV.tmp (v := .bool false) rfl)) ?_
                          first
                            | rfl
                            | (exfalso; refine hA ⟨by assumption, ?_⟩; simp [ccB, *]; done)
                            | (exfalso; refine hB ⟨?_, by assumption⟩; simp [ccB, *]; done)
                        · refine DJ.yd 27 rfl (by kernel_rfl) (by kernel_rfl) (by kernel_rfl) rfl rfl (Yd.pickTB rfl rfl) ?_
                          refine DJ.yd 28 rfl (by kernel_rfl) (by kernel_rfl) (by kernel_rfl) rfl rfl (Yd.pickFB rfl rfl) ?_
                          refine DJ.done (by kernel_rfl) ?_
                          refine CJ.condF rfl ?_
                          refine CJ.skip ?_
                          refine CJ.region ?_
                          refine LJ.yd rfl (Yd.mvI rfl) ?_
                          refine LJ.yd rfl (Yd.add rfl rfl (by unfold I64; omega)) ?_
                          refine LJ.yd rfl (Yd.asI rfl) ?_
                          refine LJ.nil ?_
                          refine ⟨(k + 1), ?_, ⟨rfl, rfl, rfl, rfl, trivial⟩, ⟨rfl, trivial⟩, Ent.pick [0] [1, 2] rfl, ?_⟩
                          · omega
                          · first | omega | (dsimp only; omega) | (simp only []; omega)
                    · refine DJ.one (i := 13) (by kernel_rfl) ?_
                      refine DO.store (v := .agg #[_, _, _, _]) (us := [_, _, _, _]) 0 rfl rfl rfl rfl rfl rfl rfl rfl rfl rfl ?_
                      refine DJ.yd 14 rfl (by kernel_rfl) (by kernel_rfl) (by kernel_rfl) rfl rfl (Yd.asB rfl) ?_
                      refine DJ.done (by kernel_rfl) ?_
                      refine CJ.seq ?_
                      refine CJ.region ?_
                      refine LJ.yd rfl (Yd.mvB rfl) ?_
                      refine LJ.yd rfl (Yd.mvB rfl) ?_
                      refine LJ.gF rfl rfl ?_
                      refine LJ.gF rfl rfl ?_
                      refine LJ.gF rfl rfl ?_
                      refine LJ.gF rfl rfl ?_
                      refine LJ.gF rfl rfl ?_
                      refine LJ.yd rfl (Yd.pickTB rfl rfl) ?_
                      refine LJ.yd rfl (Yd.asB rfl) ?_
                      refine LJ.nil ?_
                      refine CJ.seq ?_
                      have hpm : u73.p ∈ psX X := List.mem_map_of_mem (List.mem_of_getElem? hu73)
                      have hA : ¬ (u73.p.l = fpR (psX X) ⟨pW, pH, pT, pK⟩ ∧ ccB u73.p ⟨pW, pH, pT, pK⟩ = false) := fun ⟨h1, h2⟩ => by
                        have := huq u73.p hpm u0.p hp0 (by omega)
                        rw [this, hcc0] at h2; cases h2
                      have hB : ¬ (ccB u73.p ⟨pW, pH, pT, pK⟩ = true ∧ u73.p.w * u73.p.h < sz) := fun ⟨h1, h2⟩ => by
                        have := hmin u73.p hpm h1
                        omega
                      have har3 := area_b (hall _ hpm).1
                      refine CJ.regionD [0, 1, 2] [] (by kernel_rfl) rfl ?_
                      refine DJ.norm [_, _, _] [] rfl rfl ?_
                      refine DJ.yd 0 rfl (by kernel_rfl) (by kernel_rfl) (by kernel_rfl) rfl rfl (Yd.mvS rfl) ?_
                      refine DJ.yd 1 rfl (by kernel_rfl) (by kernel_rfl) (by kernel_rfl) rfl rfl (Yd.mvI rfl) ?_
                      refine DJ.idxA 2 rfl (by kernel_rfl) (by kernel_rfl) (by kernel_rfl) rfl rfl hlx rfl rfl (by omega) (by first | rfl | omega | (simp; done) | (simp; omega) | (simp [upN_len]; omega) | (simp [idxBy_len]; omega) | (simp [marks_len]; omega) | (simp [upN_len]; done) | (simp [idxBy_len]; done) | (simp [marks_len]; done) | (simp at *; omega)) (fun ib103 io103 ia103 ir103 => ?_)
                      refine DJ.yd 3 rfl (by kernel_rfl) (by kernel_rfl) (by kernel_rfl) rfl rfl (Yd.fieldAddr rfl) ?_
                      refine DJ.ldA 4 rfl (by kernel_rfl) (by kernel_rfl) (by kernel_rfl) rfl rfl 0 (fun u => vI u.p.l) (fun _ => rfl) ir103 rfl rfl (by first | rfl | omega | (simp; done) | (simp; omega) | (simp [upN_len]; omega) | (simp [idxBy_len]; omega) | (simp [marks_len]; omega) | (simp [upN_len]; done) | (simp [idxBy_len]; done) | (simp [marks_len]; done) | (simp at *; omega)) (fun u105 hu105 => ?_)
                      try simp only [Int.toNat_natCast] at hu105
                      obtain rfl : u73 = u105 := by rw [hu73] at hu105; exact Option.some.inj hu105
                      refine DJ.yd 5 rfl (by kernel_rfl) (by kernel_rfl) (by kernel_rfl) rfl rfl (Yd.mvI rfl) ?_
                      refine DJ.splitD 6 rfl (by kernel_rfl) (by kernel_rfl) (by kernel_rfl) rfl rfl (Yd.eql rfl rfl) (fun h107 => ?_) (fun h107 => ?_)
                      · refine DJ.yd 7 rfl (by kernel_rfl) (by kernel_rfl) (by kernel_rfl) rfl rfl (Yd.mvB rfl) ?_
                        refine DJ.yd 8 rfl (by kernel_rfl) (by kernel_rfl) (by kernel_rfl) rfl rfl (Yd.mvB rfl) ?_
                        refine DJ.yd 9 rfl (by kernel_rfl) (by kernel_rfl) (by kernel_rfl) rfl rfl (Yd.not rfl) ?_
                        refine DJ.yd 10 rfl (by kernel_rfl) (by kernel_rfl) (by kernel_rfl) rfl rfl (Yd.pickTB rfl rfl) ?_
                        refine DJ.yd 11 rfl (by kernel_rfl) (by kernel_rfl) (by kernel_rfl) rfl rfl (Yd.mvB rfl) ?_
                        refine DJ.yd 12 rfl (by kernel_rfl) (by kernel_rfl) (by kernel_rfl) rfl rfl (Yd.mvB rfl) ?_
                        refine DJ.yd 13 rfl (by kernel_rfl) (by kernel_rfl) (by kernel_rfl) rfl rfl (Yd.mvB rfl) ?_
                        refine DJ.yd 14 rfl (by kernel_rfl) (by kernel_rfl) (by kernel_rfl) rfl rfl (Yd.mvS rfl) ?_
                        refine DJ.yd 15 rfl (by kernel_rfl) (by kernel_rfl) (by kernel_rfl) rfl rfl (Yd.mvI rfl) ?_
                        refine DJ.idxA 16 rfl (by kernel_rfl) (by kernel_rfl) (by kernel_rfl) rfl rfl hlx rfl rfl (by omega) (by first | rfl | omega | (simp; done) | (simp; omega) | (simp [upN_len]; omega) | (simp [idxBy_len]; omega) | (simp [marks_len]; omega) | (simp [upN_len]; done) | (simp [idxBy_len]; done) | (simp [marks_len]; done) | (simp at *; omega)) (fun ib117 io117 ia117 ir117 => ?_)
                        refine DJ.yd 17 rfl (by kernel_rfl) (by kernel_rfl) (by kernel_rfl) rfl rfl (Yd.fieldAddr rfl) ?_
                        refine DJ.ldA 18 rfl (by kernel_rfl) (by kernel_rfl) (by kernel_rfl) rfl rfl 1 (fun u => vI u.p.w) (fun _ => rfl) ir117 rfl rfl (by first | rfl | omega | (simp; done) | (simp; omega) | (simp [upN_len]; omega) | (simp [idxBy_len]; omega) | (simp [marks_len]; omega) | (simp [upN_len]; done) | (simp [idxBy_len]; done) | (simp [marks_len]; done) | (simp at *; omega)) (fun u119 hu119 => ?_)
                        try simp only [Int.toNat_natCast] at hu119
                        obtain rfl : u73 = u119 := by rw [hu73] at hu119; exact Option.some.inj hu119
                        refine DJ.yd 19 rfl (by kernel_rfl) (by kernel_rfl) (by kernel_rfl) rfl rfl (Yd.mvS rfl) ?_
                        refine DJ.yd 20 rfl (by kernel_rfl) (by kernel_rfl) (by kernel_rfl) rfl rfl (Yd.mvI rfl) ?_
                        refine DJ.idxA 21 rfl (by kernel_rfl) (by kernel_rfl) (by kernel_rfl) rfl rfl hlx rfl rfl (by omega) (by first | rfl | omega | (simp; done) | (simp; omega) | (simp [upN_len]; omega) | (simp [idxBy_len]; omega) | (simp [marks_len]; omega) | (simp [upN_len]; done) | (simp [idxBy_len]; done) | (simp [marks_len]; done) | (simp at *; omega)) (fun ib122 io122 ia122 ir122 => ?_)
                        refine DJ.yd 22 rfl (by kernel_rfl) (by kernel_rfl) (by kernel_rfl) rfl rfl (Yd.fieldAddr rfl) ?_
                        refine DJ.ldA 23 rfl (by kernel_rfl) (by kernel_rfl) (by kernel_rfl) rfl rfl 2 (fun u => vI u.p.h) (fun _ => rfl) ir122 rfl rfl (by first | rfl | omega | (simp; done) | (simp; omega) | (simp [upN_len]; omega) | (simp [idxBy_len]; omega) | (simp [marks_len]; omega) | (simp [upN_len]; done) | (simp [idxBy_len]; done) | (simp [marks_len]; done) | (simp at *; omega)) (fun u124 hu124 => ?_)
                        try simp only [Int.toNat_natCast] at hu124
                        obtain rfl : u73 = u124 := by rw [hu73] at hu124; exact Option.some.inj hu124
                        refine DJ.yd 24 rfl (by kernel_rfl) (by kernel_rfl) (by kernel_rfl) rfl rfl (Yd.mul rfl rfl (by unfold I64; omega)) ?_
                        refine DJ.yd 25 rfl (by kernel_rfl) (by kernel_rfl) (by kernel_rfl) rfl rfl (Yd.mvI rfl) ?_
                        refine DJ.splitD 26 rfl (by kernel_rfl) (by kernel_rfl) (by kernel_rfl) rfl rfl (Yd.lss rfl rfl) (fun h127 => ?_) (fun h127 => ?_)
                        · refine DJ.yd 27 rfl (by kernel_rfl) (by kernel_rfl) (by kernel_rfl) rfl rfl (Yd.pickTB rfl rfl) ?_
                          refine DJ.yd 28 rfl (by kernel_rfl) (by kernel_rfl) (by kernel_rfl) rfl rfl (Yd.pickFB rfl rfl) ?_
                          refine DJ.done (by kernel_rfl) ?_
                          refine CJ.condT rfl ?_
                          refine CJ.seq ?_
                          refine CJ.region ?_
                          refine LJ.yd rfl (Yd.asB rfl) ?_
                          refine LJ.nil ?_
                          refine CJ.ret ?_
                          refine Fin.V (Res.one (ResV.tmp (v := .bool false) rfl)) ?_
                          first
                            | rfl
                            | (exfalso; refine hA ⟨by assumption, ?_⟩; simp [ccB, *]; done)
                            | (exfalso; refine hB ⟨?_, by assumption⟩; simp [ccB, *]; done)
                        · refine DJ.yd 27 rfl (by kernel_rfl) (by kernel_rfl) (by kernel_rfl) rfl rfl (Yd.pickTB rfl rfl) ?_
                          refine DJ.yd 28 rfl (by kernel_rfl) (by kernel_rfl) (by kernel_rfl) rfl rfl (Yd.pickFB rfl rfl) ?_
                          refine DJ.done (by kernel_rfl) ?_
                          refine CJ.condF rfl ?_
                          refine CJ.skip ?_
                          refine CJ.region ?_
                          refine LJ.yd rfl (Yd.mvI rfl) ?_
                          refine LJ.yd rfl (Yd.add rfl rfl (by unfold I64; omega)) ?_
                          refine LJ.yd rfl (Yd.asI rfl) ?_
                          refine LJ.nil ?_
                          refine ⟨(k + 1), ?_, ⟨rfl, rfl, rfl, rfl, trivial⟩, ⟨rfl, trivial⟩, Ent.pick [0] [1, 2] rfl, ?_⟩
                          · omega
                          · first | omega | (dsimp only; omega) | (simp only []; omega)
                      · refine DJ.yd 7 rfl (by kernel_rfl) (by kernel_rfl) (by kernel_rfl) rfl rfl (Yd.mvB rfl) ?_
                        refine DJ.skip 8 rfl (by kernel_rfl) (by kernel_rfl) (by kernel_rfl) rfl rfl ?_
                        refine DJ.skip 9 rfl (by kernel_rfl) (by kernel_rfl) (by kernel_rfl) rfl rfl ?_
                        refine DJ.yd 10 rfl (by kernel_rfl) (by kernel_rfl) (by kernel_rfl) rfl rfl (Yd.pickFB rfl rfl) ?_
                        refine DJ.yd 11 rfl (by kernel_rfl) (by kernel_rfl) (by kernel_rfl) rfl rfl (Yd.mvB rfl) ?_
                        refine DJ.yd 12 rfl (by kernel_rfl) (by kernel_rfl) (by kernel_rfl) rfl rfl (Yd.mvB rfl) ?_
                        refine DJ.yd 13 rfl (by kernel_rfl) (by kernel_rfl) (by kernel_rfl) rfl rfl (Yd.mvB rfl) ?_
                        refine DJ.yd 14 rfl (by kernel_rfl) (by kernel_rfl) (by kernel_rfl) rfl rfl (Yd.mvS rfl) ?_
                        refine DJ.yd 15 rfl (by kernel_rfl) (by kernel_rfl) (by kernel_rfl) rfl rfl (Yd.mvI rfl) ?_
                        refine DJ.idxA 16 rfl (by kernel_rfl) (by kernel_rfl) (by kernel_rfl) rfl rfl hlx rfl rfl (by omega) (by first | rfl | omega | (simp; done) | (simp; omega) | (simp [upN_len]; omega) | (simp [idxBy_len]; omega) | (simp [marks_len]; omega) | (simp [upN_len]; done) | (simp [idxBy_len]; done) | (simp [marks_len]; done) | (simp at *; omega)) (fun ib117 io117 ia117 ir117 => ?_)
                        refine DJ.yd 17 rfl (by kernel_rfl) (by kernel_rfl) (by kernel_rfl) rfl rfl (Yd.fieldAddr rfl) ?_
                        refine DJ.ldA 18 rfl (by kernel_rfl) (by kernel_rfl) (by kernel_rfl) rfl rfl 1 (fun u => vI u.p.w) (fun _ => rfl) ir117 rfl rfl (by first | rfl | omega | (simp; done) | (simp; omega) | (simp [upN_len]; omega) | (simp [idxBy_len]; omega) | (simp [marks_len]; omega) | (simp [upN_len]; done) | (simp [idxBy_len]; done) | (simp [marks_len]; done) | (simp at *; omega)) (fun u119 hu119 => ?_)
                        try simp only [Int.toNat_natCast] at hu119
                        obtain rfl : u73 = u119 := by rw [hu73] at hu119; exact Option.some.inj hu119
                        refine DJ.yd 19 rfl (by kernel_rfl) (by kernel_rfl) (by kernel_rfl) rfl rfl (Yd.mvS rfl) ?_
                        refine DJ.yd 20 rfl (by kernel_rfl) (by kernel_rfl) (by kernel_rfl) rfl rfl (Yd.mvI rfl) ?_
                        refine DJ.idxA 21 rfl (by kernel_rfl) (by kernel_rfl) (by kernel_rfl) rfl rfl hlx rfl rfl (by omega) (by first | rfl | omega | (simp; done) | (simp; omega) | (simp [upN_len]; omega) | (simp [idxBy_len]; omega) | (simp [marks_len]; omega) | (simp [upN_len]; done) | (simp [idxBy_len]; done) | (simp [marks_len]; done) | (simp at *; omega)) (fun ib122 io122 ia122 ir122 => ?_)
                        refine DJ.yd 22 rfl (by kernel_rfl) (by kernel_rfl) (by kernel_rfl) rfl rfl (Yd.fieldAddr rfl) ?_
                        refine DJ.ldA 23 rfl (by kernel_rfl) (by kernel_rfl) (by kernel_rfl) rfl rfl 2 (fun u => vI u.p.h) (fun _ => rfl) ir122 rfl rfl (by first | rfl | omega | (simp; done) | (simp; omega) | (simp [upN_len]; omega) | (simp [idxBy_len]; omega) | (simp [marks_len]; omega) | (simp [upN_len]; done) | (simp [idxBy_len]; done) | (simp [marks_len]; done) | (simp at *; omega)) (fun u124 hu124 => ?_)
                        try simp only [Int.toNat_natCast] at hu124
                        obtain rfl : u73 = u124 := by rw [hu73] at hu124; exact Option.some.inj hu124
                        refine DJ.yd 24 rfl (by kernel_rfl) (by kernel_rfl) (by kernel_rfl) rfl rfl (Yd.mul rfl rfl (by unfold I64; omega)) ?_
                        refine DJ.yd 25 rfl (by kernel_rfl) (by kernel_rfl) (by kernel_rfl) rfl rfl (Yd.mvI rfl) ?_
                        refine DJ.splitD 26 rfl (by kernel_rfl) (by kernel_rfl) (by kernel_rfl) rfl rfl (Yd.lss rfl rfl) (fun h127 => ?_) (fun h127 => ?_)
                        · refine DJ.yd 27 rfl (by kernel_rfl) (by kernel_rfl) (by kernel_rfl) rfl rfl (Yd.pickTB rfl rfl) ?_
                          refine DJ.yd 28 rfl (by kernel_rfl) (by kernel_rfl) (by kernel_rfl) rfl rfl (Yd.pickFB rfl rfl) ?_
                          refine DJ.done (by kernel_rfl) ?_
                          refine CJ.condT rfl ?_
                          refine CJ.seq ?_
                          refine CJ.region ?_
                          refine LJ.yd rfl (Yd.asB rfl) ?_
                          refine LJ.nil ?_
                          refine CJ.ret ?_
                          refine Fin.V (Res.one (ResV.tmp (v := .bool false) rfl)) ?_
                          first
                            | rfl
                            | (exfalso; refine hA ⟨by assumption, ?_⟩; simp [ccB, *]; done)
                            | (exfalso; refine hB ⟨?_, by assumption⟩; simp [ccB, *]; done)
                        · refine DJ.yd 27 rfl (by kernel_rfl) (by kernel_rfl) (by kernel_rfl) rfl rfl (Yd.pickTB rfl rfl) ?_
                          refine DJ.yd 28 rfl (by kernel_rfl) (by kernel_rfl) (by kernel_rfl) rfl rfl (Yd.pickFB rfl rfl) ?_
                          refine DJ.done (by kernel_rfl) ?_
                          refine CJ.condF rfl ?_
                          refine CJ.skip ?_
                          refine CJ.region ?_
                          refine LJ.yd rfl (Yd.mvI rfl) ?_
                          refine LJ.yd rfl (Yd.add rfl rfl (by unfold I64; omega)) ?_
                          refine LJ.yd rfl (Yd.asI rfl) ?_
                          refine LJ.nil ?_
                          refine ⟨(k + 1), ?_, ⟨rfl, rfl, rfl, rfl, trivial⟩, ⟨rfl, trivial⟩, Ent.pick [0] [1, 2] rfl, ?_⟩
                          · omega
                          · first | omega | (dsimp only; omega) | (simp only []; omega)
                · refine DJ.one (i := 13) (by kernel_rfl) ?_
                  refine DO.store (v := .agg #[_, _, _, _]) (us := [_, _, _, _]) 0 rfl rfl rfl rfl rfl rfl rfl rfl rfl rfl ?_
                  refine DJ.yd 14 rfl (by kernel_rfl) (by kernel_rfl) (by kernel_rfl) rfl rfl (Yd.asB rfl) ?_
                  refine DJ.done (by kernel_rfl) ?_
                  refine CJ.seq ?_
                  refine CJ.regionD [0, 1] [] (by kernel_rfl) rfl ?_
                  refine DJ.norm [_, _] [] rfl rfl ?_
                  refine DJ.yd 0 rfl (by kernel_rfl) (by kernel_rfl) (by kernel_rfl) rfl rfl (Yd.mvS rfl) ?_
                  refine DJ.yd 1 rfl (by kernel_rfl) (by kernel_rfl) (by kernel_rfl) rfl rfl (Yd.mvI rfl) ?_
                  refine DJ.idxA 2 rfl (by kernel_rfl) (by kernel_rfl) (by kernel_rfl) rfl rfl hlx rfl rfl (by omega) (by first | rfl | omega | (simp; done) | (simp; omega) | (simp [upN_len]; omega) | (simp [idxBy_len]; omega) | (simp [marks_len]; omega) | (simp [upN_len]; done) | (simp [idxBy_len]; done) | (simp [marks_len]; done) | (simp at *; omega)) (fun ib84 io84 ia84 ir84 => ?_)
                  refine DJ.lgA 3 rfl (by kernel_rfl) (by kernel_rfl) (by kernel_rfl) rfl rfl (enc := encQ) (fun u => [vI u.p.l, vI u.p.w, vI u.p.h, .slice u.a u.p.fl.length u.c]) (fun _ => rfl) (fun _ => rfl) ir84 rfl rfl (by first | rfl | omega | (simp; done) | (simp; omega) | (simp [upN_len]; omega) | (simp [idxBy_len]; omega) | (simp [marks_len]; omega) | (simp [upN_len]; done) | (simp [idxBy_len]; done) | (simp [marks_len]; done) | (simp at *; omega)) (fun u85 hu85 => ?_)
                  try simp only [Int.toNat_natCast] at hu85
                  obtain rfl : u73 = u85 := by rw [hu73] at hu85; exact Option.some.inj hu85
                  refine DJ.yd 4 rfl (by kernel_rfl) (by kernel_rfl) (by kernel_rfl) rfl rfl (Yd.fieldAddr rfl) ?_
                  refine DJ.yd 5 rfl (by kernel_rfl) (by kernel_rfl) (by kernel_rfl) rfl rfl (Yd.loadC 0 rfl rfl rfl) ?_
                  refine DJ.yd 6 rfl (by kernel_rfl) (by kernel_rfl) (by kernel_rfl) rfl rfl (Yd.fieldAddr rfl) ?_
                  refine DJ.yd 7 rfl (by kernel_rfl) (by kernel_rfl) (by kernel_rfl) rfl rfl (Yd.loadC 0 rfl rfl rfl) ?_
                  refine DJ.two (i := 8) (j := 12) (by kernel_rfl) ?_ ?_
                  · refine DO.call0 rfl rfl rfl (fun k0 hk0 dk0 k hk dk => FirstClearI_ok (p := u73.p) (RdRow.up (hx9 u73 (List.mem_of_getElem? hu73)))) ?_
                    rintro _ _ ⟨r90, rfl, rfl⟩
                    refine DJ.yd 9 rfl (by kernel_rfl) (by kernel_rfl) (by kernel_rfl) rfl rfl (Yd.mvU rfl) ?_
                    refine DJ.yd 10 rfl (by kernel_rfl) (by kernel_rfl) (by kernel_rfl) rfl rfl (Yd.extract rfl rfl) ?_
                    refine DJ.split 11 rfl (by kernel_rfl) (by kernel_rfl) (by kernel_rfl) rfl rfl (Yd.extract rfl rfl) (fun h92 => ?_) (fun h92 => ?_)
                    · refine DJ.one (i := 12) (by kernel_rfl) ?_
                      refine DO.alloc ([_, _, _, _] : List Value) rfl rfl rfl rfl (fun b14 => ?_)
                      refine DJ.one (i := 13) (by kernel_rfl) ?_
                      refine DO.store (v := .agg #[_, _, _, _]) (us := [_, _, _, _]) 0 rfl rfl rfl rfl rfl rfl rfl rfl rfl rfl ?_
                      refine DJ.yd 14 rfl (by kernel_rfl) (by kernel_rfl) (by kernel_rfl) rfl rfl (Yd.asB rfl) ?_
                      refine DJ.done (by kernel_rfl) ?_
                      refine CJ.seq ?_
                      refine CJ.region ?_
                      refine LJ.yd rfl (Yd.mvB rfl) ?_
                      refine LJ.yd rfl (Yd.mvB rfl) ?_
                      refine LJ.gT rfl ?_
                      refine LJ.yd rfl (Yd.mvB rfl) ?_
                      refine LJ.gT rfl ?_
                      refine LJ.yd rfl (Yd.mvB rfl) ?_
                      refine LJ.gT rfl ?_
                      refine LJ.yd rfl (Yd.fieldAddr rfl) ?_
                      refine LJ.gT rfl ?_
                      refine LJ.split rfl (Yd.loadC 0 rfl rfl rfl) (fun h98 => ?_) (fun h98 => ?_)
                      · refine LJ.gT rfl ?_
                        refine LJ.yd rfl (Yd.pickTB rfl rfl) ?_
                        refine LJ.yd rfl (Yd.pickFB rfl rfl) ?_
                        refine LJ.yd rfl (Yd.asB rfl) ?_
                        refine LJ.nil ?_
                        refine CJ.seq ?_
                        have hpm : u73.p ∈ psX X := List.mem_map_of_mem (List.mem_of_getElem? hu73)
                        have hA : ¬ (u73.p.l = fpR (psX X) ⟨pW, pH, pT, pK⟩ ∧ ccB u73.p ⟨pW, pH, pT, pK⟩ = false) := fun ⟨h1, h2⟩ => by
                          have := huq u73.p hpm u0.p hp0 (by omega)
                          rw [this, hcc0] at h2; cases h2
                        have hB : ¬ (ccB u73.p ⟨pW, pH, pT, pK⟩ = true ∧ u73.p.w * u73.p.h < sz) := fun ⟨h1, h2⟩ => by
                          have := hmin u73.p hpm h1
                          omega
                        have har3 := area_b (hall _ hpm).1
                        refine CJ.regionD [0, 1, 2] [] (by kernel_rfl) rfl ?_
                        refine DJ.norm [_, _, _] [] rfl rfl ?_
                        refine DJ.yd 0 rfl (by kernel_rfl) (by kernel_rfl) (by kernel_rfl) rfl rfl (Yd.mvS rfl) ?_
                        refine DJ.yd 1 rfl (by kernel_rfl) (by kernel_rfl) (by kernel_rfl) rfl rfl (Yd.mvI rfl) ?_
                        refine DJ.idxA 2 rfl (by kernel_rfl) (by kernel_rfl) (by kernel_rfl) rfl rfl hlx rfl rfl (by omega) (by first | rfl | omega | (simp; done) | (simp; omega) | (simp [upN_len]; omega) | (simp [idxBy_len]; omega) | (simp [marks_len]; omega) | (simp [upN_len]; done) | (simp [idxBy_len]; done) | (simp [marks_len]; done) | (simp at *; omega)) (fun ib103 io103 ia103 ir103 => ?_)
                        refine DJ.yd 3 rfl (by kernel_rfl) (by kernel_rfl) (by kernel_rfl) rfl rfl (Yd.fieldAddr rfl) ?_
                        refine DJ.ldA 4 rfl (by kernel_rfl) (by kernel_rfl) (by kernel_rfl) rfl rfl 0 (fun u => vI u.p.l) (fun _ => rfl) ir103 rfl rfl (by first | rfl | omega | (simp; done) | (simp; omega) | (simp [upN_len]; omega) | (simp [idxBy_len]; omega) | (simp [marks_len]; omega) | (simp [upN_len]; done) | (simp [idxBy_len]; done) | (simp [marks_len]; done) | (simp at *; omega)) (fun u105 hu105 => ?_)
                        try simp only [Int.toNat_natCast] at hu105
                        obtain rfl : u73 = u105 := by rw [hu73] at hu105; exact Option.some.inj hu105
                        refine DJ.yd 5 rfl (by kernel_rfl) (by kernel_rfl) (by kernel_rfl) rfl rfl (Yd.mvI rfl) ?_
                        refine DJ.splitD 6 rfl (by kernel_rfl) (by kernel_rfl) (by kernel_rfl) rfl rfl (Yd.eql rfl rfl) (fun h107 => ?_) (fun h107 => ?_)
                        · refine DJ.yd 7 rfl (by kernel_rfl) (by kernel_rfl) (by kernel_rfl) rfl rfl (Yd.mvB rfl) ?_
                          refine DJ.yd 8 rfl (by kernel_rfl) (by kernel_rfl) (by kernel_rfl) rfl rfl (Yd.mvB rfl) ?_
                          refine DJ.yd 9 rfl (by kernel_rfl) (by kernel_rfl) (by kernel_rfl) rfl rfl (Yd.not rfl) ?_
                          refine DJ.yd 10 rfl (by kernel_rfl) (by kernel_rfl) (by kernel_rfl) rfl rfl (Yd.pickTB rfl rfl) ?_
                          refine DJ.yd 11 rfl (by kernel_rfl) (by kernel_rfl) (by kernel_rfl) rfl rfl (Yd.mvB rfl) ?_
                          refine DJ.yd 12 rfl (by kernel_rfl) (by kernel_rfl) (by kernel_rfl) rfl rfl (Yd.mvB rfl) ?_
                          refine DJ.yd 13 rfl (by kernel_rfl) (by kernel_rfl) (by kernel_rfl) rfl rfl (Yd.mvB rfl) ?_
                          refine DJ.yd 14 rfl (by kernel_rfl) (by kernel_rfl) (by kernel_rfl) rfl rfl (Yd.mvS rfl) ?_
                          refine DJ.yd 15 rfl (by kernel_rfl) (by kernel_rfl) (by kernel_rfl) rfl rfl (Yd.mvI rfl) ?_
                          refine DJ.idxA 16 rfl (by kernel_rfl) (by kernel_rfl) (by kernel_rfl) rfl rfl hlx rfl rfl (by omega) (by first | rfl | omega | (simp; done) | (simp; omega) | (simp [upN_len]; omega) | (simp [idxBy_len]; omega) | (simp [marks_len]; omega) | (simp [upN_len]; done) | (simp [idxBy_len]; done) | (simp [marks_len]; done) | (simp at *; omega)) (fun ib117 io117 ia117 ir117 => ?_)
                          refine DJ.yd 17 rfl (by kernel_rfl) (by kernel_rfl) (by kernel_rfl) rfl rfl (Yd.fieldAddr rfl) ?_
                          refine DJ.ldA 18 rfl (by kernel_rfl) (by kernel_rfl) (by kernel_rfl) rfl rfl 1 (fun u => vI u.p.w) (fun _ => rfl) ir117 rfl rfl (by first | rfl | omega | (simp; done) | (simp; omega) | (simp [upN_len]; omega) | (simp [idxBy_len]; omega) | (simp [marks_len]; omega) | (simp [upN_len]; done) | (simp [idxBy_len]; done) | (simp [marks_len]; done) | (simp at *; omega)) (fun u119 hu119 => ?_)
                          try simp only [Int.toNat_natCast] at hu119
                          obtain rfl : u73 = u119 := by rw [hu73] at hu119; exact Option.some.inj hu119
                          refine DJ.yd 19 rfl (by kernel_rfl) (by kernel_rfl) (by kernel_rfl) rfl rfl (Yd.mvS rfl) ?_
                          refine DJ.yd 20 rfl (by kernel_rfl) (by kernel_rfl) (by kernel_rfl) rfl rfl (Yd.mvI rfl) ?_
                          refine DJ.idxA 21 rfl (by kernel_rfl) (by kernel_rfl) (by kernel_rfl) rfl rfl hlx rfl rfl (by omega) (by first | rfl | omega | (simp; done) | (simp; omega) | (simp [upN_len]; omega) | (simp [idxBy_len]; omega) | (simp [marks_len]; omega) | (simp [upN_len]; done) | (simp [idxBy_len]; done) | (simp [marks_len]; done) | (simp at *; omega)) (fun ib122 io122 ia122 ir122 => ?_)
                          refine DJ.yd 22 rfl (by kernel_rfl) (by kernel_rfl) (by kernel_rfl) rfl rfl (Yd.fieldAddr rfl) ?_
                          refine DJ.ldA 23 rfl (by kernel_rfl) (by kernel_rfl) (by kernel_rfl) rfl rfl 2 (fun u => vI u.p.h) (fun _ => rfl) ir122 rfl rfl (by first | rfl | omega | (simp; done) | (simp; omega) | (simp [upN_len]; omega) | (simp [idxBy_len]; omega) | (simp [marks_len]; omega) | (simp [upN_len]; done) | (simp [idxBy_len]; done) | (simp [marks_len]; done) | (simp at *; omega)) (fun u124 hu124 => ?_)
                          try simp only [Int.toNat_natCast] at hu124
                          obtain rfl : u73 = u124 := by rw [hu73] at hu124; exact Option.some.inj hu124
                          refine DJ.yd 24 rfl (by kernel_rfl) (by kernel_rfl) (by kernel_rfl) rfl rfl (Yd.mul rfl rfl (by unfold I64; omega)) ?_
                          refine DJ.yd 25 rfl (by kernel_rfl) (by kernel_rfl) (by kernel_rfl) rfl rfl (Yd.mvI rfl) ?_
                          refine DJ.splitD 26 rfl (by kernel_rfl) (by kernel_rfl) (by kernel_rfl) rfl rfl (Yd.lss rfl rfl) (fun h127 => ?_) (fun h127 => ?_)
                          · refine DJ.yd 27 rfl (by kernel_rfl) (by kernel_rfl) (by kernel_rfl) rfl rfl (Yd.pickTB rfl rfl) ?_
                            refine DJ.yd 28 rfl (by kernel_rfl) (by kernel_rfl) (by kernel_rfl) rfl rfl (Yd.pickFB rfl rfl) ?_
                            refine DJ.done (by kernel_rfl) ?_
                            refine CJ.condT rfl ?_
                            refine CJ.seq ?_
                            refine CJ.region ?_
                            refine LJ.yd rfl (Yd.asB rfl) ?_
                            refine LJ.nil ?_
                            refine CJ.ret ?_
                            refine Fin.V (Res.one (ResV.tmp (v := .bool false) rfl)) ?_
                            first
                              | rfl
                              | (exfalso; refine hA ⟨by assumption, ?_⟩; simp [ccB, *]; done)
                              | (exfalso; refine hB ⟨?_, by assumption⟩; simp [ccB, *]; done)
                          · refine DJ.yd 27 rfl (by kernel_rfl) (by kernel_rfl) (by kernel_rfl) rfl rfl (Yd.pickTB rfl rfl) ?_
                            refine DJ.yd 28 rfl (by kernel_rfl) (by kernel_rfl) (by kernel_rfl) rfl rfl (Yd.pickFB rfl rfl) ?_
                            refine DJ.done (by kernel_rfl) ?_
                            refine CJ.condF rfl ?_
                            refine CJ.skip ?_
                            refine CJ.region ?_
                            refine LJ.yd rfl (Yd.mvI rfl) ?_
                            refine LJ.yd rfl (Yd.add rfl rfl (by unfold I64; omega)) ?_
                            refine LJ.yd rfl (Yd.asI rfl) ?_
                            refine LJ.nil ?_
                            refine ⟨(k + 1), ?_, ⟨rfl, rfl, rfl, rfl, trivial⟩, ⟨rfl, trivial⟩, Ent.pick [0] [1, 2] rfl, ?_⟩
                            · omega
                            · first | omega | (dsimp only; omega) | (simp only []; omega)
                        · refine DJ.yd 7 rfl (by kernel_rfl) (by kernel_rfl) (by kernel_rfl) rfl rfl (Yd.mvB rfl) ?_
                          refine DJ.skip 8 rfl (by kernel_rfl) (by kernel_rfl) (by kernel_rfl) rfl rfl ?_
                          refine DJ.skip 9 rfl (by kernel_rfl) (by kernel_rfl) (by kernel_rfl) rfl rfl ?_
                          refine DJ.yd 10 rfl (by kernel_rfl) (by kernel_rfl) (by kernel_rfl) rfl rfl (Yd.pickFB rfl rfl) ?_
                          refine DJ.yd 11 rfl (by kernel_rfl) (by kernel_rfl) (by kernel_rfl) rfl rfl (Yd.mvB rfl) ?_
                          refine DJ.yd 12 rfl (by kernel_rfl) (by kernel_rfl) (by kernel_rfl) rfl rfl (Yd.mvB rfl) ?_
                          refine DJ.yd 13 rfl (by kernel_rfl) (by kernel_rfl) (by kernel_rfl) rfl rfl (Yd.mvB rfl) ?_
                          refine DJ.yd 14 rfl (by kernel_rfl) (by kernel_rfl) (by kernel_rfl) rfl rfl (Yd.mvS rfl) ?_
                          refine DJ.yd 15 rfl (by kernel_rfl) (by kernel_rfl) (by kernel_rfl) rfl rfl (Yd.mvI rfl) ?_
                          refine DJ.idxA 16 rfl (by kernel_rfl) (by kernel_rfl) (by kernel_rfl) rfl rfl hlx rfl rfl (by omega) (by first | rfl | omega | (simp; done) | (simp; omega) | (simp [upN_len]; omega) | (simp [idxBy_len]; omega) | (simp [marks_len]; omega) | (simp [upN_len]; done) | (simp [idxBy_len]; done) | (simp [marks_len]; done) | (simp at *; omega)) (fun ib117 io117 ia117 ir117 => ?_)
                          refine DJ.yd 17 rfl (by kernel_rfl) (by kernel_rfl) (by kernel_rfl) rfl rfl (Yd.fieldAddr rfl) ?_
                          refine DJ.ldA 18 rfl (by kernel_rfl) (by kernel_rfl) (by kernel_rfl) rfl rfl 1 (fun u => vI u.p.w) (fun _ => rfl) ir117 rfl rfl (by first | rfl | omega | (simp; done) | (simp; omega) | (simp [upN_len]; omega) | (simp [idxBy_len]; omega) | (simp [marks_len]; omega) | (simp [upN_len]; done) | (simp [idxBy_len]; done) | (simp [marks_len]; done) | (simp at *; omega)) (fun u119 hu119 => ?_)
                          try simp only [Int.toNat_natCast] at hu119
                          obtain rfl : u73 = u119 := by rw [hu73] at hu119; exact Option.some.inj hu119
                          refine DJ.yd 19 rfl (by kernel_rfl) (by kernel_rfl) (by kernel_rfl) rfl rfl (Yd.mvS rfl) ?_
                          refine DJ.yd 20 rfl (by kernel_rfl) (by kernel_rfl) (by kernel_rfl) rfl rfl (Yd.mvI rfl) ?_
                          refine DJ.idxA 21 rfl (by kernel_rfl) (by kernel_rfl) (by kernel_rfl) rfl rfl hlx rfl rfl (by omega) (by first | rfl | omega | (simp; done) | (simp; omega) | (simp [upN_len]; omega) | (simp [idxBy_len]; omega) | (simp [marks_len]; omega) | (simp [upN_len]; done) | (simp [idxBy_len]; done) | (simp [marks_len]; done) | (simp at *; omega)) (fun ib122 io122 ia122 ir122 => ?_)
                          refine DJ.yd 22 rfl (by kernel_rfl) (by kernel_rfl) (by kernel_rfl) rfl rfl (Yd.fieldAddr rfl) ?_
                          refine DJ.ldA 23 rfl (by kernel_rfl) (by kernel_rfl) (by kernel_rfl) rfl rfl 2 (fun u => vI u.p.h) (fun _ => rfl) ir122 rfl rfl (by first | rfl | omega | (simp; done) | (simp; omega) | (simp [upN_len]; omega) | (simp [idxBy_len]; omega) | (simp [marks_len]; omega) | (simp [upN_len]; done) | (simp [idxBy_len]; done) | (simp [marks_len]; done) | (simp at *; omega)) (fun u124 hu124 => ?_)
                          try simp only [Int.toNat_natCast] at hu124
                          obtain rfl : u73 = u124 := by rw [hu73] at hu124; exact Option.some.inj hu124
                          refine DJ.yd 24 rfl (by kernel_rfl) (by kernel_rfl) (by kernel_rfl) rfl rfl (Yd.mul rfl rfl (by unfold I64; omega)) ?_
                          refine DJ.yd 25 rfl (by kernel_rfl) (by kernel_rfl) (by kernel_rfl) rfl rfl (Yd.mvI rfl) ?_
                          refine DJ.splitD 26 rfl (by kernel_rfl) (by kernel_rfl) (by kernel_rfl) rfl rfl (Yd.lss rfl rfl) (fun h127 => ?_) (fun h127 => ?_)
                          · refine DJ.yd 27 rfl (by kernel_rfl) (by kernel_rfl) (by kernel_rfl) rfl rfl (Yd.pickTB rfl rfl) ?_
                            refine DJ.yd 28 rfl (by kernel_rfl) (by kernel_rfl) (by kernel_rfl) rfl rfl (Yd.pickFB rfl rfl) ?_
                            refine DJ.done (by kernel_rfl) ?_
                            refine CJ.condT rfl ?_
                            refine CJ.seq ?_
                            refine CJ.region ?_
                            refine LJ.yd rfl (Yd.asB rfl) ?_
                            refine LJ.nil ?_
                            refine CJ.ret ?_
                            refine Fin.V (Res.one (ResV.tmp (v := .bool false) rfl)) ?_
                            first
                              | rfl
                              | (exfalso; refine hA ⟨by assumption, ?_⟩; simp [ccB, *]; done)
                              | (exfalso; refine hB ⟨?_, by assumption⟩; simp [ccB, *]; done)
                          · refine DJ.yd 27 rfl (by kernel_rfl) (by kernel_rfl) (by kernel_rfl) rfl rfl (Yd.pickTB rfl rfl) ?_
                            refine DJ.yd 28 rfl (by kernel_rfl) (by kernel_rfl) (by kernel_rfl) rfl rfl (Yd.pickFB rfl rfl) ?_
                            refine DJ.done (by kernel_rfl) ?_
                            refine CJ.condF rfl ?_
                            refine CJ.skip ?_
                            refine CJ.region ?_
                            refine LJ.yd rfl (Yd.mvI rfl) ?_
                            refine LJ.yd rfl (Yd.add rfl rfl (by unfold I64; omega)) ?_
                            refine LJ.yd rfl (Yd.asI rfl) ?_
                            refine LJ.nil ?_
                            refine ⟨(k + 1), ?_, ⟨rfl, rfl, rfl, rfl, trivial⟩, ⟨rfl, trivial⟩, Ent.pick [0] [1, 2] rfl, ?_⟩
                            · omega
                            · first | omega | (dsimp only; omega) | (simp only []; omega)
                      · refine LJ.gT rfl ?_
                        refine LJ.yd rfl (Yd.pickTB rfl rfl) ?_
                        refine LJ.yd rfl (Yd.pickFB rfl rfl) ?_
                        refine LJ.yd rfl (Yd.asB rfl) ?_
                        refine LJ.nil ?_
                        refine CJ.seq ?_
                        have hpm : u73.p ∈ psX X := List.mem_map_of_mem (List.mem_of_getElem? hu73)
                        have hA : ¬ (u73.p.l = fpR (psX X) ⟨pW, pH, pT, pK⟩ ∧ ccB u73.p ⟨pW, pH, pT, pK⟩ = false) := fun ⟨h1, h2⟩ => by
                          have := huq u73.p hpm u0.p hp0 (by omega)
                          rw [this, hcc0] at h2; cases h2
                        have hB : ¬ (ccB u73.p ⟨pW, pH, pT, pK⟩ = true ∧ u73.p.w * u73.p.h < sz) := fun ⟨h1, h2⟩ => by
                          have := hmin u73.p hpm h1
                          omega
                        have har3 := area_b (hall _ hpm).1
                        refine CJ.regionD [0, 1, 2] [] (by kernel_rfl) rfl ?_
                        refine DJ.norm [_, _, _] [] rfl rfl ?_
                        refine DJ.yd 0 rfl (by kernel_rfl) (by kernel_rfl) (by kernel_rfl) rfl rfl (Yd.mvS rfl) ?_
                        refine DJ.yd 1 rfl (by kernel_rfl) (by kernel_rfl) (by kernel_rfl) rfl rfl (Yd.mvI rfl) ?_
                        refine DJ.idxA 2 rfl (by kernel_rfl) (by kernel_rfl) (by kernel_rfl) rfl rfl hlx rfl rfl (by omega) (by first | rfl | omega | (simp; done) | (simp; omega) | (simp [upN_len]; omega) | (simp [idxBy_len]; omega) | (simp [marks_len]; omega) | (simp [upN_len]; done) | (simp [idxBy_len]; done) | (simp [marks_len]; done) | (simp at *; omega)) (fun ib103 io103 ia103 ir103 => ?_)
                        refine DJ.yd 3 rfl (by kernel_rfl) (by kernel_rfl) (by kernel_rfl) rfl rfl (Yd.fieldAddr rfl) ?_
                        refine DJ.ldA 4 rfl (by kernel_rfl) (by kernel_rfl) (by kernel_rfl) rfl rfl 0 (fun u => vI u.p.l) (fun _ => rfl) ir103 rfl rfl (by first | rfl | omega | (simp; done) | (simp; omega) | (simp [upN_len]; omega) | (simp [idxBy_len]; omega) | (simp [marks_len]; omega) | (simp [upN_len]; done) | (simp [idxBy_len]; done) | (simp [marks_len]; done) | (simp at *; omega)) (fun u105 hu105 => ?_)
                        try simp only [Int.toNat_natCast] at hu105
                        obtain rfl : u73 = u105 := by rw [hu73] at hu105; exact Option.some.inj hu105
                        refine DJ.yd 5 rfl (by kernel_rfl) (by kernel_rfl) (by kernel_rfl) rfl rfl (Yd.mvI rfl) ?_
                        refine DJ.splitD 6 rfl (by kernel_rfl) (by kernel_rfl) (by kernel_rfl) rfl rfl (Yd.eql rfl rfl) (fun h107 => ?_) (fun h107 => ?_)
                        · refine DJ.yd 7 rfl (by kernel_rfl) (by kernel_rfl) (by kernel_rfl) rfl rfl (Yd.mvB rfl) ?_
                          refine DJ.yd 8 rfl (by kernel_rfl) (by kernel_rfl) (by kernel_rfl) rfl rfl (Yd.mvB rfl) ?_
                          refine DJ.yd 9 rfl (by kernel_rfl) (by kernel_rfl) (by kernel_rfl) rfl rfl (Yd.not rfl) ?_
                          refine DJ.yd 10 rfl (by kernel_rfl) (by kernel_rfl) (by kernel_rfl) rfl rfl (Yd.pickTB rfl rfl) ?_
                          refine DJ.yd 11 rfl (by kernel_rfl) (by kernel_rfl) (by kernel_rfl) rfl rfl (Yd.mvB rfl) ?_
                          refine DJ.skip 12 rfl (by kernel_rfl) (by kernel_rfl) (by kernel_rfl) rfl rfl ?_
                          refine DJ.skip 13 rfl (by kernel_rfl) (by kernel_rfl) (by kernel_rfl) rfl rfl ?_
                          refine DJ.skip 14 rfl (by kernel_rfl) (by kernel_rfl) (by kernel_rfl) rfl rfl ?_
                          refine DJ.skip 15 rfl (by kernel_rfl) (by kernel_rfl) (by kernel_rfl) rfl rfl ?_
                          refine DJ.skip 16 rfl (by kernel_rfl) (by kernel_rfl) (by kernel_rfl) rfl rfl ?_
                          refine DJ.skip 17 rfl (by kernel_rfl) (by kernel_rfl) (by kernel_rfl) rfl rfl ?_
                          refine DJ.skip 18 rfl (by kernel_rfl) (by kernel_rfl) (by kernel_rfl) rfl rfl ?_
                          refine DJ.skip 19 rfl (by kernel_rfl) (by kernel_rfl) (by kernel_rfl) rfl rfl ?_
                          refine DJ.skip 20 rfl (by kernel_rfl) (by kernel_rfl) (by kernel_rfl) rfl rfl ?_
                          refine DJ.skip 21 rfl (by kernel_rfl) (by kernel_rfl) (by kernel_rfl) rfl rfl ?_
                          refine DJ.skip 22 rfl (by kernel_rfl) (by kernel_rfl) (by kernel_rfl) rfl rfl ?_
                          refine DJ.skip 23 rfl (by kernel_rfl) (by kernel_rfl) (by kernel_rfl) rfl rfl ?_
                          refine DJ.skip 24 rfl (by kernel_rfl) (by kernel_rfl) (by kernel_rfl) rfl rfl ?_
                          refine DJ.skip 25 rfl (by kernel_rfl) (by kernel_rfl) (by kernel_rfl) rfl rfl ?_
                          refine DJ.skip 26 rfl (by kernel_rfl) (by kernel_rfl) (by kernel_rfl) rfl rfl ?_
                          refine DJ.skip 27 rfl (by kernel_rfl) (by kernel_rfl) (by kernel_rfl) rfl rfl ?_
                          refine DJ.yd 28 rfl (by kernel_rfl) (by kernel_rfl) (by kernel_rfl) rfl rfl (Yd.pickTB rfl rfl) ?_
                          refine DJ.done (by kernel_rfl) ?_
                          refine CJ.condT rfl ?_
                          refine CJ.seq ?_
                          refine CJ.region ?_
                          refine LJ.yd rfl (Yd.asB rfl) ?_
                          refine LJ.nil ?_
                          refine CJ.ret ?_
                          refine Fin.V (Res.one (ResV.tmp (v := .bool false) rfl)) ?_
                          first
                            | rfl
                            | (exfalso; refine hA ⟨by assumption, ?_⟩; simp [ccB, *]; done)
                            | (exfalso; refine hB ⟨?_, by assumption⟩; simp [ccB, *]; done)
                        · refine DJ.yd 7 rfl (by kernel_rfl) (by kernel_rfl) (by kernel_rfl) rfl rfl (Yd.mvB rfl) ?_
                          refine DJ.skip 8 rfl (by kernel_rfl) (by kernel_rfl) (by kernel_rfl) rfl rfl ?_
                          refine DJ.skip 9 rfl (by kernel_rfl) (by kernel_rfl) (by kernel_rfl) rfl rfl ?_
                          refine DJ.yd 10 rfl (by kernel_rfl) (by kernel_rfl) (by kernel_rfl) rfl rfl (Yd.pickFB rfl rfl) ?_
                          refine DJ.yd 11 rfl (by kernel_rfl) (by kernel_rfl) (by kernel_rfl) rfl rfl (Yd.mvB rfl) ?_
                          refine DJ.yd 12 rfl (by kernel_rfl) (by kernel_rfl) (by kernel_rfl) rfl rfl (Yd.mvB rfl) ?_
                          refine DJ.yd 13 rfl (by kernel_rfl) (by kernel_rfl) (by kernel_rfl) rfl rfl (Yd.mvB rfl) ?_
                          refine DJ.skip 14 rfl (by kernel_rfl) (by kernel_rfl) (by kernel_rfl) rfl rfl ?_
                          refine DJ.skip 15 rfl (by kernel_rfl) (by kernel_rfl) (by kernel_rfl) rfl rfl ?_
                          refine DJ.skip 16 rfl (by kernel_rfl) (by kernel_rfl) (by kernel_rfl) rfl rfl ?_
                          refine DJ.skip 17 rfl (by kernel_rfl) (by kernel_rfl) (by kernel_rfl) rfl rfl ?_
                          refine DJ.skip 18 rfl (by kernel_rfl) (by kernel_rfl) (by kernel_rfl) rfl rfl ?_
                          refine DJ.skip 19 rfl (by kernel_rfl) (by kernel_rfl) (by kernel_rfl) rfl rfl ?_
                          refine DJ.skip 20 rfl (by kernel_rfl) (by kernel_rfl) (by kernel_rfl) rfl rfl ?_
                          refine DJ.skip 21 rfl (by kernel_rfl) (by kernel_rfl) (by kernel_rfl) rfl rfl ?_
                          refine DJ.skip 22 rfl (by kernel_rfl) (by kernel_rfl) (by kernel_rfl) rfl rfl ?_
                          refine DJ.skip 23 rfl (by kernel_rfl) (by kernel_rfl) (by kernel_rfl) rfl rfl ?_
                          refine DJ.skip 24 rfl (by kernel_rfl) (by kernel_rfl) (by kernel_rfl) rfl rfl ?_
                          refine DJ.skip 25 rfl (by kernel_rfl) (by kernel_rfl) (by kernel_rfl) rfl rfl ?_
                          refine DJ.skip 26 rfl (by kernel_rfl) (by kernel_rfl) (by kernel_rfl) rfl rfl ?_
                          refine DJ.yd 27 rfl (by kernel_rfl) (by kernel_rfl) (by kernel_rfl) rfl rfl (Yd.pickFB rfl rfl) ?_
                          refine DJ.yd 28 rfl (by kernel_rfl) (by kernel_rfl) (by kernel_rfl) rfl rfl (Yd.pickFB rfl rfl) ?_
                          refine DJ.done (by kernel_rfl) ?_
                          refine CJ.condF rfl ?_
                          refine CJ.skip ?_
                          refine CJ.region ?_
                          refine LJ.yd rfl (Yd.mvI rfl) ?_
                          refine LJ.yd rfl (Yd.add rfl rfl (by unfold I64; omega)) ?_
                          refine LJ.yd rfl (Yd.asI rfl) ?_
                          refine LJ.nil ?_
                          refine ⟨(k + 1), ?_, ⟨rfl, rfl, rfl, rfl, trivial⟩, ⟨rfl, trivial⟩, Ent.pick [0] [1, 2] rfl, ?_⟩
                          · omega
                          · first | omega | (dsimp only; omega) | (simp only []; omega)
                    · refine DJ.one (i := 12) (by kernel_rfl) ?_
                      refine DO.alloc ([_, _, _, _] : List Value) rfl rfl rfl rfl (fun b15 => ?_)
                      refine DJ.one (i := 13) (by kernel_rfl) ?_
                      refine DO.store (v := .agg #[_, _, _, _]) (us := [_, _, _, _]) 0 rfl rfl rfl rfl rfl rfl rfl rfl rfl rfl ?_
                      refine DJ.yd 14 rfl (by kernel_rfl) (by kernel_rfl) (by kernel_rfl) rfl rfl (Yd.asB rfl) ?_
                      refine DJ.done (by kernel_rfl) ?_
                      refine CJ.seq ?_
                      refine CJ.region ?_
                      refine LJ.yd rfl (Yd.mvB rfl) ?_
                      refine LJ.yd rfl (Yd.mvB rfl) ?_
                      refine LJ.gT rfl ?_
                      refine LJ.yd rfl (Yd.mvB rfl) ?_
                      refine LJ.gT rfl ?_
                      refine LJ.yd rfl (Yd.mvB rfl) ?_
                      refine LJ.gF rfl rfl ?_
                      refine LJ.gF rfl rfl ?_
                      refine LJ.gT rfl ?_
                      refine LJ.yd rfl (Yd.pickFB rfl rfl) ?_
                      refine LJ.yd rfl (Yd.pickFB rfl rfl) ?_
                      refine LJ.yd rfl (Yd.asB rfl) ?_
                      refine LJ.nil ?_
                      refine CJ.seq ?_
                      have hpm : u73.p ∈ psX X := List.mem_map_of_mem (List.mem_of_getElem? hu73)
                      have hA : ¬ (u73.p.l = fpR (psX X) ⟨pW, pH, pT, pK⟩ ∧ ccB u73.p ⟨pW, pH, pT, pK⟩ = false) := fun ⟨h1, h2⟩ => by
                        have := huq u73.p hpm u0.p hp0 (by omega)
                        rw [this, hcc0] at h2; cases h2
                      have hB : ¬ (ccB u73.p ⟨pW, pH, pT, pK⟩ = true ∧ u73.p.w * u73.p.h < sz) := fun ⟨h1, h2⟩ => by
                        have := hmin u73.p hpm h1
                        omega
                      have har3 := area_b (hall _ hpm).1
                      refine CJ.regionD [0, 1, 2] [] (by kernel_rfl) rfl ?_
                      refine DJ.norm [_, _, _] [] rfl rfl ?_
                      refine DJ.yd 0 rfl (by kernel_rfl) (by kernel_rfl) (by kernel_rfl) rfl rfl (Yd.mvS rfl) ?_
                      refine DJ.yd 1 rfl (by kernel_rfl) (by kernel_rfl) (by kernel_rfl) rfl rfl (Yd.mvI rfl) ?_
                      refine DJ.idxA 2 rfl (by kernel_rfl) (by kernel_rfl) (by kernel_rfl) rfl rfl hlx rfl rfl (by omega) (by first | rfl | omega | (simp; done) | (simp; omega) | (simp [upN_len]; omega) | (simp [idxBy_len]; omega) | (simp [marks_len]; omega) | (simp [upN_len]; done) | (simp [idxBy_len]; done) | (simp [marks_len]; done) | (simp at *; omega)) (fun ib103 io103 ia103 ir103 => ?_)
                      refine DJ.yd 3 rfl (by kernel_rfl) (by kernel_rfl) (by kernel_rfl) rfl rfl (Yd.fieldAddr rfl) ?_
                      refine DJ.ldA 4 rfl (by kernel_rfl) (by kernel_rfl) (by kernel_rfl) rfl rfl 0 (fun u => vI u.p.l) (fun _ => rfl) ir103 rfl rfl (by first | rfl | omega | (simp; done) | (simp; omega) | (simp [upN_len]; omega) | (simp [idxBy_len]; omega) | (simp [marks_len]; omega) | (simp [upN_len]; done) | (simp [idxBy_len]; done) | (simp [marks_len]; done) | (simp at *; omega)) (fun u105 hu105 => ?_)
                      try simp only [Int.toNat_natCast] at hu105
                      obtain rfl : u73 = u105 := by rw [hu73] at hu105; exact Option.some.inj hu105
                      refine DJ.yd 5 rfl (by kernel_rfl) (by kernel_rfl) (by kernel_rfl) rfl rfl (Yd.mvI rfl) ?_
                      refine DJ.splitD 6 rfl (by kernel_rfl) (by kernel_rfl) (by kernel_rfl) rfl rfl (Yd.eql rfl rfl) (fun h107 => ?_) (fun h107 => ?_)
                      · refine DJ.yd 7 rfl (by kernel_rfl) (by kernel_rfl) (by kernel_rfl) rfl rfl (Yd.mvB rfl) ?_
                        refine DJ.yd 8 rfl (by kernel_rfl) (by kernel_rfl) (by kernel_rfl) rfl rfl (Yd.mvB rfl) ?_
                        refine DJ.yd 9 rfl (by kernel_rfl) (by kernel_rfl) (by kernel_rfl) rfl rfl (Yd.not rfl) ?_
                        refine DJ.yd 10 rfl (by kernel_rfl) (by kernel_rfl) (by kernel_rfl) rfl rfl (Yd.pickTB rfl rfl) ?_
                        refine DJ.yd 11 rfl (by kernel_rfl) (by kernel_rfl) (by kernel_rfl) rfl rfl (Yd.mvB rfl) ?_
                        refine DJ.skip 12 rfl (by kernel_rfl) (by kernel_rfl) (by kernel_rfl) rfl rfl ?_
                        refine DJ.skip 13 rfl (by kernel_rfl) (by kernel_rfl) (by kernel_rfl) rfl rfl ?_
                        refine DJ.skip 14 rfl (by kernel_rfl) (by kernel_rfl) (by kernel_rfl) rfl rfl ?_
                        refine DJ.skip 15 rfl (by kernel_rfl) (by kernel_rfl) (by kernel_rfl) rfl rfl ?_
                        refine DJ.skip 16 rfl (by kernel_rfl) (by kernel_rfl) (by kernel_rfl) rfl rfl ?_
                        refine DJ.skip 17 rfl (by kernel_rfl) (by kernel_rfl) (by kernel_rfl) rfl rfl ?_
                        refine DJ.skip 18 rfl (by kernel_rfl) (by kernel_rfl) (by kernel_rfl) rfl rfl ?_
                        refine DJ.skip 19 rfl (by kernel_rfl) (by kernel_rfl) (by kernel_rfl) rfl rfl ?_
                        refine DJ.skip 20 rfl (by kernel_rfl) (by kernel_rfl) (by kernel_rfl) rfl rfl ?_
                        refine DJ.skip 21 rfl (by kernel_rfl) (by kernel_rfl) (by kernel_rfl) rfl rfl ?_
                        refine DJ.skip 22 rfl (by kernel_rfl) (by kernel_rfl) (by kernel_rfl) rfl rfl ?_
                        refine DJ.skip 23 rfl (by kernel_rfl) (by kernel_rfl) (by kernel_rfl) rfl rfl ?_
                        refine DJ.skip 24 rfl (by kernel_rfl) (by kernel_rfl) (by kernel_rfl) rfl rfl ?_
                        refine DJ.skip 25 rfl (by kernel_rfl) (by kernel_rfl) (by kernel_rfl) rfl rfl ?_
                        refine DJ.skip 26 rfl (by kernel_rfl) (by kernel_rfl) (by kernel_rfl) rfl rfl ?_
                        refine DJ.skip 27 rfl (by kernel_rfl) (by kernel_rfl) (by kernel_rfl) rfl rfl ?_
                        refine DJ.yd 28 rfl (by kernel_rfl) (by kernel_rfl) (by kernel_rfl) rfl rfl (Yd.pickTB rfl rfl) ?_
                        refine DJ.done (by kernel_rfl) ?_
                        refine CJ.condT rfl ?_
                        refine CJ.seq ?_
                        refine CJ.region ?_
                        refine LJ.yd rfl (Yd.asB rfl) ?_
                        refine LJ.nil ?_
                        refine CJ.ret ?_
                        refine Fin.V (Res.one (ResV.tmp (v := .bool false) rfl)) ?_
                        first
                          | rfl
                          | (exfalso; refine hA ⟨by assumption, ?_⟩; simp [ccB, *]; done)
                          | (exfalso; refine hB ⟨?_, by assumption⟩; simp [ccB, *]; done)
                      · refine DJ.yd 7 rfl (by kernel_rfl) (by kernel_rfl) (by kernel_rfl) rfl rfl (Yd.mvB rfl) ?_
                        refine DJ.skip 8 rfl (by kernel_rfl) (by kernel_rfl) (by kernel_rfl) rfl rfl ?_
                        refine DJ.skip 9 rfl (by kernel_rfl) (by kernel_rfl) (by kernel_rfl) rfl rfl ?_
                        refine DJ.yd 10 rfl (by kernel_rfl) (by kernel_rfl) (by kernel_rfl) rfl rfl (Yd.pickFB rfl rfl) ?_
                        refine DJ.yd 11 rfl (by kernel_rfl) (by kernel_rfl) (by kernel_rfl) rfl rfl (Yd.mvB rfl) ?_
                        refine DJ.yd 12 rfl (by kernel_rfl) (by kernel_rfl) (by kernel_rfl) rfl rfl (Yd.mvB rfl) ?_
                        refine DJ.yd 13 rfl (by kernel_rfl) (by kernel_rfl) (by kernel_rfl) rfl rfl (Yd.mvB rfl) ?_
                        refine DJ.skip 14 rfl (by kernel_rfl) (by kernel_rfl) (by kernel_rfl) rfl rfl ?_
                        refine DJ.skip 15 rfl (by kernel_rfl) (by kernel_rfl) (by kernel_rfl) rfl rfl ?_
                        refine DJ.skip 16 rfl (by kernel_rfl) (by kernel_rfl) (by kernel_rfl) rfl rfl ?_
                        refine DJ.skip 17 rfl (by kernel_rfl) (by kernel_rfl) (by kernel_rfl) rfl rfl ?_
                        refine DJ.skip 18 rfl (by kernel_rfl) (by kernel_rfl) (by kernel_rfl) rfl rfl ?_
                        refine DJ.skip 19 rfl (by kernel_rfl) (by kernel_rfl) (by kernel_rfl) rfl rfl ?_
                        refine DJ.skip 20 rfl (by kernel_rfl) (by kernel_rfl) (by kernel_rfl) rfl rfl ?_
                        refine DJ.skip 21 rfl (by kernel_rfl) (by kernel_rfl) (by kernel_rfl) rfl rfl ?_
                        refine DJ.skip 22 rfl (by kernel_rfl) (by kernel_rfl) (by kernel_rfl) rfl rfl ?_
                        refine DJ.skip 23 rfl (by kernel_rfl) (by kernel_rfl) (by kernel_rfl) rfl rfl ?_
                        refine DJ.skip 24 rfl (by kernel_rfl) (by kernel_rfl) (by kernel_rfl) rfl rfl ?_
                        refine DJ.skip 25 rfl (by kernel_rfl) (by kernel_rfl) (by kernel_rfl) rfl rfl ?_
                        refine DJ.skip 26 rfl (by kernel_rfl) (by kernel_rfl) (by kernel_rfl) rfl rfl ?_
                        refine DJ.yd 27 rfl (by kernel_rfl) (by kernel_rfl) (by kernel_rfl) rfl rfl (Yd.pickFB rfl rfl) ?_
                        refine DJ.yd 28 rfl (by kernel_rfl) (by kernel_rfl) (by kernel_rfl) rfl rfl (Yd.pickFB rfl rfl) ?_
                        refine DJ.done (by kernel_rfl) ?_
                        refine CJ.condF rfl ?_
                        refine CJ.skip ?_
                        refine CJ.region ?_
                        refine LJ.yd rfl (Yd.mvI rfl) ?_
                        refine LJ.yd rfl (Yd.add rfl rfl (by unfold I64; omega)) ?_
                        refine LJ.yd rfl (Yd.asI rfl) ?_
                        refine LJ.nil ?_
                        refine ⟨(k + 1), ?_, ⟨rfl, rfl, rfl, rfl, trivial⟩, ⟨rfl, trivial⟩, Ent.pick [0] [1, 2] rfl, ?_⟩
                        · omega
                        · first | omega | (dsimp only; omega) | (simp only []; omega)
                  · refine DO.alloc ([_, _, _, _] : List Value) rfl rfl rfl rfl (fun b16 => ?_)
                    refine DJ.one (i := 8) (by kernel_rfl) ?_
                    refine DO.call0 rfl rfl rfl (fun k0 hk0 dk0 k hk dk => FirstClearI_ok (p := u73.p) (RdRow.up (hx9 u73 (List.mem_of_getElem? hu73)))) ?_
                    rintro _ _ ⟨r90, rfl, rfl⟩
                    refine DJ.yd 9 rfl (by kernel_rfl) (by kernel_rfl) (by kernel_rfl) rfl rfl (Yd.mvU rfl) ?_
                    refine DJ.yd 10 rfl (by kernel_rfl) (by kernel_rfl) (by kernel_rfl) rfl rfl (Yd.extract rfl rfl) ?_
                    refine DJ.split 11 rfl (by kernel_rfl) (by kernel_rfl) (by kernel_rfl) rfl rfl (Yd.extract rfl rfl) (fun h92 => ?_) (fun h92 => ?_)
                    · refine DJ.one (i := 13) (by kernel_rfl) ?_
                      refine DO.store (v := .agg #[_, _, _, _]) (us := [_, _, _, _]) 0 rfl rfl rfl rfl rfl rfl rfl rfl rfl rfl ?_
                      refine DJ.yd 14 rfl (by kernel_rfl) (by kernel_rfl) (by kernel_rfl) rfl rfl (Yd.asB rfl) ?_
                      refine DJ.done (by kernel_rfl) ?_
                      refine CJ.seq ?_
                      refine CJ.region ?_
                      refine LJ.yd rfl (Yd.mvB rfl) ?_
                      refine LJ.yd rfl (Yd.mvB rfl) ?_
                      refine LJ.gT rfl ?_
                      refine LJ.yd rfl (Yd.mvB rfl) ?_
                      refine LJ.gT rfl ?_
                      refine LJ.yd rfl (Yd.mvB rfl) ?_
                      refine LJ.gT rfl ?_
                      refine LJ.yd rfl (Yd.fieldAddr rfl) ?_
                      refine LJ.gT rfl ?_
                      refine LJ.split rfl (Yd.loadC 0 rfl rfl rfl) (fun h98 => ?_) (fun h98 => ?_)
                      · refine LJ.gT rfl ?_
                        refine LJ.yd rfl (Yd.pickTB rfl rfl) ?_
                        refine LJ.yd rfl (Yd.pickFB rfl rfl) ?_
                        refine LJ.yd rfl (Yd.asB rfl) ?_
                        refine LJ.nil ?_
                        refine CJ.seq ?_
                        have hpm : u73.p ∈ psX X := List.mem_map_of_mem (List.mem_of_getElem? hu73)
                        have hA : ¬ (u73.p.l = fpR (psX X) ⟨pW, pH, pT, pK⟩ ∧ ccB u73.p ⟨pW, pH, pT, pK⟩ = false) := fun ⟨h1, h2⟩ => by
                          have := huq u73.p hpm u0.p hp0 (by omega)
                          rw [this, hcc0] at h2; cases h2
                        have hB : ¬ (ccB u73.p ⟨pW, pH, pT, pK⟩ = true ∧ u73.p.w * u73.p.h < sz) := fun ⟨h1, h2⟩ => by
                          have := hmin u73.p hpm h1
                          omega
                        have har3 := area_b (hall _ hpm).1
                        refine CJ.regionD [0, 1, 2] [] (by kernel_rfl) rfl ?_
                        refine DJ.norm [_, _, _] [] rfl rfl ?_
                        refine DJ.yd 0 rfl (by kernel_rfl) (by kernel_rfl) (by kernel_rfl) rfl rfl (Yd.mvS rfl) ?_
                        refine DJ.yd 1 rfl (by kernel_rfl) (by kernel_rfl) (by kernel_rfl) rfl rfl (Yd.mvI rfl) ?_
                        refine DJ.idxA 2 rfl (by kernel_rfl) (by kernel_rfl) (by kernel_rfl) rfl rfl hlx rfl rfl (by omega) (by first | rfl | omega | (simp; done) | (simp; omega) | (simp [upN_len]; omega) | (simp [idxBy_len]; omega) | (simp [marks_len]; omega) | (simp [upN_len]; done) | (simp [idxBy_len]; done) | (simp [marks_len]; done) | (simp at *; omega)) (fun ib103 io103 ia103 ir103 => ?_)
                        refine DJ.yd 3 rfl (by kernel_rfl) (by kernel_rfl) (by kernel_rfl) rfl rfl (Yd.fieldAddr rfl) ?_
                        refine DJ.ldA 4 rfl (by kernel_rfl) (by kernel_rfl) (by kernel_rfl) rfl rfl 0 (fun u => vI u.p.l) (fun _ => rfl) ir103 rfl rfl (by first | rfl | omega | (simp; done) | (simp; omega) | (simp [upN_len]; omega) | (simp [idxBy_len]; omega) | (simp [marks_len]; omega) | (simp [upN_len]; done) | (simp [idxBy_len]; done) | (simp [marks_len]; done) | (simp at *; omega)) (fun u105 hu105 => ?_)
                        try simp only [Int.toNat_natCast] at hu105
                        obtain rfl : u73 = u105 := by rw [hu73] at hu105; exact Option.some.inj hu105
                        refine DJ.yd 5 rfl (by kernel_rfl) (by kernel_rfl) (by kernel_rfl) rfl rfl (Yd.mvI rfl) ?_
                        refine DJ.splitD 6 rfl (by kernel_rfl) (by kernel_rfl) (by kernel_rfl) rfl rfl (Yd.eql rfl rfl) (fun h107 => ?_) (fun h107 => ?_)
                        · refine DJ.yd 7 rfl (by kernel_rfl) (by kernel_rfl) (by kernel_rfl) rfl rfl (Yd.mvB rfl) ?_
                          refine DJ.yd 8 rfl (by kernel_rfl) (by kernel_rfl) (by kernel_rfl) rfl rfl (Yd.mvB rfl) ?_
                          refine DJ.yd 9 rfl (by kernel_rfl) (by kernel_rfl) (by kernel_rfl) rfl rfl (Yd.not rfl) ?_
                          refine DJ.yd 10 rfl (by kernel_rfl) (by kernel_rfl) (by kernel_rfl) rfl rfl (Yd.pickTB rfl rfl) ?_
                          refine DJ.yd 11 rfl (by kernel_rfl) (by kernel_rfl) (by kernel_rfl) rfl rfl (Yd.mvB rfl) ?_
                          refine DJ.yd 12 rfl (by kernel_rfl) (by kernel_rfl) (by kernel_rfl) rfl rfl (Yd.mvB rfl) ?_
                          refine DJ.yd 13 rfl (by kernel_rfl) (by kernel_rfl) (by kernel_rfl) rfl rfl (Yd.mvB rfl) ?_
                          refine DJ.yd 14 rfl (by kernel_rfl) (by kernel_rfl) (by kernel_rfl) rfl rfl (Yd.mvS rfl) ?_
                          refine DJ.yd 15 rfl (by kernel_rfl) (by kernel_rfl) (by kernel_rfl) rfl rfl (Yd.mvI rfl) ?_
                          refine DJ.idxA 16 rfl (by kernel_rfl) (by kernel_rfl) (by kernel_rfl) rfl rfl hlx rfl rfl (by omega) (by first | rfl | omega | (simp; done) | (simp; omega) | (simp [upN_len]; omega) | (simp [idxBy_len]; omega) | (simp [marks_len]; omega) | (simp [upN_len]; done) | (simp [idxBy_len]; done) | (simp [marks_len]; done) | (simp at *; omega)) (fun ib117 io117 ia117 ir117 => ?_)
                          refine DJ.yd 17 rfl (by kernel_rfl) (by kernel_rfl) (by kernel_rfl) rfl rfl (Yd.fieldAddr rfl) ?_
                          refine DJ.ldA 18 rfl (by kernel_rfl) (by kernel_rfl) (by kernel_rfl) rfl rfl 1 (fun u => vI u.p.w) (fun _ => rfl) ir117 rfl rfl (by first | rfl | omega | (simp; done) | (simp; omega) | (simp [upN_len]; omega) | (simp [idxBy_len]; omega) | (simp [marks_len]; omega) | (simp [upN_len]; done) | (simp [idxBy_len]; done) | (simp [marks_len]; done) | (simp at *; omega)) (fun u119 hu119 => ?_)
                          try simp only [Int.toNat_natCast] at hu119
                          obtain rfl : u73 = u119 := by rw [hu73] at hu119; exact Option.some.inj hu119
                          refine DJ.yd 19 rfl (by kernel_rfl) (by kernel_rfl) (by kernel_rfl) rfl rfl (Yd.mvS rfl) ?_
                          refine DJ.yd 20 rfl (by kernel_rfl) (by kernel_rfl) (by kernel_rfl) rfl rfl (Yd.mvI rfl) ?_
                          refine DJ.idxA 21 rfl (by kernel_rfl) (by kernel_rfl) (by kernel_rfl) rfl rfl hlx rfl rfl (by omega) (by first | rfl | omega | (simp; done) | (simp; omega) | (simp [upN_len]; omega) | (simp [idxBy_len]; omega) | (simp [marks_len]; omega) | (simp [upN_len]; done) | (simp [idxBy_len]; done) | (simp [marks_len]; done) | (simp at *; omega)) (fun ib122 io122 ia122 ir122 => ?_)
                          refine DJ.yd 22 rfl (by kernel_rfl) (by kernel_rfl) (by kernel_rfl) rfl rfl (Yd.fieldAddr rfl) ?_
                          refine DJ.ldA 23 rfl (by kernel_rfl) (by kernel_rfl) (by kernel_rfl) rfl rfl 2 (fun u => vI u.p.h) (fun _ => rfl) ir122 rfl rfl (by first | rfl | omega | (simp; done) | (simp; omega) | (simp [upN_len]; omega) | (simp [idxBy_len]; omega) | (simp [marks_len]; omega) | (simp [upN_len]; done) | (simp [idxBy_len]; done) | (simp [marks_len]; done) | (simp at *; omega)) (fun u124 hu124 => ?_)
                          try simp only [Int.toNat_natCast] at hu124
                          obtain rfl : u73 = u124 := by rw [hu73] at hu124; exact Option.some.inj hu124
                          refine DJ.yd 24 rfl (by kernel_rfl) (by kernel_rfl) (by kernel_rfl) rfl rfl (Yd.mul rfl rfl (by unfold I64; omega)) ?_
                          refine DJ.yd 25 rfl (by kernel_rfl) (by kernel_rfl) (by kernel_rfl) rfl rfl (Yd.mvI rfl) ?_
                          refine DJ.splitD 26 rfl (by kernel_rfl) (by kernel_rfl) (by kernel_rfl) rfl rfl (Yd.lss rfl rfl) (fun h127 => ?_) (fun h127 => ?_)
                          · refine DJ.yd 27 rfl (by kernel_rfl) (by kernel_rfl) (by kernel_rfl) rfl rfl (Yd.pickTB rfl rfl) ?_
                            refine DJ.yd 28 rfl (by kernel_rfl) (by kernel_rfl) (by kernel_rfl) rfl rfl (Yd.pickFB rfl rfl) ?_
                            refine DJ.done (by kernel_rfl) ?_
                            refine CJ.condT rfl ?_
                            refine CJ.seq ?_
                            refine CJ.region ?_
                            refine LJ.yd rfl (Yd.asB rfl) ?_
                            refine LJ.nil ?_
                            refine CJ.ret ?_
                            refine Fin.V (Res.one (ResV.tmp (v := .bool false) rfl)) ?_
                            first
                              | rfl
                              | (exfalso; refine hA ⟨by assumption, ?_⟩; simp [ccB, *]; done)
                              | (exfalso; refine hB ⟨?_, by assumption⟩; simp [ccB, *]; done)
                          · refine DJ.yd 27 rfl (by kernel_rfl) (by kernel_rfl) (by kernel_rfl) rfl rfl (Yd.pickTB rfl rfl) ?_
                            refine DJ.yd 28 rfl (by kernel_rfl) (by kernel_rfl) (by kernel_rfl) rfl rfl (Yd.pickFB rfl rfl) ?_
                            refine DJ.done (by kernel_rfl) ?_
                            refine CJ.condF rfl ?_
                            refine CJ.skip ?_
                            refine CJ.region ?_
                            refine LJ.yd rfl (Yd.mvI rfl) ?_
                            refine LJ.yd rfl (Yd.add rfl rfl (by unfold I64; omega)) ?_
                            refine LJ.yd rfl (Yd.asI rfl) ?_
                            refine LJ.nil ?_
                            refine ⟨(k + 1), ?_, ⟨rfl, rfl, rfl, rfl, trivial⟩, ⟨rfl, trivial⟩, Ent.pick [0] [1, 2] rfl, ?_⟩
                            · omega
                            · first | omega | (dsimp only; omega) | (simp only []; omega)
                        · refine DJ.yd 7 rfl (by kernel_rfl) (by kernel_rfl) (by kernel_rfl) rfl rfl (Yd.mvB rfl) ?_
                          refine DJ.skip 8 rfl (by kernel_rfl) (by kernel_rfl) (by kernel_rfl) rfl rfl ?_
                          refine DJ.skip 9 rfl (by kernel_rfl) (by kernel_rfl) (by kernel_rfl) rfl rfl ?_
                          refine DJ.yd 10 rfl (by kernel_rfl) (by kernel_rfl) (by kernel_rfl) rfl rfl (Yd.pickFB rfl rfl) ?_
                          refine DJ.yd 11 rfl (by kernel_rfl) (by kernel_rfl) (by kernel_rfl) rfl rfl (Yd.mvB rfl) ?_
                          refine DJ.yd 12 rfl (by kernel_rfl) (by kernel_rfl) (by kernel_rfl) rfl rfl (Yd.mvB rfl) ?_
                          refine DJ.yd 13 rfl (by kernel_rfl) (by kernel_rfl) (by kernel_rfl) rfl rfl (Yd.mvB rfl) ?_
                          refine DJ.yd 14 rfl (by kernel_rfl) (by kernel_rfl) (by kernel_rfl) rfl rfl (Yd.mvS rfl) ?_
                          refine DJ.yd 15 rfl (by kernel_rfl) (by kernel_rfl) (by kernel_rfl) rfl rfl (Yd.mvI rfl) ?_
                          refine DJ.idxA 16 rfl (by kernel_rfl) (by kernel_rfl) (by kernel_rfl) rfl rfl hlx rfl rfl (by omega) (by first | rfl | omega | (simp; done) | (simp; omega) | (simp [upN_len]; omega) | (simp [idxBy_len]; omega) | (simp [marks_len]; omega) | (simp [upN_len]; done) | (simp [idxBy_len]; done) | (simp [marks_len]; done) | (simp at *; omega)) (fun ib117 io117 ia117 ir117 => ?_)
                          refine DJ.yd 17 rfl (by kernel_rfl) (by kernel_rfl) (by kernel_rfl) rfl rfl (Yd.fieldAddr rfl) ?_
                          refine DJ.ldA 18 rfl (by kernel_rfl) (by kernel_rfl) (by kernel_rfl) rfl rfl 1 (fun u => vI u.p.w) (fun _ => rfl) ir117 rfl rfl (by first | rfl | omega | (simp; done) | (simp; omega) | (simp [upN_len]; omega) | (simp [idxBy_len]; omega) | (simp [marks_len]; omega) | (simp [upN_len]; done) | (simp [idxBy_len]; done) | (simp [marks_len]; done) | (simp at *; omega)) (fun u119 hu119 => ?_)
                          try simp only [Int.toNat_natCast] at hu119
                          obtain rfl : u73 = u119 := by rw [hu73] at hu119; exact Option.some.inj hu119
                          refine DJ.yd 19 rfl (by kernel_rfl) (by kernel_rfl) (by kernel_rfl) rfl rfl (Yd.mvS rfl) ?_
                          refine DJ.yd 20 rfl (by kernel_rfl) (by kernel_rfl) (by kernel_rfl) rfl rfl (Yd.mvI rfl) ?_
                          refine DJ.idxA 21 rfl (by kernel_rfl) (by kernel_rfl) (by kernel_rfl) rfl rfl hlx rfl rfl (by omega) (by first | rfl | omega | (simp; done) | (simp; omega) | (simp [upN_len]; omega) | (simp [idxBy_len]; omega) | (simp [marks_len]; omega) | (simp [upN_len]; done) | (simp [idxBy_len]; done) | (simp [marks_len]; done) | (simp at *; omega)) (fun ib122 io122 ia122 ir122 => ?_)
                          refine DJ.yd 22 rfl (by kernel_rfl) (by kernel_rfl) (by kernel_rfl) rfl rfl (Yd.fieldAddr rfl) ?_
                          refine DJ.ldA 23 rfl (by kernel_rfl) (by kernel_rfl) (by kernel_rfl) rfl rfl 2 (fun u => vI u.p.h) (fun _ => rfl) ir122 rfl rfl (by first | rfl | omega | (simp; done) | (simp; omega) | (simp [upN_len]; omega) | (simp [idxBy_len]; omega) | (simp [marks_len]; omega) | (simp [upN_len]; done) | (simp [idxBy_len]; done) | (simp [marks_len]; done) | (simp at *; omega)) (fun u124 hu124 => ?_)
                          try simp only [Int.toNat_natCast] at hu124
                          obtain rfl : u73 = u124 := by rw [hu73] at hu124; exact Option.some.inj hu124
                          refine DJ.yd 24 rfl (by kernel_rfl) (by kernel_rfl) (by kernel_rfl) rfl rfl (Yd.mul rfl rfl (by unfold I64; omega)) ?_
                          refine DJ.yd 25 rfl (by kernel_rfl) (by kernel_rfl) (by kernel_rfl) rfl rfl (Yd.mvI rfl) ?_
                          refine DJ.splitD 26 rfl (by kernel_rfl) (by kernel_rfl) (by kernel_rfl) rfl rfl (Yd.lss rfl rfl) (fun h127 => ?_) (fun h127 => ?_)
                          · refine DJ.yd 27 rfl (by kernel_rfl) (by kernel_rfl) (by kernel_rfl) rfl rfl (Yd.pickTB rfl rfl) ?_
                            refine DJ.yd 28 rfl (by kernel_rfl) (by kernel_rfl) (by kernel_rfl) rfl rfl (Yd.pickFB rfl rfl) ?_
                            refine DJ.done (by kernel_rfl) ?_
                            refine CJ.condT rfl ?_
                            refine CJ.seq ?_
                            refine CJ.region ?_
                            refine LJ.yd rfl (Yd.asB rfl) ?_
                            refine LJ.nil ?_
                            refine CJ.ret ?_
                            refine Fin.V (Res.one (ResV.tmp (v := .bool false) rfl)) ?_
                            first
                              | rfl
                              | (exfalso; refine hA ⟨by assumption, ?_⟩; simp [ccB, *]; done)
                              | (exfalso; refine hB ⟨?_, by assumption⟩; simp [ccB, *]; done)
                          · refine DJ.yd 27 rfl (by kernel_rfl) (by kernel_rfl) (by kernel_rfl) rfl rfl (Yd.pickTB rfl rfl) ?_
                            refine DJ.yd 28 rfl (by kernel_rfl) (by kernel_rfl) (by kernel_rfl) rfl rfl (Yd.pickFB rfl rfl) ?_
                            refine DJ.done (by kernel_rfl) ?_
                            refine CJ.condF rfl ?_
                            refine CJ.skip ?_
                            refine CJ.region ?_
                            refine LJ.yd rfl (Yd.mvI rfl) ?_
                            refine LJ.yd rfl (Yd.add rfl rfl (by unfold I64; omega)) ?_
                            refine LJ.yd rfl (Yd.asI rfl) ?_
                            refine LJ.nil ?_
                            refine ⟨(k + 1), ?_, ⟨rfl, rfl, rfl, rfl, trivial⟩, ⟨rfl, trivial⟩, Ent.pick [0] [1, 2] rfl, ?_⟩
                            · omega
                            · first | omega | (dsimp only; omega) | (simp only []; omega)
                      · refine LJ.gT rfl ?_
                        refine LJ.yd rfl (Yd.pickTB rfl rfl) ?_
                        refine LJ.yd rfl (Yd.pickFB rfl rfl) ?_
                        refine LJ.yd rfl (Yd.asB rfl) ?_
                        refine LJ.nil ?_
                        refine CJ.seq ?_
                        have hpm : u73.p ∈ psX X := List.mem_map_of_mem (List.mem_of_getElem? hu73)
                        have hA : ¬ (u73.p.l = fpR (psX X) ⟨pW, pH, pT, pK⟩ ∧ ccB u73.p ⟨pW, pH, pT, pK⟩ = false) := fun ⟨h1, h2⟩ => by
                          have := huq u73.p hpm u0.p hp0 (by omega)
                          rw [this, hcc0] at h2; cases h2
                        have hB : ¬ (ccB u73.p ⟨pW, pH, pT, pK⟩ = true ∧ u73.p.w * u73.p.h < sz) := fun ⟨h1, h2⟩ => by
                          have := hmin u73.p hpm h1
                          omega
                        have har3 := area_b (hall _ hpm).1
                        refine CJ.regionD [0, 1, 2] [] (by kernel_rfl) rfl ?_
                        refine DJ.norm [_, _, _] [] rfl rfl ?_
                        refine DJ.yd 0 rfl (by kernel_rfl) (by kernel_rfl) (by kernel_rfl) rfl rfl (Yd.mvS rfl) ?_
                        refine DJ.yd 1 rfl (by kernel_rfl) (by kernel_rfl) (by kernel_rfl) rfl rfl (Yd.mvI rfl) ?_
                        refine DJ.idxA 2 rfl (by kernel_rfl) (by kernel_rfl) (by kernel_rfl) rfl rfl hlx rfl rfl (by omega) (by first | rfl | omega | (simp; done) | (simp; omega) | (simp [upN_len]; omega) | (simp [idxBy_len]; omega) | (simp [marks_len]; omega) | (simp [upN_len]; done) | (simp [idxBy_len]; done) | (simp [marks_len]; done) | (simp at *; omega)) (fun ib103 io103 ia103 ir103 => ?_)
                        refine DJ.yd 3 rfl (by kernel_rfl) (by kernel_rfl) (by kernel_rfl) rfl rfl (Yd.fieldAddr rfl) ?_
                        refine DJ.ldA 4 rfl (by kernel_rfl) (by kernel_rfl) (by kernel_rfl) rfl rfl 0 (fun u => vI u.p.l) (fun _ => rfl) ir103 rfl rfl (by first | rfl | omega | (simp; done) | (simp; omega) | (simp [upN_len]; omega) | (simp [idxBy_len]; omega) | (simp [marks_len]; omega) | (simp [upN_len]; done) | (simp [idxBy_len]; done) | (simp [marks_len]; done) | (simp at *; omega)) (fun u105 hu105 => ?_)
                        try simp only [Int.toNat_natCast] at hu105
                        obtain rfl : u73 = u105 := by rw [hu73] at hu105; exact Option.some.inj hu105
                        refine DJ.yd 5 rfl (by kernel_rfl) (by kernel_rfl) (by kernel_rfl) rfl rfl (Yd.mvI rfl) ?_
                        refine DJ.splitD 6 rfl (by kernel_rfl) (by kernel_rfl) (by kernel_rfl) rfl rfl (Yd.eql rfl rfl) (fun h107 => ?_) (fun h107 => ?_)
                        · refine DJ.yd 7 rfl (by kernel_rfl) (by kernel_rfl) (by kernel_rfl) rfl rfl (Yd.mvB rfl) ?_
                          refine DJ.yd 8 rfl (by kernel_rfl) (by kernel_rfl) (by kernel_rfl) rfl rfl (Yd.mvB rfl) ?_
                          refine DJ.yd 9 rfl (by kernel_rfl) (by kernel_rfl) (by kernel_rfl) rfl rfl (Yd.not rfl) ?_
                          refine DJ.yd 10 rfl (by kernel_rfl) (by kernel_rfl) (by kernel_rfl) rfl rfl (Yd.pickTB rfl rfl) ?_
                          refine DJ.yd 11 rfl (by kernel_rfl) (by kernel_rfl) (by kernel_rfl) rfl rfl (Yd.mvB rfl) ?_
                          refine DJ.skip 12 rfl (by kernel_rfl) (by kernel_rfl) (by kernel_rfl) rfl rfl ?_
                          refine DJ.skip 13 rfl (by kernel_rfl) (by kernel_rfl) (by kernel_rfl) rfl rfl ?_
                          refine DJ.skip 14 rfl (by kernel_rfl) (by kernel_rfl) (by kernel_rfl) rfl rfl ?_
                          refine DJ.skip 15 rfl (by kernel_rfl) (by kernel_rfl) (by kernel_rfl) rfl rfl ?_
                          refine DJ.skip 16 rfl (by kernel_rfl) (by kernel_rfl) (by kernel_rfl) rfl rfl ?_
                          refine DJ.skip 17 rfl (by kernel_rfl) (by kernel_rfl) (by kernel_rfl) rfl rfl ?_
                          refine DJ.skip 18 rfl (by kernel_rfl) (by kernel_rfl) (by kernel_rfl) rfl rfl ?_
                          refine DJ.skip 19 rfl (by kernel_rfl) (by kernel_rfl) (by kernel_rfl) rfl rfl ?_
                          refine DJ.skip 20 rfl (by kernel_rfl) (by kernel_rfl) (by kernel_rfl) rfl rfl ?_
                          refine DJ.skip 21 rfl (by kernel_rfl) (by kernel_rfl) (by kernel_rfl) rfl rfl ?_
                          refine DJ.skip 22 rfl (by kernel_rfl) (by kernel_rfl) (by kernel_rfl) rfl rfl ?_
                          refine DJ.skip 23 rfl (by kernel_rfl) (by kernel_rfl) (by kernel_rfl) rfl rfl ?_
                          refine DJ.skip 24 rfl (by kernel_rfl) (by kernel_rfl) (by kernel_rfl) rfl rfl ?_
                          refine DJ.skip 25 rfl (by kernel_rfl) (by kernel_rfl) (by kernel_rfl) rfl rfl ?_
                          refine DJ.skip 26 rfl (by kernel_rfl) (by kernel_rfl) (by kernel_rfl) rfl rfl ?_
                          refine DJ.skip 27 rfl (by kernel_rfl) (by kernel_rfl) (by kernel_rfl) rfl rfl ?_
                          refine DJ.yd 28 rfl (by kernel_rfl) (by kernel_rfl) (by kernel_rfl) rfl rfl (Yd.pickTB rfl rfl) ?_
                          refine DJ.done (by kernel_rfl) ?_
                          refine CJ.condT rfl ?_
                          refine CJ.seq ?_
                          refine CJ.region ?_
                          refine LJ.yd rfl (Yd.asB rfl) ?_
                          refine LJ.nil ?_
                          refine CJ.ret ?_
                          refine Fin.V (Res.one (ResV.tmp (v := .bool false) rfl)) ?_
                          first
                            | rfl
                            | (exfalso; refine hA ⟨by assumption, ?_⟩; simp [ccB, *]; done)
                            | (exfalso; refine hB ⟨?_, by assumption⟩; simp [ccB, *]; done)
                        · refine DJ.yd 7 rfl (by kernel_rfl) (by kernel_rfl) (by kernel_rfl) rfl rfl (Yd.mvB rfl) ?_
                          refine DJ.skip 8 rfl (by kernel_rfl) (by kernel_rfl) (by kernel_rfl) rfl rfl ?_
                          refine DJ.skip 9 rfl (by kernel_rfl) (by kernel_rfl) (by kernel_rfl) rfl rfl ?_
                          refine DJ.yd 10 rfl (by kernel_rfl) (by kernel_rfl) (by kernel_rfl) rfl rfl (Yd.pickFB rfl rfl) ?_
                          refine DJ.yd 11 rfl (by kernel_rfl) (by kernel_rfl) (by kernel_rfl) rfl rfl (Yd.mvB rfl) ?_
                          refine DJ.yd 12 rfl (by kernel_rfl) (by kernel_rfl) (by kernel_rfl) rfl rfl (Yd.mvB rfl) ?_
                          refine DJ.yd 13 rfl (by kernel_rfl) (by kernel_rfl) (by kernel_rfl) rfl rfl (Yd.mvB rfl) ?_
                          refine DJ.skip 14 rfl (by kernel_rfl) (by kernel_rfl) (by kernel_rfl) rfl rfl ?_
                          refine DJ.skip 15 rfl (by kernel_rfl) (by kernel_rfl) (by kernel_rfl) rfl rfl ?_
                          refine DJ.skip 16 rfl (by kernel_rfl) (by kernel_rfl) (by kernel_rfl) rfl rfl ?_
                          refine DJ.skip 17 rfl (by kernel_rfl) (by kernel_rfl) (by kernel_rfl) rfl rfl ?_
                          refine DJ.skip 18 rfl (by kernel_rfl) (by kernel_rfl) (by kernel_rfl) rfl rfl ?_
                          refine DJ.skip 19 rfl (by kernel_rfl) (by kernel_rfl) (by kernel_rfl) rfl rfl ?_
                          refine DJ.skip 20 rfl (by kernel_rfl) (by kernel_rfl) (by kernel_rfl) rfl rfl ?_
                          refine DJ.skip 21 rfl (by kernel_rfl) (by kernel_rfl) (by kernel_rfl) rfl rfl ?_
                          refine DJ.skip 22 rfl (by kernel_rfl) (by kernel_rfl) (by kernel_rfl) rfl rfl ?_
                          refine DJ.skip 23 rfl (by kernel_rfl) (by kernel_rfl) (by kernel_rfl) rfl rfl ?_
                          refine DJ.skip 24 rfl (by kernel_rfl) (by kernel_rfl) (by kernel_rfl) rfl rfl ?_
                          refine DJ.skip 25 rfl (by kernel_rfl) (by kernel_rfl) (by kernel_rfl) rfl rfl ?_
                          refine DJ.skip 26 rfl (by kernel_rfl) (by kernel_rfl) (by kernel_rfl) rfl rfl ?_
                          refine DJ.yd 27 rfl (by kernel_rfl) (by kernel_rfl) (by kernel_rfl) rfl rfl (Yd.pickFB rfl rfl) ?_
                          refine DJ.yd 28 rfl (by kernel_rfl) (by kernel_rfl) (by kernel_rfl) rfl rfl (Yd.pickFB rfl rfl) ?_
                          refine DJ.done (by kernel_rfl) ?_
                          refine CJ.condF rfl ?_
                          refine CJ.skip ?_
                          refine CJ.region ?_
                          refine LJ.yd rfl (Yd.mvI rfl) ?_
                          refine LJ.yd rfl (Yd.add rfl rfl (by unfold I64; omega)) ?_
                          refine LJ.yd rfl (Yd.asI rfl) ?_
                          refine LJ.nil ?_
                          refine ⟨(k + 1), ?_, ⟨rfl, rfl, rfl, rfl, trivial⟩, ⟨rfl, trivial⟩, Ent.pick [0] [1, 2] rfl, ?_⟩
                          · omega
                          · first | omega | (dsimp only; omega) | (simp only []; omega)
                    · refine DJ.one (i := 13) (by kernel_rfl) ?_
                      refine DO.store (v := .agg #[_, _, _, _]) (us := [_, _, _, _]) 0 rfl rfl rfl rfl rfl rfl rfl rfl rfl rfl ?_
                      refine DJ.yd 14 rfl (by kernel_rfl) (by kernel_rfl) (by kernel_rfl) rfl rfl (Yd.asB rfl) ?_
                      refine DJ.done (by kernel_rfl) ?_
                      refine CJ.seq ?_
                      refine CJ.region ?_
                      refine LJ.yd rfl (Yd.mvB rfl) ?_
                      refine LJ.yd rfl (Yd.mvB rfl) ?_
                      refine LJ.gT rfl ?_
                      refine LJ.yd rfl (Yd.mvB rfl) ?_
                      refine LJ.gT rfl ?_
                      refine LJ.yd rfl (Yd.mvB rfl) ?_
                      refine LJ.gF rfl rfl ?_
                      refine LJ.gF rfl rfl ?_
                      refine LJ.gT rfl ?_
                      refine LJ.yd rfl (Yd.pickFB rfl rfl) ?_
                      refine LJ.yd rfl (Yd.pickFB rfl rfl) ?_
                      refine LJ.yd rfl (Yd.asB rfl) ?_
                      refine LJ.nil ?_
                      refine CJ.seq ?_
                      have hpm : u73.p ∈ psX X := List.mem_map_of_mem (List.mem_of_getElem? hu73)
                      have hA : ¬ (u73.p.l = fpR (psX X) ⟨pW, pH, pT, pK⟩ ∧ ccB u73.p ⟨pW, pH, pT, pK⟩ = false) := fun ⟨h1, h2⟩ => by
                        have := huq u73.p hpm u0.p hp0 (by omega)
                        rw [this, hcc0] at h2; cases h2
                      have hB : ¬ (ccB u73.p ⟨pW, pH, pT, pK⟩ = true ∧ u73.p.w * u73.p.h < sz) := fun ⟨h1, h2⟩ => by
                        have := hmin u73.p hpm h1
                        omega
                      have har3 := area_b (hall _ hpm).1
                      refine CJ.regionD [0, 1, 2] [] (by kernel_rfl) rfl ?_
                      refine DJ.norm [_, _, _] [] rfl rfl ?_
                      refine DJ.yd 0 rfl (by kernel_rfl) (by kernel_rfl) (by kernel_rfl) rfl rfl (Yd.mvS rfl) ?_
                      refine DJ.yd 1 rfl (by kernel_rfl) (by kernel_rfl) (by kernel_rfl) rfl rfl (Yd.mvI rfl) ?_
                      refine DJ.idxA 2 rfl (by kernel_rfl) (by kernel_rfl) (by kernel_rfl) rfl rfl hlx rfl rfl (by omega) (by first | rfl | omega | (simp; done) | (simp; omega) | (simp [upN_len]; omega) | (simp [idxBy_len]; omega) | (simp [marks_len]; omega) | (simp [upN_len]; done) | (simp [idxBy_len]; done) | (simp [marks_len]; done) | (simp at *; omega)) (fun ib103 io103 ia103 ir103 => ?_)
                      refine DJ.yd 3 rfl (by kernel_rfl) (by kernel_rfl) (by kernel_rfl) rfl rfl (Yd.fieldAddr rfl) ?_
                      refine DJ.ldA 4 rfl (by kernel_rfl) (by kernel_rfl) (by kernel_rfl) rfl rfl 0 (fun u => vI u.p.l) (fun _ => rfl) ir103 rfl rfl (by first | rfl | omega | (simp; done) | (simp; omega) | (simp [upN_len]; omega) | (simp [idxBy_len]; omega) | (simp [marks_len]; omega) | (simp [upN_len]; done) | (simp [idxBy_len]; done) | (simp [marks_len]; done) | (simp at *; omega)) (fun u105 hu105 => ?_)
                      try simp only [Int.toNat_natCast] at hu105
                      obtain rfl : u73 = u105 := by rw [hu73] at hu105; exact Option.some.inj hu105
                      refine DJ.yd 5 rfl (by kernel_rfl) (by kernel_rfl) (by kernel_rfl) rfl rfl (Yd.mvI rfl) ?_
                      refine DJ.splitD 6 rfl (by kernel_rfl) (by kernel_rfl) (by kernel_rfl) rfl rfl (Yd.eql rfl rfl) (fun h107 => ?_) (fun h107 => ?_)
                      · refine DJ.yd 7 rfl (by kernel_rfl) (by kernel_rfl) (by kernel_rfl) rfl rfl (Yd.mvB rfl) ?_
                        refine DJ.yd 8 rfl (by kernel_rfl) (by kernel_rfl) (by kernel_rfl) rfl rfl (Yd.mvB rfl) ?_
                        refine DJ.yd 9 rfl (by kernel_rfl) (by kernel_rfl) (by kernel_rfl) rfl rfl (Yd.not rfl) ?_
                        refine DJ.yd 10 rfl (by kernel_rfl) (by kernel_rfl) (by kernel_rfl) rfl rfl (Yd.pickTB rfl rfl) ?_
                        refine DJ.yd 11 rfl (by kernel_rfl) (by kernel_rfl) (by kernel_rfl) rfl rfl (Yd.mvB rfl) ?_
                        refine DJ.skip 12 rfl (by kernel_rfl) (by kernel_rfl) (by kernel_rfl) rfl rfl ?_
                        refine DJ.skip 13 rfl (by kernel_rfl) (by kernel_rfl) (by kernel_rfl) rfl rfl ?_
                        refine DJ.skip 14 rfl (by kernel_rfl) (by kernel_rfl) (by kernel_rfl) rfl rfl ?_
                        refine DJ.skip 15 rfl (by kernel_rfl) (by kernel_rfl) (by kernel_rfl) rfl rfl ?_
                        refine DJ.skip 16 rfl (by kernel_rfl) (by kernel_rfl) (by kernel_rfl) rfl rfl ?_
                        refine DJ.skip 17 rfl (by kernel_rfl) (by kernel_rfl) (by kernel_rfl) rfl rfl ?_
                        refine DJ.skip 18 rfl (by kernel_rfl) (by kernel_rfl) (by kernel_rfl) rfl rfl ?_
                        refine DJ.skip 19 rfl (by kernel_rfl) (by kernel_rfl) (by kernel_rfl) rfl rfl ?_
                        refine DJ.skip 20 rfl (by kernel_rfl) (by kernel_rfl) (by kernel_rfl) rfl rfl ?_
                        refine DJ.skip 21 rfl (by kernel_rfl) (by kernel_rfl) (by kernel_rfl) rfl rfl ?_
                        refine DJ.skip 22 rfl (by kernel_rfl) (by kernel_rfl) (by kernel_rfl) rfl rfl ?_
                        refine DJ.skip 23 rfl (by kernel_rfl) (by kernel_rfl) (by kernel_rfl) rfl rfl ?_
                        refine DJ.skip 24 rfl (by kernel_rfl) (by kernel_rfl) (by kernel_rfl) rfl rfl ?_
                        refine DJ.skip 25 rfl (by kernel_rfl) (by kernel_rfl) (by kernel_rfl) rfl rfl ?_
                        refine DJ.skip 26 rfl (by kernel_rfl) (by kernel_rfl) (by kernel_rfl) rfl rfl ?_
                        refine DJ.skip 27 rfl (by kernel_rfl) (by kernel_rfl) (by kernel_rfl) rfl rfl ?_
                        refine DJ.yd 28 rfl (by kernel_rfl) (by kernel_rfl) (by kernel_rfl) rfl rfl (Yd.pickTB rfl rfl) ?_
                        refine DJ.done (by kernel_rfl) ?_
                        refine CJ.condT rfl ?_
                        refine CJ.seq ?_
                        refine CJ.region ?_
                        refine LJ.yd rfl (Yd.asB rfl) ?_
                        refine LJ.nil ?_
                        refine CJ.ret ?_
                        refine Fin.V (Res.one (ResV.tmp (v := .bool false) rfl)) ?_
                        first
                          | rfl
                          | (exfalso; refine hA ⟨by assumption, ?_⟩; simp [ccB, *]; done)
                          | (exfalso; refine hB ⟨?_, by assumption⟩; simp [ccB, *]; done)
                      · refine DJ.yd 7 rfl (by kernel_rfl) (by kernel_rfl) (by kernel_rfl) rfl rfl (Yd.mvB rfl) ?_
                        refine DJ.skip 8 rfl (by kernel_rfl) (by kernel_rfl) (by kernel_rfl) rfl rfl ?_
                        refine DJ.skip 9 rfl (by kernel_rfl) (by kernel_rfl) (by kernel_rfl) rfl rfl ?_
                        refine DJ.yd 10 rfl (by kernel_rfl) (by kernel_rfl) (by kernel_rfl) rfl rfl (Yd.pickFB rfl rfl) ?_
                        refine DJ.yd 11 rfl (by kernel_rfl) (by kernel_rfl) (by kernel_rfl) rfl rfl (Yd.mvB rfl) ?_
                        refine DJ.yd 12 rfl (by kernel_rfl) (by kernel_rfl) (by kernel_rfl) rfl rfl (Yd.mvB rfl) ?_
                        refine DJ.yd 13 rfl (by kernel_rfl) (by kernel_rfl) (by kernel_rfl) rfl rfl (Yd.mvB rfl) ?_
                        refine DJ.skip 14 rfl (by kernel_rfl) (by kernel_rfl) (by kernel_rfl) rfl rfl ?_
                        refine DJ.skip 15 rfl (by kernel_rfl) (by kernel_rfl) (by kernel_rfl) rfl rfl ?_
                        refine DJ.skip 16 rfl (by kernel_rfl) (by kernel_rfl) (by kernel_rfl) rfl rfl ?_
                        refine DJ.skip 17 rfl (by kernel_rfl) (by kernel_rfl) (by kernel_rfl) rfl rfl ?_
                        refine DJ.skip 18 rfl (by kernel_rfl) (by kernel_rfl) (by kernel_rfl) rfl rfl ?_
                        refine DJ.skip 19 rfl (by kernel_rfl) (by kernel_rfl) (by kernel_rfl) rfl rfl ?_
                        refine DJ.skip 20 rfl (by kernel_rfl) (by kernel_rfl) (by kernel_rfl) rfl rfl ?_
                        refine DJ.skip 21 rfl (by kernel_rfl) (by kernel_rfl) (by kernel_rfl) rfl rfl ?_
                        refine DJ.skip 22 rfl (by kernel_rfl) (by kernel_rfl) (by kernel_rfl) rfl rfl ?_
                        refine DJ.skip 23 rfl (by kernel_rfl) (by kernel_rfl) (by kernel_rfl) rfl rfl ?_
                        refine DJ.skip 24 rfl (by kernel_rfl) (by kernel_rfl) (by kernel_rfl) rfl rfl ?_
                        refine DJ.skip 25 rfl (by kernel_rfl) (by kernel_rfl) (by kernel_rfl) rfl rfl ?_
                        refine DJ.skip 26 rfl (by kernel_rfl) (by kernel_rfl) (by kernel_rfl) rfl rfl ?_
                        refine DJ.yd 27 rfl (by kernel_rfl) (by kernel_rfl) (by kernel_rfl) rfl rfl (Yd.pickFB rfl rfl) ?_
                        refine DJ.yd 28 rfl (by kernel_rfl) (by kernel_rfl) (by kernel_rfl) rfl rfl (Yd.pickFB rfl rfl) ?_
                        refine DJ.done (by kernel_rfl) ?_
                        refine CJ.condF rfl ?_
                        refine CJ.skip ?_
                        refine CJ.region ?_
                        refine LJ.yd rfl (Yd.mvI rfl) ?_
                        refine LJ.yd rfl (Yd.add rfl rfl (by unfold I64; omega)) ?_
                        refine LJ.yd rfl (Yd.asI rfl) ?_
                        refine LJ.nil ?_
                        refine ⟨(k + 1), ?_, ⟨rfl, rfl, rfl, rfl, trivial⟩, ⟨rfl, trivial⟩, Ent.pick [0] [1, 2] rfl, ?_⟩
                        · omega
                        · first | omega | (dsimp only; omega) | (simp only []; omega)
            · refine LJ.nil ?_
              refine CJ.condF rfl ?_
              refine CJ.exit ?_
              refine CJ.seq ?_
              refine CJ.region ?_
              refine LJ.yd rfl (Yd.mvI rfl) ?_
              refine LJ.yd rfl (Yd.cmpT (Yd.gtr rfl rfl) (by omega)) ?_
              refine LJ.yd rfl (Yd.asB rfl) ?_
              refine LJ.nil ?_
              refine CJ.ret ?_
              refine Fin.V (Res.one (ResV.tmp (v := .bool true) rfl)) ?_
              first
                | rfl
                | (exfalso; refine hA ⟨by assumption, ?_⟩; simp [ccB, *]; done)
                | (exfalso; refine hB ⟨?_, by assumption⟩; simp [ccB, *]; done)
end Go.Proofs.Ytnfnidplhkfamaa
