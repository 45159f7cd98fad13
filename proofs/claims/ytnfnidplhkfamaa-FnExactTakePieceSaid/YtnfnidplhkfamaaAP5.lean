/-
  The exact laws on pieces put in and taken out.
-/
import Derived.Test.YtnfnidplhkfamaaAP4
namespace Go.Proofs.Ytnfnidplhkfamaa
open Go
set_option maxRecDepth 20000
set_option maxHeartbeats 1000000

theorem bigY2 {h : Hp} {X : List QF} {Y : List Pc} (hx : Flf h X) (e : psX Y = X.map QF.p) : ∀ u ∈ Y, u.p.fl.length ≤ 2000000 := fun u hu => by
  have h1 : u.p ∈ X.map QF.p := e ▸ List.mem_map_of_mem hu
  obtain ⟨x, hx1, hx2⟩ := List.mem_map.1 h1
  have := hx x hx1
  rw [← hx2]; simp only [QF.p]; omega
theorem bigL {L : List Piece} {Y : List Pc} (e : psX Y = L) (h : ∀ p ∈ L, p.fl.length ≤ 2000000) : ∀ u ∈ Y, u.p.fl.length ≤ 2000000 := fun u hu => h u.p (e ▸ List.mem_map_of_mem hu)
theorem big8 {Y : List Pc} (h : ∀ u ∈ Y, u.p.fl.length ≤ 2000000) : ∀ u ∈ Y, u.p.fl.length ≤ 281474976710656 := fun u hu => by have := h u hu; omega
theorem mkQ_big : ∀ {L : List Piece} {k : Int}, (∀ p ∈ L, p.fl.length ≤ 2000000) → ∀ p ∈ mkQ k L, p.fl.length ≤ 2000000
  | [], _, _, p, hp => by cases hp
  | x :: r, k, h, p, hp => by
    rw [mkQ] at hp
    rcases List.mem_cons.1 hp with rfl | hp
    · simp only [mkP, mbx_len]; exact h x (by simp)
    · exact mkQ_big (fun q hq => h q (by simp [hq])) p hp
theorem addR_big {L : List Piece} {p : Piece} (h : ∀ q ∈ L, q.fl.length ≤ 2000000) (hp : p.fl.length ≤ 2000000) : ∀ q ∈ addR L p, q.fl.length ≤ 2000000 := fun q hq => by
  unfold addR at hq
  split at hq
  · rcases addL_mem.1 hq with rfl | h2
    · exact hp
    · exact h q h2
  · cases hq
theorem addR_len2 {L : List Piece} {p : Piece} : (addR L p).length ≤ L.length + 1 := by
  unfold addR
  split
  · rw [addL_len]; omega
  · simp
theorem big_map {h : Hp} {X : List QF} (hx : Flf h X) : ∀ q ∈ X.map QF.p, q.fl.length ≤ 2000000 := fun q hq => by
  obtain ⟨x, hx1, rfl⟩ := List.mem_map.1 hq
  have := hx x hx1
  simp only [QF.p]; omega
theorem len_of {Y : List Pc} {L : List Piece} (e : psX Y = L) : Y.length = L.length := by rw [← e, List.length_map]
theorem FnExactAddPiece_ok {A : Amb} {a : Option Addr} {n c : Nat} {X : List QF} {u : QF} (hn : n ≤ 9223372036854775807) (hr : n ≤ 1048576 → RdL encF 4 A.h (.slice a n c) X ∧ n = X.length) (hx : ∀ u ∈ X, QfOk A.h u) (hu : QfOk A.h u) :
    Ctr Try.prog 9 #[.slice a n c, .agg #[vI u.l, vI u.w, vI u.h, .slice u.a u.n u.c]] A [] (Val (.bool true)) := by
  obtain ⟨_, hw, hh, hnu, hru⟩ := hu
  refine Ctr.body (args := [_, _]) Try.func9 rfl Try.ntmps9 Try.results9 (by simp) ?_
  refine CJ.seq ?_
  refine CJ.region ?_
  refine LJ.boxG (vs := [_, _, _, _]) rfl rfl (fun b1 => ?_)
  refine LJ.yd rfl (Yd.asB rfl) ?_
  refine LJ.nil ?_
  refine CJ.seq ?_
  refine CJ.region ?_
  refine LJ.yd rfl (Yd.asI rfl) ?_
  refine LJ.nil ?_
  refine CJ.seq ?_
  refine CJ.region ?_
  refine LJ.yd rfl (Yd.mvS rfl) ?_
  refine LJ.yd rfl (Yd.mvI rfl) ?_
  refine LJ.call0 rfl (fun k hk dk => szPieceS_ok up hn hr hx (by omega) (by omega)) ?_
  rintro _ _ ⟨r19, rfl, rfl, hr19⟩
  refine LJ.yd rfl (Yd.asI rfl) ?_
  refine LJ.nil ?_
  refine CJ.seq ?_
  refine CJ.seq ?_
  refine CJ.region ?_
  refine LJ.yd rfl (Yd.mvI rfl) ?_
  refine LJ.splitD rfl (Yd.lss rfl rfl) (fun h21 => ?_) (fun h21 => ?_)
  · refine LJ.nil ?_
    refine CJ.condT rfl ?_
    refine CJ.seq ?_
    refine CJ.region ?_
    refine LJ.yd rfl (Yd.asB rfl) ?_
    refine LJ.nil ?_
    refine CJ.ret ?_
    refine Fin.V (Res.one (ResV.tmp (v := .bool true) rfl)) ?_
    rfl
  · refine LJ.nil ?_
    refine CJ.condF rfl ?_
    refine CJ.skip ?_
    refine CJ.seq ?_
    obtain ⟨hr1, hr2, rfl, hn1, hl, hf⟩ := hr19.resolve_left (by omega)
    refine CJ.region ?_
    refine LJ.yd rfl (Yd.loadG (us := [_, _, _, _]) 0 rfl rfl rfl rfl) ?_
    refine LJ.yd rfl (Yd.mvI rfl) ?_
    refine LJ.callV rfl (fun k hk dk => szPiece_ok hnu (by omega) (by omega)) ?_
    refine LJ.yd rfl (Yd.asI rfl) ?_
    refine LJ.nil ?_
    refine CJ.seq ?_
    refine CJ.seq ?_
    refine CJ.region ?_
    refine LJ.yd rfl (Yd.mvI rfl) ?_
    refine LJ.splitD rfl (Yd.lss rfl rfl) (fun h26 => ?_) (fun h26 => ?_)
    · refine LJ.nil ?_
      refine CJ.condT rfl ?_
      refine CJ.seq ?_
      refine CJ.region ?_
      refine LJ.yd rfl (Yd.asB rfl) ?_
      refine LJ.nil ?_
      refine CJ.ret ?_
      refine Fin.V (Res.one (ResV.tmp (v := .bool true) rfl)) ?_
      rfl
    · refine LJ.nil ?_
      refine CJ.condF rfl ?_
      refine CJ.skip ?_
      refine CJ.seq ?_
      have hnu1 : u.n ≤ 1048576 := by by_cases hz : r19 - (u.n : Int) < 0 <;> simp_all <;> omega
      obtain ⟨hlu, hnul⟩ := hru hnu1
      rw [hnul] at hlu ⊢
      have hpl : u.p.fl.length = u.fl.length := rfl
      have hAb := addR_big (p := u.p) (big_map hf) (by omega)
      have hAl := addR_len2 (L := X.map QF.p) (p := u.p)
      rw [List.length_map] at hAl
      refine CJ.regionD [0] [] (by kernel_rfl) rfl ?_
      refine DJ.norm [_] [] rfl rfl ?_
      refine DJ.yd 0 rfl (by kernel_rfl) (by kernel_rfl) (by kernel_rfl) rfl rfl (Yd.mvS rfl) ?_
      refine DJ.yd 2 rfl (by kernel_rfl) (by kernel_rfl) (by kernel_rfl) rfl rfl (Yd.loadG (us := [_, _, _, _]) 0 rfl rfl rfl rfl) ?_
      refine DJ.one (i := 1) (by kernel_rfl) ?_
      refine DO.call0 rfl rfl rfl (fun k0 hk0 dk0 k hk dk => toPieceS_ok hl.up (fun u hu => ⟨(hf u hu).1.up, (hf u hu).2⟩) (by omega)) ?_
      rintro _ _ ⟨Y1, ya1, yc1, rfl, rfl, hY1⟩
      have hYl1 : Y1.length = X.length := by have := congrArg List.length hY1; simpa using this
      refine DJ.norm [_] [_, _] rfl rfl ?_
      refine DJ.one (i := 3) (by kernel_rfl) ?_
      refine DO.call0 rfl rfl rfl (fun k0 hk0 dk0 k hk dk => toPiece_ok (p := u.p) (hlu.up) (by omega)) ?_
      rintro _ _ ⟨xa1, xc1, rfl, rfl⟩
      refine DJ.norm [_] [_, _, _] rfl rfl ?_
      refine DJ.one (i := 4) (by kernel_rfl) ?_
      refine DO.call0 rfl rfl rfl (fun k0 hk0 dk0 k hk dk => (hY1 ▸ AddPieceS_ok (p := u.p) (Sts.lr hk dk 0 (by omega) rfl) (Sts.fls hk dk 1 (bigY hf hY1) rfl) (Sts.lr hk dk 2 (by omega) rfl) (bigY2 hf hY1) (by omega) (wfY hx hY1) hw hh)) ?_
      rintro _ _ ⟨W0, wa, wc, rfl, rfl, hW0⟩
      have hW0l := len_of hW0
      have hW0b := bigL hW0 hAb
      refine DJ.norm [_] [_, _, _, _, _] rfl rfl ?_
      refine DJ.yd 5 rfl (by kernel_rfl) (by kernel_rfl) (by kernel_rfl) rfl rfl (Yd.mvU rfl) ?_
      refine DJ.yd 6 rfl (by kernel_rfl) (by kernel_rfl) (by kernel_rfl) rfl rfl (Yd.extract rfl rfl) ?_
      refine DJ.yd 7 rfl (by kernel_rfl) (by kernel_rfl) (by kernel_rfl) rfl rfl (Yd.extract rfl rfl) ?_
      refine DJ.yd 8 rfl (by kernel_rfl) (by kernel_rfl) (by kernel_rfl) rfl rfl (Yd.asS rfl) ?_
      refine DJ.yd 9 rfl (by kernel_rfl) (by kernel_rfl) (by kernel_rfl) rfl rfl (Yd.asB rfl) ?_
      refine DJ.done (by kernel_rfl) ?_
      refine CJ.seq ?_
      refine CJ.region ?_
      refine LJ.yd rfl (Yd.mvS rfl) ?_
      refine LJ.call0 rfl (fun k hk dk => toPieceS_ok hl.up (fun u hu => ⟨(hf u hu).1.up, (hf u hu).2⟩) (by omega)) ?_
      rintro _ _ ⟨Y2, ya2, yc2, rfl, rfl, hY2⟩
      have hYl2 : Y2.length = X.length := by have := congrArg List.length hY2; simpa using this
      refine LJ.norm [_, _, _, _, _, _, _, _] rfl ?_
      refine LJ.yd rfl (Yd.asS rfl) ?_
      refine LJ.nil ?_
      refine CJ.seq ?_
      refine CJ.region ?_
      refine LJ.yd rfl (Yd.loadG (us := [_, _, _, _]) 0 rfl rfl rfl rfl) ?_
      refine LJ.call0 rfl (fun k hk dk => toPiece_ok (p := u.p) (hlu.up) (by omega)) ?_
      rintro _ _ ⟨xa2, xc2, rfl, rfl⟩
      refine LJ.norm [_, _, _, _, _, _, _, _, _] rfl ?_
      refine LJ.alloc ([_, _, _, _] : List Value) rfl rfl (fun b2 => ?_)
      refine LJ.store (v := .agg #[_, _, _, _]) (us := [_, _, _, _]) 9 rfl rfl rfl rfl rfl rfl rfl rfl ?_
      refine LJ.nil ?_
      refine CJ.seq ?_
      refine CJ.region ?_
      refine LJ.yd rfl (Yd.mvS rfl) ?_
      refine LJ.yd rfl (Yd.loadG (us := [_, _, _, _]) 9 rfl rfl rfl rfl) ?_
      refine LJ.call0 rfl (fun k hk dk => (hY2 ▸ AddPieceI_ok (p := u.p) (Sts.lr hk dk 6 (by omega) rfl) (Sts.fls hk dk 7 (bigY hf hY2) rfl) (Sts.lr hk dk 8 (by omega) rfl) (bigY2 hf hY2) (by omega))) ?_
      rintro _ _ ⟨G0, ga, gc, rfl, rfl, hG0⟩
      have hG0l := len_of hG0
      have hG0b := bigL hG0 hAb
      refine LJ.norm [_, _, _, _, _, _, _, _, _, _, _, _] rfl ?_
      refine LJ.yd rfl (Yd.mvU rfl) ?_
      refine LJ.yd rfl (Yd.extract rfl rfl) ?_
      refine LJ.yd rfl (Yd.extract rfl rfl) ?_
      refine LJ.yd rfl (Yd.asS rfl) ?_
      refine LJ.yd rfl (Yd.asB rfl) ?_
      refine LJ.nil ?_
      refine CJ.seq ?_
      refine CJ.seq ?_
      refine CJ.region ?_
      refine LJ.yd rfl (Yd.mvS rfl) ?_
      refine LJ.yd rfl (Yd.mvS rfl) ?_
      refine LJ.callV rfl (fun k hk dk => eqPieceS_T (Sts.lr hk dk 10 (by omega) rfl) (Sts.lr hk dk 4 (by omega) rfl) (Sts.fls hk dk 11 (big8 hG0b) rfl) (Sts.fls hk dk 5 (big8 hW0b) rfl) (hG0.trans hW0.symm)) ?_
      refine LJ.yd rfl (Yd.not rfl) ?_
      refine LJ.yd rfl (Yd.mvB rfl) ?_
      refine LJ.gT rfl ?_
      refine LJ.yd rfl (Yd.mvB rfl) ?_
      refine LJ.gT rfl ?_
      refine LJ.yd rfl (Yd.mvB rfl) ?_
      refine LJ.gT rfl ?_
      refine LJ.yd rfl (Yd.cmpNF (Yd.neqB rfl rfl) (by simp)) ?_
      refine LJ.yd rfl (Yd.pickFB rfl rfl) ?_
      refine LJ.nil ?_
      refine CJ.condF rfl ?_
      refine CJ.skip ?_
      refine CJ.seq ?_
      refine CJ.seq ?_
      refine CJ.region ?_
      refine LJ.yd rfl (Yd.mvS rfl) ?_
      refine LJ.yd rfl (Yd.mvS rfl) ?_
      refine LJ.call0 rfl (fun k hk dk => toPieceS_ok hl.up (fun u hu => ⟨(hf u hu).1.up, (hf u hu).2⟩) (by omega)) ?_
      rintro _ _ ⟨Y3, ya3, yc3, rfl, rfl, hY3⟩
      have hYl3 : Y3.length = X.length := by have := congrArg List.length hY3; simpa using this
      refine LJ.norm [_, _, _, _, _, _, _, _, _, _, _, _, _, _] rfl ?_
      refine LJ.callV rfl (fun k hk dk => eqPieceS_T (Sts.lr hk dk 6 (by omega) rfl) (Sts.lr hk dk 12 (by omega) rfl) (Sts.fls hk dk 7 (bigY hf hY2) rfl) (Sts.fls hk dk 13 (bigY hf hY3) rfl) (hY2.trans hY3.symm)) ?_
      refine LJ.yd rfl (Yd.not rfl) ?_
      refine LJ.nil ?_
      refine CJ.condF rfl ?_
      refine CJ.skip ?_
      refine CJ.seq ?_
      refine CJ.seq ?_
      refine CJ.regionD [0, 1, 2, 3, 4, 5, 6, 7, 8, 9, 10, 11, 12, 13] [] (by kernel_rfl) rfl ?_
      refine DJ.norm [_, _, _, _, _, _, _, _, _, _, _, _, _, _] [] rfl rfl ?_
      refine DJ.yd 0 rfl (by kernel_rfl) (by kernel_rfl) (by kernel_rfl) rfl rfl (Yd.loadG (us := [_, _, _, _]) 9 rfl rfl rfl rfl) ?_
      refine DJ.yd 1 rfl (by kernel_rfl) (by kernel_rfl) (by kernel_rfl) rfl rfl (Yd.loadG (us := [_, _, _, _]) 0 rfl rfl rfl rfl) ?_
      refine DJ.one (i := 2) (by kernel_rfl) ?_
      refine DO.call0 rfl rfl rfl (fun k0 hk0 dk0 k hk dk => toPiece_ok (p := u.p) (hlu.up) (by omega)) ?_
      rintro _ _ ⟨xa3, xc3, rfl, rfl⟩
      refine DJ.norm [_, _, _, _, _, _, _, _, _, _, _, _, _, _] [_] rfl rfl ?_
      refine DJ.one (i := 3) (by kernel_rfl) ?_
      refine DO.callV rfl rfl rfl (fun k0 hk0 dk0 k hk dk => eqPiece_T (p := u.p) ((Sts.lr hk0 dk0 8 (by omega) rfl).up) (Sts.lr hk dk 0 (by omega) rfl)) ?_
      refine DJ.yd 4 rfl (by kernel_rfl) (by kernel_rfl) (by kernel_rfl) rfl rfl (Yd.not rfl) ?_
      refine DJ.done (by kernel_rfl) ?_
      refine CJ.condF rfl ?_
      refine CJ.skip ?_
      refine CJ.seq ?_
      refine CJ.region ?_
      refine LJ.yd rfl (Yd.asI rfl) ?_
      refine LJ.nil ?_
      refine CJ.seq ?_
      refine CJ.region ?_
      refine LJ.yd rfl (Yd.mvS rfl) ?_
      refine LJ.yd rfl (Yd.mvI rfl) ?_
      refine LJ.call (pickF _ [0, 1, 2, 3, 4, 5, 8, 9, 10, 11, 12, 13, 14]) (pickF _ [6, 7]) rfl (perm_pickF _ [0, 1, 2, 3, 4, 5, 8, 9, 10, 11, 12, 13, 14] [6, 7] rfl) (fun k hk dk => markPieceS_ok rfl (by omega) (by omega) (by omega) (bigY2 hf hY2)) ?_
      rintro _ _ ⟨M2, rfl, rfl, hM2, hM2l⟩
      have hN2 := mkN_nonneg (psX Y2)
      have hN2b := mkN_le (L := psX Y2) (hY2 ▸ big_map hf)
      rw [List.length_map] at hN2b
      refine LJ.norm [_, _, _, _, _, _, _, _, _, _, _, _, _, _, _] rfl ?_
      refine LJ.yd rfl (Yd.asI rfl) ?_
      refine LJ.nil ?_
      refine CJ.seq ?_
      refine CJ.region ?_
      refine LJ.yd rfl (Yd.loadG (us := [_, _, _, _]) 7 rfl rfl rfl rfl) ?_
      refine LJ.yd rfl (Yd.mvI rfl) ?_
      refine LJ.call (pickF _ [0, 1, 2, 3, 4, 5, 7, 8, 9, 10, 11, 12, 13, 14]) (pickF _ [6]) rfl (perm_pickF _ [0, 1, 2, 3, 4, 5, 7, 8, 9, 10, 11, 12, 13, 14] [6] rfl) (fun k hk dk => markPiece_ok (p := u.p) (by omega) (by omega) (by omega)) ?_
      rintro _ _ ⟨rfl, rfl⟩
      refine LJ.norm [_, _, _, _, _, _, _, _, _, _, _, _, _, _, _] rfl ?_
      refine LJ.yd rfl (Yd.asI rfl) ?_
      refine LJ.nil ?_
      refine CJ.seq ?_
      refine CJ.seq ?_
      refine CJ.region ?_
      refine LJ.yd rfl (Yd.mvI rfl) ?_
      refine LJ.yd rfl (Yd.cmpF (Yd.lss rfl rfl) (by omega)) ?_
      refine LJ.yd rfl (Yd.mvB rfl) ?_
      refine LJ.gT rfl ?_
      refine LJ.yd rfl (Yd.mvS rfl) ?_
      refine LJ.gT rfl ?_
      refine LJ.yd rfl (Yd.mvS rfl) ?_
      refine LJ.gT rfl ?_
      refine LJ.callV rfl (fun k hk dk => eqPieceS_T (Sts.lr hk dk 7 (by omega) rfl) (Sts.lr hk dk 4 (by omega) rfl) (Sts.fls hk dk 8 (big8 hG0b) rfl) (Sts.fls hk dk 5 (big8 hW0b) rfl) (hG0.trans hW0.symm)) ?_
      refine LJ.gT rfl ?_
      refine LJ.yd rfl (Yd.not rfl) ?_
      refine LJ.yd rfl (Yd.pickFB rfl rfl) ?_
      refine LJ.yd rfl (Yd.mvB rfl) ?_
      refine LJ.gT rfl ?_
      refine LJ.yd rfl (Yd.mvB rfl) ?_
      refine LJ.gT rfl ?_
      refine LJ.yd rfl (Yd.mvB rfl) ?_
      refine LJ.gT rfl ?_
      refine LJ.yd rfl (Yd.cmpNF (Yd.neqB rfl rfl) (by simp)) ?_
      refine LJ.yd rfl (Yd.pickFB rfl rfl) ?_
      refine LJ.nil ?_
      refine CJ.condF rfl ?_
      refine CJ.skip ?_
      refine CJ.seq ?_
      refine CJ.region ?_
      refine LJ.yd rfl (Yd.asI rfl) ?_
      refine LJ.nil ?_
      refine CJ.seq ?_
      refine CJ.region ?_
      refine LJ.yd rfl (Yd.mvS rfl) ?_
      refine LJ.yd rfl (Yd.mvI rfl) ?_
      refine LJ.call (pickF _ [0, 1, 2, 3, 4, 5, 6, 9, 10, 11, 12, 13, 14]) (pickF _ [7, 8]) rfl (perm_pickF _ [0, 1, 2, 3, 4, 5, 6, 9, 10, 11, 12, 13, 14] [7, 8] rfl) (fun k hk dk => markPieceS_ok rfl (by omega) (by omega) (by omega) hG0b) ?_
      rintro _ _ ⟨M0, rfl, rfl, hM0, hM0l⟩
      have hM0b := bigL hM0 (mkQ_big (fun p hp => by obtain ⟨z, hz, rfl⟩ := List.mem_map.1 hp; exact hG0b z hz))
      have hN0 := mkN_nonneg (psX G0)
      refine LJ.norm [_, _, _, _, _, _, _, _, _, _, _, _, _, _, _] rfl ?_
      refine LJ.yd rfl (Yd.asI rfl) ?_
      refine LJ.nil ?_
      refine CJ.seq ?_
      refine CJ.region ?_
      refine LJ.yd rfl (Yd.asI rfl) ?_
      refine LJ.nil ?_
      refine CJ.seq ?_
      refine CJ.region ?_
      refine LJ.yd rfl (Yd.mvS rfl) ?_
      refine LJ.yd rfl (Yd.mvI rfl) ?_
      refine LJ.callV rfl (fun k hk dk => heldPieceS_ok (Sts.lrm hk dk 13 (by first | rfl | omega | (simp; done) | (simp; omega) | (simp [upN_len]; omega) | (simp [idxBy_len]; omega) | (simp [marks_len]; omega) | (simp [upN_len]; done) | (simp [idxBy_len]; done) | (simp [marks_len]; done) | (simp at *; omega)) (by first | rfl | omega | (simp; done) | (simp; omega) | (simp [upN_len]; omega) | (simp [idxBy_len]; omega) | (simp [marks_len]; omega) | (simp [upN_len]; done) | (simp [idxBy_len]; done) | (simp [marks_len]; done) | (simp at *; omega)) rfl) (Sts.fls hk dk 14 (big8 hM0b) rfl) hM0 (by omega) (by omega) (by first | omega | (simp; omega)) (fun p hp => by obtain ⟨z, hz, rfl⟩ := List.mem_map.1 hp; exact hG0b z hz)) ?_
      refine LJ.yd rfl (Yd.asI rfl) ?_
      refine LJ.nil ?_
      refine CJ.seq ?_
      refine CJ.seq ?_
      refine CJ.region ?_
      refine LJ.yd rfl (Yd.mvI rfl) ?_
      refine LJ.yd rfl (Yd.cmpF (Yd.lss rfl rfl) (by omega)) ?_
      refine LJ.nil ?_
      refine CJ.condF rfl ?_
      refine CJ.skip ?_
      refine CJ.seq ?_
      refine CJ.seq ?_
      refine CJ.region ?_
      refine LJ.yd rfl (Yd.mvI rfl) ?_
      refine LJ.yd rfl (Yd.mvI rfl) ?_
      refine LJ.yd rfl (Yd.cmpNF (Yd.neq rfl rfl) (by simp)) ?_
      refine LJ.nil ?_
      refine CJ.condF rfl ?_
      refine CJ.skip ?_
      refine CJ.seq ?_
      refine CJ.regionD [0, 1, 2, 3, 4, 5, 6, 7, 8, 9, 10, 11, 12, 13, 14] [] (by kernel_rfl) rfl ?_
      refine DJ.norm [_, _, _, _, _, _, _, _, _, _, _, _, _, _, _] [] rfl rfl ?_
      refine DJ.yd 0 rfl (by kernel_rfl) (by kernel_rfl) (by kernel_rfl) rfl rfl (Yd.mvS rfl) ?_
      refine DJ.yd 2 rfl (by kernel_rfl) (by kernel_rfl) (by kernel_rfl) rfl rfl (Yd.loadG (us := [_, _, _, _]) 0 rfl rfl rfl rfl) ?_
      refine DJ.one (i := 1) (by kernel_rfl) ?_
      refine DO.call0 rfl rfl rfl (fun k0 hk0 dk0 k hk dk => toPieceS_ok hl.up (fun u hu => ⟨(hf u hu).1.up, (hf u hu).2⟩) (by omega)) ?_
      rintro _ _ ⟨Y4, ya4, yc4, rfl, rfl, hY4⟩
      have hYl4 : Y4.length = X.length := by have := congrArg List.length hY4; simpa using this
      refine DJ.norm [_, _, _, _, _, _, _, _, _, _, _, _, _, _, _] [_, _] rfl rfl ?_
      refine DJ.one (i := 3) (by kernel_rfl) ?_
      refine DO.call0 rfl rfl rfl (fun k0 hk0 dk0 k hk dk => toPiece_ok (p := u.p) (hlu.up) (by omega)) ?_
      rintro _ _ ⟨xa4, xc4, rfl, rfl⟩
      refine DJ.norm [_, _, _, _, _, _, _, _, _, _, _, _, _, _, _] [_, _, _] rfl rfl ?_
      refine DJ.one (i := 4) (by kernel_rfl) ?_
      refine DO.call0 rfl rfl rfl (fun k0 hk0 dk0 k hk dk => (hY4 ▸ AddPieceI_ok (p := u.p) (Sts.lr hk dk 0 (by omega) rfl) (Sts.fls hk dk 1 (bigY hf hY4) rfl) (Sts.lr hk dk 2 (by omega) rfl) (bigY2 hf hY4) (by omega))) ?_
      rintro _ _ ⟨H0, ha, hc, rfl, rfl, hH0⟩
      have hH0l := len_of hH0
      have hH0b := bigL hH0 hAb
      refine DJ.norm [_, _, _, _, _, _, _, _, _, _, _, _, _, _, _] [_, _, _, _, _] rfl rfl ?_
      refine DJ.yd 5 rfl (by kernel_rfl) (by kernel_rfl) (by kernel_rfl) rfl rfl (Yd.mvU rfl) ?_
      refine DJ.yd 6 rfl (by kernel_rfl) (by kernel_rfl) (by kernel_rfl) rfl rfl (Yd.extract rfl rfl) ?_
      refine DJ.yd 7 rfl (by kernel_rfl) (by kernel_rfl) (by kernel_rfl) rfl rfl (Yd.extract rfl rfl) ?_
      refine DJ.yd 8 rfl (by kernel_rfl) (by kernel_rfl) (by kernel_rfl) rfl rfl (Yd.asS rfl) ?_
      refine DJ.yd 9 rfl (by kernel_rfl) (by kernel_rfl) (by kernel_rfl) rfl rfl (Yd.asB rfl) ?_
      refine DJ.done (by kernel_rfl) ?_
      refine CJ.seq ?_
      refine CJ.seq ?_
      refine CJ.region ?_
      refine LJ.yd rfl (Yd.mvS rfl) ?_
      refine LJ.yd rfl (Yd.mvS rfl) ?_
      refine LJ.callV rfl (fun k hk dk => eqPieceS_T (Sts.lr hk dk 18 (by omega) rfl) (Sts.lr hk dk 4 (by omega) rfl) (Sts.fls hk dk 19 (big8 hH0b) rfl) (Sts.fls hk dk 5 (big8 hW0b) rfl) (hH0.trans hW0.symm)) ?_
      refine LJ.yd rfl (Yd.not rfl) ?_
      refine LJ.yd rfl (Yd.mvB rfl) ?_
      refine LJ.gT rfl ?_
      refine LJ.yd rfl (Yd.mvB rfl) ?_
      refine LJ.gT rfl ?_
      refine LJ.yd rfl (Yd.mvB rfl) ?_
      refine LJ.gT rfl ?_
      refine LJ.yd rfl (Yd.cmpNF (Yd.neqB rfl rfl) (by simp)) ?_
      refine LJ.yd rfl (Yd.pickFB rfl rfl) ?_
      refine LJ.nil ?_
      refine CJ.condF rfl ?_
      refine CJ.skip ?_
      refine CJ.seq ?_
      refine CJ.region ?_
      refine LJ.yd rfl (Yd.asI rfl) ?_
      refine LJ.nil ?_
      refine CJ.seq ?_
      refine CJ.region ?_
      refine LJ.yd rfl (Yd.mvS rfl) ?_
      refine LJ.yd rfl (Yd.mvI rfl) ?_
      refine LJ.callV rfl (fun k hk dk => heldPieceS_ok (Sts.lrm hk dk 13 (by first | rfl | omega | (simp; done) | (simp; omega) | (simp [upN_len]; omega) | (simp [idxBy_len]; omega) | (simp [marks_len]; omega) | (simp [upN_len]; done) | (simp [idxBy_len]; done) | (simp [marks_len]; done) | (simp at *; omega)) (by first | rfl | omega | (simp; done) | (simp; omega) | (simp [upN_len]; omega) | (simp [idxBy_len]; omega) | (simp [marks_len]; omega) | (simp [upN_len]; done) | (simp [idxBy_len]; done) | (simp [marks_len]; done) | (simp at *; omega)) rfl) (Sts.fls hk dk 14 (big8 hM0b) rfl) hM0 (by omega) (by omega) (by first | omega | (simp; omega)) (fun p hp => by obtain ⟨z, hz, rfl⟩ := List.mem_map.1 hp; exact hG0b z hz)) ?_
      refine LJ.yd rfl (Yd.asI rfl) ?_
      refine LJ.nil ?_
      refine CJ.seq ?_
      refine CJ.seq ?_
      refine CJ.region ?_
      refine LJ.yd rfl (Yd.mvI rfl) ?_
      refine LJ.yd rfl (Yd.cmpF (Yd.lss rfl rfl) (by omega)) ?_
      refine LJ.nil ?_
      refine CJ.condF rfl ?_
      refine CJ.skip ?_
      refine CJ.seq ?_
      refine CJ.seq ?_
      refine CJ.region ?_
      refine LJ.yd rfl (Yd.mvI rfl) ?_
      refine LJ.yd rfl (Yd.mvI rfl) ?_
      refine LJ.yd rfl (Yd.cmpNF (Yd.neq rfl rfl) (by simp)) ?_
      refine LJ.nil ?_
      refine CJ.condF rfl ?_
      refine CJ.skip ?_
      refine CJ.seq ?_
      refine CJ.region ?_
      refine LJ.yd rfl (Yd.asB rfl) ?_
      refine LJ.nil ?_
      refine CJ.ret ?_
      refine Fin.V (Res.one (ResV.tmp (v := .bool true) rfl)) ?_
      rfl
theorem takR_sub {L : List Piece} {l : Int} : ∀ q ∈ takR L l, q ∈ L := fun q hq => by
  unfold takR at hq
  split at hq
  · exact List.mem_of_mem_eraseIdx hq
  · cases hq
theorem takR_len {L : List Piece} {l : Int} : (takR L l).length ≤ L.length := by
  unfold takR
  split
  · exact List.length_eraseIdx_le ..
  · simp
theorem takP_big {L : List Piece} {l : Int} (h : ∀ q ∈ L, q.fl.length ≤ 2000000) : (takP L l).fl.length ≤ 2000000 := by
  unfold takP
  split
  · rw [List.getD_eq_getElem?_getD]
    cases e : L[(fnd l L 0).toNat]? with
    | none => exact Nat.zero_le _
    | some x => exact h x (List.mem_of_getElem? e)
  · exact Nat.zero_le _
theorem FnExactTakePiece_ok {A : Amb} {a : Option Addr} {n c : Nat} {X : List QF} {l : Int} (hn : n ≤ 9223372036854775807) (hr : n ≤ 1048576 → RdL encF 4 A.h (.slice a n c) X ∧ n = X.length) (hx : ∀ u ∈ X, QfOk A.h u) :
    Ctr Try.prog 10 #[.slice a n c, vI l] A [] (Val (.bool true)) := by
  refine Ctr.body (args := [_, _]) Try.func10 rfl Try.ntmps10 Try.results10 (by simp) ?_
  refine CJ.seq ?_
  refine CJ.region ?_
  refine LJ.yd rfl (Yd.asB rfl) ?_
  refine LJ.nil ?_
  refine CJ.seq ?_
  refine CJ.region ?_
  refine LJ.yd rfl (Yd.asI rfl) ?_
  refine LJ.nil ?_
  refine CJ.seq ?_
  refine CJ.region ?_
  refine LJ.yd rfl (Yd.mvS rfl) ?_
  refine LJ.yd rfl (Yd.mvI rfl) ?_
  refine LJ.call0 rfl (fun k hk dk => szPieceS_ok up hn hr hx (by omega) (by omega)) ?_
  rintro _ _ ⟨r21, rfl, rfl, hr21⟩
  refine LJ.yd rfl (Yd.asI rfl) ?_
  refine LJ.nil ?_
  refine CJ.seq ?_
  refine CJ.seq ?_
  refine CJ.region ?_
  refine LJ.yd rfl (Yd.mvI rfl) ?_
  refine LJ.splitD rfl (Yd.lss rfl rfl) (fun h23 => ?_) (fun h23 => ?_)
  · refine LJ.nil ?_
    refine CJ.condT rfl ?_
    refine CJ.seq ?_
    refine CJ.region ?_
    refine LJ.yd rfl (Yd.asB rfl) ?_
    refine LJ.nil ?_
    refine CJ.ret ?_
    refine Fin.V (Res.one (ResV.tmp (v := .bool true) rfl)) ?_
    rfl
  · refine LJ.nil ?_
    refine CJ.condF rfl ?_
    refine CJ.skip ?_
    refine CJ.seq ?_
    obtain ⟨hr1, hr2, rfl, hn1, hl, hf⟩ := hr21.resolve_left (by omega)
    obtain ⟨P0, hP0⟩ : ∃ P, P = takP (X.map QF.p) l := ⟨_, rfl⟩
    have hPb := takP_big (l := l) (big_map hf)
    rw [← hP0] at hPb
    have hRb : ∀ q ∈ takR (X.map QF.p) l, q.fl.length ≤ 2000000 := fun q hq => big_map hf q (takR_sub q hq)
    have hRl := takR_len (L := X.map QF.p) (l := l)
    rw [List.length_map] at hRl
    refine CJ.region ?_
    refine LJ.yd rfl (Yd.mvS rfl) ?_
    refine LJ.call0 rfl (fun k hk dk => toPieceS_ok hl.up (fun u hu => ⟨(hf u hu).1.up, (hf u hu).2⟩) (by omega)) ?_
    rintro _ _ ⟨Y1, ya1, yc1, rfl, rfl, hY1⟩
    have hYl1 : Y1.length = X.length := by have := congrArg List.length hY1; simpa using this
    refine LJ.norm [_, _] rfl ?_
    refine LJ.yd rfl (Yd.mvI rfl) ?_
    refine LJ.call0 rfl (fun k hk dk => (hY1 ▸ TakePieceS_ok (Sts.lr hk dk 0 (by omega) rfl) (Sts.fls hk dk 1 (bigY hf hY1) rfl) (bigY2 hf hY1) (wfY hx hY1))) ?_
    rintro _ _ ⟨⟨wp, wpa, wpc⟩, W1, wa, wc, rfl, rfl, hWP, hW1⟩
    dsimp only at hWP
    rw [← hP0] at hWP
    subst hWP
    have hW1l := len_of hW1
    have hW1b := bigL hW1 hRb
    refine LJ.norm [_, _, _, _, _] rfl ?_
    refine LJ.yd rfl (Yd.mvU rfl) ?_
    refine LJ.yd rfl (Yd.extract rfl rfl) ?_
    refine LJ.yd rfl (Yd.extract rfl rfl) ?_
    refine LJ.yd rfl (Yd.extract rfl rfl) ?_
    refine LJ.alloc ([_, _, _, _] : List Value) rfl rfl (fun b1 => ?_)
    refine LJ.store (v := .agg #[_, _, _, _]) (us := [_, _, _, _]) 5 rfl rfl rfl rfl rfl rfl rfl rfl ?_
    refine LJ.yd rfl (Yd.asS rfl) ?_
    refine LJ.yd rfl (Yd.asB rfl) ?_
    refine LJ.nil ?_
    refine CJ.seq ?_
    refine CJ.region ?_
    refine LJ.yd rfl (Yd.mvS rfl) ?_
    refine LJ.call0 rfl (fun k hk dk => toPieceS_ok hl.up (fun u hu => ⟨(hf u hu).1.up, (hf u hu).2⟩) (by omega)) ?_
    rintro _ _ ⟨Y2, ya2, yc2, rfl, rfl, hY2⟩
    have hYl2 : Y2.length = X.length := by have := congrArg List.length hY2; simpa using this
    refine LJ.norm [_, _, _, _, _, _, _, _] rfl ?_
    refine LJ.yd rfl (Yd.asS rfl) ?_
    refine LJ.nil ?_
    refine CJ.seq ?_
    refine CJ.region ?_
    refine LJ.yd rfl (Yd.mvS rfl) ?_
    refine LJ.yd rfl (Yd.mvI rfl) ?_
    refine LJ.call0 rfl (fun k hk dk => (hY2 ▸ TakePieceI_ok (Sts.lr hk dk 6 (by omega) rfl) (Sts.fls hk dk 7 (bigY hf hY2) rfl) (bigY2 hf hY2))) ?_
    rintro _ _ ⟨⟨gp, gpa, gpc⟩, G1, ga, gc, rfl, rfl, hGP, hG1⟩
    dsimp only at hGP
    rw [← hP0] at hGP
    subst hGP
    have hG1l := len_of hG1
    have hG1b := bigL hG1 hRb
    refine LJ.norm [_, _, _, _, _, _, _, _, _, _, _] rfl ?_
    refine LJ.yd rfl (Yd.mvU rfl) ?_
    refine LJ.yd rfl (Yd.extract rfl rfl) ?_
    refine LJ.yd rfl (Yd.extract rfl rfl) ?_
    refine LJ.yd rfl (Yd.extract rfl rfl) ?_
    refine LJ.alloc ([_, _, _, _] : List Value) rfl rfl (fun b2 => ?_)
    refine LJ.store (v := .agg #[_, _, _, _]) (us := [_, _, _, _]) 11 rfl rfl rfl rfl rfl rfl rfl rfl ?_
    refine LJ.yd rfl (Yd.asS rfl) ?_
    refine LJ.yd rfl (Yd.asB rfl) ?_
    refine LJ.nil ?_
    refine CJ.seq ?_
    refine CJ.seq ?_
    refine CJ.region ?_
    refine LJ.yd rfl (Yd.loadG (us := [_, _, _, _]) 11 rfl rfl rfl rfl) ?_
    refine LJ.yd rfl (Yd.loadG (us := [_, _, _, _]) 5 rfl rfl rfl rfl) ?_
    refine LJ.callV rfl (fun k hk dk => eqPiece_T (Sts.lr hk dk 8 (by dsimp only; omega) rfl) (Sts.lr hk dk 2 (by dsimp only; omega) rfl)) ?_
    refine LJ.yd rfl (Yd.not rfl) ?_
    refine LJ.yd rfl (Yd.mvB rfl) ?_
    refine LJ.gT rfl ?_
    refine LJ.yd rfl (Yd.mvS rfl) ?_
    refine LJ.gT rfl ?_
    refine LJ.yd rfl (Yd.mvS rfl) ?_
    refine LJ.gT rfl ?_
    refine LJ.callV rfl (fun k hk dk => eqPieceS_T (Sts.lr hk dk 9 (by omega) rfl) (Sts.lr hk dk 3 (by omega) rfl) (Sts.fls hk dk 10 (big8 hG1b) rfl) (Sts.fls hk dk 4 (big8 hW1b) rfl) (hG1.trans hW1.symm)) ?_
    refine LJ.gT rfl ?_
    refine LJ.yd rfl (Yd.not rfl) ?_
    refine LJ.yd rfl (Yd.pickFB rfl rfl) ?_
    refine LJ.yd rfl (Yd.mvB rfl) ?_
    refine LJ.gT rfl ?_
    refine LJ.yd rfl (Yd.mvB rfl) ?_
    refine LJ.gT rfl ?_
    refine LJ.yd rfl (Yd.mvB rfl) ?_
    refine LJ.gT rfl ?_
    refine LJ.yd rfl (Yd.cmpNF (Yd.neqB rfl rfl) (by simp)) ?_
    refine LJ.yd rfl (Yd.pickFB rfl rfl) ?_
    refine LJ.nil ?_
    refine CJ.condF rfl ?_
    refine CJ.skip ?_
    refine CJ.seq ?_
    refine CJ.seq ?_
    refine CJ.region ?_
    refine LJ.yd rfl (Yd.mvS rfl) ?_
    refine LJ.yd rfl (Yd.mvS rfl) ?_
    refine LJ.call0 rfl (fun k hk dk => toPieceS_ok hl.up (fun u hu => ⟨(hf u hu).1.up, (hf u hu).2⟩) (by omega)) ?_
    rintro _ _ ⟨Y3, ya3, yc3, rfl, rfl, hY3⟩
    have hYl3 : Y3.length = X.length := by have := congrArg List.length hY3; simpa using this
    refine LJ.norm [_, _, _, _, _, _, _, _, _, _, _, _, _, _] rfl ?_
    refine LJ.callV rfl (fun k hk dk => eqPieceS_T (Sts.lr hk dk 6 (by omega) rfl) (Sts.lr hk dk 12 (by omega) rfl) (Sts.fls hk dk 7 (bigY hf hY2) rfl) (Sts.fls hk dk 13 (bigY hf hY3) rfl) (hY2.trans hY3.symm)) ?_
    refine LJ.yd rfl (Yd.not rfl) ?_
    refine LJ.nil ?_
    refine CJ.condF rfl ?_
    refine CJ.skip ?_
    refine CJ.seq ?_
    refine CJ.region ?_
    refine LJ.yd rfl (Yd.asI rfl) ?_
    refine LJ.nil ?_
    refine CJ.seq ?_
    refine CJ.region ?_
    refine LJ.yd rfl (Yd.mvS rfl) ?_
    refine LJ.yd rfl (Yd.mvI rfl) ?_
    refine LJ.call (pickF _ [0, 1, 2, 3, 4, 5, 8, 9, 10, 11, 12, 13]) (pickF _ [6, 7]) rfl (perm_pickF _ [0, 1, 2, 3, 4, 5, 8, 9, 10, 11, 12, 13] [6, 7] rfl) (fun k hk dk => markPieceS_ok rfl (by omega) (by omega) (by omega) (bigY2 hf hY2)) ?_
    rintro _ _ ⟨M2, rfl, rfl, hM2, hM2l⟩
    have hN2 := mkN_nonneg (psX Y2)
    refine LJ.norm [_, _, _, _, _, _, _, _, _, _, _, _, _, _] rfl ?_
    refine LJ.yd rfl (Yd.asI rfl) ?_
    refine LJ.nil ?_
    refine CJ.seq ?_
    refine CJ.seq ?_
    refine CJ.region ?_
    refine LJ.yd rfl (Yd.mvI rfl) ?_
    refine LJ.yd rfl (Yd.cmpF (Yd.lss rfl rfl) (by omega)) ?_
    refine LJ.yd rfl (Yd.mvB rfl) ?_
    refine LJ.gT rfl ?_
    refine LJ.yd rfl (Yd.loadG (us := [_, _, _, _]) 9 rfl rfl rfl rfl) ?_
    refine LJ.gT rfl ?_
    refine LJ.yd rfl (Yd.loadG (us := [_, _, _, _]) 5 rfl rfl rfl rfl) ?_
    refine LJ.gT rfl ?_
    refine LJ.callV rfl (fun k hk dk => eqPiece_T (Sts.lr hk dk 6 (by dsimp only; omega) rfl) (Sts.lr hk dk 2 (by dsimp only; omega) rfl)) ?_
    refine LJ.gT rfl ?_
    refine LJ.yd rfl (Yd.not rfl) ?_
    refine LJ.yd rfl (Yd.pickFB rfl rfl) ?_
    refine LJ.yd rfl (Yd.mvB rfl) ?_
    refine LJ.gT rfl ?_
    refine LJ.yd rfl (Yd.mvS rfl) ?_
    refine LJ.gT rfl ?_
    refine LJ.yd rfl (Yd.mvS rfl) ?_
    refine LJ.gT rfl ?_
    refine LJ.callV rfl (fun k hk dk => eqPieceS_T (Sts.lr hk dk 7 (by omega) rfl) (Sts.lr hk dk 3 (by omega) rfl) (Sts.fls hk dk 8 (big8 hG1b) rfl) (Sts.fls hk dk 4 (big8 hW1b) rfl) (hG1.trans hW1.symm)) ?_
    refine LJ.gT rfl ?_
    refine LJ.yd rfl (Yd.not rfl) ?_
    refine LJ.yd rfl (Yd.pickFB rfl rfl) ?_
    refine LJ.yd rfl (Yd.mvB rfl) ?_
    refine LJ.gT rfl ?_
    refine LJ.yd rfl (Yd.mvB rfl) ?_
    refine LJ.gT rfl ?_
    refine LJ.yd rfl (Yd.mvB rfl) ?_
    refine LJ.gT rfl ?_
    refine LJ.yd rfl (Yd.cmpNF (Yd.neqB rfl rfl) (by simp)) ?_
    refine LJ.yd rfl (Yd.pickFB rfl rfl) ?_
    refine LJ.nil ?_
    refine CJ.condF rfl ?_
    refine CJ.skip ?_
    refine CJ.seq ?_
    refine CJ.region ?_
    refine LJ.yd rfl (Yd.asI rfl) ?_
    refine LJ.nil ?_
    refine CJ.seq ?_
    refine CJ.region ?_
    refine LJ.yd rfl (Yd.loadG (us := [_, _, _, _]) 9 rfl rfl rfl rfl) ?_
    refine LJ.yd rfl (Yd.mvI rfl) ?_
    refine LJ.call (pickF _ [0, 1, 2, 3, 4, 5, 7, 8, 9, 10, 11, 12, 13]) (pickF _ [6]) rfl (perm_pickF _ [0, 1, 2, 3, 4, 5, 7, 8, 9, 10, 11, 12, 13] [6] rfl) (fun k hk dk => markPiece_ok (p := gp) (by omega) (by omega) (by omega)) ?_
    rintro _ _ ⟨rfl, rfl⟩
    refine LJ.norm [_, _, _, _, _, _, _, _, _, _, _, _, _, _] rfl ?_
    refine LJ.yd rfl (Yd.asI rfl) ?_
    refine LJ.nil ?_
    refine CJ.seq ?_
    refine CJ.region ?_
    refine LJ.yd rfl (Yd.mvS rfl) ?_
    refine LJ.yd rfl (Yd.mvI rfl) ?_
    refine LJ.call (pickF _ [0, 1, 2, 3, 4, 5, 8, 9, 10, 11, 12, 13]) (pickF _ [6, 7]) rfl (perm_pickF _ [0, 1, 2, 3, 4, 5, 8, 9, 10, 11, 12, 13] [6, 7] rfl) (fun k hk dk => markPieceS_ok rfl (by omega) (by omega) (by omega) hG1b) ?_
    rintro _ _ ⟨M1, rfl, rfl, hM1, hM1l⟩
    have hM1b := bigL hM1 (mkQ_big (fun p hp => by obtain ⟨z, hz, rfl⟩ := List.mem_map.1 hp; exact hG1b z hz))
    have hN1 := mkN_nonneg (psX G1)
    refine LJ.norm [_, _, _, _, _, _, _, _, _, _, _, _, _, _] rfl ?_
    refine LJ.yd rfl (Yd.asI rfl) ?_
    refine LJ.nil ?_
    refine CJ.seq ?_
    refine CJ.region ?_
    refine LJ.yd rfl (Yd.asI rfl) ?_
    refine LJ.nil ?_
    refine CJ.seq ?_
    refine CJ.region ?_
    refine LJ.yd rfl (Yd.loadG (us := [_, _, _, _]) 6 rfl rfl rfl rfl) ?_
    refine LJ.yd rfl (Yd.mvI rfl) ?_
    refine LJ.callV rfl (fun k hk dk => heldPiece_ok (Sts.lrm hk dk 11 (by rw [mbx_len]; omega) (by rw [mbx_len]) rfl) (by omega) (by omega) (by omega)) ?_
    refine LJ.yd rfl (Yd.asI rfl) ?_
    refine LJ.nil ?_
    refine CJ.seq ?_
    refine CJ.seq ?_
    refine CJ.region ?_
    refine LJ.yd rfl (Yd.mvI rfl) ?_
    refine LJ.yd rfl (Yd.cmpF (Yd.lss rfl rfl) (by omega)) ?_
    refine LJ.nil ?_
    refine CJ.condF rfl ?_
    refine CJ.skip ?_
    refine CJ.seq ?_
    refine CJ.region ?_
    refine LJ.yd rfl (Yd.mvS rfl) ?_
    refine LJ.yd rfl (Yd.mvI rfl) ?_
    refine LJ.callV rfl (fun k hk dk => heldPieceS_ok (Sts.lrm hk dk 12 (by first | rfl | omega | (simp; done) | (simp; omega) | (simp [upN_len]; omega) | (simp [idxBy_len]; omega) | (simp [marks_len]; omega) | (simp [upN_len]; done) | (simp [idxBy_len]; done) | (simp [marks_len]; done) | (simp at *; omega)) (by first | rfl | omega | (simp; done) | (simp; omega) | (simp [upN_len]; omega) | (simp [idxBy_len]; omega) | (simp [marks_len]; omega) | (simp [upN_len]; done) | (simp [idxBy_len]; done) | (simp [marks_len]; done) | (simp at *; omega)) rfl) (Sts.fls hk dk 13 (big8 hM1b) rfl) hM1 (by omega) (by omega) (by first | omega | (simp; omega)) (fun p hp => by obtain ⟨z, hz, rfl⟩ := List.mem_map.1 hp; exact hG1b z hz)) ?_
    refine LJ.yd rfl (Yd.asI rfl) ?_
    refine LJ.nil ?_
    refine CJ.seq ?_
    refine CJ.seq ?_
    refine CJ.region ?_
    refine LJ.yd rfl (Yd.mvI rfl) ?_
    refine LJ.yd rfl (Yd.cmpF (Yd.lss rfl rfl) (by omega)) ?_
    refine LJ.nil ?_
    refine CJ.condF rfl ?_
    refine CJ.skip ?_
    refine CJ.seq ?_
    refine CJ.seq ?_
    refine CJ.region ?_
    refine LJ.yd rfl (Yd.mvI rfl) ?_
    refine LJ.yd rfl (Yd.mvI rfl) ?_
    refine LJ.yd rfl (Yd.cmpNF (Yd.neq rfl rfl) (by simp)) ?_
    refine LJ.nil ?_
    refine CJ.condF rfl ?_
    refine CJ.skip ?_
    refine CJ.seq ?_
    refine CJ.region ?_
    refine LJ.yd rfl (Yd.mvS rfl) ?_
    refine LJ.call0 rfl (fun k hk dk => toPieceS_ok hl.up (fun u hu => ⟨(hf u hu).1.up, (hf u hu).2⟩) (by omega)) ?_
    rintro _ _ ⟨Y4, ya4, yc4, rfl, rfl, hY4⟩
    have hYl4 : Y4.length = X.length := by have := congrArg List.length hY4; simpa using this
    refine LJ.norm [_, _, _, _, _, _, _, _, _, _, _, _, _, _, _, _] rfl ?_
    refine LJ.yd rfl (Yd.mvI rfl) ?_
    refine LJ.call0 rfl (fun k hk dk => (hY4 ▸ TakePieceI_ok (Sts.lr hk dk 14 (by omega) rfl) (Sts.fls hk dk 15 (bigY hf hY4) rfl) (bigY2 hf hY4))) ?_
    rintro _ _ ⟨⟨hp, hpa, hpc⟩, H1, ha, hc, rfl, rfl, hHP, hH1⟩
    dsimp only at hHP
    rw [← hP0] at hHP
    subst hHP
    have hH1l := len_of hH1
    have hH1b := bigL hH1 hRb
    refine LJ.norm [_, _, _, _, _, _, _, _, _, _, _, _, _, _, _, _, _, _, _] rfl ?_
    refine LJ.yd rfl (Yd.mvU rfl) ?_
    refine LJ.yd rfl (Yd.extract rfl rfl) ?_
    refine LJ.yd rfl (Yd.extract rfl rfl) ?_
    refine LJ.yd rfl (Yd.extract rfl rfl) ?_
    refine LJ.alloc ([_, _, _, _] : List Value) rfl rfl (fun b3 => ?_)
    refine LJ.store (v := .agg #[_, _, _, _]) (us := [_, _, _, _]) 19 rfl rfl rfl rfl rfl rfl rfl rfl ?_
    refine LJ.yd rfl (Yd.asS rfl) ?_
    refine LJ.yd rfl (Yd.asB rfl) ?_
    refine LJ.nil ?_
    refine CJ.seq ?_
    refine CJ.seq ?_
    refine CJ.region ?_
    refine LJ.yd rfl (Yd.loadG (us := [_, _, _, _]) 19 rfl rfl rfl rfl) ?_
    refine LJ.yd rfl (Yd.loadG (us := [_, _, _, _]) 5 rfl rfl rfl rfl) ?_
    refine LJ.callV rfl (fun k hk dk => eqPiece_T (Sts.lr hk dk 16 (by dsimp only; omega) rfl) (Sts.lr hk dk 2 (by dsimp only; omega) rfl)) ?_
    refine LJ.yd rfl (Yd.not rfl) ?_
    refine LJ.yd rfl (Yd.mvB rfl) ?_
    refine LJ.gT rfl ?_
    refine LJ.yd rfl (Yd.mvS rfl) ?_
    refine LJ.gT rfl ?_
    refine LJ.yd rfl (Yd.mvS rfl) ?_
    refine LJ.gT rfl ?_
    refine LJ.callV rfl (fun k hk dk => eqPieceS_T (Sts.lr hk dk 17 (by omega) rfl) (Sts.lr hk dk 3 (by omega) rfl) (Sts.fls hk dk 18 (big8 hH1b) rfl) (Sts.fls hk dk 4 (big8 hW1b) rfl) (hH1.trans hW1.symm)) ?_
    refine LJ.gT rfl ?_
    refine LJ.yd rfl (Yd.not rfl) ?_
    refine LJ.yd rfl (Yd.pickFB rfl rfl) ?_
    refine LJ.yd rfl (Yd.mvB rfl) ?_
    refine LJ.gT rfl ?_
    refine LJ.yd rfl (Yd.mvB rfl) ?_
    refine LJ.gT rfl ?_
    refine LJ.yd rfl (Yd.mvB rfl) ?_
    refine LJ.gT rfl ?_
    refine LJ.yd rfl (Yd.cmpNF (Yd.neqB rfl rfl) (by simp)) ?_
    refine LJ.yd rfl (Yd.pickFB rfl rfl) ?_
    refine LJ.nil ?_
    refine CJ.condF rfl ?_
    refine CJ.skip ?_
    refine CJ.seq ?_
    refine CJ.region ?_
    refine LJ.yd rfl (Yd.asI rfl) ?_
    refine LJ.nil ?_
    refine CJ.seq ?_
    refine CJ.region ?_
    refine LJ.yd rfl (Yd.loadG (us := [_, _, _, _]) 6 rfl rfl rfl rfl) ?_
    refine LJ.yd rfl (Yd.mvI rfl) ?_
    refine LJ.callV rfl (fun k hk dk => heldPiece_ok (Sts.lrm hk dk 11 (by rw [mbx_len]; omega) (by rw [mbx_len]) rfl) (by omega) (by omega) (by omega)) ?_
    refine LJ.yd rfl (Yd.asI rfl) ?_
    refine LJ.nil ?_
    refine CJ.seq ?_
    refine CJ.seq ?_
    refine CJ.region ?_
    refine LJ.yd rfl (Yd.mvI rfl) ?_
    refine LJ.yd rfl (Yd.cmpF (Yd.lss rfl rfl) (by omega)) ?_
    refine LJ.nil ?_
    refine CJ.condF rfl ?_
    refine CJ.skip ?_
    refine CJ.seq ?_
    refine CJ.region ?_
    refine LJ.yd rfl (Yd.mvS rfl) ?_
    refine LJ.yd rfl (Yd.mvI rfl) ?_
    refine LJ.callV rfl (fun k hk dk => heldPieceS_ok (Sts.lrm hk dk 12 (by first | rfl | omega | (simp; done) | (simp; omega) | (simp [upN_len]; omega) | (simp [idxBy_len]; omega) | (simp [marks_len]; omega) | (simp [upN_len]; done) | (simp [idxBy_len]; done) | (simp [marks_len]; done) | (simp at *; omega)) (by first | rfl | omega | (simp; done) | (simp; omega) | (simp [upN_len]; omega) | (simp [idxBy_len]; omega) | (simp [marks_len]; omega) | (simp [upN_len]; done) | (simp [idxBy_len]; done) | (simp [marks_len]; done) | (simp at *; omega)) rfl) (Sts.fls hk dk 13 (big8 hM1b) rfl) hM1 (by omega) (by omega) (by first | omega | (simp; omega)) (fun p hp => by obtain ⟨z, hz, rfl⟩ := List.mem_map.1 hp; exact hG1b z hz)) ?_
    refine LJ.yd rfl (Yd.asI rfl) ?_
    refine LJ.nil ?_
    refine CJ.seq ?_
    refine CJ.seq ?_
    refine CJ.region ?_
    refine LJ.yd rfl (Yd.mvI rfl) ?_
    refine LJ.yd rfl (Yd.cmpF (Yd.lss rfl rfl) (by omega)) ?_
    refine LJ.nil ?_
    refine CJ.condF rfl ?_
    refine CJ.skip ?_
    refine CJ.seq ?_
    refine CJ.seq ?_
    refine CJ.region ?_
    refine LJ.yd rfl (Yd.mvI rfl) ?_
    refine LJ.yd rfl (Yd.mvI rfl) ?_
    refine LJ.yd rfl (Yd.cmpNF (Yd.neq rfl rfl) (by simp)) ?_
    refine LJ.nil ?_
    refine CJ.condF rfl ?_
    refine CJ.skip ?_
    refine CJ.seq ?_
    refine CJ.region ?_
    refine LJ.yd rfl (Yd.asB rfl) ?_
    refine LJ.nil ?_
    refine CJ.ret ?_
    refine Fin.V (Res.one (ResV.tmp (v := .bool true) rfl)) ?_
    rfl
end Go.Proofs.Ytnfnidplhkfamaa
