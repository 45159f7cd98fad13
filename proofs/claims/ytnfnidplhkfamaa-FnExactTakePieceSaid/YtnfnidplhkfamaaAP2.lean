/-
  Contracts: pieces taken out of a stock; the law on pieces put in and taken out.
-/
import Derived.Test.YtnfnidplhkfamaaAP1
namespace Go.Proofs.Ytnfnidplhkfamaa
open Go
set_option maxRecDepth 20000
set_option maxHeartbeats 1000000

theorem RdL.spotQ {α : Type} {enc : α → List Value} {h : Hp} {k : Nat} {l : List α} {a : Option Addr} {m c : Nat} (r : RdL enc k h (.slice a m c) l) (h0 : 0 < l.length) : ∀ q, a = some q → q.spot = none := by
  obtain ⟨b, o, rfl, _⟩ := r.row h0
  intro q e; cases e; rfl
theorem copyStock_ok {A : Amb} {v : Value} {X : List Pc} (hl : RdL encQ 4 A.h v X) (hx : Fls A.h X) (hn : X.length ≤ 2000000) (hb : ∀ u ∈ X, u.p.fl.length ≤ 2000000) : Ctr Try.prog 64 #[v] A [] (StkO (psX X)) := by
  obtain ⟨la, lc, rfl, hlb, hl⟩ := hl.un
  refine Ctr.body (args := [_]) Try.func64 rfl Try.ntmps64 Try.results64 (by simp) ?_
  refine CJ.seq ?_
  refine CJ.region ?_
  refine LJ.yd rfl (Yd.asS rfl) ?_
  refine LJ.nil ?_
  refine CJ.seq ?_
  refine CJ.region ?_
  refine LJ.yd rfl (Yd.asS rfl) ?_
  refine LJ.nil ?_
  refine CJ.seq ?_
  refine CJ.seq ?_
  refine CJ.region ?_
  refine LJ.yd rfl (Yd.mvS rfl) ?_
  refine LJ.yd rfl (Yd.len rfl) ?_
  refine LJ.yd rfl (Yd.mvI rfl) ?_
  refine LJ.nil ?_
  refine CJ.block ?_
  refine CJ.ent (Ent.addLR encQ 31 4) ?_
  refine CJ.norm [_] rfl ?_
  refine CJ.ent (INN.ent rowQ) ?_
  refine CJ.norm [_, _] rfl ?_
  refine CJ.loopF [2, 6, 7] (Nat × List (Pc) × Option Addr × Nat × Nat) (fun ⟨k, Y, YA, YN, YC⟩ => (YN = Y.length) ∧ k ≤ X.length ∧ Y.length = k ∧ psX Y = psX (X.take k)) (fun ⟨k, Y, YA, YN, YC⟩ => [(8, vI k), (3, .slice YA YN YC)]) (fun ⟨k, Y, YA, YN, YC⟩ => [LR encQ 31 4 YA YC Y, INN rowQ Y]) (fun ⟨k, Y, YA, YN, YC⟩ => X.length - k) (0, [], _, _, _) [] [] [0, 1] rfl rfl rfl ?_ ⟨rfl, rfl, trivial⟩ ?_
  · exact ⟨(by first | rfl | omega | (simp; done) | (simp; omega) | (simp [upN_len]; omega) | (simp [idxBy_len]; omega) | (simp [marks_len]; omega) | (simp [upN_len]; done) | (simp [idxBy_len]; done) | (simp [marks_len]; done) | (simp at *; omega)), ⟨by omega, rfl, rfl⟩⟩
  · rintro ⟨k, Y, YA, YN, YC⟩ σ ⟨hlNY, ⟨hk1, hYl, hY⟩⟩
    subst hlNY
    refine CJ.norm [_, _] rfl ?_
    refine CJ.seq ?_
    refine CJ.region ?_
    refine LJ.splitD rfl (Yd.lss rfl rfl) (fun h9 => ?_) (fun h9 => ?_)
    · refine LJ.nil ?_
      refine CJ.seq ?_
      refine CJ.condT rfl ?_
      refine CJ.skip ?_
      refine CJ.seq ?_
      refine CJ.block ?_
      refine CJ.seq ?_
      refine CJ.region ?_
      refine LJ.idxA rfl hl rfl rfl (by omega) (by first | rfl | omega | (simp; done) | (simp; omega) | (simp [upN_len]; omega) | (simp [idxBy_len]; omega) | (simp [marks_len]; omega) | (simp [upN_len]; done) | (simp [idxBy_len]; done) | (simp [marks_len]; done) | (simp at *; omega)) (fun ib10 io10 ia10 ir10 => ?_)
      refine LJ.lgA (enc := encQ) (fun u => [vI u.p.l, vI u.p.w, vI u.p.h, .slice u.a u.p.fl.length u.c]) (fun _ => rfl) (fun _ => rfl) ir10 rfl rfl rfl (by first | rfl | omega | (simp; done) | (simp; omega) | (simp [upN_len]; omega) | (simp [idxBy_len]; omega) | (simp [marks_len]; omega) | (simp [upN_len]; done) | (simp [idxBy_len]; done) | (simp [marks_len]; done) | (simp at *; omega)) (fun u11 hu11 => ?_)
      try simp only [Int.toNat_natCast] at hu11
      refine LJ.alloc ([_, _, _, _] : List Value) rfl rfl (fun b3 => ?_)
      refine LJ.store (v := .agg #[_, _, _, _]) (us := [_, _, _, _]) 2 rfl rfl rfl rfl rfl rfl rfl rfl ?_
      refine LJ.nil ?_
      refine CJ.region ?_
      refine LJ.yd rfl (Yd.mvS rfl) ?_
      refine LJ.yd rfl (Yd.loadG (us := [_, _, _, _]) 2 rfl rfl rfl rfl) ?_
      refine LJ.call0 rfl (fun k hk dk => copyPieceI_ok (p := u11.p) (RdRow.up (hx u11 (List.mem_of_getElem? hu11))) (hb u11 (List.mem_of_getElem? hu11))) ?_
      rintro _ _ ⟨xa, xc, rfl, rfl⟩
      refine LJ.norm [_, _, _, _] rfl ?_
      refine LJ.op rfl (OpR.buildSlice (cs := [_, _, _, _]) rfl rfl) ?_
      rintro _ _ ⟨b4, rfl, rfl⟩
      refine LJ.op rfl (OpR.apT (enc := encQ) [(⟨u11.p, xa, xc⟩ : Pc)] 0 4 rfl rfl rfl (by first | rfl | omega | (simp; done) | (simp; omega) | (simp [upN_len]; omega) | (simp [idxBy_len]; omega) | (simp [marks_len]; omega) | (simp [upN_len]; done) | (simp [idxBy_len]; done) | (simp [marks_len]; done) | (simp at *; omega)) rfl rfl rfl rfl rfl (by first | rfl | omega | (simp; done) | (simp; omega) | (simp [upN_len]; omega) | (simp [idxBy_len]; omega) | (simp [marks_len]; omega) | (simp [upN_len]; done) | (simp [idxBy_len]; done) | (simp [marks_len]; done) | (simp at *; omega))) ?_
      rintro _ _ ⟨ra16, rc16, rfl, rfl⟩
      refine LJ.norm [_, _, _, _, _] rfl ?_
      refine LJ.ent (Ent.pickFold [0, 2, 4] [1, 3] [] rfl (fun _ s => INN.snoc (f := rowQ) (u := (⟨u11.p, xa, xc⟩ : Pc)) s)) ?_
      refine LJ.norm [_, _, _, _] rfl ?_
      refine LJ.yd rfl (Yd.asS rfl) ?_
      refine LJ.nil ?_
      refine CJ.region ?_
      refine LJ.yd rfl (Yd.add rfl rfl (by unfold I64; omega)) ?_
      refine LJ.yd rfl (Yd.mvI rfl) ?_
      refine LJ.nil ?_
      refine ⟨(k + 1, _, _, _, _), ?_, ⟨rfl, rfl, rfl, trivial⟩, ⟨rfl, rfl, trivial⟩, Ent.pick [0, 3] [1, 2] rfl, ?_⟩
      · refine ⟨(by first | rfl | omega | (simp; done) | (simp; omega) | (simp [upN_len]; omega) | (simp [idxBy_len]; omega) | (simp [marks_len]; omega) | (simp [upN_len]; done) | (simp [idxBy_len]; done) | (simp [marks_len]; done) | (simp at *; omega)), ?_⟩
        exact ⟨by omega, by simp [hYl], by rw [psX_snoc, hY, takeC hu11, psX_snoc]⟩
      · first | omega | (dsimp only; omega) | (simp only []; omega)
    · refine LJ.nil ?_
      refine CJ.seq ?_
      refine CJ.condF rfl ?_
      refine CJ.exit ?_
      refine CJ.seq ?_
      refine CJ.region ?_
      refine LJ.yd rfl (Yd.mvS rfl) ?_
      refine LJ.yd rfl (Yd.asS rfl) ?_
      refine LJ.nil ?_
      refine CJ.ret ?_
      exact Fin.R [_, _] (Res.one (ResV.tmp (v := .slice _ _ _) rfl)) ⟨_, _, _, rfl, rfl, by rw [hY, List.take_of_length_le (by omega)]⟩ (Ent.pick [0, 1] [] rfl)
theorem erase_step {X : List Pc} {k j : Nat} {u : Pc} (hu : X[k]? = some u) (hj : j ≠ k) : (psX (X.take (k + 1))).eraseIdx j = (psX (X.take k)).eraseIdx j ++ [u.p] := by
  have hk := (List.getElem?_eq_some_iff.1 hu).1
  rw [takeC hu, psX_snoc]
  rcases Nat.lt_or_ge j k with h | h
  · exact List.eraseIdx_append_of_lt_length (by simp; omega) _
  · rw [List.eraseIdx_of_length_le (by simp; omega), List.eraseIdx_of_length_le (by simp; omega)]
theorem erase_same {X : List Pc} {k : Nat} {u : Pc} (hu : X[k]? = some u) : (psX (X.take (k + 1))).eraseIdx k = (psX (X.take k)).eraseIdx k := by
  have hk := (List.getElem?_eq_some_iff.1 hu).1
  rw [takeC hu, psX_snoc, List.eraseIdx_append_of_length_le (by simp; omega), show k - (psX (X.take k)).length = 0 by simp; omega, List.eraseIdx_of_length_le (k := k) (by simp; omega)]
  simp
theorem without_ok {A : Amb} {v : Value} {X : List Pc} {j : Nat} (hl : RdL encQ 4 A.h v X) (hx : Fls A.h X) (hn : X.length ≤ 2000000) (hb : ∀ u ∈ X, u.p.fl.length ≤ 2000000) : Ctr Try.prog 75 #[v, vI j] A [] (StkO ((psX X).eraseIdx j)) := by
  obtain ⟨la, lc, rfl, hlb, hl⟩ := hl.un
  refine Ctr.body (args := [_, _]) Try.func75 rfl Try.ntmps75 Try.results75 (by simp) ?_
  refine CJ.seq ?_
  refine CJ.region ?_
  refine LJ.yd rfl (Yd.asS rfl) ?_
  refine LJ.nil ?_
  refine CJ.seq ?_
  refine CJ.region ?_
  refine LJ.op rfl (OpR.buildSlice (cs := []) rfl rfl) ?_
  rintro _ _ ⟨b1, rfl, rfl⟩
  refine LJ.yd rfl (Yd.asS rfl) ?_
  refine LJ.nil ?_
  refine CJ.seq ?_
  refine CJ.seq ?_
  refine CJ.region ?_
  refine LJ.yd rfl (Yd.asI rfl) ?_
  refine LJ.nil ?_
  refine CJ.block ?_
  refine CJ.imp1 0 rfl (fun _ h => Cel.lr (enc := encQ) (k := 4) (m := 0) [] rfl rfl rfl rfl h) ?_
  refine CJ.norm [_] rfl ?_
  refine CJ.ent (INN.ent rowQ) ?_
  refine CJ.norm [_, _] rfl ?_
  refine CJ.loopF [0, 1, 4] (Nat × List (Pc) × Option Addr × Nat × Nat) (fun ⟨k, Y, YA, YN, YC⟩ => (YN = Y.length) ∧ k ≤ X.length ∧ Y.length ≤ k ∧ psX Y = (psX (X.take k)).eraseIdx j) (fun ⟨k, Y, YA, YN, YC⟩ => [(6, vI k), (5, .slice YA YN YC)]) (fun ⟨k, Y, YA, YN, YC⟩ => [LR encQ 31 4 YA YC Y, INN rowQ Y]) (fun ⟨k, Y, YA, YN, YC⟩ => X.length - k) (0, [], _, _, _) [] [] [0, 1] rfl rfl rfl ?_ ⟨rfl, rfl, trivial⟩ ?_
  · exact ⟨(by first | rfl | omega | (simp; done) | (simp; omega) | (simp [upN_len]; omega) | (simp [idxBy_len]; omega) | (simp [marks_len]; omega) | (simp [upN_len]; done) | (simp [idxBy_len]; done) | (simp [marks_len]; done) | (simp at *; omega)), ⟨by omega, by simp, by simp⟩⟩
  · rintro ⟨k, Y, YA, YN, YC⟩ σ ⟨hlNY, ⟨hk1, hYl, hY⟩⟩
    subst hlNY
    refine CJ.norm [_, _] rfl ?_
    refine CJ.seq ?_
    refine CJ.seq ?_
    refine CJ.region ?_
    refine LJ.yd rfl (Yd.mvI rfl) ?_
    refine LJ.yd rfl (Yd.mvS rfl) ?_
    refine LJ.yd rfl (Yd.len rfl) ?_
    refine LJ.splitD rfl (Yd.lss rfl rfl) (fun h11 => ?_) (fun h11 => ?_)
    · refine LJ.nil ?_
      refine CJ.condT rfl ?_
      refine CJ.skip ?_
      refine CJ.seq ?_
      refine CJ.block ?_
      refine CJ.seq ?_
      refine CJ.region ?_
      refine LJ.yd rfl (Yd.mvI rfl) ?_
      refine LJ.yd rfl (Yd.mvI rfl) ?_
      refine LJ.splitN rfl (Yd.neq rfl rfl) (fun h16 => ?_) (fun h16 => ?_)
      · refine LJ.nil ?_
        refine CJ.condT rfl ?_
        refine CJ.region ?_
        refine LJ.yd rfl (Yd.mvS rfl) ?_
        refine LJ.yd rfl (Yd.mvS rfl) ?_
        refine LJ.yd rfl (Yd.mvI rfl) ?_
        refine LJ.idxA rfl hl rfl rfl (by omega) (by first | rfl | omega | (simp; done) | (simp; omega) | (simp [upN_len]; omega) | (simp [idxBy_len]; omega) | (simp [marks_len]; omega) | (simp [upN_len]; done) | (simp [idxBy_len]; done) | (simp [marks_len]; done) | (simp at *; omega)) (fun ib20 io20 ia20 ir20 => ?_)
        refine LJ.lgA (enc := encQ) (fun u => [vI u.p.l, vI u.p.w, vI u.p.h, .slice u.a u.p.fl.length u.c]) (fun _ => rfl) (fun _ => rfl) ir20 rfl rfl rfl (by first | rfl | omega | (simp; done) | (simp; omega) | (simp [upN_len]; omega) | (simp [idxBy_len]; omega) | (simp [marks_len]; omega) | (simp [upN_len]; done) | (simp [idxBy_len]; done) | (simp [marks_len]; done) | (simp at *; omega)) (fun u21 hu21 => ?_)
        try simp only [Int.toNat_natCast] at hu21
        refine LJ.call0 rfl (fun k hk dk => copyPieceS_ok (p := u21.p) (RdRow.up (hx u21 (List.mem_of_getElem? hu21))) (hb u21 (List.mem_of_getElem? hu21))) ?_
        rintro _ _ ⟨xa, xc, rfl, rfl⟩
        refine LJ.norm [_, _, _] rfl ?_
        refine LJ.op rfl (OpR.buildSlice (cs := [_, _, _, _]) rfl rfl) ?_
        rintro _ _ ⟨b3, rfl, rfl⟩
        refine LJ.op rfl (OpR.apT (enc := encQ) [(⟨u21.p, xa, xc⟩ : Pc)] 0 3 rfl rfl rfl (by first | rfl | omega | (simp; done) | (simp; omega) | (simp [upN_len]; omega) | (simp [idxBy_len]; omega) | (simp [marks_len]; omega) | (simp [upN_len]; done) | (simp [idxBy_len]; done) | (simp [marks_len]; done) | (simp at *; omega)) rfl rfl rfl rfl rfl (by first | rfl | omega | (simp; done) | (simp; omega) | (simp [upN_len]; omega) | (simp [idxBy_len]; omega) | (simp [marks_len]; omega) | (simp [upN_len]; done) | (simp [idxBy_len]; done) | (simp [marks_len]; done) | (simp at *; omega))) ?_
        rintro _ _ ⟨ra24, rc24, rfl, rfl⟩
        refine LJ.norm [_, _, _, _] rfl ?_
        refine LJ.ent (Ent.pickFold [0, 3] [1, 2] [] rfl (fun _ s => INN.snoc (f := rowQ) (u := (⟨u21.p, xa, xc⟩ : Pc)) s)) ?_
        refine LJ.norm [_, _, _] rfl ?_
        refine LJ.yd rfl (Yd.asS rfl) ?_
        refine LJ.nil ?_
        refine CJ.region ?_
        refine LJ.yd rfl (Yd.mvI rfl) ?_
        refine LJ.yd rfl (Yd.add rfl rfl (by unfold I64; omega)) ?_
        refine LJ.yd rfl (Yd.asI rfl) ?_
        refine LJ.nil ?_
        refine ⟨(k + 1, _, _, _, _), ?_, ⟨rfl, rfl, rfl, trivial⟩, ⟨rfl, rfl, trivial⟩, Ent.pick [0, 2] [1] rfl, ?_⟩
        · refine ⟨(by first | rfl | omega | (simp; done) | (simp; omega) | (simp [upN_len]; omega) | (simp [idxBy_len]; omega) | (simp [marks_len]; omega) | (simp [upN_len]; done) | (simp [idxBy_len]; done) | (simp [marks_len]; done) | (simp at *; omega)), ?_⟩
          first
            | exact ⟨by omega, by simp; omega, by rw [psX_snoc, hY, erase_step (by assumption : X[k]? = some u21) (by omega)]⟩
            | (obtain rfl : j = k := by omega
               obtain ⟨u, hu⟩ := someC (l := X) (j := j) (by omega)
               exact ⟨by omega, by omega, by rw [hY, erase_same hu]⟩)
        · first | omega | (dsimp only; omega) | (simp only []; omega)
      · refine LJ.nil ?_
        refine CJ.condF rfl ?_
        refine CJ.skip ?_
        refine CJ.region ?_
        refine LJ.yd rfl (Yd.mvI rfl) ?_
        refine LJ.yd rfl (Yd.add rfl rfl (by unfold I64; omega)) ?_
        refine LJ.yd rfl (Yd.asI rfl) ?_
        refine LJ.nil ?_
        refine ⟨(k + 1, _, _, _, _), ?_, ⟨rfl, rfl, rfl, trivial⟩, ⟨rfl, rfl, trivial⟩, Ent.refl _, ?_⟩
        · refine ⟨(by first | rfl | omega | (simp; done) | (simp; omega) | (simp [upN_len]; omega) | (simp [idxBy_len]; omega) | (simp [marks_len]; omega) | (simp [upN_len]; done) | (simp [idxBy_len]; done) | (simp [marks_len]; done) | (simp at *; omega)), ?_⟩
          first
            | exact ⟨by omega, by simp; omega, by rw [psX_snoc, hY, erase_step (by assumption : X[k]? = some u21) (by omega)]⟩
            | (obtain rfl : j = k := by omega
               obtain ⟨u, hu⟩ := someC (l := X) (j := j) (by omega)
               exact ⟨by omega, by omega, by rw [hY, erase_same hu]⟩)
        · first | omega | (dsimp only; omega) | (simp only []; omega)
    · refine LJ.nil ?_
      refine CJ.condF rfl ?_
      refine CJ.exit ?_
      refine CJ.seq ?_
      refine CJ.region ?_
      refine LJ.yd rfl (Yd.mvS rfl) ?_
      refine LJ.yd rfl (Yd.asS rfl) ?_
      refine LJ.nil ?_
      refine CJ.ret ?_
      exact Fin.R [_, _] (Res.one (ResV.tmp (v := .slice _ _ _) rfl)) ⟨_, _, _, rfl, rfl, by rw [hY, List.take_of_length_le (by omega)]⟩ (Ent.pick [0, 1] [] rfl)
def TakO (L : List Piece) (l : Int) (v : Value) (gs : List HProp) : Prop := ∃ (x : Pc) (Y : List Pc) (a : Option Addr) (c : Nat), v = .tuple #[.agg #[vI x.p.l, vI x.p.w, vI x.p.h, .slice x.a x.p.fl.length x.c], .slice a Y.length c, .bool (takB L l)] ∧ gs = [rowQ x, LR encQ 31 4 a c Y, INN rowQ Y] ∧ x.p = takP L l ∧ psX Y = takR L l
theorem tak_F {L : List Piece} {l : Int} (h : ¬ takB L l = true) : takB L l = false ∧ takP L l = zeroP ∧ takR L l = [] := ⟨by simpa using h, if_neg h, if_neg h⟩
theorem takB_iff {L : List Piece} {l : Int} : takB L l = true ↔ stOk L = true ∧ ¬ fnd l L 0 < 0 := by simp [takB]
theorem TakePieceS_ok {A : Amb} {v : Value} {X : List Pc} {l : Int} (hl : RdL encQ 4 A.h v X) (hx : Fls A.h X) (hb : ∀ u ∈ X, u.p.fl.length ≤ 2000000) (hW : Wfs X) : Ctr Try.prog 40 #[v, vI l] A [] (TakO (psX X) l) := by
  obtain ⟨la, lc, rfl, hlb, hl⟩ := hl.un
  refine Ctr.body (args := [_, _]) Try.func40 rfl Try.ntmps40 Try.results40 (by simp) ?_
  refine CJ.seq ?_
  refine CJ.region ?_
  refine LJ.alloc ([_, _, _, _] : List Value) rfl rfl (fun b1 => ?_)
  refine LJ.yd rfl (Yd.asS rfl) ?_
  refine LJ.yd rfl (Yd.asB rfl) ?_
  refine LJ.nil ?_
  refine CJ.seq ?_
  refine CJ.seq ?_
  refine CJ.region ?_
  refine LJ.yd rfl (Yd.mvS rfl) ?_
  refine LJ.callB rfl (fun k hk dk => validStockS_ok (RdRow.up hl) (Fls.up hx) hW) (fun h9 => ?_) (fun h9 => ?_)
  · refine LJ.yd rfl (Yd.not rfl) ?_
    refine LJ.yd rfl (Yd.mvB rfl) ?_
    refine LJ.gT rfl ?_
    refine LJ.yd rfl (Yd.mvS rfl) ?_
    refine LJ.gT rfl ?_
    refine LJ.yd rfl (Yd.mvI rfl) ?_
    refine LJ.gT rfl ?_
    refine LJ.callV rfl (fun k hk dk => findLabelS_ok (RdRow.up hl)) ?_
    refine LJ.gT rfl ?_
    refine LJ.splitD rfl (Yd.lss rfl rfl) (fun h15 => ?_) (fun h15 => ?_)
    · refine LJ.yd rfl (Yd.pickFB rfl rfl) ?_
      refine LJ.nil ?_
      refine CJ.condT rfl ?_
      refine CJ.seq ?_
      refine CJ.region ?_
      refine LJ.yd rfl (Yd.build (cs := [_, _, _, _]) rfl) ?_
      refine LJ.store (v := .agg #[_, _, _, _]) (us := [_, _, _, _]) 0 rfl rfl rfl rfl rfl rfl rfl rfl ?_
      refine LJ.yd rfl (Yd.asS rfl) ?_
      refine LJ.yd rfl (Yd.asB rfl) ?_
      refine LJ.nil ?_
      refine CJ.ret ?_
      have hB : ¬ takB (psX X) l = true := by
        intro h
        obtain ⟨q1, q2⟩ := takB_iff.1 h
        first
          | (rw [h9] at q1; cases q1; done)
          | omega
      obtain ⟨e1, e2, e3⟩ := tak_F hB
      unfold TakO
      rw [e1, e2, e3]
      exact Fin.R [_, _, _] (Res.three (ResV.cell (us := [_, _, _, _]) 0 rfl rfl rfl rfl) (ResV.tmp (v := .slice _ _ _) rfl) (ResV.tmp (v := .bool false) rfl)) ⟨⟨zeroP, none, 0⟩, [], none, 0, rfl, rfl, rfl, rfl⟩ (Ent.thn (Ent.thn (Ent.thn (Ent.pick [] [0] rfl) (Ent.addLR Box.enc 33 4)) (Ent.addLR (α := Pc) encQ 31 4)) (INN.ent _))
    · refine LJ.yd rfl (Yd.pickFB rfl rfl) ?_
      refine LJ.nil ?_
      refine CJ.condF rfl ?_
      refine CJ.skip ?_
      refine CJ.seq ?_
      have hB : takB (psX X) l = true := takB_iff.2 ⟨h9, by omega⟩
      obtain ⟨j, z, hfe, hjz, hzl⟩ := fnd_at (takB_iff.1 hB).2
      rw [Nat.zero_add] at hfe
      have hjx : j < X.length := by have := (List.getElem?_eq_some_iff.1 hjz).1; simpa using this
      have hX20 := (stOk_iff.1 h9).1
      rw [List.length_map] at hX20
      refine CJ.region ?_
      refine LJ.yd rfl (Yd.mvS rfl) ?_
      refine LJ.yd rfl (Yd.mvI rfl) ?_
      refine LJ.call0 rfl (fun k hk dk => findLabelS_ok (RdRow.up hl)) ?_
      rintro _ _ ⟨rfl, rfl⟩
      rw [hfe]
      refine LJ.yd rfl (Yd.asI rfl) ?_
      refine LJ.nil ?_
      refine CJ.seq ?_
      refine CJ.region ?_
      refine LJ.yd rfl (Yd.mvS rfl) ?_
      refine LJ.yd rfl (Yd.mvI rfl) ?_
      refine LJ.idxA rfl hl rfl rfl (by omega) (by first | rfl | omega | (simp; done) | (simp; omega) | (simp [upN_len]; omega) | (simp [idxBy_len]; omega) | (simp [marks_len]; omega) | (simp [upN_len]; done) | (simp [idxBy_len]; done) | (simp [marks_len]; done) | (simp at *; omega)) (fun ib23 io23 ia23 ir23 => ?_)
      refine LJ.lgA (enc := encQ) (fun u => [vI u.p.l, vI u.p.w, vI u.p.h, .slice u.a u.p.fl.length u.c]) (fun _ => rfl) (fun _ => rfl) ir23 rfl rfl rfl (by first | rfl | omega | (simp; done) | (simp; omega) | (simp [upN_len]; omega) | (simp [idxBy_len]; omega) | (simp [marks_len]; omega) | (simp [upN_len]; done) | (simp [idxBy_len]; done) | (simp [marks_len]; done) | (simp at *; omega)) (fun u24 hu24 => ?_)
      try simp only [Int.toNat_natCast] at hu24
      have hz24 : takP (psX X) l = u24.p := by rw [takP, if_pos hB, hfe, Int.toNat_natCast, List.getD_eq_getElem?_getD, List.getElem?_map, hu24]; rfl
      refine LJ.call0 rfl (fun k hk dk => copyPieceS_ok (p := u24.p) (RdRow.up (hx u24 (List.mem_of_getElem? hu24))) (hb u24 (List.mem_of_getElem? hu24))) ?_
      rintro _ _ ⟨xa, xc, rfl, rfl⟩
      refine LJ.norm [_, _] rfl ?_
      refine LJ.yd rfl (Yd.mvS rfl) ?_
      refine LJ.yd rfl (Yd.mvI rfl) ?_
      refine LJ.call0 rfl (fun k hk dk => without_ok (j := j) (RdRow.up hl) (Fls.up hx) (by omega) hb) ?_
      rintro _ _ ⟨Y, ya, yc, rfl, rfl, hY⟩
      refine LJ.norm [_, _, _, _] rfl ?_
      refine LJ.store (v := .agg #[_, _, _, _]) (us := [_, _, _, _]) 0 rfl rfl rfl rfl rfl rfl rfl rfl ?_
      refine LJ.yd rfl (Yd.asS rfl) ?_
      refine LJ.yd rfl (Yd.asB rfl) ?_
      refine LJ.nil ?_
      refine CJ.ret ?_
      unfold TakO
      rw [hB]
      exact Fin.R [_, _, _] (Res.three (ResV.cell (us := [_, _, _, _]) 0 rfl rfl rfl rfl) (ResV.tmp (v := .slice _ _ _) rfl) (ResV.tmp (v := .bool true) rfl)) ⟨⟨u24.p, xa, xc⟩, Y, _, _, rfl, rfl, hz24.symm, by rw [hY, takR, if_pos hB, hfe, Int.toNat_natCast]⟩ (Ent.pick [1, 2, 3] [0] rfl)
  · refine LJ.yd rfl (Yd.not rfl) ?_
    refine LJ.yd rfl (Yd.mvB rfl) ?_
    refine LJ.gF rfl rfl ?_
    refine LJ.gF rfl rfl ?_
    refine LJ.gF rfl rfl ?_
    refine LJ.gF rfl rfl ?_
    refine LJ.yd rfl (Yd.pickTB rfl rfl) ?_
    refine LJ.nil ?_
    refine CJ.condT rfl ?_
    refine CJ.seq ?_
    refine CJ.region ?_
    refine LJ.yd rfl (Yd.build (cs := [_, _, _, _]) rfl) ?_
    refine LJ.store (v := .agg #[_, _, _, _]) (us := [_, _, _, _]) 0 rfl rfl rfl rfl rfl rfl rfl rfl ?_
    refine LJ.yd rfl (Yd.asS rfl) ?_
    refine LJ.yd rfl (Yd.asB rfl) ?_
    refine LJ.nil ?_
    refine CJ.ret ?_
    have hB : ¬ takB (psX X) l = true := by
      intro h
      obtain ⟨q1, q2⟩ := takB_iff.1 h
      first
        | (rw [h9] at q1; cases q1; done)
        | omega
    obtain ⟨e1, e2, e3⟩ := tak_F hB
    unfold TakO
    rw [e1, e2, e3]
    exact Fin.R [_, _, _] (Res.three (ResV.cell (us := [_, _, _, _]) 0 rfl rfl rfl rfl) (ResV.tmp (v := .slice _ _ _) rfl) (ResV.tmp (v := .bool false) rfl)) ⟨⟨zeroP, none, 0⟩, [], none, 0, rfl, rfl, rfl, rfl⟩ (Ent.thn (Ent.thn (Ent.thn (Ent.pick [] [0] rfl) (Ent.addLR Box.enc 33 4)) (Ent.addLR (α := Pc) encQ 31 4)) (INN.ent _))
theorem erase_td {X : List Pc} {j : Nat} : psX (X.take j) ++ psX (X.drop (j + 1)) = (psX X).eraseIdx j := by
  rw [List.eraseIdx_eq_take_drop_succ, ← List.map_take, ← List.map_drop]
theorem TakePieceI_ok {A : Amb} {v : Value} {X : List Pc} {l : Int} (hl : RdL encQ 4 A.h v X) (hx : Fls A.h X) (hb : ∀ u ∈ X, u.p.fl.length ≤ 2000000) : Ctr Try.prog 24 #[v, vI l] A [] (TakO (psX X) l) := by
  obtain ⟨la, lc, rfl, hlb, hl⟩ := hl.un
  refine Ctr.body (args := [_, _]) Try.func24 rfl Try.ntmps24 Try.results24 (by simp) ?_
  refine CJ.seq ?_
  refine CJ.region ?_
  refine LJ.alloc ([_, _, _, _] : List Value) rfl rfl (fun b1 => ?_)
  refine LJ.yd rfl (Yd.asS rfl) ?_
  refine LJ.yd rfl (Yd.asB rfl) ?_
  refine LJ.nil ?_
  refine CJ.seq ?_
  refine CJ.seq ?_
  refine CJ.region ?_
  refine LJ.yd rfl (Yd.mvS rfl) ?_
  refine LJ.callB rfl (fun k hk dk => ValidStockI_ok (RdRow.up hl) (Fls.up hx)) (fun h10 => ?_) (fun h10 => ?_)
  · refine LJ.yd rfl (Yd.not rfl) ?_
    refine LJ.nil ?_
    refine CJ.condF rfl ?_
    refine CJ.skip ?_
    refine CJ.seq ?_
    refine CJ.region ?_
    refine LJ.yd rfl (Yd.mvS rfl) ?_
    refine LJ.yd rfl (Yd.mvI rfl) ?_
    refine LJ.callV rfl (fun k hk dk => findLabelI_ok (RdRow.up hl)) ?_
    refine LJ.yd rfl (Yd.asI rfl) ?_
    refine LJ.nil ?_
    refine CJ.seq ?_
    refine CJ.seq ?_
    refine CJ.region ?_
    refine LJ.yd rfl (Yd.mvI rfl) ?_
    refine LJ.splitD rfl (Yd.lss rfl rfl) (fun h17 => ?_) (fun h17 => ?_)
    · refine LJ.nil ?_
      refine CJ.condT rfl ?_
      refine CJ.seq ?_
      refine CJ.region ?_
      refine LJ.yd rfl (Yd.build (cs := [_, _, _, _]) rfl) ?_
      refine LJ.store (v := .agg #[_, _, _, _]) (us := [_, _, _, _]) 0 rfl rfl rfl rfl rfl rfl rfl rfl ?_
      refine LJ.yd rfl (Yd.asS rfl) ?_
      refine LJ.yd rfl (Yd.asB rfl) ?_
      refine LJ.nil ?_
      refine CJ.ret ?_
      have hB : ¬ takB (psX X) l = true := by
        intro h
        obtain ⟨q1, q2⟩ := takB_iff.1 h
        first
          | (rw [h10] at q1; cases q1; done)
          | omega
      obtain ⟨e1, e2, e3⟩ := tak_F hB
      unfold TakO
      rw [e1, e2, e3]
      exact Fin.R [_, _, _] (Res.three (ResV.cell (us := [_, _, _, _]) 0 rfl rfl rfl rfl) (ResV.tmp (v := .slice _ _ _) rfl) (ResV.tmp (v := .bool false) rfl)) ⟨⟨zeroP, none, 0⟩, [], none, 0, rfl, rfl, rfl, rfl⟩ (Ent.thn (Ent.thn (Ent.thn (Ent.pick [] [0] rfl) (Ent.addLR Box.enc 33 4)) (Ent.addLR (α := Pc) encQ 31 4)) (INN.ent _))
    · refine LJ.nil ?_
      refine CJ.condF rfl ?_
      refine CJ.skip ?_
      refine CJ.seq ?_
      have hB : takB (psX X) l = true := takB_iff.2 ⟨h10, by omega⟩
      obtain ⟨j, z, hfe, hjz, hzl⟩ := fnd_at (takB_iff.1 hB).2
      rw [Nat.zero_add] at hfe
      rw [hfe]
      have hjx : j < X.length := by have := (List.getElem?_eq_some_iff.1 hjz).1; simpa using this
      have hX20 := (stOk_iff.1 h10).1
      rw [List.length_map] at hX20
      obtain ⟨ab, ao, hab, _⟩ := hl.row (by omega)
      refine CJ.regionD [0] [] (by kernel_rfl) rfl ?_
      refine DJ.norm [_] [] rfl rfl ?_
      refine DJ.yd 0 rfl (by kernel_rfl) (by kernel_rfl) (by kernel_rfl) rfl rfl (Yd.mvS rfl) ?_
      refine DJ.yd 1 rfl (by kernel_rfl) (by kernel_rfl) (by kernel_rfl) rfl rfl (Yd.mvI rfl) ?_
      refine DJ.slHA 2 rfl (by kernel_rfl) (by kernel_rfl) (by kernel_rfl) rfl rfl hl rfl rfl (by omega) (by first | rfl | omega | (simp; done) | (simp; omega) | (simp [upN_len]; omega) | (simp [idxBy_len]; omega) | (simp [marks_len]; omega) | (simp [upN_len]; done) | (simp [idxBy_len]; done) | (simp [marks_len]; done) | (simp at *; omega)) (RdL.none_cap hl (by omega)) (RdL.spotQ hl (by omega)) (fun sm21 hsm21 hs21 => ?_)
      refine DJ.yd 4 rfl (by kernel_rfl) (by kernel_rfl) (by kernel_rfl) rfl rfl (Yd.mvS rfl) ?_
      refine DJ.yd 5 rfl (by kernel_rfl) (by kernel_rfl) (by kernel_rfl) rfl rfl (Yd.mvI rfl) ?_
      refine DJ.yd 6 rfl (by kernel_rfl) (by kernel_rfl) (by kernel_rfl) rfl rfl (Yd.add rfl rfl (by unfold I64; omega)) ?_
      refine DJ.slLA 7 rfl (by kernel_rfl) (by kernel_rfl) (by kernel_rfl) rfl rfl hl rfl rfl (by omega) (by first | rfl | omega | (simp; done) | (simp; omega) | (simp [upN_len]; omega) | (simp [idxBy_len]; omega) | (simp [marks_len]; omega) | (simp [upN_len]; done) | (simp [idxBy_len]; done) | (simp [marks_len]; done) | (simp at *; omega)) (.inr ⟨_, _, hab⟩) (fun sa26 sm26 sc26 hsm26 hs26 => ?_)
      refine DJ.one (i := 3) (by kernel_rfl) ?_
      refine DO.call0 rfl rfl rfl (fun k0 hk0 dk0 k hk dk => copyStock_ok (RdRow.up hs21) (fun u hu => RdRow.up (hx u (List.mem_of_mem_take hu))) (by simp; omega) (fun u hu => hb u (List.mem_of_mem_take hu))) ?_
      rintro _ _ ⟨Y1, ya1, yc1, rfl, rfl, hY1⟩
      have hYl1 : Y1.length = j := by have := congrArg List.length hY1; simp at this; omega
      refine DJ.norm [_] [_, _] rfl rfl ?_
      refine DJ.one (i := 8) (by kernel_rfl) ?_
      refine DO.call0 rfl rfl rfl (fun k0 hk0 dk0 k hk dk => copyStock_ok (RdRow.up hs26) (fun u hu => RdRow.up (hx u (List.mem_of_mem_drop hu))) (by simp; omega) (fun u hu => hb u (List.mem_of_mem_drop hu))) ?_
      rintro _ _ ⟨Y2, ya2, yc2, rfl, rfl, hY2⟩
      have hYl2 : Y2.length ≤ 20 := by have := congrArg List.length hY2; simp at this; omega
      refine DJ.norm [_] [_, _, _, _] rfl rfl ?_
      refine DJ.one (i := 9) (by kernel_rfl) ?_
      refine DO.op rfl rfl rfl (fun k0 hk0 dk0 => OpR.apR (enc := encQ) 0 2 rfl rfl rfl (by first | rfl | omega | (simp; done) | (simp; omega) | (simp [upN_len]; omega) | (simp [idxBy_len]; omega) | (simp [marks_len]; omega) | (simp [upN_len]; done) | (simp [idxBy_len]; done) | (simp [marks_len]; done) | (simp at *; omega)) rfl (by first | rfl | omega | (simp; done) | (simp; omega) | (simp [upN_len]; omega) | (simp [idxBy_len]; omega) | (simp [marks_len]; omega) | (simp [upN_len]; done) | (simp [idxBy_len]; done) | (simp [marks_len]; done) | (simp at *; omega)) (fun _ => rfl) (by first | rfl | omega | (simp; done) | (simp; omega) | (simp [upN_len]; omega) | (simp [idxBy_len]; omega) | (simp [marks_len]; omega) | (simp [upN_len]; done) | (simp [idxBy_len]; done) | (simp [marks_len]; done) | (simp at *; omega))) ?_
      rintro _ _ ⟨ra28, rc28, rfl, rfl⟩
      refine DJ.norm [_] [_, _, _, _] rfl rfl ?_
      refine DJ.ent (fun _ => Ent.pickFold [0, 2] [1, 3] [] rfl (fun _ s => INN.join (f := rowQ) s)) ?_
      refine DJ.norm [_] [_, _, _] rfl rfl ?_
      refine DJ.yd 10 rfl (by kernel_rfl) (by kernel_rfl) (by kernel_rfl) rfl rfl (Yd.asS rfl) ?_
      refine DJ.done (by kernel_rfl) ?_
      refine CJ.seq ?_
      refine CJ.region ?_
      refine LJ.yd rfl (Yd.mvS rfl) ?_
      refine LJ.yd rfl (Yd.mvI rfl) ?_
      refine LJ.idxA rfl hl rfl rfl (by omega) (by first | rfl | omega | (simp; done) | (simp; omega) | (simp [upN_len]; omega) | (simp [idxBy_len]; omega) | (simp [marks_len]; omega) | (simp [upN_len]; done) | (simp [idxBy_len]; done) | (simp [marks_len]; done) | (simp at *; omega)) (fun ib31 io31 ia31 ir31 => ?_)
      refine LJ.lgA (enc := encQ) (fun u => [vI u.p.l, vI u.p.w, vI u.p.h, .slice u.a u.p.fl.length u.c]) (fun _ => rfl) (fun _ => rfl) ir31 rfl rfl rfl (by first | rfl | omega | (simp; done) | (simp; omega) | (simp [upN_len]; omega) | (simp [idxBy_len]; omega) | (simp [marks_len]; omega) | (simp [upN_len]; done) | (simp [idxBy_len]; done) | (simp [marks_len]; done) | (simp at *; omega)) (fun u32 hu32 => ?_)
      try simp only [Int.toNat_natCast] at hu32
      have hz32 : takP (psX X) l = u32.p := by rw [takP, if_pos hB, hfe, Int.toNat_natCast, List.getD_eq_getElem?_getD, List.getElem?_map, hu32]; rfl
      refine LJ.call0 rfl (fun k hk dk => copyPieceI_ok (p := u32.p) (RdRow.up (hx u32 (List.mem_of_getElem? hu32))) (hb u32 (List.mem_of_getElem? hu32))) ?_
      rintro _ _ ⟨xa, xc, rfl, rfl⟩
      refine LJ.norm [_, _, _, _, _] rfl ?_
      refine LJ.yd rfl (Yd.mvS rfl) ?_
      refine LJ.store (v := .agg #[_, _, _, _]) (us := [_, _, _, _]) 0 rfl rfl rfl rfl rfl rfl rfl rfl ?_
      refine LJ.yd rfl (Yd.asS rfl) ?_
      refine LJ.yd rfl (Yd.asB rfl) ?_
      refine LJ.nil ?_
      refine CJ.ret ?_
      unfold TakO
      rw [hB]
      exact Fin.R [_, _, _] (Res.three (ResV.cell (us := [_, _, _, _]) 0 rfl rfl rfl rfl) (ResV.tmp (v := .slice _ _ _) rfl) (ResV.tmp (v := .bool true) rfl)) ⟨⟨u32.p, xa, xc⟩, Y1 ++ Y2, _, _, rfl, rfl, hz32.symm, by rw [takR, if_pos hB, hfe, Int.toNat_natCast, psX, List.map_append, show List.map Pc.p Y1 = _ from hY1, show List.map Pc.p Y2 = _ from hY2, show ((j : Int) + 1).toNat = j + 1 by omega, show sm21 = j by omega, erase_td]⟩ (Ent.pick [4, 1, 3] [0, 2] rfl)
  · refine LJ.yd rfl (Yd.not rfl) ?_
    refine LJ.nil ?_
    refine CJ.condT rfl ?_
    refine CJ.seq ?_
    refine CJ.region ?_
    refine LJ.yd rfl (Yd.build (cs := [_, _, _, _]) rfl) ?_
    refine LJ.store (v := .agg #[_, _, _, _]) (us := [_, _, _, _]) 0 rfl rfl rfl rfl rfl rfl rfl rfl ?_
    refine LJ.yd rfl (Yd.asS rfl) ?_
    refine LJ.yd rfl (Yd.asB rfl) ?_
    refine LJ.nil ?_
    refine CJ.ret ?_
    have hB : ¬ takB (psX X) l = true := by
      intro h
      obtain ⟨q1, q2⟩ := takB_iff.1 h
      first
        | (rw [h10] at q1; cases q1; done)
        | omega
    obtain ⟨e1, e2, e3⟩ := tak_F hB
    unfold TakO
    rw [e1, e2, e3]
    exact Fin.R [_, _, _] (Res.three (ResV.cell (us := [_, _, _, _]) 0 rfl rfl rfl rfl) (ResV.tmp (v := .slice _ _ _) rfl) (ResV.tmp (v := .bool false) rfl)) ⟨⟨zeroP, none, 0⟩, [], none, 0, rfl, rfl, rfl, rfl⟩ (Ent.thn (Ent.thn (Ent.thn (Ent.pick [] [0] rfl) (Ent.addLR Box.enc 33 4)) (Ent.addLR (α := Pc) encQ 31 4)) (INN.ent _))
theorem sum_step {X : List Pc} {k : Nat} {u : Pc} (h : X[k]? = some u) : sumA (psX (X.take (k + 1))) = sumA (psX (X.take k)) + u.p.w * u.p.h := by
  rw [takeC h, psX_snoc, sumA_append]; simp [sumA]
theorem sum_le {X : List Pc} {k : Nat} {b : Int} (h : stGo b (psX X) = true) : 0 ≤ sumA (psX (X.take k)) ∧ sumA (psX (X.take k)) ≤ 40000 * X.length := by
  have h1 := sumA_b h
  have h2 : sumA (psX X) = sumA (psX (X.take k)) + sumA (psX (X.drop k)) := by rw [← sumA_append, psX, psX, ← List.map_append, List.take_append_drop]
  have ha := stGo_all h
  have pos : ∀ L : List Pc, (∀ u ∈ L, pcOk u.p = true) → 0 ≤ sumA (psX L) := by
    intro L
    induction L with
    | nil => intro _; simp [sumA]
    | cons x r ih =>
      intro hL
      have h3 := ih fun u hu => hL u (by simp [hu])
      have h4 := area_b (hL x (by simp))
      simp only [psX, List.map_cons, sumA] at h3 ⊢; omega
  have h5 := pos (X.take k) fun u hu => (ha u.p (List.mem_map_of_mem (List.mem_of_mem_take hu))).1
  have h6 := pos (X.drop k) fun u hu => (ha u.p (List.mem_map_of_mem (List.mem_of_mem_drop hu))).1
  rw [List.length_map] at h1
  omega
theorem StockArea_ok {A : Amb} {v : Value} {X : List Pc} (hl : RdL encQ 4 A.h v X) (hx : Fls A.h X) : Ctr Try.prog 26 #[v] A [] (Val (vI (if stOk (psX X) = true then sumA (psX X) else -1))) := by
  obtain ⟨la, lc, rfl, hlb, hl⟩ := hl.un
  refine Ctr.body (args := [_]) Try.func26 rfl Try.ntmps26 Try.results26 (by simp) ?_
  refine CJ.seq ?_
  refine CJ.region ?_
  refine LJ.yd rfl (Yd.asI rfl) ?_
  refine LJ.nil ?_
  refine CJ.seq ?_
  refine CJ.seq ?_
  refine CJ.region ?_
  refine LJ.yd rfl (Yd.mvS rfl) ?_
  refine LJ.callB rfl (fun k hk dk => ValidStockI_ok (RdRow.up hl) (Fls.up hx)) (fun h7 => ?_) (fun h7 => ?_)
  · refine LJ.yd rfl (Yd.not rfl) ?_
    refine LJ.nil ?_
    refine CJ.condF rfl ?_
    refine CJ.skip ?_
    refine CJ.seq ?_
    have hS := stOk_iff.1 h7
    rw [List.length_map] at hS
    have hall := stGo_all hS.2
    refine CJ.region ?_
    refine LJ.yd rfl (Yd.asI rfl) ?_
    refine LJ.nil ?_
    refine CJ.seq ?_
    refine CJ.seq ?_
    refine CJ.region ?_
    refine LJ.yd rfl (Yd.mvS rfl) ?_
    refine LJ.yd rfl (Yd.len rfl) ?_
    refine LJ.yd rfl (Yd.mvI rfl) ?_
    refine LJ.nil ?_
    refine CJ.block ?_
    refine CJ.loopK [2, 9, 10] (Nat × Int) (fun ⟨k, ar⟩ => k ≤ X.length ∧ ar = sumA (psX (X.take k))) (fun ⟨k, ar⟩ => [(11, vI k), (3, vI ar)]) (fun ⟨k, ar⟩ => X.length - k) (0, 0) ?_ ⟨rfl, rfl, trivial⟩ ?_
    · exact ⟨by omega, by simp [sumA]⟩
    · rintro ⟨k, ar⟩ σ ⟨hk1, har⟩
      refine CJ.seq ?_
      refine CJ.region ?_
      refine LJ.splitD rfl (Yd.lss rfl rfl) (fun h12 => ?_) (fun h12 => ?_)
      · refine LJ.nil ?_
        refine CJ.seq ?_
        refine CJ.condT rfl ?_
        refine CJ.skip ?_
        refine CJ.seq ?_
        refine CJ.block ?_
        refine CJ.seq ?_
        refine CJ.region ?_
        refine LJ.idxA rfl hl rfl rfl (by omega) (by first | rfl | omega | (simp; done) | (simp; omega) | (simp [upN_len]; omega) | (simp [idxBy_len]; omega) | (simp [marks_len]; omega) | (simp [upN_len]; done) | (simp [idxBy_len]; done) | (simp [marks_len]; done) | (simp at *; omega)) (fun ib13 io13 ia13 ir13 => ?_)
        refine LJ.lgA (enc := encQ) (fun u => [vI u.p.l, vI u.p.w, vI u.p.h, .slice u.a u.p.fl.length u.c]) (fun _ => rfl) (fun _ => rfl) ir13 rfl rfl rfl (by first | rfl | omega | (simp; done) | (simp; omega) | (simp [upN_len]; omega) | (simp [idxBy_len]; omega) | (simp [marks_len]; omega) | (simp [upN_len]; done) | (simp [idxBy_len]; done) | (simp [marks_len]; done) | (simp at *; omega)) (fun u14 hu14 => ?_)
        try simp only [Int.toNat_natCast] at hu14
        have ha14 := area_b (hall _ (List.mem_map_of_mem (List.mem_of_getElem? hu14))).1
        have hs14 := sum_le (k := k) hS.2
        refine LJ.alloc ([_, _, _, _] : List Value) rfl rfl (fun b1 => ?_)
        refine LJ.store (v := .agg #[_, _, _, _]) (us := [_, _, _, _]) 0 rfl rfl rfl rfl rfl rfl rfl rfl ?_
        refine LJ.nil ?_
        refine CJ.region ?_
        refine LJ.yd rfl (Yd.mvI rfl) ?_
        refine LJ.yd rfl (Yd.fieldAddr rfl) ?_
        refine LJ.yd rfl (Yd.loadC 0 rfl rfl rfl) ?_
        refine LJ.yd rfl (Yd.fieldAddr rfl) ?_
        refine LJ.yd rfl (Yd.loadC 0 rfl rfl rfl) ?_
        refine LJ.yd rfl (Yd.mul rfl rfl (by unfold I64; omega)) ?_
        refine LJ.yd rfl (Yd.add rfl rfl (by unfold I64; omega)) ?_
        refine LJ.yd rfl (Yd.asI rfl) ?_
        refine LJ.nil ?_
        refine CJ.region ?_
        refine LJ.yd rfl (Yd.add rfl rfl (by unfold I64; omega)) ?_
        refine LJ.yd rfl (Yd.mvI rfl) ?_
        refine LJ.nil ?_
        refine ⟨(k + 1, _), ?_, ⟨rfl, rfl, rfl, trivial⟩, ⟨rfl, rfl, trivial⟩, Ent.pick [] [0] rfl, ?_⟩
        · refine ⟨by omega, ?_⟩
          rw [sum_step hu14, har]
        · first | omega | (dsimp only; omega) | (simp only []; omega)
      · refine LJ.nil ?_
        refine CJ.seq ?_
        refine CJ.condF rfl ?_
        refine CJ.exit ?_
        refine CJ.seq ?_
        refine CJ.region ?_
        refine LJ.yd rfl (Yd.mvI rfl) ?_
        refine LJ.yd rfl (Yd.asI rfl) ?_
        refine LJ.nil ?_
        refine CJ.ret ?_
        refine Fin.V (Res.one (ResV.tmp (v := .int _ _) rfl)) ?_
        first
          | (rw [if_neg (by rw [h7]; simp)]; done)
          | (rw [if_pos h7, har, List.take_of_length_le (by omega)])
  · refine LJ.yd rfl (Yd.not rfl) ?_
    refine LJ.nil ?_
    refine CJ.condT rfl ?_
    refine CJ.seq ?_
    refine CJ.region ?_
    refine LJ.yd rfl (Yd.asI rfl) ?_
    refine LJ.nil ?_
    refine CJ.ret ?_
    refine Fin.V (Res.one (ResV.tmp (v := .int _ _) rfl)) ?_
    first
      | (rw [if_neg (by rw [h7]; simp)]; done)
      | (rw [if_pos h7, har, List.take_of_length_le (by omega)])
end Go.Proofs.Ytnfnidplhkfamaa
