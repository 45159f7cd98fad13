/-
  Contracts: pieces put into a stock and taken out.
-/
import Derived.Test.YtnfnidplhkfamaaAP0
import Derived.Test.YtnfnidplhkfamaaEC2
namespace Go.Proofs.Ytnfnidplhkfamaa
open Go
set_option maxRecDepth 20000
set_option maxHeartbeats 1000000

theorem copyPieceS_ok {A : Amb} {p : Piece} {v : Value} (hf : RdL Box.enc 4 A.h v p.fl) (hn : p.fl.length ≤ 2000000) : Ctr Try.prog 74 #[.agg #[vI p.l, vI p.w, vI p.h, v]] A [] (PcO p) := by
  obtain ⟨la, lc, rfl, hlb, hl⟩ := hf.un
  refine Ctr.body (args := [_]) Try.func74 rfl Try.ntmps74 Try.results74 (by simp) ?_
  refine CJ.seq ?_
  refine CJ.region ?_
  refine LJ.boxG (vs := [_, _, _, _]) rfl rfl (fun b1 => ?_)
  refine LJ.alloc ([_, _, _, _] : List Value) rfl rfl (fun b2 => ?_)
  refine LJ.nil ?_
  refine CJ.seq ?_
  refine CJ.regionD [0] [1] (by kernel_rfl) rfl ?_
  refine DJ.norm [_] [_] rfl rfl ?_
  refine DJ.yd 0 rfl (by kernel_rfl) (by kernel_rfl) (by kernel_rfl) rfl rfl (Yd.fieldAddr rfl) ?_
  refine DJ.yd 1 rfl (by kernel_rfl) (by kernel_rfl) (by kernel_rfl) rfl rfl (Yd.loadC 0 rfl rfl rfl) ?_
  refine DJ.yd 2 rfl (by kernel_rfl) (by kernel_rfl) (by kernel_rfl) rfl rfl (Yd.fieldAddr rfl) ?_
  refine DJ.yd 3 rfl (by kernel_rfl) (by kernel_rfl) (by kernel_rfl) rfl rfl (Yd.loadC 0 rfl rfl rfl) ?_
  refine DJ.yd 4 rfl (by kernel_rfl) (by kernel_rfl) (by kernel_rfl) rfl rfl (Yd.fieldAddr rfl) ?_
  refine DJ.yd 5 rfl (by kernel_rfl) (by kernel_rfl) (by kernel_rfl) rfl rfl (Yd.loadC 0 rfl rfl rfl) ?_
  refine DJ.yd 7 rfl (by kernel_rfl) (by kernel_rfl) (by kernel_rfl) rfl rfl (Yd.fieldAddr rfl) ?_
  refine DJ.yd 8 rfl (by kernel_rfl) (by kernel_rfl) (by kernel_rfl) rfl rfl (Yd.loadC 0 rfl rfl rfl) ?_
  refine DJ.one (i := 6) (by kernel_rfl) ?_
  refine DO.op rfl rfl rfl (fun k0 hk0 dk0 => OpR.buildSlice (cs := []) rfl rfl) ?_
  rintro _ _ ⟨b3, rfl, rfl⟩
  refine DJ.one (i := 9) (by kernel_rfl) ?_
  refine DO.imp1 1 rfl (fun _ h => Cel.lr (enc := Box.enc) (k := 4) (m := 0) [] rfl rfl rfl rfl h) ?_
  refine DO.norm [_, _] rfl ?_
  refine DO.op rfl rfl rfl (fun k0 hk0 dk0 => OpR.apA (enc := Box.enc) 1 rfl (RdRow.up hl) rfl (by first | rfl | omega | (simp; done) | (simp; omega) | (simp [upN_len]; omega) | (simp [idxBy_len]; omega) | (simp [marks_len]; omega) | (simp [upN_len]; done) | (simp [idxBy_len]; done) | (simp [marks_len]; done) | (simp at *; omega)) rfl (fun _ => rfl) (by first | rfl | omega | (simp; done) | (simp; omega) | (simp [upN_len]; omega) | (simp [idxBy_len]; omega) | (simp [marks_len]; omega) | (simp [upN_len]; done) | (simp [idxBy_len]; done) | (simp [marks_len]; done) | (simp at *; omega))) ?_
  rintro _ _ ⟨ra12, rc12, rfl, rfl⟩
  refine DJ.norm [_] [_, _] rfl rfl ?_
  refine DJ.yd 10 rfl (by kernel_rfl) (by kernel_rfl) (by kernel_rfl) rfl rfl (Yd.build (cs := [_, _, _, _]) rfl) ?_
  refine DJ.one (i := 11) (by kernel_rfl) ?_
  refine DO.store (v := .agg #[_, _, _, _]) (us := [_, _, _, _]) 0 rfl rfl rfl rfl rfl rfl rfl rfl rfl rfl ?_
  refine DJ.done (by kernel_rfl) ?_
  refine CJ.ret ?_
  exact Fin.R [_] (Res.one (ResV.cell (us := [_, _, _, _]) 1 rfl rfl rfl rfl)) ⟨_, _, rfl, rfl⟩ (Ent.pick [2] [0, 1] rfl)
theorem copyPieceI_ok {A : Amb} {p : Piece} {v : Value} (hf : RdL Box.enc 4 A.h v p.fl) (hn : p.fl.length ≤ 2000000) : Ctr Try.prog 62 #[.agg #[vI p.l, vI p.w, vI p.h, v]] A [] (PcO p) := by
  obtain ⟨la, lc, rfl, hlb, hl⟩ := hf.un
  refine Ctr.body (args := [_]) Try.func62 rfl Try.ntmps62 Try.results62 (by simp) ?_
  refine CJ.seq ?_
  refine CJ.region ?_
  refine LJ.boxG (vs := [_, _, _, _]) rfl rfl (fun b1 => ?_)
  refine LJ.alloc ([_, _, _, _] : List Value) rfl rfl (fun b2 => ?_)
  refine LJ.nil ?_
  refine CJ.seq ?_
  refine CJ.region ?_
  refine LJ.yd rfl (Yd.fieldAddr rfl) ?_
  refine LJ.yd rfl (Yd.loadC 0 rfl rfl rfl) ?_
  refine LJ.ent (Ent.addLR Box.enc 33 4) ?_
  refine LJ.norm [_, _, _] rfl ?_
  refine LJ.op rfl (OpR.apA (enc := Box.enc) 2 rfl hl rfl (by first | rfl | omega | (simp; done) | (simp; omega) | (simp [upN_len]; omega) | (simp [idxBy_len]; omega) | (simp [marks_len]; omega) | (simp [upN_len]; done) | (simp [idxBy_len]; done) | (simp [marks_len]; done) | (simp at *; omega)) rfl (fun _ => rfl) (by first | rfl | omega | (simp; done) | (simp; omega) | (simp [upN_len]; omega) | (simp [idxBy_len]; omega) | (simp [marks_len]; omega) | (simp [upN_len]; done) | (simp [idxBy_len]; done) | (simp [marks_len]; done) | (simp at *; omega))) ?_
  rintro _ _ ⟨ra5, rc5, rfl, rfl⟩
  refine LJ.norm [_, _, _] rfl ?_
  refine LJ.yd rfl (Yd.fieldAddr rfl) ?_
  refine LJ.store (v := .slice _ _ _) (us := [_, _, _, _]) 0 rfl rfl rfl rfl rfl rfl rfl rfl ?_
  refine LJ.nil ?_
  refine CJ.seq ?_
  refine CJ.region ?_
  refine LJ.yd rfl (Yd.loadG (us := [_, _, _, _]) 0 rfl rfl rfl rfl) ?_
  refine LJ.store (v := .agg #[_, _, _, _]) (us := [_, _, _, _]) 1 rfl rfl rfl rfl rfl rfl rfl rfl ?_
  refine LJ.nil ?_
  refine CJ.ret ?_
  exact Fin.R [_] (Res.one (ResV.cell (us := [_, _, _, _]) 1 rfl rfl rfl rfl)) ⟨_, _, rfl, rfl⟩ (Ent.pick [2] [0, 1] rfl)
/-- the state of the insertion: what is still to come -/
def rstL (p : Piece) (d : Bool) (L : List Piece) : List Piece := if d = true then L else addL p L
theorem psX_snoc {Y : List Pc} {u : Pc} : psX (Y ++ [u]) = psX Y ++ [u.p] := by simp [psX]
theorem addPiece_ok {A : Amb} {v w : Value} {X : List Pc} {p : Piece} (hl : RdL encQ 4 A.h v X) (hx : Fls A.h X) (hp : RdL Box.enc 4 A.h w p.fl) (hn : X.length ≤ 20) (hb : ∀ u ∈ X, u.p.fl.length ≤ 2000000) (hpn : p.fl.length ≤ 2000000) : Ctr Try.prog 63 #[v, .agg #[vI p.l, vI p.w, vI p.h, w]] A [] (StkO (addL p (psX X))) := by
  obtain ⟨la, lc, rfl, hlb, hl⟩ := hl.un
  refine Ctr.body (args := [_, _]) Try.func63 rfl Try.ntmps63 Try.results63 (by simp) ?_
  refine CJ.seq ?_
  refine CJ.region ?_
  refine LJ.boxG (vs := [_, _, _, _]) rfl rfl (fun b1 => ?_)
  refine LJ.yd rfl (Yd.asS rfl) ?_
  refine LJ.nil ?_
  refine CJ.seq ?_
  refine CJ.region ?_
  refine LJ.op rfl (OpR.buildSlice (cs := []) rfl rfl) ?_
  rintro _ _ ⟨b2, rfl, rfl⟩
  refine LJ.yd rfl (Yd.asS rfl) ?_
  refine LJ.nil ?_
  refine CJ.seq ?_
  refine CJ.region ?_
  refine LJ.yd rfl (Yd.asB rfl) ?_
  refine LJ.nil ?_
  refine CJ.seq ?_
  refine CJ.seq ?_
  refine CJ.region ?_
  refine LJ.yd rfl (Yd.asI rfl) ?_
  refine LJ.nil ?_
  refine CJ.block ?_
  refine CJ.imp1 1 rfl (fun _ h => Cel.lr (enc := encQ) (k := 4) (m := 0) [] rfl rfl rfl rfl h) ?_
  refine CJ.norm [_, _] rfl ?_
  refine CJ.ent (INN.ent rowQ) ?_
  refine CJ.norm [_, _, _] rfl ?_
  refine CJ.loopF [0, 3, 4] (Nat × Bool × List (Pc) × Option Addr × Nat × Nat) (fun ⟨k, d, Y, YA, YN, YC⟩ => (YN = Y.length) ∧ k ≤ X.length ∧ psX Y ++ rstL p d ((psX X).drop k) = addL p (psX X) ∧ (d = false → Y.length ≤ k) ∧ Y.length ≤ k + 1) (fun ⟨k, d, Y, YA, YN, YC⟩ => [(7, vI k), (6, .bool d), (5, .slice YA YN YC)]) (fun ⟨k, d, Y, YA, YN, YC⟩ => [LR encQ 31 4 YA YC Y, INN rowQ Y]) (fun ⟨k, d, Y, YA, YN, YC⟩ => X.length - k) (0, false, [], _, _, _) [_] [0] [1, 2] rfl rfl rfl ?_ ⟨rfl, rfl, rfl, trivial⟩ ?_
  · exact ⟨(by first | rfl | omega | (simp; done) | (simp; omega) | (simp [upN_len]; omega) | (simp [idxBy_len]; omega) | (simp [marks_len]; omega) | (simp [upN_len]; done) | (simp [idxBy_len]; done) | (simp [marks_len]; done) | (simp at *; omega)), ⟨by omega, rfl, by simp, by simp⟩⟩
  · rintro ⟨k, d, Y, YA, YN, YC⟩ σ ⟨hlNY, ⟨hk1, hY, hYl1, hYl⟩⟩
    subst hlNY
    refine CJ.norm [_, _, _] rfl ?_
    refine CJ.seq ?_
    refine CJ.seq ?_
    refine CJ.region ?_
    refine LJ.yd rfl (Yd.mvI rfl) ?_
    refine LJ.yd rfl (Yd.mvS rfl) ?_
    refine LJ.yd rfl (Yd.len rfl) ?_
    refine LJ.splitD rfl (Yd.lss rfl rfl) (fun h12 => ?_) (fun h12 => ?_)
    · refine LJ.nil ?_
      refine CJ.condT rfl ?_
      refine CJ.skip ?_
      refine CJ.seq ?_
      refine CJ.block ?_
      refine CJ.seq ?_
      refine CJ.seq ?_
      refine CJ.regionD [0, 1, 2] [] (by kernel_rfl) rfl ?_
      refine DJ.norm [_, _, _] [] rfl rfl ?_
      refine DJ.split 0 rfl (by kernel_rfl) (by kernel_rfl) (by kernel_rfl) rfl rfl (Yd.mvB rfl) (fun h15 => ?_) (fun h15 => ?_)
      · refine DJ.yd 1 rfl (by kernel_rfl) (by kernel_rfl) (by kernel_rfl) rfl rfl (Yd.not rfl) ?_
        refine DJ.yd 2 rfl (by kernel_rfl) (by kernel_rfl) (by kernel_rfl) rfl rfl (Yd.mvB rfl) ?_
        refine DJ.skip 3 rfl (by kernel_rfl) (by kernel_rfl) (by kernel_rfl) rfl rfl ?_
        refine DJ.skip 4 rfl (by kernel_rfl) (by kernel_rfl) (by kernel_rfl) rfl rfl ?_
        refine DJ.skip 5 rfl (by kernel_rfl) (by kernel_rfl) (by kernel_rfl) rfl rfl ?_
        refine DJ.skip 6 rfl (by kernel_rfl) (by kernel_rfl) (by kernel_rfl) rfl rfl ?_
        refine DJ.skip 7 rfl (by kernel_rfl) (by kernel_rfl) (by kernel_rfl) rfl rfl ?_
        refine DJ.skip 8 rfl (by kernel_rfl) (by kernel_rfl) (by kernel_rfl) rfl rfl ?_
        refine DJ.skip 9 rfl (by kernel_rfl) (by kernel_rfl) (by kernel_rfl) rfl rfl ?_
        refine DJ.skip 10 rfl (by kernel_rfl) (by kernel_rfl) (by kernel_rfl) rfl rfl ?_
        refine DJ.yd 11 rfl (by kernel_rfl) (by kernel_rfl) (by kernel_rfl) rfl rfl (Yd.pickFB rfl rfl) ?_
        refine DJ.done (by kernel_rfl) ?_
        refine CJ.condF rfl ?_
        refine CJ.skip ?_
        refine CJ.region ?_
        refine LJ.yd rfl (Yd.mvS rfl) ?_
        refine LJ.yd rfl (Yd.mvS rfl) ?_
        refine LJ.yd rfl (Yd.mvI rfl) ?_
        refine LJ.idxA rfl hl rfl rfl (by omega) (by first | rfl | omega | (simp; done) | (simp; omega) | (simp [upN_len]; omega) | (simp [idxBy_len]; omega) | (simp [marks_len]; omega) | (simp [upN_len]; done) | (simp [idxBy_len]; done) | (simp [marks_len]; done) | (simp at *; omega)) (fun ib35 io35 ia35 ir35 => ?_)
        refine LJ.lgA (enc := encQ) (fun u => [vI u.p.l, vI u.p.w, vI u.p.h, .slice u.a u.p.fl.length u.c]) (fun _ => rfl) (fun _ => rfl) ir35 rfl rfl rfl (by first | rfl | omega | (simp; done) | (simp; omega) | (simp [upN_len]; omega) | (simp [idxBy_len]; omega) | (simp [marks_len]; omega) | (simp [upN_len]; done) | (simp [idxBy_len]; done) | (simp [marks_len]; done) | (simp at *; omega)) (fun u36 hu36 => ?_)
        try simp only [Int.toNat_natCast] at hu36
        refine LJ.call0 rfl (fun k hk dk => copyPieceS_ok (p := u36.p) (RdRow.up (hx u36 (List.mem_of_getElem? hu36))) (hb u36 (List.mem_of_getElem? hu36))) ?_
        rintro _ _ ⟨xa37, xc37, rfl, rfl⟩
        refine LJ.norm [_, _, _, _] rfl ?_
        refine LJ.op rfl (OpR.buildSlice (cs := [_, _, _, _]) rfl rfl) ?_
        rintro _ _ ⟨b4, rfl, rfl⟩
        refine LJ.op rfl (OpR.apT (enc := encQ) [(⟨u36.p, xa37, xc37⟩ : Pc)] 1 4 rfl rfl rfl (by first | rfl | omega | (simp; done) | (simp; omega) | (simp [upN_len]; omega) | (simp [idxBy_len]; omega) | (simp [marks_len]; omega) | (simp [upN_len]; done) | (simp [idxBy_len]; done) | (simp [marks_len]; done) | (simp at *; omega)) rfl rfl rfl rfl rfl (by first | rfl | omega | (simp; done) | (simp; omega) | (simp [upN_len]; omega) | (simp [idxBy_len]; omega) | (simp [marks_len]; omega) | (simp [upN_len]; done) | (simp [idxBy_len]; done) | (simp [marks_len]; done) | (simp at *; omega))) ?_
        rintro _ _ ⟨ra39, rc39, rfl, rfl⟩
        refine LJ.norm [_, _, _, _, _] rfl ?_
        refine LJ.ent (Ent.pickFold [0, 1, 4] [2, 3] [] rfl (fun _ s => INN.snoc (f := rowQ) (u := (⟨u36.p, xa37, xc37⟩ : Pc)) s)) ?_
        refine LJ.norm [_, _, _, _] rfl ?_
        refine LJ.yd rfl (Yd.asS rfl) ?_
        refine LJ.nil ?_
        refine CJ.region ?_
        refine LJ.yd rfl (Yd.mvI rfl) ?_
        refine LJ.yd rfl (Yd.add rfl rfl (by unfold I64; omega)) ?_
        refine LJ.yd rfl (Yd.asI rfl) ?_
        refine LJ.nil ?_
        refine ⟨(k + 1, _, _, _, _, _), ?_, ⟨rfl, rfl, rfl, trivial⟩, ⟨rfl, rfl, rfl, trivial⟩, Ent.pick [0, 1, 3] [2] rfl, ?_⟩
        · refine ⟨(by first | rfl | omega | (simp; done) | (simp; omega) | (simp [upN_len]; omega) | (simp [idxBy_len]; omega) | (simp [marks_len]; omega) | (simp [upN_len]; done) | (simp [idxBy_len]; done) | (simp [marks_len]; done) | (simp at *; omega)), ?_⟩
          rw [dropP (by assumption : X[k]? = some u36)] at hY
          refine ⟨by omega, ?_, fun hd => by first | (cases hd; done) | (have := hYl1 h15; simp; omega) | (rw [h15] at hd; cases hd; done), by first | (have := hYl1 h15; simp; omega) | (simp; omega)⟩
          rw [← hY]
          first
            | (obtain rfl : u24 = u36 := by rw [hu24] at hu36; exact Option.some.inj hu36
               have hlt : p.l < u24.p.l := by assumption
               rw [psX_snoc, psX_snoc]
               simp only [rstL, addL, h15, if_pos hlt, Bool.false_eq_true, if_false, if_true, List.append_assoc, List.cons_append, List.nil_append]
               done)
            | (obtain rfl : u24 = u36 := by rw [hu24] at hu36; exact Option.some.inj hu36
               have hlt : ¬ p.l < u24.p.l := by assumption
               rw [psX_snoc]
               simp only [rstL, addL, h15, if_neg hlt, Bool.false_eq_true, if_false, if_true, List.append_assoc, List.cons_append, List.nil_append]
               done)
            | (rw [psX_snoc]
               simp only [rstL, h15, if_true, List.append_assoc, List.cons_append, List.nil_append]
               done)
        · first | omega | (dsimp only; omega) | (simp only []; omega)
      · refine DJ.yd 1 rfl (by kernel_rfl) (by kernel_rfl) (by kernel_rfl) rfl rfl (Yd.not rfl) ?_
        refine DJ.yd 2 rfl (by kernel_rfl) (by kernel_rfl) (by kernel_rfl) rfl rfl (Yd.mvB rfl) ?_
        refine DJ.yd 3 rfl (by kernel_rfl) (by kernel_rfl) (by kernel_rfl) rfl rfl (Yd.fieldAddr rfl) ?_
        refine DJ.yd 4 rfl (by kernel_rfl) (by kernel_rfl) (by kernel_rfl) rfl rfl (Yd.loadC 0 rfl rfl rfl) ?_
        refine DJ.yd 5 rfl (by kernel_rfl) (by kernel_rfl) (by kernel_rfl) rfl rfl (Yd.mvS rfl) ?_
        refine DJ.yd 6 rfl (by kernel_rfl) (by kernel_rfl) (by kernel_rfl) rfl rfl (Yd.mvI rfl) ?_
        refine DJ.idxA 7 rfl (by kernel_rfl) (by kernel_rfl) (by kernel_rfl) rfl rfl hl rfl rfl (by omega) (by first | rfl | omega | (simp; done) | (simp; omega) | (simp [upN_len]; omega) | (simp [idxBy_len]; omega) | (simp [marks_len]; omega) | (simp [upN_len]; done) | (simp [idxBy_len]; done) | (simp [marks_len]; done) | (simp at *; omega)) (fun ib22 io22 ia22 ir22 => ?_)
        refine DJ.yd 8 rfl (by kernel_rfl) (by kernel_rfl) (by kernel_rfl) rfl rfl (Yd.fieldAddr rfl) ?_
        refine DJ.ldA 9 rfl (by kernel_rfl) (by kernel_rfl) (by kernel_rfl) rfl rfl 0 (fun u => vI u.p.l) (fun _ => rfl) ir22 rfl rfl (by first | rfl | omega | (simp; done) | (simp; omega) | (simp [upN_len]; omega) | (simp [idxBy_len]; omega) | (simp [marks_len]; omega) | (simp [upN_len]; done) | (simp [idxBy_len]; done) | (simp [marks_len]; done) | (simp at *; omega)) (fun u24 hu24 => ?_)
        try simp only [Int.toNat_natCast] at hu24
        refine DJ.splitD 10 rfl (by kernel_rfl) (by kernel_rfl) (by kernel_rfl) rfl rfl (Yd.lss rfl rfl) (fun h25 => ?_) (fun h25 => ?_)
        · refine DJ.yd 11 rfl (by kernel_rfl) (by kernel_rfl) (by kernel_rfl) rfl rfl (Yd.pickTB rfl rfl) ?_
          refine DJ.done (by kernel_rfl) ?_
          refine CJ.condT rfl ?_
          refine CJ.seq ?_
          refine CJ.region ?_
          refine LJ.yd rfl (Yd.mvS rfl) ?_
          refine LJ.yd rfl (Yd.loadG (us := [_, _, _, _]) 0 rfl rfl rfl rfl) ?_
          refine LJ.call0 rfl (fun k hk dk => copyPieceS_ok (p := p) hp.up hpn) ?_
          rintro _ _ ⟨xa29, xc29, rfl, rfl⟩
          refine LJ.norm [_, _, _, _] rfl ?_
          refine LJ.op rfl (OpR.buildSlice (cs := [_, _, _, _]) rfl rfl) ?_
          rintro _ _ ⟨b5, rfl, rfl⟩
          refine LJ.op rfl (OpR.apT (enc := encQ) [(⟨p, xa29, xc29⟩ : Pc)] 1 4 rfl rfl rfl (by first | rfl | omega | (simp; done) | (simp; omega) | (simp [upN_len]; omega) | (simp [idxBy_len]; omega) | (simp [marks_len]; omega) | (simp [upN_len]; done) | (simp [idxBy_len]; done) | (simp [marks_len]; done) | (simp at *; omega)) rfl rfl rfl rfl rfl (by first | rfl | omega | (simp; done) | (simp; omega) | (simp [upN_len]; omega) | (simp [idxBy_len]; omega) | (simp [marks_len]; omega) | (simp [upN_len]; done) | (simp [idxBy_len]; done) | (simp [marks_len]; done) | (simp at *; omega))) ?_
          rintro _ _ ⟨ra31, rc31, rfl, rfl⟩
          refine LJ.norm [_, _, _, _, _] rfl ?_
          refine LJ.ent (Ent.pickFold [0, 1, 4] [2, 3] [] rfl (fun _ s => INN.snoc (f := rowQ) (u := (⟨p, xa29, xc29⟩ : Pc)) s)) ?_
          refine LJ.norm [_, _, _, _] rfl ?_
          refine LJ.yd rfl (Yd.asS rfl) ?_
          refine LJ.nil ?_
          refine CJ.region ?_
          refine LJ.yd rfl (Yd.asB rfl) ?_
          refine LJ.nil ?_
          refine CJ.region ?_
          refine LJ.yd rfl (Yd.mvS rfl) ?_
          refine LJ.yd rfl (Yd.mvS rfl) ?_
          refine LJ.yd rfl (Yd.mvI rfl) ?_
          refine LJ.idxA rfl hl rfl rfl (by omega) (by first | rfl | omega | (simp; done) | (simp; omega) | (simp [upN_len]; omega) | (simp [idxBy_len]; omega) | (simp [marks_len]; omega) | (simp [upN_len]; done) | (simp [idxBy_len]; done) | (simp [marks_len]; done) | (simp at *; omega)) (fun ib35 io35 ia35 ir35 => ?_)
          refine LJ.lgA (enc := encQ) (fun u => [vI u.p.l, vI u.p.w, vI u.p.h, .slice u.a u.p.fl.length u.c]) (fun _ => rfl) (fun _ => rfl) ir35 rfl rfl rfl (by first | rfl | omega | (simp; done) | (simp; omega) | (simp [upN_len]; omega) | (simp [idxBy_len]; omega) | (simp [marks_len]; omega) | (simp [upN_len]; done) | (simp [idxBy_len]; done) | (simp [marks_len]; done) | (simp at *; omega)) (fun u36 hu36 => ?_)
          try simp only [Int.toNat_natCast] at hu36
          refine LJ.call0 rfl (fun k hk dk => copyPieceS_ok (p := u36.p) (RdRow.up (hx u36 (List.mem_of_getElem? hu36))) (hb u36 (List.mem_of_getElem? hu36))) ?_
          rintro _ _ ⟨xa37, xc37, rfl, rfl⟩
          refine LJ.norm [_, _, _, _, _] rfl ?_
          refine LJ.op rfl (OpR.buildSlice (cs := [_, _, _, _]) rfl rfl) ?_
          rintro _ _ ⟨b6, rfl, rfl⟩
          refine LJ.op rfl (OpR.apT (enc := encQ) [(⟨u36.p, xa37, xc37⟩ : Pc)] 1 5 rfl rfl rfl (by first | rfl | omega | (simp; done) | (simp; omega) | (simp [upN_len]; omega) | (simp [idxBy_len]; omega) | (simp [marks_len]; omega) | (simp [upN_len]; done) | (simp [idxBy_len]; done) | (simp [marks_len]; done) | (simp at *; omega)) rfl rfl rfl rfl rfl (by first | rfl | omega | (simp; done) | (simp; omega) | (simp [upN_len]; omega) | (simp [idxBy_len]; omega) | (simp [marks_len]; omega) | (simp [upN_len]; done) | (simp [idxBy_len]; done) | (simp [marks_len]; done) | (simp at *; omega))) ?_
          rintro _ _ ⟨ra39, rc39, rfl, rfl⟩
          refine LJ.norm [_, _, _, _, _, _] rfl ?_
          refine LJ.ent (Ent.pickFold [0, 1, 2, 5] [3, 4] [] rfl (fun _ s => INN.snoc (f := rowQ) (u := (⟨u36.p, xa37, xc37⟩ : Pc)) s)) ?_
          refine LJ.norm [_, _, _, _, _] rfl ?_
          refine LJ.yd rfl (Yd.asS rfl) ?_
          refine LJ.nil ?_
          refine CJ.region ?_
          refine LJ.yd rfl (Yd.mvI rfl) ?_
          refine LJ.yd rfl (Yd.add rfl rfl (by unfold I64; omega)) ?_
          refine LJ.yd rfl (Yd.asI rfl) ?_
          refine LJ.nil ?_
          refine ⟨(k + 1, _, _, _, _, _), ?_, ⟨rfl, rfl, rfl, trivial⟩, ⟨rfl, rfl, rfl, trivial⟩, Ent.pick [0, 1, 4] [2, 3] rfl, ?_⟩
          · refine ⟨(by first | rfl | omega | (simp; done) | (simp; omega) | (simp [upN_len]; omega) | (simp [idxBy_len]; omega) | (simp [marks_len]; omega) | (simp [upN_len]; done) | (simp [idxBy_len]; done) | (simp [marks_len]; done) | (simp at *; omega)), ?_⟩
            rw [dropP (by assumption : X[k]? = some u36)] at hY
            refine ⟨by omega, ?_, fun hd => by first | (cases hd; done) | (have := hYl1 h15; simp; omega) | (rw [h15] at hd; cases hd; done), by first | (have := hYl1 h15; simp; omega) | (simp; omega)⟩
            rw [← hY]
            first
              | (obtain rfl : u24 = u36 := by rw [hu24] at hu36; exact Option.some.inj hu36
                 have hlt : p.l < u24.p.l := by assumption
                 rw [psX_snoc, psX_snoc]
                 simp only [rstL, addL, h15, if_pos hlt, Bool.false_eq_true, if_false, if_true, List.append_assoc, List.cons_append, List.nil_append]
                 done)
              | (obtain rfl : u24 = u36 := by rw [hu24] at hu36; exact Option.some.inj hu36
                 have hlt : ¬ p.l < u24.p.l := by assumption
                 rw [psX_snoc]
                 simp only [rstL, addL, h15, if_neg hlt, Bool.false_eq_true, if_false, if_true, List.append_assoc, List.cons_append, List.nil_append]
                 done)
              | (rw [psX_snoc]
                 simp only [rstL, h15, if_true, List.append_assoc, List.cons_append, List.nil_append]
                 done)
          · first | omega | (dsimp only; omega) | (simp only []; omega)
        · refine DJ.yd 11 rfl (by kernel_rfl) (by kernel_rfl) (by kernel_rfl) rfl rfl (Yd.pickTB rfl rfl) ?_
          refine DJ.done (by kernel_rfl) ?_
          refine CJ.condF rfl ?_
          refine CJ.skip ?_
          refine CJ.region ?_
          refine LJ.yd rfl (Yd.mvS rfl) ?_
          refine LJ.yd rfl (Yd.mvS rfl) ?_
          refine LJ.yd rfl (Yd.mvI rfl) ?_
          refine LJ.idxA rfl hl rfl rfl (by omega) (by first | rfl | omega | (simp; done) | (simp; omega) | (simp [upN_len]; omega) | (simp [idxBy_len]; omega) | (simp [marks_len]; omega) | (simp [upN_len]; done) | (simp [idxBy_len]; done) | (simp [marks_len]; done) | (simp at *; omega)) (fun ib35 io35 ia35 ir35 => ?_)
          refine LJ.lgA (enc := encQ) (fun u => [vI u.p.l, vI u.p.w, vI u.p.h, .slice u.a u.p.fl.length u.c]) (fun _ => rfl) (fun _ => rfl) ir35 rfl rfl rfl (by first | rfl | omega | (simp; done) | (simp; omega) | (simp [upN_len]; omega) | (simp [idxBy_len]; omega) | (simp [marks_len]; omega) | (simp [upN_len]; done) | (simp [idxBy_len]; done) | (simp [marks_len]; done) | (simp at *; omega)) (fun u36 hu36 => ?_)
          try simp only [Int.toNat_natCast] at hu36
          refine LJ.call0 rfl (fun k hk dk => copyPieceS_ok (p := u36.p) (RdRow.up (hx u36 (List.mem_of_getElem? hu36))) (hb u36 (List.mem_of_getElem? hu36))) ?_
          rintro _ _ ⟨xa37, xc37, rfl, rfl⟩
          refine LJ.norm [_, _, _, _] rfl ?_
          refine LJ.op rfl (OpR.buildSlice (cs := [_, _, _, _]) rfl rfl) ?_
          rintro _ _ ⟨b7, rfl, rfl⟩
          refine LJ.op rfl (OpR.apT (enc := encQ) [(⟨u36.p, xa37, xc37⟩ : Pc)] 1 4 rfl rfl rfl (by first | rfl | omega | (simp; done) | (simp; omega) | (simp [upN_len]; omega) | (simp [idxBy_len]; omega) | (simp [marks_len]; omega) | (simp [upN_len]; done) | (simp [idxBy_len]; done) | (simp [marks_len]; done) | (simp at *; omega)) rfl rfl rfl rfl rfl (by first | rfl | omega | (simp; done) | (simp; omega) | (simp [upN_len]; omega) | (simp [idxBy_len]; omega) | (simp [marks_len]; omega) | (simp [upN_len]; done) | (simp [idxBy_len]; done) | (simp [marks_len]; done) | (simp at *; omega))) ?_
          rintro _ _ ⟨ra39, rc39, rfl, rfl⟩
          refine LJ.norm [_, _, _, _, _] rfl ?_
          refine LJ.ent (Ent.pickFold [0, 1, 4] [2, 3] [] rfl (fun _ s => INN.snoc (f := rowQ) (u := (⟨u36.p, xa37, xc37⟩ : Pc)) s)) ?_
          refine LJ.norm [_, _, _, _] rfl ?_
          refine LJ.yd rfl (Yd.asS rfl) ?_
          refine LJ.nil ?_
          refine CJ.region ?_
          refine LJ.yd rfl (Yd.mvI rfl) ?_
          refine LJ.yd rfl (Yd.add rfl rfl (by unfold I64; omega)) ?_
          refine LJ.yd rfl (Yd.asI rfl) ?_
          refine LJ.nil ?_
          refine ⟨(k + 1, _, _, _, _, _), ?_, ⟨rfl, rfl, rfl, trivial⟩, ⟨rfl, rfl, rfl, trivial⟩, Ent.pick [0, 1, 3] [2] rfl, ?_⟩
          · refine ⟨(by first | rfl | omega | (simp; done) | (simp; omega) | (simp [upN_len]; omega) | (simp [idxBy_len]; omega) | (simp [marks_len]; omega) | (simp [upN_len]; done) | (simp [idxBy_len]; done) | (simp [marks_len]; done) | (simp at *; omega)), ?_⟩
            rw [dropP (by assumption : X[k]? = some u36)] at hY
            refine ⟨by omega, ?_, fun hd => by first | (cases hd; done) | (have := hYl1 h15; simp; omega) | (rw [h15] at hd; cases hd; done), by first | (have := hYl1 h15; simp; omega) | (simp; omega)⟩
            rw [← hY]
            first
              | (obtain rfl : u24 = u36 := by rw [hu24] at hu36; exact Option.some.inj hu36
                 have hlt : p.l < u24.p.l := by assumption
                 rw [psX_snoc, psX_snoc]
                 simp only [rstL, addL, h15, if_pos hlt, Bool.false_eq_true, if_false, if_true, List.append_assoc, List.cons_append, List.nil_append]
                 done)
              | (obtain rfl : u24 = u36 := by rw [hu24] at hu36; exact Option.some.inj hu36
                 have hlt : ¬ p.l < u24.p.l := by assumption
                 rw [psX_snoc]
                 simp only [rstL, addL, h15, if_neg hlt, Bool.false_eq_true, if_false, if_true, List.append_assoc, List.cons_append, List.nil_append]
                 done)
              | (rw [psX_snoc]
                 simp only [rstL, h15, if_true, List.append_assoc, List.cons_append, List.nil_append]
                 done)
          · first | omega | (dsimp only; omega) | (simp only []; omega)
    · refine LJ.nil ?_
      refine CJ.condF rfl ?_
      refine CJ.exit ?_
      refine CJ.seq ?_
      refine CJ.seq ?_
      refine CJ.region ?_
      refine LJ.split rfl (Yd.mvB rfl) (fun h40 => ?_) (fun h40 => ?_)
      · refine LJ.yd rfl (Yd.not rfl) ?_
        refine LJ.nil ?_
        refine CJ.condF rfl ?_
        refine CJ.skip ?_
        refine CJ.seq ?_
        refine CJ.region ?_
        refine LJ.yd rfl (Yd.mvS rfl) ?_
        refine LJ.yd rfl (Yd.asS rfl) ?_
        refine LJ.nil ?_
        refine CJ.ret ?_
        exact Fin.R [_, _] (Res.one (ResV.tmp (v := .slice _ _ _) rfl)) ⟨_, _, _, rfl, rfl, by rw [dropP_end (by omega)] at hY; rw [← hY]; first | (simp only [psX_snoc, rstL, addL, h40, Bool.false_eq_true, if_false]; done) | (simp only [rstL, h40, if_true, List.append_nil]; done)⟩ (Ent.pick [1, 2] [0] rfl)
      · refine LJ.yd rfl (Yd.not rfl) ?_
        refine LJ.nil ?_
        refine CJ.condT rfl ?_
        refine CJ.region ?_
        refine LJ.yd rfl (Yd.mvS rfl) ?_
        refine LJ.yd rfl (Yd.loadG (us := [_, _, _, _]) 0 rfl rfl rfl rfl) ?_
        refine LJ.call0 rfl (fun k hk dk => copyPieceS_ok (p := p) hp.up hpn) ?_
        rintro _ _ ⟨xa44, xc44, rfl, rfl⟩
        refine LJ.norm [_, _, _, _] rfl ?_
        refine LJ.op rfl (OpR.buildSlice (cs := [_, _, _, _]) rfl rfl) ?_
        rintro _ _ ⟨b8, rfl, rfl⟩
        refine LJ.op rfl (OpR.apT (enc := encQ) [(⟨p, xa44, xc44⟩ : Pc)] 1 4 rfl rfl rfl (by first | rfl | omega | (simp; done) | (simp; omega) | (simp [upN_len]; omega) | (simp [idxBy_len]; omega) | (simp [marks_len]; omega) | (simp [upN_len]; done) | (simp [idxBy_len]; done) | (simp [marks_len]; done) | (simp at *; omega)) rfl rfl rfl rfl rfl (by first | rfl | omega | (simp; done) | (simp; omega) | (simp [upN_len]; omega) | (simp [idxBy_len]; omega) | (simp [marks_len]; omega) | (simp [upN_len]; done) | (simp [idxBy_len]; done) | (simp [marks_len]; done) | (simp at *; omega))) ?_
        rintro _ _ ⟨ra46, rc46, rfl, rfl⟩
        refine LJ.norm [_, _, _, _, _] rfl ?_
        refine LJ.ent (Ent.pickFold [0, 1, 4] [2, 3] [] rfl (fun _ s => INN.snoc (f := rowQ) (u := (⟨p, xa44, xc44⟩ : Pc)) s)) ?_
        refine LJ.norm [_, _, _, _] rfl ?_
        refine LJ.yd rfl (Yd.asS rfl) ?_
        refine LJ.nil ?_
        refine CJ.seq ?_
        refine CJ.region ?_
        refine LJ.yd rfl (Yd.mvS rfl) ?_
        refine LJ.yd rfl (Yd.asS rfl) ?_
        refine LJ.nil ?_
        refine CJ.ret ?_
        exact Fin.R [_, _] (Res.one (ResV.tmp (v := .slice _ _ _) rfl)) ⟨_, _, _, rfl, rfl, by rw [dropP_end (by omega)] at hY; rw [← hY]; first | (simp only [psX_snoc, rstL, addL, h40, Bool.false_eq_true, if_false]; done) | (simp only [rstL, h40, if_true, List.append_nil]; done)⟩ (Ent.pick [1, 3] [0, 2] rfl)
theorem fnd_step {X : List Pc} {k : Nat} {u : Pc} {l : Int} (h : X[k]? = some u) : fnd l ((psX X).drop k) k = if u.p.l = l then (k : Int) else fnd l ((psX X).drop (k + 1)) (k + 1) := by
  rw [dropP h]; rfl
theorem labelFn {A : Amb} {b : Nat} {n : Int} {u : Pc} (hcell : A.h.cell ⟨b, 0, none⟩ = some (vI n)) : Ctr Try.prog 88 #[.agg #[vI u.p.l, vI u.p.w, vI u.p.h, .slice u.a u.p.fl.length u.c], .pointer (some ⟨b, 0, none⟩)] A [] (Val (.bool (decide (u.p.l = n)))) := by
  refine Ctr.body (args := [_, _]) Try.func88 rfl Try.ntmps88 Try.results88 (by simp) ?_
  refine CJ.seq ?_
  refine CJ.region ?_
  refine LJ.boxG (vs := [_, _, _, _]) rfl rfl (fun b1 => ?_)
  refine LJ.yd rfl (Yd.asB rfl) ?_
  refine LJ.nil ?_
  refine CJ.seq ?_
  refine CJ.region ?_
  refine LJ.yd rfl (Yd.fieldAddr rfl) ?_
  refine LJ.yd rfl (Yd.loadC 0 rfl rfl rfl) ?_
  refine LJ.yd rfl (Yd.load rfl (Rdc.amb hcell)) ?_
  refine LJ.yd rfl (Yd.eql rfl rfl) ?_
  refine LJ.yd rfl (Yd.asB rfl) ?_
  refine LJ.nil ?_
  refine CJ.ret ?_
  refine Fin.V (Res.one (ResV.tmp (v := .bool _) rfl)) ?_
  rfl
theorem indexPiece_ok {A : Amb} {v : Value} {X : List Pc} {b : Nat} {n : Int} (hl : RdL encQ 4 A.h v X) (hcell : A.h.cell ⟨b, 0, none⟩ = some (vI n)) :
    Ctr Try.prog 87 #[v, .func (.func 88) #[] #[.pointer (some ⟨b, 0, none⟩)]] A [] (Val (vI (fnd n (psX X) 0))) := by
  obtain ⟨la, lc, rfl, hlb, hl⟩ := hl.un
  refine Ctr.body (args := [_, _]) Try.func87 rfl Try.ntmps87 Try.results87 (by simp) ?_
  refine CJ.seq ?_
  refine CJ.region ?_
  refine LJ.yd rfl (Yd.asI rfl) ?_
  refine LJ.nil ?_
  refine CJ.seq ?_
  refine CJ.seq ?_
  refine CJ.region ?_
  refine LJ.yd rfl (Yd.mvS rfl) ?_
  refine LJ.yd rfl (Yd.len rfl) ?_
  refine LJ.yd rfl (Yd.mvI rfl) ?_
  refine LJ.nil ?_
  refine CJ.block ?_
  refine CJ.loopK [0, 1, 7] Nat (fun k => k ≤ X.length ∧ fnd n ((psX X).drop k) k = fnd n (psX X) 0) (fun k => [(8, vI k)]) (fun k => X.length - k) (0) ?_ ⟨rfl, trivial⟩ ?_
  · exact ⟨by omega, by rfl⟩
  · rintro k σ ⟨hk1, hi1⟩
    refine CJ.seq ?_
    refine CJ.region ?_
    refine LJ.splitD rfl (Yd.lss rfl rfl) (fun h9 => ?_) (fun h9 => ?_)
    · refine LJ.nil ?_
      refine CJ.seq ?_
      refine CJ.condT rfl ?_
      refine CJ.skip ?_
      refine CJ.seq ?_
      refine CJ.block ?_
      refine CJ.seq ?_
      refine CJ.region ?_
      refine LJ.yd rfl (Yd.mvI rfl) ?_
      refine LJ.yd rfl (Yd.asI rfl) ?_
      refine LJ.nil ?_
      refine CJ.seq ?_
      refine CJ.region ?_
      refine LJ.yd rfl (Yd.mvF rfl) ?_
      refine LJ.yd rfl (Yd.mvS rfl) ?_
      refine LJ.yd rfl (Yd.mvI rfl) ?_
      refine LJ.idxA rfl hl rfl rfl (by omega) (by first | rfl | omega | (simp; done) | (simp; omega) | (simp [upN_len]; omega) | (simp [idxBy_len]; omega) | (simp [marks_len]; omega) | (simp [upN_len]; done) | (simp [idxBy_len]; done) | (simp [marks_len]; done) | (simp at *; omega)) (fun ib14 io14 ia14 ir14 => ?_)
      refine LJ.lgA (enc := encQ) (fun u => [vI u.p.l, vI u.p.w, vI u.p.h, .slice u.a u.p.fl.length u.c]) (fun _ => rfl) (fun _ => rfl) ir14 rfl rfl rfl (by first | rfl | omega | (simp; done) | (simp; omega) | (simp [upN_len]; omega) | (simp [idxBy_len]; omega) | (simp [marks_len]; omega) | (simp [upN_len]; done) | (simp [idxBy_len]; done) | (simp [marks_len]; done) | (simp at *; omega)) (fun u15 hu15 => ?_)
      try simp only [Int.toNat_natCast] at hu15
      refine LJ.callDB rfl rfl (fun k hk dk => labelFn (Hp.cell_le Amb.ext_up hcell)) (fun h16 => ?_) (fun h16 => ?_)
      · refine LJ.nil ?_
        refine CJ.condT rfl ?_
        refine CJ.seq ?_
        refine CJ.region ?_
        refine LJ.yd rfl (Yd.mvI rfl) ?_
        refine LJ.yd rfl (Yd.asI rfl) ?_
        refine LJ.nil ?_
        refine CJ.ret ?_
        refine Fin.V (Res.one (ResV.tmp (v := .int _ _) rfl)) ?_
        first
          | (rw [fnd_step hu15, if_pos (of_decide_eq_true h16)] at hi1; rw [← hi1]; done)
          | (rw [dropP_end (by omega), fnd] at hi1; rw [← hi1])
      · refine LJ.nil ?_
        refine CJ.condF rfl ?_
        refine CJ.skip ?_
        refine CJ.region ?_
        refine LJ.yd rfl (Yd.add rfl rfl (by unfold I64; omega)) ?_
        refine LJ.yd rfl (Yd.mvI rfl) ?_
        refine LJ.nil ?_
        refine ⟨(k + 1), ?_, ⟨rfl, rfl, rfl, trivial⟩, ⟨rfl, trivial⟩, Ent.refl _, ?_⟩
        · refine ⟨by omega, ?_⟩
          rw [fnd_step hu15, if_neg (of_decide_eq_false h16)] at hi1; exact hi1
        · first | omega | (dsimp only; omega) | (simp only []; omega)
    · refine LJ.nil ?_
      refine CJ.seq ?_
      refine CJ.condF rfl ?_
      refine CJ.exit ?_
      refine CJ.seq ?_
      refine CJ.region ?_
      refine LJ.yd rfl (Yd.asI rfl) ?_
      refine LJ.nil ?_
      refine CJ.ret ?_
      refine Fin.V (Res.one (ResV.tmp (v := .int _ _) rfl)) ?_
      first
        | (rw [fnd_step hu15, if_pos (of_decide_eq_true h16)] at hi1; rw [← hi1]; done)
        | (rw [dropP_end (by omega), fnd] at hi1; rw [← hi1])
theorem findLabelI_ok {A : Amb} {v : Value} {X : List Pc} {n : Int} (hl : RdL encQ 4 A.h v X) : Ctr Try.prog 61 #[v, vI n] A [] (Val (vI (fnd n (psX X) 0))) := by
  obtain ⟨la, lc, rfl, hlb, hl⟩ := hl.un
  refine Ctr.body (args := [_, _]) Try.func61 rfl Try.ntmps61 Try.results61 (by simp) ?_
  refine CJ.seq ?_
  refine CJ.region ?_
  refine LJ.box1 (v := .int _ _) rfl rfl rfl (fun b1 => ?_)
  refine LJ.yd rfl (Yd.asI rfl) ?_
  refine LJ.nil ?_
  refine CJ.seq ?_
  refine CJ.region ?_
  refine LJ.yd rfl (Yd.mvS rfl) ?_
  refine LJ.yd rfl (Yd.makeFunc rfl) ?_
  refine LJ.callV rfl (fun k hk dk => indexPiece_ok (RdRow.up hl) (Sts.cel hk dk 0 rfl rfl)) ?_
  refine LJ.yd rfl (Yd.asI rfl) ?_
  refine LJ.nil ?_
  refine CJ.ret ?_
  refine Fin.V (Res.one (ResV.tmp (v := .int _ _) rfl)) ?_
  rfl
theorem findLabelS_ok {A : Amb} {v : Value} {X : List Pc} {n : Int} (hl : RdL encQ 4 A.h v X) : Ctr Try.prog 73 #[v, vI n] A [] (Val (vI (fnd n (psX X) 0))) := by
  obtain ⟨la, lc, rfl, hlb, hl⟩ := hl.un
  refine Ctr.body (args := [_, _]) Try.func73 rfl Try.ntmps73 Try.results73 (by simp) ?_
  refine CJ.seq ?_
  refine CJ.region ?_
  refine LJ.yd rfl (Yd.asI rfl) ?_
  refine LJ.nil ?_
  refine CJ.seq ?_
  refine CJ.seq ?_
  refine CJ.region ?_
  refine LJ.yd rfl (Yd.asI rfl) ?_
  refine LJ.nil ?_
  refine CJ.block ?_
  refine CJ.loopK [0, 1] Nat (fun k => k ≤ X.length ∧ fnd n ((psX X).drop k) k = fnd n (psX X) 0) (fun k => [(5, vI k)]) (fun k => X.length - k) (0) ?_ ⟨rfl, trivial⟩ ?_
  · exact ⟨by omega, by rfl⟩
  · rintro k σ ⟨hk1, hi1⟩
    refine CJ.seq ?_
    refine CJ.seq ?_
    refine CJ.region ?_
    refine LJ.yd rfl (Yd.mvI rfl) ?_
    refine LJ.yd rfl (Yd.mvS rfl) ?_
    refine LJ.yd rfl (Yd.len rfl) ?_
    refine LJ.splitD rfl (Yd.lss rfl rfl) (fun h9 => ?_) (fun h9 => ?_)
    · refine LJ.nil ?_
      refine CJ.condT rfl ?_
      refine CJ.skip ?_
      refine CJ.seq ?_
      refine CJ.block ?_
      refine CJ.seq ?_
      refine CJ.region ?_
      refine LJ.yd rfl (Yd.mvS rfl) ?_
      refine LJ.yd rfl (Yd.mvI rfl) ?_
      refine LJ.idxA rfl hl rfl rfl (by omega) (by first | rfl | omega | (simp; done) | (simp; omega) | (simp [upN_len]; omega) | (simp [idxBy_len]; omega) | (simp [marks_len]; omega) | (simp [upN_len]; done) | (simp [idxBy_len]; done) | (simp [marks_len]; done) | (simp at *; omega)) (fun ib14 io14 ia14 ir14 => ?_)
      refine LJ.yd rfl (Yd.fieldAddr rfl) ?_
      refine LJ.ldA 0 (fun u => vI u.p.l) (fun _ => rfl) ir14 rfl rfl rfl (by first | rfl | omega | (simp; done) | (simp; omega) | (simp [upN_len]; omega) | (simp [idxBy_len]; omega) | (simp [marks_len]; omega) | (simp [upN_len]; done) | (simp [idxBy_len]; done) | (simp [marks_len]; done) | (simp at *; omega)) (fun u16 hu16 => ?_)
      try simp only [Int.toNat_natCast] at hu16
      refine LJ.yd rfl (Yd.mvI rfl) ?_
      refine LJ.splitD rfl (Yd.eql rfl rfl) (fun h18 => ?_) (fun h18 => ?_)
      · refine LJ.nil ?_
        refine CJ.condT rfl ?_
        refine CJ.seq ?_
        refine CJ.region ?_
        refine LJ.yd rfl (Yd.mvI rfl) ?_
        refine LJ.yd rfl (Yd.asI rfl) ?_
        refine LJ.nil ?_
        refine CJ.ret ?_
        refine Fin.V (Res.one (ResV.tmp (v := .int _ _) rfl)) ?_
        first
          | (rw [fnd_step hu16, if_pos (by assumption)] at hi1; rw [← hi1]; done)
          | (rw [dropP_end (by omega), fnd] at hi1; rw [← hi1])
      · refine LJ.nil ?_
        refine CJ.condF rfl ?_
        refine CJ.skip ?_
        refine CJ.region ?_
        refine LJ.yd rfl (Yd.mvI rfl) ?_
        refine LJ.yd rfl (Yd.add rfl rfl (by unfold I64; omega)) ?_
        refine LJ.yd rfl (Yd.asI rfl) ?_
        refine LJ.nil ?_
        refine ⟨(k + 1), ?_, ⟨rfl, rfl, trivial⟩, ⟨rfl, trivial⟩, Ent.refl _, ?_⟩
        · refine ⟨by omega, ?_⟩
          rw [fnd_step hu16, if_neg (by assumption)] at hi1; exact hi1
        · first | omega | (dsimp only; omega) | (simp only []; omega)
    · refine LJ.nil ?_
      refine CJ.condF rfl ?_
      refine CJ.exit ?_
      refine CJ.seq ?_
      refine CJ.region ?_
      refine LJ.yd rfl (Yd.asI rfl) ?_
      refine LJ.nil ?_
      refine CJ.ret ?_
      refine Fin.V (Res.one (ResV.tmp (v := .int _ _) rfl)) ?_
      first
        | (rw [fnd_step hu16, if_pos (by assumption)] at hi1; rw [← hi1]; done)
        | (rw [dropP_end (by omega), fnd] at hi1; rw [← hi1])
def AddO (L : List Piece) (p : Piece) (v : Value) (gs : List HProp) : Prop := ∃ (Y : List Pc) (a : Option Addr) (c : Nat), v = .tuple #[.slice a Y.length c, .bool (addB L p)] ∧ gs = [LR encQ 31 4 a c Y, INN rowQ Y] ∧ psX Y = addR L p
theorem add_F {L : List Piece} {p : Piece} (h : ¬ addB L p = true) : addB L p = false ∧ addR L p = [] := ⟨by simpa using h, if_neg h⟩
theorem big_add {X Y : List Pc} {p : Piece} (e : psX Y = addL p (psX X)) (hb : ∀ u ∈ X, u.p.fl.length ≤ 2000000) (hp : p.fl.length ≤ 2000000) : ∀ u ∈ Y, u.p.fl.length ≤ 281474976710656 := fun u hu => by
  have h1 : u.p ∈ addL p (psX X) := e ▸ List.mem_map_of_mem hu
  rcases addL_mem.1 h1 with h2 | h2
  · rw [h2]; omega
  · obtain ⟨x, hx, hx2⟩ := List.mem_map.1 h2
    have := hb x hx
    rw [← hx2]; omega
theorem wf_add {X Y : List Pc} {p : Piece} (e : psX Y = addL p (psX X)) (hb : Wfs X) (hw : I64 p.w) (hh : I64 p.h) : Wfs Y := fun u hu => by
  have h1 : u.p ∈ addL p (psX X) := e ▸ List.mem_map_of_mem hu
  rcases addL_mem.1 h1 with h2 | h2
  · rw [h2]; exact ⟨hw, hh⟩
  · obtain ⟨x, hx, hx2⟩ := List.mem_map.1 h2
    rw [← hx2]; exact hb x hx
theorem AddPieceS_ok {A : Amb} {v w : Value} {X : List Pc} {p : Piece} (hl : RdL encQ 4 A.h v X) (hx : Fls A.h X) (hp : RdL Box.enc 4 A.h w p.fl) (hb : ∀ u ∈ X, u.p.fl.length ≤ 2000000) (hpn : p.fl.length ≤ 2000000) (hW : Wfs X) (hw : I64 p.w) (hh : I64 p.h) : Ctr Try.prog 22 #[v, .agg #[vI p.l, vI p.w, vI p.h, w]] A [] (AddO (psX X) p) := by
  obtain ⟨la, lc, rfl, hlb, hl⟩ := hl.un
  refine Ctr.body (args := [_, _]) Try.func22 rfl Try.ntmps22 Try.results22 (by simp) ?_
  refine CJ.seq ?_
  refine CJ.region ?_
  refine LJ.boxG (vs := [_, _, _, _]) rfl rfl (fun b1 => ?_)
  refine LJ.yd rfl (Yd.asS rfl) ?_
  refine LJ.yd rfl (Yd.asB rfl) ?_
  refine LJ.nil ?_
  refine CJ.seq ?_
  refine CJ.seq ?_
  refine CJ.region ?_
  refine LJ.yd rfl (Yd.mvS rfl) ?_
  refine LJ.callB rfl (fun k hk dk => validStockS_ok (RdRow.up hl) (Fls.up hx) hW) (fun h8 => ?_) (fun h8 => ?_)
  · refine LJ.yd rfl (Yd.not rfl) ?_
    refine LJ.yd rfl (Yd.mvB rfl) ?_
    refine LJ.gT rfl ?_
    refine LJ.yd rfl (Yd.loadG (us := [_, _, _, _]) 0 rfl rfl rfl rfl) ?_
    refine LJ.gT rfl ?_
    refine LJ.callB rfl (fun k hk dk => validPieceS_ok (p := p) hp.up hw hh) (fun h12 => ?_) (fun h12 => ?_)
    · refine LJ.gT rfl ?_
      refine LJ.yd rfl (Yd.not rfl) ?_
      refine LJ.yd rfl (Yd.pickFB rfl rfl) ?_
      refine LJ.nil ?_
      refine CJ.condF rfl ?_
      refine CJ.skip ?_
      refine CJ.seq ?_
      have hX20 := (stOk_iff.1 h8).1
      rw [List.length_map] at hX20
      refine CJ.region ?_
      refine LJ.yd rfl (Yd.mvS rfl) ?_
      refine LJ.yd rfl (Yd.loadG (us := [_, _, _, _]) 0 rfl rfl rfl rfl) ?_
      refine LJ.call0 rfl (fun k hk dk => addPiece_ok (p := p) (RdRow.up hl) (Fls.up hx) hp.up (by omega) hb hpn) ?_
      rintro _ _ ⟨Y, ya, yc, rfl, rfl, hY⟩
      have hYl : Y.length = X.length + 1 := by have := congrArg List.length hY; rw [addL_len] at this; simpa using this
      refine LJ.norm [_, _, _] rfl ?_
      refine LJ.yd rfl (Yd.asS rfl) ?_
      refine LJ.nil ?_
      refine CJ.seq ?_
      refine CJ.seq ?_
      refine CJ.region ?_
      refine LJ.yd rfl (Yd.mvS rfl) ?_
      refine LJ.callB rfl (fun k hk dk => validStockS_ok (Sts.lr hk dk 1 (by omega) rfl) (Sts.fls hk dk 2 (big_add hY hb hpn) rfl) (wf_add hY hW hw hh)) (fun h19 => ?_) (fun h19 => ?_)
      · refine LJ.yd rfl (Yd.not rfl) ?_
        refine LJ.nil ?_
        refine CJ.condF rfl ?_
        refine CJ.skip ?_
        refine CJ.seq ?_
        refine CJ.region ?_
        refine LJ.yd rfl (Yd.mvS rfl) ?_
        refine LJ.yd rfl (Yd.asS rfl) ?_
        refine LJ.yd rfl (Yd.asB rfl) ?_
        refine LJ.nil ?_
        refine CJ.ret ?_
        have hB : addB (psX X) p = true := by rw [addB, h8, h12, ← hY, h19]; rfl
        unfold AddO
        rw [hB]
        exact Fin.R [_, _] (Res.two (ResV.tmp (v := .slice _ _ _) rfl) (ResV.tmp (v := .bool true) rfl)) ⟨Y, _, _, rfl, rfl, by rw [addR, if_pos hB, hY]⟩ (Ent.pick [1, 2] [0] rfl)
      · refine LJ.yd rfl (Yd.not rfl) ?_
        refine LJ.nil ?_
        refine CJ.condT rfl ?_
        refine CJ.seq ?_
        refine CJ.region ?_
        refine LJ.yd rfl (Yd.asS rfl) ?_
        refine LJ.yd rfl (Yd.asB rfl) ?_
        refine LJ.nil ?_
        refine CJ.ret ?_
        have hB : ¬ addB (psX X) p = true := by
          intro h
          simp only [addB, Bool.and_eq_true] at h
          obtain ⟨q1, q2, q3⟩ := h
          first
            | (rw [h8] at q1; cases q1; done)
            | (rw [h12] at q2; cases q2; done)
            | (rw [← hY, h19] at q3; cases q3; done)
        obtain ⟨e1, e2⟩ := add_F hB
        unfold AddO
        rw [e1, e2]
        exact Fin.R [_, _] (Res.two (ResV.tmp (v := .slice _ _ _) rfl) (ResV.tmp (v := .bool false) rfl)) ⟨[], none, 0, rfl, rfl, rfl⟩ (Ent.thn (Ent.thn (Ent.pick [] [0, 1, 2] rfl) (Ent.addLR (α := Pc) encQ 31 4)) (INN.ent _))
    · refine LJ.gT rfl ?_
      refine LJ.yd rfl (Yd.not rfl) ?_
      refine LJ.yd rfl (Yd.pickFB rfl rfl) ?_
      refine LJ.nil ?_
      refine CJ.condT rfl ?_
      refine CJ.seq ?_
      refine CJ.region ?_
      refine LJ.yd rfl (Yd.asS rfl) ?_
      refine LJ.yd rfl (Yd.asB rfl) ?_
      refine LJ.nil ?_
      refine CJ.ret ?_
      have hB : ¬ addB (psX X) p = true := by
        intro h
        simp only [addB, Bool.and_eq_true] at h
        obtain ⟨q1, q2, q3⟩ := h
        first
          | (rw [h8] at q1; cases q1; done)
          | (rw [h12] at q2; cases q2; done)
          | (rw [← hY, h19] at q3; cases q3; done)
      obtain ⟨e1, e2⟩ := add_F hB
      unfold AddO
      rw [e1, e2]
      exact Fin.R [_, _] (Res.two (ResV.tmp (v := .slice _ _ _) rfl) (ResV.tmp (v := .bool false) rfl)) ⟨[], none, 0, rfl, rfl, rfl⟩ (Ent.thn (Ent.thn (Ent.pick [] [0] rfl) (Ent.addLR (α := Pc) encQ 31 4)) (INN.ent _))
  · refine LJ.yd rfl (Yd.not rfl) ?_
    refine LJ.yd rfl (Yd.mvB rfl) ?_
    refine LJ.gF rfl rfl ?_
    refine LJ.gF rfl rfl ?_
    refine LJ.gF rfl rfl ?_
    refine LJ.yd rfl (Yd.pickTB rfl rfl) ?_
    refine LJ.nil ?_
    refine CJ.condT rfl ?_
    refine CJ.seq ?_
    refine CJ.region ?_
    refine LJ.yd rfl (Yd.asS rfl) ?_
    refine LJ.yd rfl (Yd.asB rfl) ?_
    refine LJ.nil ?_
    refine CJ.ret ?_
    have hB : ¬ addB (psX X) p = true := by
      intro h
      simp only [addB, Bool.and_eq_true] at h
      obtain ⟨q1, q2, q3⟩ := h
      first
        | (rw [h8] at q1; cases q1; done)
        | (rw [h12] at q2; cases q2; done)
        | (rw [← hY, h19] at q3; cases q3; done)
    obtain ⟨e1, e2⟩ := add_F hB
    unfold AddO
    rw [e1, e2]
    exact Fin.R [_, _] (Res.two (ResV.tmp (v := .slice _ _ _) rfl) (ResV.tmp (v := .bool false) rfl)) ⟨[], none, 0, rfl, rfl, rfl⟩ (Ent.thn (Ent.thn (Ent.pick [] [0] rfl) (Ent.addLR (α := Pc) encQ 31 4)) (INN.ent _))
theorem AddPieceI_ok {A : Amb} {v w : Value} {X : List Pc} {p : Piece} (hl : RdL encQ 4 A.h v X) (hx : Fls A.h X) (hp : RdL Box.enc 4 A.h w p.fl) (hb : ∀ u ∈ X, u.p.fl.length ≤ 2000000) (hpn : p.fl.length ≤ 2000000) : Ctr Try.prog 21 #[v, .agg #[vI p.l, vI p.w, vI p.h, w]] A [] (AddO (psX X) p) := by
  obtain ⟨la, lc, rfl, hlb, hl⟩ := hl.un
  refine Ctr.body (args := [_, _]) Try.func21 rfl Try.ntmps21 Try.results21 (by simp) ?_
  refine CJ.seq ?_
  refine CJ.region ?_
  refine LJ.boxG (vs := [_, _, _, _]) rfl rfl (fun b1 => ?_)
  refine LJ.yd rfl (Yd.asS rfl) ?_
  refine LJ.yd rfl (Yd.asB rfl) ?_
  refine LJ.nil ?_
  refine CJ.seq ?_
  refine CJ.seq ?_
  refine CJ.region ?_
  refine LJ.yd rfl (Yd.mvS rfl) ?_
  refine LJ.callB rfl (fun k hk dk => ValidStockI_ok (RdRow.up hl) (Fls.up hx)) (fun h11 => ?_) (fun h11 => ?_)
  · refine LJ.yd rfl (Yd.not rfl) ?_
    refine LJ.yd rfl (Yd.mvB rfl) ?_
    refine LJ.gT rfl ?_
    refine LJ.yd rfl (Yd.loadG (us := [_, _, _, _]) 0 rfl rfl rfl rfl) ?_
    refine LJ.gT rfl ?_
    refine LJ.callB rfl (fun k hk dk => ValidPieceI_ok (p := p) hp.up) (fun h15 => ?_) (fun h15 => ?_)
    · refine LJ.gT rfl ?_
      refine LJ.yd rfl (Yd.not rfl) ?_
      refine LJ.yd rfl (Yd.pickFB rfl rfl) ?_
      refine LJ.yd rfl (Yd.mvB rfl) ?_
      refine LJ.gT rfl ?_
      refine LJ.yd rfl (Yd.mvS rfl) ?_
      refine LJ.gT rfl ?_
      refine LJ.yd rfl (Yd.len rfl) ?_
      refine LJ.gT rfl ?_
      refine LJ.splitD rfl (Yd.eql rfl rfl) (fun h21 => ?_) (fun h21 => ?_)
      · refine LJ.yd rfl (Yd.pickFB rfl rfl) ?_
        refine LJ.yd rfl (Yd.mvB rfl) ?_
        refine LJ.gF rfl rfl ?_
        refine LJ.gF rfl rfl ?_
        refine LJ.gF rfl rfl ?_
        refine LJ.gF rfl rfl ?_
        refine LJ.gF rfl rfl ?_
        refine LJ.yd rfl (Yd.pickTB rfl rfl) ?_
        refine LJ.nil ?_
        refine CJ.condT rfl ?_
        refine CJ.seq ?_
        refine CJ.region ?_
        refine LJ.yd rfl (Yd.asS rfl) ?_
        refine LJ.yd rfl (Yd.asB rfl) ?_
        refine LJ.nil ?_
        refine CJ.ret ?_
        have hB : ¬ addB (psX X) p = true := by
          intro h
          obtain ⟨q1, q2, q3, q4⟩ := addB_iff.1 h
          rw [List.length_map] at q3
          first
            | omega
            | (rw [h11] at q1; cases q1; done)
            | (rw [h15] at q2; cases q2; done)
        obtain ⟨e1, e2⟩ := add_F hB
        unfold AddO
        rw [e1, e2]
        exact Fin.R [_, _] (Res.two (ResV.tmp (v := .slice _ _ _) rfl) (ResV.tmp (v := .bool false) rfl)) ⟨[], none, 0, rfl, rfl, rfl⟩ (Ent.thn (Ent.thn (Ent.pick [] [0] rfl) (Ent.addLR (α := Pc) encQ 31 4)) (INN.ent _))
      · refine LJ.yd rfl (Yd.pickFB rfl rfl) ?_
        refine LJ.yd rfl (Yd.mvB rfl) ?_
        refine LJ.gT rfl ?_
        refine LJ.yd rfl (Yd.mvS rfl) ?_
        refine LJ.gT rfl ?_
        refine LJ.yd rfl (Yd.fieldAddr rfl) ?_
        refine LJ.gT rfl ?_
        refine LJ.yd rfl (Yd.loadC 0 rfl rfl rfl) ?_
        refine LJ.gT rfl ?_
        refine LJ.callV rfl (fun k hk dk => findLabelI_ok (RdRow.up hl)) ?_
        refine LJ.gT rfl ?_
        refine LJ.splitD rfl (Yd.geq rfl rfl) (fun h28 => ?_) (fun h28 => ?_)
        · refine LJ.yd rfl (Yd.pickFB rfl rfl) ?_
          refine LJ.nil ?_
          refine CJ.condT rfl ?_
          refine CJ.seq ?_
          refine CJ.region ?_
          refine LJ.yd rfl (Yd.asS rfl) ?_
          refine LJ.yd rfl (Yd.asB rfl) ?_
          refine LJ.nil ?_
          refine CJ.ret ?_
          have hB : ¬ addB (psX X) p = true := by
            intro h
            obtain ⟨q1, q2, q3, q4⟩ := addB_iff.1 h
            rw [List.length_map] at q3
            first
              | omega
              | (rw [h11] at q1; cases q1; done)
              | (rw [h15] at q2; cases q2; done)
          obtain ⟨e1, e2⟩ := add_F hB
          unfold AddO
          rw [e1, e2]
          exact Fin.R [_, _] (Res.two (ResV.tmp (v := .slice _ _ _) rfl) (ResV.tmp (v := .bool false) rfl)) ⟨[], none, 0, rfl, rfl, rfl⟩ (Ent.thn (Ent.thn (Ent.pick [] [0] rfl) (Ent.addLR (α := Pc) encQ 31 4)) (INN.ent _))
        · refine LJ.yd rfl (Yd.pickFB rfl rfl) ?_
          refine LJ.nil ?_
          refine CJ.condF rfl ?_
          refine CJ.skip ?_
          refine CJ.seq ?_
          have hX20 := (stOk_iff.1 h11).1
          rw [List.length_map] at hX20
          have hB : addB (psX X) p = true := addB_iff.2 ⟨h11, h15, by rw [List.length_map]; omega, by omega⟩
          refine CJ.region ?_
          refine LJ.yd rfl (Yd.asS rfl) ?_
          refine LJ.nil ?_
          refine CJ.seq ?_
          refine CJ.region ?_
          refine LJ.yd rfl (Yd.asB rfl) ?_
          refine LJ.nil ?_
          refine CJ.seq ?_
          refine CJ.seq ?_
          refine CJ.region ?_
          refine LJ.yd rfl (Yd.mvS rfl) ?_
          refine LJ.yd rfl (Yd.len rfl) ?_
          refine LJ.yd rfl (Yd.mvI rfl) ?_
          refine LJ.nil ?_
          refine CJ.block ?_
          refine CJ.ent (Ent.addLR encQ 31 4) ?_
          refine CJ.norm [_, _] rfl ?_
          refine CJ.ent (INN.ent rowQ) ?_
          refine CJ.norm [_, _, _] rfl ?_
          refine CJ.loopF [3, 4, 5, 30, 31] (Nat × Bool × List (Pc) × Option Addr × Nat × Nat) (fun ⟨k, d, Y, YA, YN, YC⟩ => (YN = Y.length) ∧ k ≤ X.length ∧ psX Y ++ rstL p d ((psX X).drop k) = addL p (psX X) ∧ (d = false → Y.length ≤ k) ∧ Y.length ≤ k + 1) (fun ⟨k, d, Y, YA, YN, YC⟩ => [(32, vI k), (7, .bool d), (6, .slice YA YN YC)]) (fun ⟨k, d, Y, YA, YN, YC⟩ => [LR encQ 31 4 YA YC Y, INN rowQ Y]) (fun ⟨k, d, Y, YA, YN, YC⟩ => X.length - k) (0, false, [], _, _, _) [_] [0] [1, 2] rfl rfl rfl ?_ ⟨rfl, rfl, rfl, trivial⟩ ?_
          · exact ⟨(by first | rfl | omega | (simp; done) | (simp; omega) | (simp [upN_len]; omega) | (simp [idxBy_len]; omega) | (simp [marks_len]; omega) | (simp [upN_len]; done) | (simp [idxBy_len]; done) | (simp [marks_len]; done) | (simp at *; omega)), ⟨by omega, rfl, by simp, by simp⟩⟩
          · rintro ⟨k, d, Y, YA, YN, YC⟩ σ ⟨hlNY, ⟨hk1, hY, hYl1, hYl⟩⟩
            subst hlNY
            refine CJ.norm [_, _, _] rfl ?_
            refine CJ.seq ?_
            refine CJ.region ?_
            refine LJ.splitD rfl (Yd.lss rfl rfl) (fun h33 => ?_) (fun h33 => ?_)
            · refine LJ.nil ?_
              refine CJ.seq ?_
              refine CJ.condT rfl ?_
              refine CJ.skip ?_
              refine CJ.seq ?_
              refine CJ.block ?_
              refine CJ.seq ?_
              refine CJ.region ?_
              refine LJ.idxA rfl hl rfl rfl (by omega) (by first | rfl | omega | (simp; done) | (simp; omega) | (simp [upN_len]; omega) | (simp [idxBy_len]; omega) | (simp [marks_len]; omega) | (simp [upN_len]; done) | (simp [idxBy_len]; done) | (simp [marks_len]; done) | (simp at *; omega)) (fun ib34 io34 ia34 ir34 => ?_)
              refine LJ.lgA (enc := encQ) (fun u => [vI u.p.l, vI u.p.w, vI u.p.h, .slice u.a u.p.fl.length u.c]) (fun _ => rfl) (fun _ => rfl) ir34 rfl rfl rfl (by first | rfl | omega | (simp; done) | (simp; omega) | (simp [upN_len]; omega) | (simp [idxBy_len]; omega) | (simp [marks_len]; omega) | (simp [upN_len]; done) | (simp [idxBy_len]; done) | (simp [marks_len]; done) | (simp at *; omega)) (fun u35 hu35 => ?_)
              try simp only [Int.toNat_natCast] at hu35
              refine LJ.alloc ([_, _, _, _] : List Value) rfl rfl (fun b4 => ?_)
              refine LJ.store (v := .agg #[_, _, _, _]) (us := [_, _, _, _]) 3 rfl rfl rfl rfl rfl rfl rfl rfl ?_
              refine LJ.nil ?_
              refine CJ.seq ?_
              refine CJ.seq ?_
              refine CJ.region ?_
              refine LJ.split rfl (Yd.mvB rfl) (fun h36 => ?_) (fun h36 => ?_)
              · refine LJ.yd rfl (Yd.not rfl) ?_
                refine LJ.yd rfl (Yd.mvB rfl) ?_
                refine LJ.gF rfl rfl ?_
                refine LJ.gF rfl rfl ?_
                refine LJ.gF rfl rfl ?_
                refine LJ.gF rfl rfl ?_
                refine LJ.gF rfl rfl ?_
                refine LJ.yd rfl (Yd.pickFB rfl rfl) ?_
                refine LJ.nil ?_
                refine CJ.condF rfl ?_
                refine CJ.skip ?_
                refine CJ.region ?_
                refine LJ.yd rfl (Yd.mvS rfl) ?_
                refine LJ.yd rfl (Yd.loadG (us := [_, _, _, _]) 3 rfl rfl rfl rfl) ?_
                refine LJ.call0 rfl (fun k hk dk => copyPieceI_ok (p := u35.p) (RdRow.up (hx u35 (List.mem_of_getElem? hu35))) (hb u35 (List.mem_of_getElem? hu35))) ?_
                rintro _ _ ⟨xa52, xc52, rfl, rfl⟩
                refine LJ.norm [_, _, _, _, _] rfl ?_
                refine LJ.op rfl (OpR.buildSlice (cs := [_, _, _, _]) rfl rfl) ?_
                rintro _ _ ⟨b5, rfl, rfl⟩
                refine LJ.op rfl (OpR.apT (enc := encQ) [(⟨u35.p, xa52, xc52⟩ : Pc)] 1 5 rfl rfl rfl (by first | rfl | omega | (simp; done) | (simp; omega) | (simp [upN_len]; omega) | (simp [idxBy_len]; omega) | (simp [marks_len]; omega) | (simp [upN_len]; done) | (simp [idxBy_len]; done) | (simp [marks_len]; done) | (simp at *; omega)) rfl rfl rfl rfl rfl (by first | rfl | omega | (simp; done) | (simp; omega) | (simp [upN_len]; omega) | (simp [idxBy_len]; omega) | (simp [marks_len]; omega) | (simp [upN_len]; done) | (simp [idxBy_len]; done) | (simp [marks_len]; done) | (simp at *; omega))) ?_
                rintro _ _ ⟨ra54, rc54, rfl, rfl⟩
                refine LJ.norm [_, _, _, _, _, _] rfl ?_
                refine LJ.ent (Ent.pickFold [0, 1, 3, 5] [2, 4] [] rfl (fun _ s => INN.snoc (f := rowQ) (u := (⟨u35.p, xa52, xc52⟩ : Pc)) s)) ?_
                refine LJ.norm [_, _, _, _, _] rfl ?_
                refine LJ.yd rfl (Yd.asS rfl) ?_
                refine LJ.nil ?_
                refine CJ.region ?_
                refine LJ.yd rfl (Yd.add rfl rfl (by unfold I64; omega)) ?_
                refine LJ.yd rfl (Yd.mvI rfl) ?_
                refine LJ.nil ?_
                refine ⟨(k + 1, _, _, _, _, _), ?_, ⟨rfl, rfl, rfl, rfl, rfl, trivial⟩, ⟨rfl, rfl, rfl, trivial⟩, Ent.pick [0, 1, 4] [2, 3] rfl, ?_⟩
                · refine ⟨(by first | rfl | omega | (simp; done) | (simp; omega) | (simp [upN_len]; omega) | (simp [idxBy_len]; omega) | (simp [marks_len]; omega) | (simp [upN_len]; done) | (simp [idxBy_len]; done) | (simp [marks_len]; done) | (simp at *; omega)), ?_⟩
                  rw [dropP (by assumption : X[k]? = some u35)] at hY
                  refine ⟨by omega, ?_, fun hd => by first | (cases hd; done) | (have := hYl1 h36; simp; omega) | (rw [h36] at hd; cases hd; done), by first | (have := hYl1 h36; simp; omega) | (simp; omega)⟩
                  rw [← hY]
                  first
                    | (have hlt : p.l < u35.p.l := by assumption
                       rw [psX_snoc, psX_snoc]
                       simp only [rstL, addL, h36, if_pos hlt, Bool.false_eq_true, if_false, if_true, List.append_assoc, List.cons_append, List.nil_append]
                       done)
                    | (have hlt : ¬ p.l < u35.p.l := by assumption
                       rw [psX_snoc]
                       simp only [rstL, addL, h36, if_neg hlt, Bool.false_eq_true, if_false, if_true, List.append_assoc, List.cons_append, List.nil_append]
                       done)
                    | (rw [psX_snoc]
                       simp only [rstL, h36, if_true, List.append_assoc, List.cons_append, List.nil_append]
                       done)
                · first | omega | (dsimp only; omega) | (simp only []; omega)
              · refine LJ.yd rfl (Yd.not rfl) ?_
                refine LJ.yd rfl (Yd.mvB rfl) ?_
                refine LJ.gT rfl ?_
                refine LJ.yd rfl (Yd.fieldAddr rfl) ?_
                refine LJ.gT rfl ?_
                refine LJ.yd rfl (Yd.loadC 0 rfl rfl rfl) ?_
                refine LJ.gT rfl ?_
                refine LJ.yd rfl (Yd.fieldAddr rfl) ?_
                refine LJ.gT rfl ?_
                refine LJ.yd rfl (Yd.loadC 3 rfl rfl rfl) ?_
                refine LJ.gT rfl ?_
                refine LJ.splitD rfl (Yd.lss rfl rfl) (fun h43 => ?_) (fun h43 => ?_)
                · refine LJ.yd rfl (Yd.pickTB rfl rfl) ?_
                  refine LJ.nil ?_
                  refine CJ.condT rfl ?_
                  refine CJ.seq ?_
                  refine CJ.region ?_
                  refine LJ.yd rfl (Yd.mvS rfl) ?_
                  refine LJ.yd rfl (Yd.loadG (us := [_, _, _, _]) 0 rfl rfl rfl rfl) ?_
                  refine LJ.call0 rfl (fun k hk dk => copyPieceI_ok (p := p) hp.up hpn) ?_
                  rintro _ _ ⟨xa47, xc47, rfl, rfl⟩
                  refine LJ.norm [_, _, _, _, _] rfl ?_
                  refine LJ.op rfl (OpR.buildSlice (cs := [_, _, _, _]) rfl rfl) ?_
                  rintro _ _ ⟨b6, rfl, rfl⟩
                  refine LJ.op rfl (OpR.apT (enc := encQ) [(⟨p, xa47, xc47⟩ : Pc)] 1 5 rfl rfl rfl (by first | rfl | omega | (simp; done) | (simp; omega) | (simp [upN_len]; omega) | (simp [idxBy_len]; omega) | (simp [marks_len]; omega) | (simp [upN_len]; done) | (simp [idxBy_len]; done) | (simp [marks_len]; done) | (simp at *; omega)) rfl rfl rfl rfl rfl (by first | rfl | omega | (simp; done) | (simp; omega) | (simp [upN_len]; omega) | (simp [idxBy_len]; omega) | (simp [marks_len]; omega) | (simp [upN_len]; done) | (simp [idxBy_len]; done) | (simp [marks_len]; done) | (simp at *; omega))) ?_
                  rintro _ _ ⟨ra49, rc49, rfl, rfl⟩
                  refine LJ.norm [_, _, _, _, _, _] rfl ?_
                  refine LJ.ent (Ent.pickFold [0, 1, 3, 5] [2, 4] [] rfl (fun _ s => INN.snoc (f := rowQ) (u := (⟨p, xa47, xc47⟩ : Pc)) s)) ?_
                  refine LJ.norm [_, _, _, _, _] rfl ?_
                  refine LJ.yd rfl (Yd.asS rfl) ?_
                  refine LJ.nil ?_
                  refine CJ.region ?_
                  refine LJ.yd rfl (Yd.asB rfl) ?_
                  refine LJ.nil ?_
                  refine CJ.region ?_
                  refine LJ.yd rfl (Yd.mvS rfl) ?_
                  refine LJ.yd rfl (Yd.loadG (us := [_, _, _, _]) 2 rfl rfl rfl rfl) ?_
                  refine LJ.call0 rfl (fun k hk dk => copyPieceI_ok (p := u35.p) (RdRow.up (hx u35 (List.mem_of_getElem? hu35))) (hb u35 (List.mem_of_getElem? hu35))) ?_
                  rintro _ _ ⟨xa52, xc52, rfl, rfl⟩
                  refine LJ.norm [_, _, _, _, _, _] rfl ?_
                  refine LJ.op rfl (OpR.buildSlice (cs := [_, _, _, _]) rfl rfl) ?_
                  rintro _ _ ⟨b7, rfl, rfl⟩
                  refine LJ.op rfl (OpR.apT (enc := encQ) [(⟨u35.p, xa52, xc52⟩ : Pc)] 1 6 rfl rfl rfl (by first | rfl | omega | (simp; done) | (simp; omega) | (simp [upN_len]; omega) | (simp [idxBy_len]; omega) | (simp [marks_len]; omega) | (simp [upN_len]; done) | (simp [idxBy_len]; done) | (simp [marks_len]; done) | (simp at *; omega)) rfl rfl rfl rfl rfl (by first | rfl | omega | (simp; done) | (simp; omega) | (simp [upN_len]; omega) | (simp [idxBy_len]; omega) | (simp [marks_len]; omega) | (simp [upN_len]; done) | (simp [idxBy_len]; done) | (simp [marks_len]; done) | (simp at *; omega))) ?_
                  rintro _ _ ⟨ra54, rc54, rfl, rfl⟩
                  refine LJ.norm [_, _, _, _, _, _, _] rfl ?_
                  refine LJ.ent (Ent.pickFold [0, 1, 2, 3, 6] [4, 5] [] rfl (fun _ s => INN.snoc (f := rowQ) (u := (⟨u35.p, xa52, xc52⟩ : Pc)) s)) ?_
                  refine LJ.norm [_, _, _, _, _, _] rfl ?_
                  refine LJ.yd rfl (Yd.asS rfl) ?_
                  refine LJ.nil ?_
                  refine CJ.region ?_
                  refine LJ.yd rfl (Yd.add rfl rfl (by unfold I64; omega)) ?_
                  refine LJ.yd rfl (Yd.mvI rfl) ?_
                  refine LJ.nil ?_
                  refine ⟨(k + 1, _, _, _, _, _), ?_, ⟨rfl, rfl, rfl, rfl, rfl, trivial⟩, ⟨rfl, rfl, rfl, trivial⟩, Ent.pick [0, 1, 5] [2, 3, 4] rfl, ?_⟩
                  · refine ⟨(by first | rfl | omega | (simp; done) | (simp; omega) | (simp [upN_len]; omega) | (simp [idxBy_len]; omega) | (simp [marks_len]; omega) | (simp [upN_len]; done) | (simp [idxBy_len]; done) | (simp [marks_len]; done) | (simp at *; omega)), ?_⟩
                    rw [dropP (by assumption : X[k]? = some u35)] at hY
                    refine ⟨by omega, ?_, fun hd => by first | (cases hd; done) | (have := hYl1 h36; simp; omega) | (rw [h36] at hd; cases hd; done), by first | (have := hYl1 h36; simp; omega) | (simp; omega)⟩
                    rw [← hY]
                    first
                      | (have hlt : p.l < u35.p.l := by assumption
                         rw [psX_snoc, psX_snoc]
                         simp only [rstL, addL, h36, if_pos hlt, Bool.false_eq_true, if_false, if_true, List.append_assoc, List.cons_append, List.nil_append]
                         done)
                      | (have hlt : ¬ p.l < u35.p.l := by assumption
                         rw [psX_snoc]
                         simp only [rstL, addL, h36, if_neg hlt, Bool.false_eq_true, if_false, if_true, List.append_assoc, List.cons_append, List.nil_append]
                         done)
                      | (rw [psX_snoc]
                         simp only [rstL, h36, if_true, List.append_assoc, List.cons_append, List.nil_append]
                         done)
                  · first | omega | (dsimp only; omega) | (simp only []; omega)
                · refine LJ.yd rfl (Yd.pickTB rfl rfl) ?_
                  refine LJ.nil ?_
                  refine CJ.condF rfl ?_
                  refine CJ.skip ?_
                  refine CJ.region ?_
                  refine LJ.yd rfl (Yd.mvS rfl) ?_
                  refine LJ.yd rfl (Yd.loadG (us := [_, _, _, _]) 3 rfl rfl rfl rfl) ?_
                  refine LJ.call0 rfl (fun k hk dk => copyPieceI_ok (p := u35.p) (RdRow.up (hx u35 (List.mem_of_getElem? hu35))) (hb u35 (List.mem_of_getElem? hu35))) ?_
                  rintro _ _ ⟨xa52, xc52, rfl, rfl⟩
                  refine LJ.norm [_, _, _, _, _] rfl ?_
                  refine LJ.op rfl (OpR.buildSlice (cs := [_, _, _, _]) rfl rfl) ?_
                  rintro _ _ ⟨b8, rfl, rfl⟩
                  refine LJ.op rfl (OpR.apT (enc := encQ) [(⟨u35.p, xa52, xc52⟩ : Pc)] 1 5 rfl rfl rfl (by first | rfl | omega | (simp; done) | (simp; omega) | (simp [upN_len]; omega) | (simp [idxBy_len]; omega) | (simp [marks_len]; omega) | (simp [upN_len]; done) | (simp [idxBy_len]; done) | (simp [marks_len]; done) | (simp at *; omega)) rfl rfl rfl rfl rfl (by first | rfl | omega | (simp; done) | (simp; omega) | (simp [upN_len]; omega) | (simp [idxBy_len]; omega) | (simp [marks_len]; omega) | (simp [upN_len]; done) | (simp [idxBy_len]; done) | (simp [marks_len]; done) | (simp at *; omega))) ?_
                  rintro _ _ ⟨ra54, rc54, rfl, rfl⟩
                  refine LJ.norm [_, _, _, _, _, _] rfl ?_
                  refine LJ.ent (Ent.pickFold [0, 1, 3, 5] [2, 4] [] rfl (fun _ s => INN.snoc (f := rowQ) (u := (⟨u35.p, xa52, xc52⟩ : Pc)) s)) ?_
                  refine LJ.norm [_, _, _, _, _] rfl ?_
                  refine LJ.yd rfl (Yd.asS rfl) ?_
                  refine LJ.nil ?_
                  refine CJ.region ?_
                  refine LJ.yd rfl (Yd.add rfl rfl (by unfold I64; omega)) ?_
                  refine LJ.yd rfl (Yd.mvI rfl) ?_
                  refine LJ.nil ?_
                  refine ⟨(k + 1, _, _, _, _, _), ?_, ⟨rfl, rfl, rfl, rfl, rfl, trivial⟩, ⟨rfl, rfl, rfl, trivial⟩, Ent.pick [0, 1, 4] [2, 3] rfl, ?_⟩
                  · refine ⟨(by first | rfl | omega | (simp; done) | (simp; omega) | (simp [upN_len]; omega) | (simp [idxBy_len]; omega) | (simp [marks_len]; omega) | (simp [upN_len]; done) | (simp [idxBy_len]; done) | (simp [marks_len]; done) | (simp at *; omega)), ?_⟩
                    rw [dropP (by assumption : X[k]? = some u35)] at hY
                    refine ⟨by omega, ?_, fun hd => by first | (cases hd; done) | (have := hYl1 h36; simp; omega) | (rw [h36] at hd; cases hd; done), by first | (have := hYl1 h36; simp; omega) | (simp; omega)⟩
                    rw [← hY]
                    first
                      | (have hlt : p.l < u35.p.l := by assumption
                         rw [psX_snoc, psX_snoc]
                         simp only [rstL, addL, h36, if_pos hlt, Bool.false_eq_true, if_false, if_true, List.append_assoc, List.cons_append, List.nil_append]
                         done)
                      | (have hlt : ¬ p.l < u35.p.l := by assumption
                         rw [psX_snoc]
                         simp only [rstL, addL, h36, if_neg hlt, Bool.false_eq_true, if_false, if_true, List.append_assoc, List.cons_append, List.nil_append]
                         done)
                      | (rw [psX_snoc]
                         simp only [rstL, h36, if_true, List.append_assoc, List.cons_append, List.nil_append]
                         done)
                  · first | omega | (dsimp only; omega) | (simp only []; omega)
            · refine LJ.nil ?_
              refine CJ.seq ?_
              refine CJ.condF rfl ?_
              refine CJ.exit ?_
              refine CJ.seq ?_
              refine CJ.seq ?_
              refine CJ.region ?_
              refine LJ.split rfl (Yd.mvB rfl) (fun h56 => ?_) (fun h56 => ?_)
              · refine LJ.yd rfl (Yd.not rfl) ?_
                refine LJ.nil ?_
                refine CJ.condF rfl ?_
                refine CJ.skip ?_
                refine CJ.seq ?_
                refine CJ.region ?_
                refine LJ.yd rfl (Yd.mvS rfl) ?_
                refine LJ.yd rfl (Yd.asS rfl) ?_
                refine LJ.yd rfl (Yd.asB rfl) ?_
                refine LJ.nil ?_
                refine CJ.ret ?_
                unfold AddO
                rw [hB]
                exact Fin.R [_, _] (Res.two (ResV.tmp (v := .slice _ _ _) rfl) (ResV.tmp (v := .bool true) rfl)) ⟨_, _, _, rfl, rfl, by rw [addR, if_pos hB]; rw [dropP_end (by omega)] at hY; rw [← hY]; first | (simp only [psX_snoc, rstL, addL, h56, Bool.false_eq_true, if_false]; done) | (simp only [rstL, h56, if_true, List.append_nil]; done)⟩ (Ent.pick [1, 2] [0] rfl)
              · refine LJ.yd rfl (Yd.not rfl) ?_
                refine LJ.nil ?_
                refine CJ.condT rfl ?_
                refine CJ.region ?_
                refine LJ.yd rfl (Yd.mvS rfl) ?_
                refine LJ.yd rfl (Yd.loadG (us := [_, _, _, _]) 0 rfl rfl rfl rfl) ?_
                refine LJ.call0 rfl (fun k hk dk => copyPieceI_ok (p := p) hp.up hpn) ?_
                rintro _ _ ⟨xa60, xc60, rfl, rfl⟩
                refine LJ.norm [_, _, _, _] rfl ?_
                refine LJ.op rfl (OpR.buildSlice (cs := [_, _, _, _]) rfl rfl) ?_
                rintro _ _ ⟨b9, rfl, rfl⟩
                refine LJ.op rfl (OpR.apT (enc := encQ) [(⟨p, xa60, xc60⟩ : Pc)] 1 4 rfl rfl rfl (by first | rfl | omega | (simp; done) | (simp; omega) | (simp [upN_len]; omega) | (simp [idxBy_len]; omega) | (simp [marks_len]; omega) | (simp [upN_len]; done) | (simp [idxBy_len]; done) | (simp [marks_len]; done) | (simp at *; omega)) rfl rfl rfl rfl rfl (by first | rfl | omega | (simp; done) | (simp; omega) | (simp [upN_len]; omega) | (simp [idxBy_len]; omega) | (simp [marks_len]; omega) | (simp [upN_len]; done) | (simp [idxBy_len]; done) | (simp [marks_len]; done) | (simp at *; omega))) ?_
                rintro _ _ ⟨ra62, rc62, rfl, rfl⟩
                refine LJ.norm [_, _, _, _, _] rfl ?_
                refine LJ.ent (Ent.pickFold [0, 1, 4] [2, 3] [] rfl (fun _ s => INN.snoc (f := rowQ) (u := (⟨p, xa60, xc60⟩ : Pc)) s)) ?_
                refine LJ.norm [_, _, _, _] rfl ?_
                refine LJ.yd rfl (Yd.asS rfl) ?_
                refine LJ.nil ?_
                refine CJ.seq ?_
                refine CJ.region ?_
                refine LJ.yd rfl (Yd.mvS rfl) ?_
                refine LJ.yd rfl (Yd.asS rfl) ?_
                refine LJ.yd rfl (Yd.asB rfl) ?_
                refine LJ.nil ?_
                refine CJ.ret ?_
                unfold AddO
                rw [hB]
                exact Fin.R [_, _] (Res.two (ResV.tmp (v := .slice _ _ _) rfl) (ResV.tmp (v := .bool true) rfl)) ⟨_, _, _, rfl, rfl, by rw [addR, if_pos hB]; rw [dropP_end (by omega)] at hY; rw [← hY]; first | (simp only [psX_snoc, rstL, addL, h56, Bool.false_eq_true, if_false]; done) | (simp only [rstL, h56, if_true, List.append_nil]; done)⟩ (Ent.pick [1, 3] [0, 2] rfl)
    · refine LJ.gT rfl ?_
      refine LJ.yd rfl (Yd.not rfl) ?_
      refine LJ.yd rfl (Yd.pickFB rfl rfl) ?_
      refine LJ.yd rfl (Yd.mvB rfl) ?_
      refine LJ.gF rfl rfl ?_
      refine LJ.gF rfl rfl ?_
      refine LJ.gF rfl rfl ?_
      refine LJ.yd rfl (Yd.pickTB rfl rfl) ?_
      refine LJ.yd rfl (Yd.mvB rfl) ?_
      refine LJ.gF rfl rfl ?_
      refine LJ.gF rfl rfl ?_
      refine LJ.gF rfl rfl ?_
      refine LJ.gF rfl rfl ?_
      refine LJ.gF rfl rfl ?_
      refine LJ.yd rfl (Yd.pickTB rfl rfl) ?_
      refine LJ.nil ?_
      refine CJ.condT rfl ?_
      refine CJ.seq ?_
      refine CJ.region ?_
      refine LJ.yd rfl (Yd.asS rfl) ?_
      refine LJ.yd rfl (Yd.asB rfl) ?_
      refine LJ.nil ?_
      refine CJ.ret ?_
      have hB : ¬ addB (psX X) p = true := by
        intro h
        obtain ⟨q1, q2, q3, q4⟩ := addB_iff.1 h
        rw [List.length_map] at q3
        first
          | omega
          | (rw [h11] at q1; cases q1; done)
          | (rw [h15] at q2; cases q2; done)
      obtain ⟨e1, e2⟩ := add_F hB
      unfold AddO
      rw [e1, e2]
      exact Fin.R [_, _] (Res.two (ResV.tmp (v := .slice _ _ _) rfl) (ResV.tmp (v := .bool false) rfl)) ⟨[], none, 0, rfl, rfl, rfl⟩ (Ent.thn (Ent.thn (Ent.pick [] [0] rfl) (Ent.addLR (α := Pc) encQ 31 4)) (INN.ent _))
  · refine LJ.yd rfl (Yd.not rfl) ?_
    refine LJ.yd rfl (Yd.mvB rfl) ?_
    refine LJ.gF rfl rfl ?_
    refine LJ.gF rfl rfl ?_
    refine LJ.gF rfl rfl ?_
    refine LJ.yd rfl (Yd.pickTB rfl rfl) ?_
    refine LJ.yd rfl (Yd.mvB rfl) ?_
    refine LJ.gF rfl rfl ?_
    refine LJ.gF rfl rfl ?_
    refine LJ.gF rfl rfl ?_
    refine LJ.yd rfl (Yd.pickTB rfl rfl) ?_
    refine LJ.yd rfl (Yd.mvB rfl) ?_
    refine LJ.gF rfl rfl ?_
    refine LJ.gF rfl rfl ?_
    refine LJ.gF rfl rfl ?_
    refine LJ.gF rfl rfl ?_
    refine LJ.gF rfl rfl ?_
    refine LJ.yd rfl (Yd.pickTB rfl rfl) ?_
    refine LJ.nil ?_
    refine CJ.condT rfl ?_
    refine CJ.seq ?_
    refine CJ.region ?_
    refine LJ.yd rfl (Yd.asS rfl) ?_
    refine LJ.yd rfl (Yd.asB rfl) ?_
    refine LJ.nil ?_
    refine CJ.ret ?_
    have hB : ¬ addB (psX X) p = true := by
      intro h
      obtain ⟨q1, q2, q3, q4⟩ := addB_iff.1 h
      rw [List.length_map] at q3
      first
        | omega
        | (rw [h11] at q1; cases q1; done)
        | (rw [h15] at q2; cases q2; done)
    obtain ⟨e1, e2⟩ := add_F hB
    unfold AddO
    rw [e1, e2]
    exact Fin.R [_, _] (Res.two (ResV.tmp (v := .slice _ _ _) rfl) (ResV.tmp (v := .bool false) rfl)) ⟨[], none, 0, rfl, rfl, rfl⟩ (Ent.thn (Ent.thn (Ent.pick [] [0] rfl) (Ent.addLR (α := Pc) encQ 31 4)) (INN.ent _))
end Go.Proofs.Ytnfnidplhkfamaa
