/-
  Contracts: pieces of glass and stocks.
-/
import Derived.Test.YtnfnidplhkfamaaPC1
namespace Go.Proofs.Ytnfnidplhkfamaa
open Go
set_option maxRecDepth 20000
set_option maxHeartbeats 1000000

/-- a piece of glass -/
structure Piece where
  l : Int
  w : Int
  h : Int
  fl : List Box
/-- a piece, and where its flaws lie -/
structure Pc where
  p : Piece
  a : Option Addr
  c : Nat
abbrev encQ (u : Pc) : List Value := [vI u.p.l, vI u.p.w, vI u.p.h, .slice u.a u.p.fl.length u.c]
abbrev rowQ (u : Pc) : HProp := LR Box.enc 33 4 u.a u.c u.p.fl
abbrev Fls (h : Hp) (X : List Pc) : Prop := ∀ u ∈ X, RdL Box.enc 4 h (.slice u.a u.p.fl.length u.c) u.p.fl
abbrev glB (p : Piece) : Box := ⟨0, 0, p.w, p.h⟩
def pcOk (p : Piece) : Bool := decide (1 ≤ p.l) && (decide (p.l ≤ 9999) && (bOk (glB p) && (decide (p.fl.length ≤ 6) && p.fl.all fun f => insB f (glB p))))
theorem pcOk_iff {p : Piece} : pcOk p = true ↔ 1 ≤ p.l ∧ p.l ≤ 9999 ∧ (1 ≤ p.w ∧ p.w ≤ 200 ∧ 1 ≤ p.h ∧ p.h ≤ 200) ∧ p.fl.length ≤ 6 ∧ ∀ f ∈ p.fl, bOk f = true ∧ f.inG p.w p.h := by
  simp only [pcOk, Bool.and_eq_true, decide_eq_true_eq, List.all_eq_true, bOk_iff, insB, inR_iff]
  constructor
  · rintro ⟨h1, h2, h3, h4, h5⟩
    refine ⟨h1, h2, by omega, h4, fun f hf => ?_⟩
    obtain ⟨h6, h7, h8⟩ := h5 f hf
    exact ⟨h6, by omega, by omega, by omega, by omega, by omega, by omega⟩
  · rintro ⟨h1, h2, h3, h4, h5⟩
    refine ⟨h1, h2, by omega, h4, fun f hf => ?_⟩
    obtain ⟨h6, h7, h8, h9, h10, h11, h12⟩ := h5 f hf
    exact ⟨h6, by omega, by omega, by omega, by omega, by omega⟩
theorem pieceBox_ok (A : Amb) (l w h : Int) (v : Value) : Ctr Try.prog 60 #[.agg #[vI l, vI w, vI h, v]] A [] (Val (.agg #[vI 0, vI 0, vI w, vI h])) := by
  refine Ctr.body (args := [_]) Try.func60 rfl Try.ntmps60 Try.results60 (by simp) ?_
  refine CJ.seq ?_
  refine CJ.region ?_
  refine LJ.boxG (vs := [_, _, _, _]) rfl rfl (fun b1 => ?_)
  refine LJ.alloc ([_, _, _, _] : List Value) rfl rfl (fun b2 => ?_)
  refine LJ.nil ?_
  refine CJ.seq ?_
  refine CJ.region ?_
  refine LJ.yd rfl (Yd.fieldAddr rfl) ?_
  refine LJ.yd rfl (Yd.loadC 0 rfl rfl rfl) ?_
  refine LJ.yd rfl (Yd.fieldAddr rfl) ?_
  refine LJ.yd rfl (Yd.loadC 0 rfl rfl rfl) ?_
  refine LJ.yd rfl (Yd.build (cs := [_, _, _, _]) rfl) ?_
  refine LJ.store (v := .agg #[_, _, _, _]) (us := [_, _, _, _]) 1 rfl rfl rfl rfl rfl rfl rfl rfl ?_
  refine LJ.nil ?_
  refine CJ.ret ?_
  refine Fin.V (Res.one (ResV.cell (us := [_, _, _, _]) 1 rfl rfl rfl rfl)) ?_
  rfl
theorem ValidPieceI_ok {A : Amb} {p : Piece} {v : Value} (hf : RdL Box.enc 4 A.h v p.fl) : Ctr Try.prog 31 #[.agg #[vI p.l, vI p.w, vI p.h, v]] A [] (Val (.bool (pcOk p))) := by
  obtain ⟨fa, fc, rfl, hfb, hf⟩ := hf.un
  refine Ctr.body (args := [_]) Try.func31 rfl Try.ntmps31 Try.results31 (by simp) ?_
  refine CJ.seq ?_
  refine CJ.region ?_
  refine LJ.boxG (vs := [_, _, _, _]) rfl rfl (fun b1 => ?_)
  refine LJ.yd rfl (Yd.asB rfl) ?_
  refine LJ.nil ?_
  refine CJ.seq ?_
  refine CJ.seq ?_
  refine CJ.region ?_
  refine LJ.yd rfl (Yd.fieldAddr rfl) ?_
  refine LJ.yd rfl (Yd.loadC 0 rfl rfl rfl) ?_
  refine LJ.splitD rfl (Yd.lss rfl rfl) (fun h7 => ?_) (fun h7 => ?_)
  · refine LJ.yd rfl (Yd.mvB rfl) ?_
    refine LJ.gF rfl rfl ?_
    refine LJ.gF rfl rfl ?_
    refine LJ.gF rfl rfl ?_
    refine LJ.yd rfl (Yd.pickTB rfl rfl) ?_
    refine LJ.yd rfl (Yd.mvB rfl) ?_
    refine LJ.gF rfl rfl ?_
    refine LJ.gF rfl rfl ?_
    refine LJ.gF rfl rfl ?_
    refine LJ.gF rfl rfl ?_
    refine LJ.yd rfl (Yd.pickTB rfl rfl) ?_
    refine LJ.yd rfl (Yd.mvB rfl) ?_
    refine LJ.gF rfl rfl ?_
    refine LJ.gF rfl rfl ?_
    refine LJ.gF rfl rfl ?_
    refine LJ.gF rfl rfl ?_
    refine LJ.yd rfl (Yd.pickTB rfl rfl) ?_
    refine LJ.nil ?_
    refine CJ.condT rfl ?_
    refine CJ.seq ?_
    refine CJ.region ?_
    refine LJ.yd rfl (Yd.asB rfl) ?_
    refine LJ.nil ?_
    refine CJ.ret ?_
    refine Fin.V (Res.one (ResV.tmp (v := .bool false) rfl)) ?_
    refine congrArg Value.bool ?_
    first
      | (refine Eq.symm (Bool.eq_false_iff.2 fun h => ?_)
         simp only [pcOk, Bool.and_eq_true, decide_eq_true_eq, List.all_eq_true] at h
         obtain ⟨q1, q2, q3, q4, q5⟩ := h
         first
           | omega
           | (rw [h16] at q3; cases q3; done)
           | (have := q5 u31 (List.mem_of_getElem? hu31); rw [h35] at this; cases this; done))
      | (rw [List.take_of_length_le (by omega)] at hi1
         refine Eq.symm ?_
         simp only [pcOk, Bool.and_eq_true, decide_eq_true_eq, List.all_eq_true]
         exact ⟨by omega, by omega, h16, by omega, hi1⟩)
  · refine LJ.yd rfl (Yd.mvB rfl) ?_
    refine LJ.gT rfl ?_
    refine LJ.yd rfl (Yd.fieldAddr rfl) ?_
    refine LJ.gT rfl ?_
    refine LJ.yd rfl (Yd.loadC 0 rfl rfl rfl) ?_
    refine LJ.gT rfl ?_
    refine LJ.splitD rfl (Yd.gtr rfl rfl) (fun h11 => ?_) (fun h11 => ?_)
    · refine LJ.yd rfl (Yd.pickFB rfl rfl) ?_
      refine LJ.yd rfl (Yd.mvB rfl) ?_
      refine LJ.gF rfl rfl ?_
      refine LJ.gF rfl rfl ?_
      refine LJ.gF rfl rfl ?_
      refine LJ.gF rfl rfl ?_
      refine LJ.yd rfl (Yd.pickTB rfl rfl) ?_
      refine LJ.yd rfl (Yd.mvB rfl) ?_
      refine LJ.gF rfl rfl ?_
      refine LJ.gF rfl rfl ?_
      refine LJ.gF rfl rfl ?_
      refine LJ.gF rfl rfl ?_
      refine LJ.yd rfl (Yd.pickTB rfl rfl) ?_
      refine LJ.nil ?_
      refine CJ.condT rfl ?_
      refine CJ.seq ?_
      refine CJ.region ?_
      refine LJ.yd rfl (Yd.asB rfl) ?_
      refine LJ.nil ?_
      refine CJ.ret ?_
      refine Fin.V (Res.one (ResV.tmp (v := .bool false) rfl)) ?_
      refine congrArg Value.bool ?_
      first
        | (refine Eq.symm (Bool.eq_false_iff.2 fun h => ?_)
           simp only [pcOk, Bool.and_eq_true, decide_eq_true_eq, List.all_eq_true] at h
           obtain ⟨q1, q2, q3, q4, q5⟩ := h
           first
             | omega
             | (rw [h16] at q3; cases q3; done)
             | (have := q5 u31 (List.mem_of_getElem? hu31); rw [h35] at this; cases this; done))
        | (rw [List.take_of_length_le (by omega)] at hi1
           refine Eq.symm ?_
           simp only [pcOk, Bool.and_eq_true, decide_eq_true_eq, List.all_eq_true]
           exact ⟨by omega, by omega, h16, by omega, hi1⟩)
    · refine LJ.yd rfl (Yd.pickFB rfl rfl) ?_
      refine LJ.yd rfl (Yd.mvB rfl) ?_
      refine LJ.gT rfl ?_
      refine LJ.yd rfl (Yd.loadG (us := [_, _, _, _]) 0 rfl rfl rfl rfl) ?_
      refine LJ.gT rfl ?_
      refine LJ.callV rfl (fun k hk dk => pieceBox_ok _ _ _ _ _) ?_
      refine LJ.gT rfl ?_
      refine LJ.callB rfl (fun k hk dk => ValidBoxI_ok _ (glB p)) (fun h16 => ?_) (fun h16 => ?_)
      · refine LJ.gT rfl ?_
        refine LJ.yd rfl (Yd.not rfl) ?_
        refine LJ.yd rfl (Yd.pickFB rfl rfl) ?_
        refine LJ.yd rfl (Yd.mvB rfl) ?_
        refine LJ.gT rfl ?_
        refine LJ.yd rfl (Yd.fieldAddr rfl) ?_
        refine LJ.gT rfl ?_
        refine LJ.yd rfl (Yd.loadC 0 rfl rfl rfl) ?_
        refine LJ.gT rfl ?_
        refine LJ.yd rfl (Yd.len rfl) ?_
        refine LJ.gT rfl ?_
        refine LJ.splitD rfl (Yd.gtr rfl rfl) (fun h23 => ?_) (fun h23 => ?_)
        · refine LJ.yd rfl (Yd.pickFB rfl rfl) ?_
          refine LJ.nil ?_
          refine CJ.condT rfl ?_
          refine CJ.seq ?_
          refine CJ.region ?_
          refine LJ.yd rfl (Yd.asB rfl) ?_
          refine LJ.nil ?_
          refine CJ.ret ?_
          refine Fin.V (Res.one (ResV.tmp (v := .bool false) rfl)) ?_
          refine congrArg Value.bool ?_
          first
            | (refine Eq.symm (Bool.eq_false_iff.2 fun h => ?_)
               simp only [pcOk, Bool.and_eq_true, decide_eq_true_eq, List.all_eq_true] at h
               obtain ⟨q1, q2, q3, q4, q5⟩ := h
               first
                 | omega
                 | (rw [h16] at q3; cases q3; done)
                 | (have := q5 u31 (List.mem_of_getElem? hu31); rw [h35] at this; cases this; done))
            | (rw [List.take_of_length_le (by omega)] at hi1
               refine Eq.symm ?_
               simp only [pcOk, Bool.and_eq_true, decide_eq_true_eq, List.all_eq_true]
               exact ⟨by omega, by omega, h16, by omega, hi1⟩)
        · refine LJ.yd rfl (Yd.pickFB rfl rfl) ?_
          refine LJ.nil ?_
          refine CJ.condF rfl ?_
          refine CJ.skip ?_
          refine CJ.seq ?_
          refine CJ.seq ?_
          refine CJ.region ?_
          refine LJ.yd rfl (Yd.fieldAddr rfl) ?_
          refine LJ.yd rfl (Yd.loadC 0 rfl rfl rfl) ?_
          refine LJ.yd rfl (Yd.len rfl) ?_
          refine LJ.yd rfl (Yd.mvI rfl) ?_
          refine LJ.nil ?_
          refine CJ.block ?_
          refine CJ.loopK [1, 26, 27] Nat (fun k => k ≤ p.fl.length ∧ ∀ f ∈ p.fl.take k, insB f (glB p) = true) (fun k => [(28, vI k)]) (fun k => p.fl.length - k) (0) ?_ ⟨rfl, trivial⟩ ?_
          · exact ⟨by omega, by simp⟩
          · rintro k σ ⟨hk1, hi1⟩
            refine CJ.seq ?_
            refine CJ.region ?_
            refine LJ.splitD rfl (Yd.lss rfl rfl) (fun h29 => ?_) (fun h29 => ?_)
            · refine LJ.nil ?_
              refine CJ.seq ?_
              refine CJ.condT rfl ?_
              refine CJ.skip ?_
              refine CJ.seq ?_
              refine CJ.block ?_
              refine CJ.seq ?_
              refine CJ.region ?_
              refine LJ.idxA rfl hf rfl rfl (by omega) (by first | rfl | omega | (simp; done) | (simp; omega) | (simp [upN_len]; omega) | (simp [idxBy_len]; omega) | (simp [marks_len]; omega) | (simp [upN_len]; done) | (simp [idxBy_len]; done) | (simp [marks_len]; done) | (simp at *; omega)) (fun ib30 io30 ia30 ir30 => ?_)
              refine LJ.lgA (enc := Box.enc) (fun u => [vI u.X, vI u.Y, vI u.W, vI u.H]) (fun _ => rfl) (fun _ => rfl) ir30 rfl rfl rfl (by first | rfl | omega | (simp; done) | (simp; omega) | (simp [upN_len]; omega) | (simp [idxBy_len]; omega) | (simp [marks_len]; omega) | (simp [upN_len]; done) | (simp [idxBy_len]; done) | (simp [marks_len]; done) | (simp at *; omega)) (fun u31 hu31 => ?_)
              try simp only [Int.toNat_natCast] at hu31
              refine LJ.alloc ([_, _, _, _] : List Value) rfl rfl (fun b2 => ?_)
              refine LJ.store (v := .agg #[_, _, _, _]) (us := [_, _, _, _]) 1 rfl rfl rfl rfl rfl rfl rfl rfl ?_
              refine LJ.nil ?_
              refine CJ.seq ?_
              refine CJ.regionD [0, 1] [] (by kernel_rfl) rfl ?_
              refine DJ.norm [_, _] [] rfl rfl ?_
              refine DJ.yd 0 rfl (by kernel_rfl) (by kernel_rfl) (by kernel_rfl) rfl rfl (Yd.loadG (us := [_, _, _, _]) 1 rfl rfl rfl rfl) ?_
              refine DJ.yd 1 rfl (by kernel_rfl) (by kernel_rfl) (by kernel_rfl) rfl rfl (Yd.loadG (us := [_, _, _, _]) 0 rfl rfl rfl rfl) ?_
              refine DJ.one (i := 2) (by kernel_rfl) ?_
              refine DO.callV rfl rfl rfl (fun k0 hk0 dk0 k hk dk => pieceBox_ok _ _ _ _ _) ?_
              refine DJ.one (i := 3) (by kernel_rfl) ?_
              refine DO.callB rfl rfl rfl (fun k0 hk0 dk0 k hk dk => InsideOfI_ok _ u31 (glB p)) (fun h35 => ?_) (fun h35 => ?_)
              · refine DJ.yd 4 rfl (by kernel_rfl) (by kernel_rfl) (by kernel_rfl) rfl rfl (Yd.not rfl) ?_
                refine DJ.done (by kernel_rfl) ?_
                refine CJ.condF rfl ?_
                refine CJ.skip ?_
                refine CJ.region ?_
                refine LJ.yd rfl (Yd.add rfl rfl (by unfold I64; omega)) ?_
                refine LJ.yd rfl (Yd.mvI rfl) ?_
                refine LJ.nil ?_
                refine ⟨(k + 1), ?_, ⟨rfl, rfl, rfl, trivial⟩, ⟨rfl, trivial⟩, Ent.pick [0] [1] rfl, ?_⟩
                · refine ⟨by omega, ?_⟩
                  intro f hf'
                  rw [takeC hu31, List.mem_append, List.mem_singleton] at hf'
                  rcases hf' with hf' | rfl
                  · exact hi1 f hf'
                  · exact h35
                · first | omega | (dsimp only; omega) | (simp only []; omega)
              · refine DJ.yd 4 rfl (by kernel_rfl) (by kernel_rfl) (by kernel_rfl) rfl rfl (Yd.not rfl) ?_
                refine DJ.done (by kernel_rfl) ?_
                refine CJ.condT rfl ?_
                refine CJ.seq ?_
                refine CJ.region ?_
                refine LJ.yd rfl (Yd.asB rfl) ?_
                refine LJ.nil ?_
                refine CJ.ret ?_
                refine Fin.V (Res.one (ResV.tmp (v := .bool false) rfl)) ?_
                refine congrArg Value.bool ?_
                first
                  | (refine Eq.symm (Bool.eq_false_iff.2 fun h => ?_)
                     simp only [pcOk, Bool.and_eq_true, decide_eq_true_eq, List.all_eq_true] at h
                     obtain ⟨q1, q2, q3, q4, q5⟩ := h
                     first
                       | omega
                       | (rw [h16] at q3; cases q3; done)
                       | (have := q5 u31 (List.mem_of_getElem? hu31); rw [h35] at this; cases this; done))
                  | (rw [List.take_of_length_le (by omega)] at hi1
                     refine Eq.symm ?_
                     simp only [pcOk, Bool.and_eq_true, decide_eq_true_eq, List.all_eq_true]
                     exact ⟨by omega, by omega, h16, by omega, hi1⟩)
            · refine LJ.nil ?_
              refine CJ.seq ?_
              refine CJ.condF rfl ?_
              refine CJ.exit ?_
              refine CJ.seq ?_
              refine CJ.region ?_
              refine LJ.yd rfl (Yd.asB rfl) ?_
              refine LJ.nil ?_
              refine CJ.ret ?_
              refine Fin.V (Res.one (ResV.tmp (v := .bool true) rfl)) ?_
              refine congrArg Value.bool ?_
              first
                | (refine Eq.symm (Bool.eq_false_iff.2 fun h => ?_)
                   simp only [pcOk, Bool.and_eq_true, decide_eq_true_eq, List.all_eq_true] at h
                   obtain ⟨q1, q2, q3, q4, q5⟩ := h
                   first
                     | omega
                     | (rw [h16] at q3; cases q3; done)
                     | (have := q5 u31 (List.mem_of_getElem? hu31); rw [h35] at this; cases this; done))
                | (rw [List.take_of_length_le (by omega)] at hi1
                   refine Eq.symm ?_
                   simp only [pcOk, Bool.and_eq_true, decide_eq_true_eq, List.all_eq_true]
                   exact ⟨by omega, by omega, h16, by omega, hi1⟩)
      · refine LJ.gT rfl ?_
        refine LJ.yd rfl (Yd.not rfl) ?_
        refine LJ.yd rfl (Yd.pickFB rfl rfl) ?_
        refine LJ.yd rfl (Yd.mvB rfl) ?_
        refine LJ.gF rfl rfl ?_
        refine LJ.gF rfl rfl ?_
        refine LJ.gF rfl rfl ?_
        refine LJ.gF rfl rfl ?_
        refine LJ.yd rfl (Yd.pickTB rfl rfl) ?_
        refine LJ.nil ?_
        refine CJ.condT rfl ?_
        refine CJ.seq ?_
        refine CJ.region ?_
        refine LJ.yd rfl (Yd.asB rfl) ?_
        refine LJ.nil ?_
        refine CJ.ret ?_
        refine Fin.V (Res.one (ResV.tmp (v := .bool false) rfl)) ?_
        refine congrArg Value.bool ?_
        first
          | (refine Eq.symm (Bool.eq_false_iff.2 fun h => ?_)
             simp only [pcOk, Bool.and_eq_true, decide_eq_true_eq, List.all_eq_true] at h
             obtain ⟨q1, q2, q3, q4, q5⟩ := h
             first
               | omega
               | (rw [h16] at q3; cases q3; done)
               | (have := q5 u31 (List.mem_of_getElem? hu31); rw [h35] at this; cases this; done))
          | (rw [List.take_of_length_le (by omega)] at hi1
             refine Eq.symm ?_
             simp only [pcOk, Bool.and_eq_true, decide_eq_true_eq, List.all_eq_true]
             exact ⟨by omega, by omega, h16, by omega, hi1⟩)
theorem validPieceS_ok {A : Amb} {p : Piece} {v : Value} (hf : RdL Box.enc 4 A.h v p.fl) (hw : I64 p.w) (hh : I64 p.h) : Ctr Try.prog 57 #[.agg #[vI p.l, vI p.w, vI p.h, v]] A [] (Val (.bool (pcOk p))) := by
  obtain ⟨fa, fc, rfl, hfb, hf⟩ := hf.un
  refine Ctr.body (args := [_]) Try.func57 rfl Try.ntmps57 Try.results57 (by simp) ?_
  refine CJ.seq ?_
  refine CJ.region ?_
  refine LJ.boxG (vs := [_, _, _, _]) rfl rfl (fun b1 => ?_)
  refine LJ.yd rfl (Yd.asB rfl) ?_
  refine LJ.nil ?_
  refine CJ.seq ?_
  refine CJ.seq ?_
  refine CJ.region ?_
  refine LJ.yd rfl (Yd.asI rfl) ?_
  refine LJ.nil ?_
  refine CJ.block ?_
  refine CJ.loopK [1] Nat (fun k => k ≤ p.fl.length ∧ ∀ f ∈ p.fl.take k, bOk f = true ∧ inR f (glB p) = true) (fun k => [(3, vI k)]) (fun k => p.fl.length - k) (0) ?_ ⟨rfl, trivial⟩ ?_
  · exact ⟨by omega, by simp⟩
  · rintro k σ ⟨hk1, hi1⟩
    refine CJ.seq ?_
    refine CJ.seq ?_
    refine CJ.region ?_
    refine LJ.yd rfl (Yd.mvI rfl) ?_
    refine LJ.yd rfl (Yd.fieldAddr rfl) ?_
    refine LJ.yd rfl (Yd.loadC 0 rfl rfl rfl) ?_
    refine LJ.yd rfl (Yd.len rfl) ?_
    refine LJ.splitD rfl (Yd.lss rfl rfl) (fun h8 => ?_) (fun h8 => ?_)
    · refine LJ.nil ?_
      refine CJ.condT rfl ?_
      refine CJ.skip ?_
      refine CJ.seq ?_
      refine CJ.block ?_
      refine CJ.seq ?_
      refine CJ.regionD [0] [] (by kernel_rfl) rfl ?_
      refine DJ.norm [_] [] rfl rfl ?_
      refine DJ.yd 0 rfl (by kernel_rfl) (by kernel_rfl) (by kernel_rfl) rfl rfl (Yd.fieldAddr rfl) ?_
      refine DJ.yd 1 rfl (by kernel_rfl) (by kernel_rfl) (by kernel_rfl) rfl rfl (Yd.loadC 0 rfl rfl rfl) ?_
      refine DJ.yd 2 rfl (by kernel_rfl) (by kernel_rfl) (by kernel_rfl) rfl rfl (Yd.mvI rfl) ?_
      refine DJ.idxA 3 rfl (by kernel_rfl) (by kernel_rfl) (by kernel_rfl) rfl rfl hf rfl rfl (by omega) (by first | rfl | omega | (simp; done) | (simp; omega) | (simp [upN_len]; omega) | (simp [idxBy_len]; omega) | (simp [marks_len]; omega) | (simp [upN_len]; done) | (simp [idxBy_len]; done) | (simp [marks_len]; done) | (simp at *; omega)) (fun ib14 io14 ia14 ir14 => ?_)
      refine DJ.lgA 4 rfl (by kernel_rfl) (by kernel_rfl) (by kernel_rfl) rfl rfl (enc := Box.enc) (fun u => [vI u.X, vI u.Y, vI u.W, vI u.H]) (fun _ => rfl) (fun _ => rfl) ir14 rfl rfl (by first | rfl | omega | (simp; done) | (simp; omega) | (simp [upN_len]; omega) | (simp [idxBy_len]; omega) | (simp [marks_len]; omega) | (simp [upN_len]; done) | (simp [idxBy_len]; done) | (simp [marks_len]; done) | (simp at *; omega)) (fun u15 hu15 => ?_)
      try simp only [Int.toNat_natCast] at hu15
      refine DJ.one (i := 5) (by kernel_rfl) ?_
      refine DO.callB rfl rfl rfl (fun k0 hk0 dk0 k hk dk => validBoxS_ok _ u15) (fun h16 => ?_) (fun h16 => ?_)
      · refine DJ.yd 6 rfl (by kernel_rfl) (by kernel_rfl) (by kernel_rfl) rfl rfl (Yd.not rfl) ?_
        refine DJ.yd 7 rfl (by kernel_rfl) (by kernel_rfl) (by kernel_rfl) rfl rfl (Yd.mvB rfl) ?_
        refine DJ.yd 8 rfl (by kernel_rfl) (by kernel_rfl) (by kernel_rfl) rfl rfl (Yd.fieldAddr rfl) ?_
        refine DJ.yd 9 rfl (by kernel_rfl) (by kernel_rfl) (by kernel_rfl) rfl rfl (Yd.loadC 0 rfl rfl rfl) ?_
        refine DJ.yd 10 rfl (by kernel_rfl) (by kernel_rfl) (by kernel_rfl) rfl rfl (Yd.mvI rfl) ?_
        refine DJ.idxA 11 rfl (by kernel_rfl) (by kernel_rfl) (by kernel_rfl) rfl rfl hf rfl rfl (by omega) (by first | rfl | omega | (simp; done) | (simp; omega) | (simp [upN_len]; omega) | (simp [idxBy_len]; omega) | (simp [marks_len]; omega) | (simp [upN_len]; done) | (simp [idxBy_len]; done) | (simp [marks_len]; done) | (simp at *; omega)) (fun ib22 io22 ia22 ir22 => ?_)
        refine DJ.lgA 12 rfl (by kernel_rfl) (by kernel_rfl) (by kernel_rfl) rfl rfl (enc := Box.enc) (fun u => [vI u.X, vI u.Y, vI u.W, vI u.H]) (fun _ => rfl) (fun _ => rfl) ir22 rfl rfl (by first | rfl | omega | (simp; done) | (simp; omega) | (simp [upN_len]; omega) | (simp [idxBy_len]; omega) | (simp [marks_len]; omega) | (simp [upN_len]; done) | (simp [idxBy_len]; done) | (simp [marks_len]; done) | (simp at *; omega)) (fun u23 hu23 => ?_)
        try simp only [Int.toNat_natCast] at hu23
        have he : u15 = u23 := by rw [hu15] at hu23; exact Option.some.inj hu23
        refine DJ.yd 13 rfl (by kernel_rfl) (by kernel_rfl) (by kernel_rfl) rfl rfl (Yd.fieldAddr rfl) ?_
        refine DJ.yd 14 rfl (by kernel_rfl) (by kernel_rfl) (by kernel_rfl) rfl rfl (Yd.loadC 0 rfl rfl rfl) ?_
        refine DJ.yd 15 rfl (by kernel_rfl) (by kernel_rfl) (by kernel_rfl) rfl rfl (Yd.fieldAddr rfl) ?_
        refine DJ.yd 16 rfl (by kernel_rfl) (by kernel_rfl) (by kernel_rfl) rfl rfl (Yd.loadC 0 rfl rfl rfl) ?_
        refine DJ.yd 17 rfl (by kernel_rfl) (by kernel_rfl) (by kernel_rfl) rfl rfl (Yd.build (cs := [_, _, _, _]) rfl) ?_
        refine DJ.one (i := 18) (by kernel_rfl) ?_
        refine DO.callB rfl rfl rfl (fun k0 hk0 dk0 k hk dk => insideOfS_ok _ u23 (glB p) (bOk_mid (he ▸ h16)) (by simpa using hw) (by simpa using hh)) (fun h29 => ?_) (fun h29 => ?_)
        · refine DJ.yd 19 rfl (by kernel_rfl) (by kernel_rfl) (by kernel_rfl) rfl rfl (Yd.not rfl) ?_
          refine DJ.yd 20 rfl (by kernel_rfl) (by kernel_rfl) (by kernel_rfl) rfl rfl (Yd.pickFB rfl rfl) ?_
          refine DJ.done (by kernel_rfl) ?_
          refine CJ.condF rfl ?_
          refine CJ.skip ?_
          refine CJ.region ?_
          refine LJ.yd rfl (Yd.mvI rfl) ?_
          refine LJ.yd rfl (Yd.add rfl rfl (by unfold I64; omega)) ?_
          refine LJ.yd rfl (Yd.asI rfl) ?_
          refine LJ.nil ?_
          refine ⟨(k + 1), ?_, ⟨rfl, trivial⟩, ⟨rfl, trivial⟩, Ent.refl _, ?_⟩
          · refine ⟨by omega, ?_⟩
            intro f hf'
            rw [takeC hu15, List.mem_append, List.mem_singleton] at hf'
            rcases hf' with hf' | rfl
            · exact hi1 f hf'
            · exact ⟨h16, he ▸ h29⟩
          · first | omega | (dsimp only; omega) | (simp only []; omega)
        · refine DJ.yd 19 rfl (by kernel_rfl) (by kernel_rfl) (by kernel_rfl) rfl rfl (Yd.not rfl) ?_
          refine DJ.yd 20 rfl (by kernel_rfl) (by kernel_rfl) (by kernel_rfl) rfl rfl (Yd.pickFB rfl rfl) ?_
          refine DJ.done (by kernel_rfl) ?_
          refine CJ.condT rfl ?_
          refine CJ.seq ?_
          refine CJ.region ?_
          refine LJ.yd rfl (Yd.asB rfl) ?_
          refine LJ.nil ?_
          refine CJ.ret ?_
          refine Fin.V (Res.one (ResV.tmp (v := .bool false) rfl)) ?_
          refine congrArg Value.bool ?_
          first
            | (refine Eq.symm (Bool.eq_false_iff.2 fun h => ?_)
               simp only [pcOk, Bool.and_eq_true, decide_eq_true_eq, List.all_eq_true, insB] at h
               obtain ⟨q1, q2, q3, q4, q5⟩ := h
               obtain ⟨_, _, _, _, _, _, _, _⟩ := bOk_iff.1 q3
               first
                 | (have := q5 u15 (List.mem_of_getElem? hu15); rw [h16] at this; cases this.1; done)
                 | (have := q5 u23 (List.mem_of_getElem? hu23); rw [h29] at this; cases this.2.2; done)
                 | (simp at *; omega))
            | (rw [List.take_of_length_le (by omega)] at hi1
               simp only [Bool.and_eq_true, decide_eq_true_eq, Bool.and_eq_false_iff, decide_eq_false_iff_not] at *
               rw [eq_comm]
               first
                 | (simp only [pcOk, Bool.and_eq_true, decide_eq_true_eq, List.all_eq_true, insB]
                    have q : bOk (glB p) = true := bOk_iff.2 (by simp only; omega)
                    exact ⟨by omega, by omega, q, by omega, fun f hf => ⟨(hi1 f hf).1, q, (hi1 f hf).2⟩⟩)
                 | omega)
      · refine DJ.yd 6 rfl (by kernel_rfl) (by kernel_rfl) (by kernel_rfl) rfl rfl (Yd.not rfl) ?_
        refine DJ.yd 7 rfl (by kernel_rfl) (by kernel_rfl) (by kernel_rfl) rfl rfl (Yd.mvB rfl) ?_
        refine DJ.skip 8 rfl (by kernel_rfl) (by kernel_rfl) (by kernel_rfl) rfl rfl ?_
        refine DJ.skip 9 rfl (by kernel_rfl) (by kernel_rfl) (by kernel_rfl) rfl rfl ?_
        refine DJ.skip 10 rfl (by kernel_rfl) (by kernel_rfl) (by kernel_rfl) rfl rfl ?_
        refine DJ.skip 11 rfl (by kernel_rfl) (by kernel_rfl) (by kernel_rfl) rfl rfl ?_
        refine DJ.skip 12 rfl (by kernel_rfl) (by kernel_rfl) (by kernel_rfl) rfl rfl ?_
        refine DJ.skip 13 rfl (by kernel_rfl) (by kernel_rfl) (by kernel_rfl) rfl rfl ?_
        refine DJ.skip 14 rfl (by kernel_rfl) (by kernel_rfl) (by kernel_rfl) rfl rfl ?_
        refine DJ.skip 15 rfl (by kernel_rfl) (by kernel_rfl) (by kernel_rfl) rfl rfl ?_
        refine DJ.skip 16 rfl (by kernel_rfl) (by kernel_rfl) (by kernel_rfl) rfl rfl ?_
        refine DJ.skip 17 rfl (by kernel_rfl) (by kernel_rfl) (by kernel_rfl) rfl rfl ?_
        refine DJ.skip 18 rfl (by kernel_rfl) (by kernel_rfl) (by kernel_rfl) rfl rfl ?_
        refine DJ.skip 19 rfl (by kernel_rfl) (by kernel_rfl) (by kernel_rfl) rfl rfl ?_
        refine DJ.yd 20 rfl (by kernel_rfl) (by kernel_rfl) (by kernel_rfl) rfl rfl (Yd.pickTB rfl rfl) ?_
        refine DJ.done (by kernel_rfl) ?_
        refine CJ.condT rfl ?_
        refine CJ.seq ?_
        refine CJ.region ?_
        refine LJ.yd rfl (Yd.asB rfl) ?_
        refine LJ.nil ?_
        refine CJ.ret ?_
        refine Fin.V (Res.one (ResV.tmp (v := .bool false) rfl)) ?_
        refine congrArg Value.bool ?_
        first
          | (refine Eq.symm (Bool.eq_false_iff.2 fun h => ?_)
             simp only [pcOk, Bool.and_eq_true, decide_eq_true_eq, List.all_eq_true, insB] at h
             obtain ⟨q1, q2, q3, q4, q5⟩ := h
             obtain ⟨_, _, _, _, _, _, _, _⟩ := bOk_iff.1 q3
             first
               | (have := q5 u15 (List.mem_of_getElem? hu15); rw [h16] at this; cases this.1; done)
               | (have := q5 u23 (List.mem_of_getElem? hu23); rw [h29] at this; cases this.2.2; done)
               | (simp at *; omega))
          | (rw [List.take_of_length_le (by omega)] at hi1
             simp only [Bool.and_eq_true, decide_eq_true_eq, Bool.and_eq_false_iff, decide_eq_false_iff_not] at *
             rw [eq_comm]
             first
               | (simp only [pcOk, Bool.and_eq_true, decide_eq_true_eq, List.all_eq_true, insB]
                  have q : bOk (glB p) = true := bOk_iff.2 (by simp only; omega)
                  exact ⟨by omega, by omega, q, by omega, fun f hf => ⟨(hi1 f hf).1, q, (hi1 f hf).2⟩⟩)
               | omega)
    · refine LJ.nil ?_
      refine CJ.condF rfl ?_
      refine CJ.exit ?_
      refine CJ.seq ?_
      refine CJ.region ?_
      refine LJ.yd rfl (Yd.fieldAddr rfl) ?_
      refine LJ.yd rfl (Yd.loadC 0 rfl rfl rfl) ?_
      refine LJ.callB rfl (fun k hk dk => inRange_ok _ _ _ _) (fun h34 => ?_) (fun h34 => ?_)
      · refine LJ.yd rfl (Yd.mvB rfl) ?_
        refine LJ.gT rfl ?_
        refine LJ.yd rfl (Yd.fieldAddr rfl) ?_
        refine LJ.gT rfl ?_
        refine LJ.yd rfl (Yd.loadC 0 rfl rfl rfl) ?_
        refine LJ.gT rfl ?_
        refine LJ.callB rfl (fun k hk dk => inRange_ok _ _ _ _) (fun h38 => ?_) (fun h38 => ?_)
        · refine LJ.yd rfl (Yd.pickTB rfl rfl) ?_
          refine LJ.yd rfl (Yd.mvB rfl) ?_
          refine LJ.gT rfl ?_
          refine LJ.yd rfl (Yd.fieldAddr rfl) ?_
          refine LJ.gT rfl ?_
          refine LJ.yd rfl (Yd.loadC 0 rfl rfl rfl) ?_
          refine LJ.gT rfl ?_
          refine LJ.callB rfl (fun k hk dk => inRange_ok _ _ _ _) (fun h43 => ?_) (fun h43 => ?_)
          · refine LJ.yd rfl (Yd.pickTB rfl rfl) ?_
            refine LJ.yd rfl (Yd.mvB rfl) ?_
            refine LJ.gT rfl ?_
            refine LJ.yd rfl (Yd.fieldAddr rfl) ?_
            refine LJ.gT rfl ?_
            refine LJ.yd rfl (Yd.loadC 0 rfl rfl rfl) ?_
            refine LJ.gT rfl ?_
            refine LJ.yd rfl (Yd.len rfl) ?_
            refine LJ.gT rfl ?_
            refine LJ.splitD rfl (Yd.leq rfl rfl) (fun h49 => ?_) (fun h49 => ?_)
            · refine LJ.yd rfl (Yd.pickTB rfl rfl) ?_
              refine LJ.yd rfl (Yd.asB rfl) ?_
              refine LJ.nil ?_
              refine CJ.ret ?_
              refine Fin.V (Res.one (ResV.tmp (v := .bool true) rfl)) ?_
              refine congrArg Value.bool ?_
              first
                | (refine Eq.symm (Bool.eq_false_iff.2 fun h => ?_)
                   simp only [pcOk, Bool.and_eq_true, decide_eq_true_eq, List.all_eq_true, insB] at h
                   obtain ⟨q1, q2, q3, q4, q5⟩ := h
                   obtain ⟨_, _, _, _, _, _, _, _⟩ := bOk_iff.1 q3
                   first
                     | (have := q5 u15 (List.mem_of_getElem? hu15); rw [h16] at this; cases this.1; done)
                     | (have := q5 u23 (List.mem_of_getElem? hu23); rw [h29] at this; cases this.2.2; done)
                     | (simp at *; omega))
                | (rw [List.take_of_length_le (by omega)] at hi1
                   simp only [Bool.and_eq_true, decide_eq_true_eq, Bool.and_eq_false_iff, decide_eq_false_iff_not] at *
                   rw [eq_comm]
                   first
                     | (simp only [pcOk, Bool.and_eq_true, decide_eq_true_eq, List.all_eq_true, insB]
                        have q : bOk (glB p) = true := bOk_iff.2 (by simp only; omega)
                        exact ⟨by omega, by omega, q, by omega, fun f hf => ⟨(hi1 f hf).1, q, (hi1 f hf).2⟩⟩)
                     | omega)
            · refine LJ.yd rfl (Yd.pickTB rfl rfl) ?_
              refine LJ.yd rfl (Yd.asB rfl) ?_
              refine LJ.nil ?_
              refine CJ.ret ?_
              refine Fin.V (Res.one (ResV.tmp (v := .bool false) rfl)) ?_
              refine congrArg Value.bool ?_
              first
                | (refine Eq.symm (Bool.eq_false_iff.2 fun h => ?_)
                   simp only [pcOk, Bool.and_eq_true, decide_eq_true_eq, List.all_eq_true, insB] at h
                   obtain ⟨q1, q2, q3, q4, q5⟩ := h
                   obtain ⟨_, _, _, _, _, _, _, _⟩ := bOk_iff.1 q3
                   first
                     | (have := q5 u15 (List.mem_of_getElem? hu15); rw [h16] at this; cases this.1; done)
                     | (have := q5 u23 (List.mem_of_getElem? hu23); rw [h29] at this; cases this.2.2; done)
                     | (simp at *; omega))
                | (rw [List.take_of_length_le (by omega)] at hi1
                   simp only [Bool.and_eq_true, decide_eq_true_eq, Bool.and_eq_false_iff, decide_eq_false_iff_not] at *
                   rw [eq_comm]
                   first
                     | (simp only [pcOk, Bool.and_eq_true, decide_eq_true_eq, List.all_eq_true, insB]
                        have q : bOk (glB p) = true := bOk_iff.2 (by simp only; omega)
                        exact ⟨by omega, by omega, q, by omega, fun f hf => ⟨(hi1 f hf).1, q, (hi1 f hf).2⟩⟩)
                     | omega)
          · refine LJ.yd rfl (Yd.pickTB rfl rfl) ?_
            refine LJ.yd rfl (Yd.mvB rfl) ?_
            refine LJ.gF rfl rfl ?_
            refine LJ.gF rfl rfl ?_
            refine LJ.gF rfl rfl ?_
            refine LJ.gF rfl rfl ?_
            refine LJ.yd rfl (Yd.pickFB rfl rfl) ?_
            refine LJ.yd rfl (Yd.asB rfl) ?_
            refine LJ.nil ?_
            refine CJ.ret ?_
            refine Fin.V (Res.one (ResV.tmp (v := .bool false) rfl)) ?_
            refine congrArg Value.bool ?_
            first
              | (refine Eq.symm (Bool.eq_false_iff.2 fun h => ?_)
                 simp only [pcOk, Bool.and_eq_true, decide_eq_true_eq, List.all_eq_true, insB] at h
                 obtain ⟨q1, q2, q3, q4, q5⟩ := h
                 obtain ⟨_, _, _, _, _, _, _, _⟩ := bOk_iff.1 q3
                 first
                   | (have := q5 u15 (List.mem_of_getElem? hu15); rw [h16] at this; cases this.1; done)
                   | (have := q5 u23 (List.mem_of_getElem? hu23); rw [h29] at this; cases this.2.2; done)
                   | (simp at *; omega))
              | (rw [List.take_of_length_le (by omega)] at hi1
                 simp only [Bool.and_eq_true, decide_eq_true_eq, Bool.and_eq_false_iff, decide_eq_false_iff_not] at *
                 rw [eq_comm]
                 first
                   | (simp only [pcOk, Bool.and_eq_true, decide_eq_true_eq, List.all_eq_true, insB]
                      have q : bOk (glB p) = true := bOk_iff.2 (by simp only; omega)
                      exact ⟨by omega, by omega, q, by omega, fun f hf => ⟨(hi1 f hf).1, q, (hi1 f hf).2⟩⟩)
                   | omega)
        · refine LJ.yd rfl (Yd.pickTB rfl rfl) ?_
          refine LJ.yd rfl (Yd.mvB rfl) ?_
          refine LJ.gF rfl rfl ?_
          refine LJ.gF rfl rfl ?_
          refine LJ.gF rfl rfl ?_
          refine LJ.yd rfl (Yd.pickFB rfl rfl) ?_
          refine LJ.yd rfl (Yd.mvB rfl) ?_
          refine LJ.gF rfl rfl ?_
          refine LJ.gF rfl rfl ?_
          refine LJ.gF rfl rfl ?_
          refine LJ.gF rfl rfl ?_
          refine LJ.yd rfl (Yd.pickFB rfl rfl) ?_
          refine LJ.yd rfl (Yd.asB rfl) ?_
          refine LJ.nil ?_
          refine CJ.ret ?_
          refine Fin.V (Res.one (ResV.tmp (v := .bool false) rfl)) ?_
          refine congrArg Value.bool ?_
          first
            | (refine Eq.symm (Bool.eq_false_iff.2 fun h => ?_)
               simp only [pcOk, Bool.and_eq_true, decide_eq_true_eq, List.all_eq_true, insB] at h
               obtain ⟨q1, q2, q3, q4, q5⟩ := h
               obtain ⟨_, _, _, _, _, _, _, _⟩ := bOk_iff.1 q3
               first
                 | (have := q5 u15 (List.mem_of_getElem? hu15); rw [h16] at this; cases this.1; done)
                 | (have := q5 u23 (List.mem_of_getElem? hu23); rw [h29] at this; cases this.2.2; done)
                 | (simp at *; omega))
            | (rw [List.take_of_length_le (by omega)] at hi1
               simp only [Bool.and_eq_true, decide_eq_true_eq, Bool.and_eq_false_iff, decide_eq_false_iff_not] at *
               rw [eq_comm]
               first
                 | (simp only [pcOk, Bool.and_eq_true, decide_eq_true_eq, List.all_eq_true, insB]
                    have q : bOk (glB p) = true := bOk_iff.2 (by simp only; omega)
                    exact ⟨by omega, by omega, q, by omega, fun f hf => ⟨(hi1 f hf).1, q, (hi1 f hf).2⟩⟩)
                 | omega)
      · refine LJ.yd rfl (Yd.mvB rfl) ?_
        refine LJ.gF rfl rfl ?_
        refine LJ.gF rfl rfl ?_
        refine LJ.gF rfl rfl ?_
        refine LJ.yd rfl (Yd.pickFB rfl rfl) ?_
        refine LJ.yd rfl (Yd.mvB rfl) ?_
        refine LJ.gF rfl rfl ?_
        refine LJ.gF rfl rfl ?_
        refine LJ.gF rfl rfl ?_
        refine LJ.yd rfl (Yd.pickFB rfl rfl) ?_
        refine LJ.yd rfl (Yd.mvB rfl) ?_
        refine LJ.gF rfl rfl ?_
        refine LJ.gF rfl rfl ?_
        refine LJ.gF rfl rfl ?_
        refine LJ.gF rfl rfl ?_
        refine LJ.yd rfl (Yd.pickFB rfl rfl) ?_
        refine LJ.yd rfl (Yd.asB rfl) ?_
        refine LJ.nil ?_
        refine CJ.ret ?_
        refine Fin.V (Res.one (ResV.tmp (v := .bool false) rfl)) ?_
        refine congrArg Value.bool ?_
        first
          | (refine Eq.symm (Bool.eq_false_iff.2 fun h => ?_)
             simp only [pcOk, Bool.and_eq_true, decide_eq_true_eq, List.all_eq_true, insB] at h
             obtain ⟨q1, q2, q3, q4, q5⟩ := h
             obtain ⟨_, _, _, _, _, _, _, _⟩ := bOk_iff.1 q3
             first
               | (have := q5 u15 (List.mem_of_getElem? hu15); rw [h16] at this; cases this.1; done)
               | (have := q5 u23 (List.mem_of_getElem? hu23); rw [h29] at this; cases this.2.2; done)
               | (simp at *; omega))
          | (rw [List.take_of_length_le (by omega)] at hi1
             simp only [Bool.and_eq_true, decide_eq_true_eq, Bool.and_eq_false_iff, decide_eq_false_iff_not] at *
             rw [eq_comm]
             first
               | (simp only [pcOk, Bool.and_eq_true, decide_eq_true_eq, List.all_eq_true, insB]
                  have q : bOk (glB p) = true := bOk_iff.2 (by simp only; omega)
                  exact ⟨by omega, by omega, q, by omega, fun f hf => ⟨(hi1 f hf).1, q, (hi1 f hf).2⟩⟩)
               | omega)
end Go.Proofs.Ytnfnidplhkfamaa
