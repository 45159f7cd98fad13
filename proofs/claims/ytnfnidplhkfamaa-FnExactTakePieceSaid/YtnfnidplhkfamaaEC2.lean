/-
  Stocks as arguments of the exact laws; the exact law on the smallest piece.
-/
import Derived.Test.YtnfnidplhkfamaaEC1
import Derived.Test.YtnfnidplhkfamaaPC7
namespace Go.Proofs.Ytnfnidplhkfamaa
open Go
set_option maxRecDepth 20000
set_option maxHeartbeats 1000000

/-- pieces that came in, with lists that are read -/
abbrev Flf (h : Hp) (X : List QF) : Prop := ∀ u ∈ X, RdL Box.enc 4 h (.slice u.a u.n u.c) u.fl ∧ u.n = u.fl.length ∧ u.n ≤ 1048576
theorem szPieceS_ok {h : Hp} {A : Amb} (hA : h.Le A.h) {a : Option Addr} {n c : Nat} {X : List QF} (hn : n ≤ 9223372036854775807) (hr : n ≤ 1048576 → RdL encF 4 h (.slice a n c) X ∧ n = X.length) (hx : ∀ u ∈ X, QfOk h u) {left : Int} (h0 : 0 ≤ left) (h1 : left ≤ 1048576) :
    Ctr Try.prog 33 #[.slice a n c, vI left] A [] (fun v gs => ∃ r : Int, v = vI r ∧ gs = [] ∧ (r = -1 ∨ (0 ≤ r ∧ r ≤ left ∧ n = X.length ∧ n ≤ 1048576 ∧ RdL encF 4 h (.slice a n c) X ∧ Flf h X))) := by
  refine Ctr.body (args := [_, _]) Try.func33 rfl Try.ntmps33 Try.results33 (by simp) ?_
  refine CJ.seq ?_
  refine CJ.region ?_
  refine LJ.yd rfl (Yd.asI rfl) ?_
  refine LJ.nil ?_
  refine CJ.seq ?_
  refine CJ.region ?_
  refine LJ.yd rfl (Yd.mvI rfl) ?_
  refine LJ.yd rfl (Yd.mvS rfl) ?_
  refine LJ.yd rfl (Yd.len rfl) ?_
  refine LJ.yd rfl (Yd.sub rfl rfl (by unfold I64; omega)) ?_
  refine LJ.yd rfl (Yd.asI rfl) ?_
  refine LJ.nil ?_
  refine CJ.seq ?_
  refine CJ.seq ?_
  refine CJ.region ?_
  refine LJ.yd rfl (Yd.mvI rfl) ?_
  refine LJ.splitD rfl (Yd.lss rfl rfl) (fun h11 => ?_) (fun h11 => ?_)
  · refine LJ.nil ?_
    refine CJ.condT rfl ?_
    refine CJ.seq ?_
    refine CJ.region ?_
    refine LJ.yd rfl (Yd.asI rfl) ?_
    refine LJ.nil ?_
    refine CJ.ret ?_
    first
      | exact Fin.R [] (Res.one (ResV.tmp (v := .int _ _) rfl)) ⟨_, rfl, rfl, .inl rfl⟩ (Ent.refl _)
      | (rw [List.take_of_length_le (by omega)] at hyf
         exact Fin.R [] (Res.one (ResV.tmp (v := .int _ _) rfl)) ⟨_, rfl, rfl, .inr ⟨hy0, by omega, rfl, by omega, hl0, fun u hu => ⟨((hx u hu).2.2.2.2 (hyf u hu)).1, ((hx u hu).2.2.2.2 (hyf u hu)).2, hyf u hu⟩⟩⟩ (Ent.refl _))
  · refine LJ.nil ?_
    refine CJ.condF rfl ?_
    refine CJ.skip ?_
    refine CJ.seq ?_
    refine CJ.seq ?_
    obtain ⟨hl0, rfl⟩ := hr (by omega)
    have hl := RdRow.mono hl0 hA
    refine CJ.region ?_
    refine LJ.yd rfl (Yd.asI rfl) ?_
    refine LJ.nil ?_
    refine CJ.block ?_
    refine CJ.loopK [0] (Nat × Int) (fun ⟨k, y⟩ => k ≤ X.length ∧ 0 ≤ y ∧ y ≤ left - X.length ∧ ∀ u ∈ X.take k, u.n ≤ 1048576) (fun ⟨k, y⟩ => [(5, vI k), (1, vI y)]) (fun ⟨k, y⟩ => X.length - k) (0, left - X.length) ?_ ⟨rfl, rfl, trivial⟩ ?_
    · exact ⟨by omega, by omega, by omega, by simp⟩
    · rintro ⟨k, y⟩ σ ⟨hk1, hy0, hy1, hyf⟩
      refine CJ.seq ?_
      refine CJ.seq ?_
      refine CJ.region ?_
      refine LJ.yd rfl (Yd.mvI rfl) ?_
      refine LJ.yd rfl (Yd.mvS rfl) ?_
      refine LJ.yd rfl (Yd.len rfl) ?_
      refine LJ.splitD rfl (Yd.lss rfl rfl) (fun h15 => ?_) (fun h15 => ?_)
      · refine LJ.nil ?_
        refine CJ.condT rfl ?_
        refine CJ.skip ?_
        refine CJ.seq ?_
        refine CJ.block ?_
        refine CJ.seq ?_
        refine CJ.region ?_
        refine LJ.yd rfl (Yd.mvS rfl) ?_
        refine LJ.yd rfl (Yd.mvI rfl) ?_
        refine LJ.idxA rfl hl rfl rfl (by omega) (by first | rfl | omega | (simp; done) | (simp; omega) | (simp [upN_len]; omega) | (simp [idxBy_len]; omega) | (simp [marks_len]; omega) | (simp [upN_len]; done) | (simp [idxBy_len]; done) | (simp [marks_len]; done) | (simp at *; omega)) (fun ib20 io20 ia20 ir20 => ?_)
        refine LJ.lgA (enc := encF) (fun u => [vI u.l, vI u.w, vI u.h, .slice u.a u.n u.c]) (fun _ => rfl) (fun _ => rfl) ir20 rfl rfl rfl (by first | rfl | omega | (simp; done) | (simp; omega) | (simp [upN_len]; omega) | (simp [idxBy_len]; omega) | (simp [marks_len]; omega) | (simp [upN_len]; done) | (simp [idxBy_len]; done) | (simp [marks_len]; done) | (simp at *; omega)) (fun u21 hu21 => ?_)
        try simp only [Int.toNat_natCast] at hu21
        have hx21 := hx u21 (List.mem_of_getElem? hu21)
        refine LJ.yd rfl (Yd.mvI rfl) ?_
        refine LJ.callV rfl (fun k hk dk => szPiece_ok hx21.2.2.2.1 (by omega) (by omega)) ?_
        refine LJ.yd rfl (Yd.asI rfl) ?_
        refine LJ.nil ?_
        refine CJ.seq ?_
        refine CJ.region ?_
        refine LJ.yd rfl (Yd.mvI rfl) ?_
        refine LJ.splitD rfl (Yd.lss rfl rfl) (fun h25 => ?_) (fun h25 => ?_)
        · refine LJ.nil ?_
          refine CJ.condT rfl ?_
          refine CJ.seq ?_
          refine CJ.region ?_
          refine LJ.yd rfl (Yd.asI rfl) ?_
          refine LJ.nil ?_
          refine CJ.ret ?_
          first
            | exact Fin.R [] (Res.one (ResV.tmp (v := .int _ _) rfl)) ⟨_, rfl, rfl, .inl rfl⟩ (Ent.refl _)
            | (rw [List.take_of_length_le (by omega)] at hyf
               exact Fin.R [] (Res.one (ResV.tmp (v := .int _ _) rfl)) ⟨_, rfl, rfl, .inr ⟨hy0, by omega, rfl, by omega, hl0, fun u hu => ⟨((hx u hu).2.2.2.2 (hyf u hu)).1, ((hx u hu).2.2.2.2 (hyf u hu)).2, hyf u hu⟩⟩⟩ (Ent.refl _))
        · refine LJ.nil ?_
          refine CJ.condF rfl ?_
          refine CJ.skip ?_
          refine CJ.region ?_
          refine LJ.yd rfl (Yd.mvI rfl) ?_
          refine LJ.yd rfl (Yd.add rfl rfl (by unfold I64; omega)) ?_
          refine LJ.yd rfl (Yd.asI rfl) ?_
          refine LJ.nil ?_
          refine ⟨(k + 1, _), ?_, ⟨rfl, trivial⟩, ⟨rfl, rfl, trivial⟩, Ent.refl _, ?_⟩
          · refine ⟨by omega, ?_⟩
            have hz : ¬ (y - (u21.n : Int) < 0) := fun hz => by rw [if_pos hz] at h25; omega
            rw [if_neg hz]
            refine ⟨by omega, by omega, fun u hu => ?_⟩
            rw [takeC hu21, List.mem_append, List.mem_singleton] at hu
            rcases hu with hu | rfl
            · exact hyf u hu
            · omega
          · first | omega | (dsimp only; omega) | (simp only []; omega)
      · refine LJ.nil ?_
        refine CJ.condF rfl ?_
        refine CJ.exit ?_
        refine CJ.seq ?_
        refine CJ.region ?_
        refine LJ.yd rfl (Yd.mvI rfl) ?_
        refine LJ.yd rfl (Yd.asI rfl) ?_
        refine LJ.nil ?_
        refine CJ.ret ?_
        first
          | exact Fin.R [] (Res.one (ResV.tmp (v := .int _ _) rfl)) ⟨_, rfl, rfl, .inl rfl⟩ (Ent.refl _)
          | (rw [List.take_of_length_le (by omega)] at hyf
             exact Fin.R [] (Res.one (ResV.tmp (v := .int _ _) rfl)) ⟨_, rfl, rfl, .inr ⟨hy0, by omega, rfl, by omega, hl0, fun u hu => ⟨((hx u hu).2.2.2.2 (hyf u hu)).1, ((hx u hu).2.2.2.2 (hyf u hu)).2, hyf u hu⟩⟩⟩ (Ent.refl _))
theorem setrep {α : Type} {l : List α} {n k : Nat} {u z : α} (h : l.length = k) (hk : k < n) : (l ++ List.replicate (n - k) z).set k u = (l ++ [u]) ++ List.replicate (n - (k + 1)) z := by
  obtain ⟨m, rfl⟩ : ∃ m, n = k + 1 + m := ⟨n - k - 1, by omega⟩
  rw [show k + 1 + m - k = m + 1 by omega, show k + 1 + m - (k + 1) = m by omega, List.set_append_right _ _ (by omega), h, Nat.sub_self, List.replicate_succ, List.set_cons_zero]
  simp
/-- a stock with memory of its own -/
def StkO (L : List Piece) (v : Value) (gs : List HProp) : Prop := ∃ (Y : List Pc) (a : Option Addr) (c : Nat), v = .slice a Y.length c ∧ gs = [LR encQ 31 4 a c Y, INN rowQ Y] ∧ psX Y = L
theorem toPieceS_ok {A : Amb} {v : Value} {X : List QF} (hl : RdL encF 4 A.h v X) (hx : Flf A.h X) (hn : X.length ≤ 2000000) : Ctr Try.prog 34 #[v] A [] (StkO (X.map QF.p)) := by
  obtain ⟨la, lc, rfl, hlb, hl⟩ := hl.un
  refine Ctr.body (args := [_]) Try.func34 rfl Try.ntmps34 Try.results34 (by simp) ?_
  refine CJ.seq ?_
  refine CJ.region ?_
  refine LJ.yd rfl (Yd.asS rfl) ?_
  refine LJ.nil ?_
  refine CJ.seq ?_
  refine CJ.region ?_
  refine LJ.yd rfl (Yd.mvS rfl) ?_
  refine LJ.yd rfl (Yd.len rfl) ?_
  refine LJ.op rfl (OpR.mk (enc := encQ) (⟨⟨0, 0, 0, []⟩, none, 0⟩ : Pc) (m := X.length) rfl rfl rfl (by first | rfl | omega | (simp; done) | (simp; omega) | (simp [upN_len]; omega) | (simp [idxBy_len]; omega) | (simp [marks_len]; omega) | (simp [upN_len]; done) | (simp [idxBy_len]; done) | (simp [marks_len]; done) | (simp at *; omega))) ?_
  rintro _ _ ⟨g7, rfl, rfl⟩
  refine LJ.norm [_] rfl ?_
  refine LJ.yd rfl (Yd.asS rfl) ?_
  refine LJ.nil ?_
  refine CJ.seq ?_
  refine CJ.seq ?_
  refine CJ.ent (INN.ent rowQ) ?_
  refine CJ.norm [_, _] rfl ?_
  refine CJ.region ?_
  refine LJ.yd rfl (Yd.asI rfl) ?_
  refine LJ.nil ?_
  refine CJ.block ?_
  refine CJ.loopF [0, 2, 3] (Nat × List Pc) (fun ⟨k, Y⟩ => k ≤ X.length ∧ Y.length = k ∧ psX Y = (X.take k).map QF.p) (fun ⟨k, Y⟩ => [(4, vI k)]) (fun ⟨k, Y⟩ => [LR encQ 31 4 (some ⟨g7, 0, none⟩) X.length (Y ++ List.replicate (X.length - k) ⟨⟨0, 0, 0, []⟩, none, 0⟩), INN rowQ Y]) (fun ⟨k, Y⟩ => X.length - k) (0, []) [] [] [0, 1] rfl rfl rfl ?_ ⟨rfl, trivial⟩ ?_
  · exact ⟨by omega, rfl, rfl⟩
  · rintro ⟨k, Y⟩ σ ⟨hk1, hYl, hYm⟩
    refine CJ.norm [_, _] rfl ?_
    refine CJ.seq ?_
    refine CJ.seq ?_
    refine CJ.region ?_
    refine LJ.yd rfl (Yd.mvI rfl) ?_
    refine LJ.yd rfl (Yd.mvS rfl) ?_
    refine LJ.yd rfl (Yd.len rfl) ?_
    refine LJ.splitD rfl (Yd.lss rfl rfl) (fun h11 => ?_) (fun h11 => ?_)
    · refine LJ.nil ?_
      refine CJ.condT rfl ?_
      refine CJ.skip ?_
      refine CJ.seq ?_
      refine CJ.block ?_
      refine CJ.region ?_
      refine LJ.yd rfl (Yd.mvS rfl) ?_
      refine LJ.yd rfl (Yd.mvI rfl) ?_
      refine LJ.yd rfl (Yd.mvS rfl) ?_
      refine LJ.yd rfl (Yd.mvI rfl) ?_
      refine LJ.idxA rfl hl rfl rfl (by omega) (by first | rfl | omega | (simp; done) | (simp; omega) | (simp [upN_len]; omega) | (simp [idxBy_len]; omega) | (simp [marks_len]; omega) | (simp [upN_len]; done) | (simp [idxBy_len]; done) | (simp [marks_len]; done) | (simp at *; omega)) (fun ib18 io18 ia18 ir18 => ?_)
      refine LJ.lgA (enc := encF) (fun u => [vI u.l, vI u.w, vI u.h, .slice u.a u.n u.c]) (fun _ => rfl) (fun _ => rfl) ir18 rfl rfl rfl (by first | rfl | omega | (simp; done) | (simp; omega) | (simp [upN_len]; omega) | (simp [idxBy_len]; omega) | (simp [marks_len]; omega) | (simp [upN_len]; done) | (simp [idxBy_len]; done) | (simp [marks_len]; done) | (simp at *; omega)) (fun u19 hu19 => ?_)
      try simp only [Int.toNat_natCast] at hu19
      have hx19 := hx u19 (List.mem_of_getElem? hu19)
      refine LJ.call0 rfl (fun k hk dk => toPiece_ok (p := u19.p) hx19.1.up (by have h := hx19.2; simp only; omega)) ?_
      rintro _ _ ⟨xa, xc, rfl, rfl⟩
      refine LJ.norm [_, _, _] rfl ?_
      refine LJ.idxR 0 rfl rfl rfl rfl (by omega) (by first | rfl | omega | (simp; done) | (simp; omega) | (simp [upN_len]; omega) | (simp [idxBy_len]; omega) | (simp [marks_len]; omega) | (simp [upN_len]; done) | (simp [idxBy_len]; done) | (simp [marks_len]; done) | (simp at *; omega)) (by first | rfl | omega | (simp; done) | (simp; omega) | (simp [upN_len]; omega) | (simp [idxBy_len]; omega) | (simp [marks_len]; omega) | (simp [upN_len]; done) | (simp [idxBy_len]; done) | (simp [marks_len]; done) | (simp at *; omega)) (fun ib21 ia21 => ?_)
      refine LJ.op rfl (OpR.stG (enc := encQ) (u' := (⟨u19.p, xa, xc⟩ : Pc)) 0 rfl ia21 rfl rfl rfl (fun _ => rfl) rfl rfl (by first | rfl | omega | (simp; done) | (simp; omega) | (simp [upN_len]; omega) | (simp [idxBy_len]; omega) | (simp [marks_len]; omega) | (simp [upN_len]; done) | (simp [idxBy_len]; done) | (simp [marks_len]; done) | (simp at *; omega))) ?_
      rintro _ _ ⟨rfl, rfl⟩
      refine LJ.norm [_, _, _] rfl ?_
      refine LJ.nil ?_
      rw [show (Y ++ List.replicate (X.length - k) (⟨⟨0, 0, 0, []⟩, none, 0⟩ : Pc)).set (k : Int).toNat ⟨u19.p, xa, xc⟩ = (Y ++ [⟨u19.p, xa, xc⟩]) ++ List.replicate (X.length - (k + 1)) ⟨⟨0, 0, 0, []⟩, none, 0⟩ from setrep hYl (by omega)]
      refine CJ.ent (Ent.pickFold [0] [1, 2] [] rfl (fun _ s => INN.snoc (f := rowQ) (u := (⟨u19.p, xa, xc⟩ : Pc)) s)) ?_
      refine CJ.norm [_, _] rfl ?_
      refine CJ.region ?_
      refine LJ.yd rfl (Yd.mvI rfl) ?_
      refine LJ.yd rfl (Yd.add rfl rfl (by unfold I64; omega)) ?_
      refine LJ.yd rfl (Yd.asI rfl) ?_
      refine LJ.nil ?_
      refine ⟨(k + 1, _), ?_, ⟨rfl, rfl, rfl, trivial⟩, ⟨rfl, trivial⟩, Ent.refl _, ?_⟩
      · refine ⟨by omega, ?_⟩
        exact ⟨by simp [hYl], by rw [psX, List.map_append, show List.map Pc.p Y = (X.take k).map QF.p from hYm, takeC hu19, List.map_append]; rfl⟩
      · first | omega | (dsimp only; omega) | (simp only []; omega)
    · refine LJ.nil ?_
      refine CJ.condF rfl ?_
      refine CJ.exit ?_
      refine CJ.seq ?_
      refine CJ.region ?_
      refine LJ.yd rfl (Yd.mvS rfl) ?_
      refine LJ.yd rfl (Yd.asS rfl) ?_
      refine LJ.nil ?_
      refine CJ.ret ?_
      obtain rfl : k = X.length := by omega
      rw [Nat.sub_self, List.replicate_zero, List.append_nil]
      rw [← hYl]
      exact Fin.R [_, _] (Res.one (ResV.tmp (v := .slice _ _ _) rfl)) ⟨Y, _, _, rfl, rfl, by rw [hYm, List.take_of_length_le (by omega)]⟩ (Ent.pick [0, 1] [] rfl)
theorem eqPiece_T2 {A : Amb} {p q : Piece} {v w : Value} (e : q = p) (hl : RdL Box.enc 4 A.h v p.fl) (hl2 : RdL Box.enc 4 A.h w q.fl) : Ctr Try.prog 30 #[.agg #[vI p.l, vI p.w, vI p.h, v], .agg #[vI q.l, vI q.w, vI q.h, w]] A [] (Val (.bool true)) := by
  subst e; exact eqPiece_T hl hl2
theorem eqPieceS_T {A : Amb} {v w : Value} {Y Z : List Pc} (hl : RdL encQ 4 A.h v Y) (hl2 : RdL encQ 4 A.h w Z) (hx : Fls A.h Y) (hx2 : Fls A.h Z) (e : psX Y = psX Z) : Ctr Try.prog 36 #[v, w] A [] (Val (.bool true)) := by
  obtain ⟨la, lc, rfl, hlb, hl⟩ := hl.un
  obtain ⟨la2, lc2, rfl, hlb2, hl2⟩ := hl2.un
  have el : Y.length = Z.length := by simpa using congrArg List.length e
  refine Ctr.body (args := [_, _]) Try.func36 rfl Try.ntmps36 Try.results36 (by simp) ?_
  refine CJ.seq ?_
  refine CJ.region ?_
  refine LJ.yd rfl (Yd.asB rfl) ?_
  refine LJ.nil ?_
  refine CJ.seq ?_
  refine CJ.seq ?_
  refine CJ.region ?_
  refine LJ.yd rfl (Yd.mvS rfl) ?_
  refine LJ.yd rfl (Yd.len rfl) ?_
  refine LJ.yd rfl (Yd.mvS rfl) ?_
  refine LJ.yd rfl (Yd.len rfl) ?_
  refine LJ.splitN rfl (Yd.neq rfl rfl) (fun h10 => ?_) (fun h10 => ?_)
  · exfalso; omega
  · refine LJ.nil ?_
    refine CJ.condF rfl ?_
    refine CJ.skip ?_
    refine CJ.seq ?_
    refine CJ.seq ?_
    refine CJ.region ?_
    refine LJ.yd rfl (Yd.asI rfl) ?_
    refine LJ.nil ?_
    refine CJ.block ?_
    refine CJ.loopK [0, 1] Nat (fun k => k ≤ Y.length) (fun k => [(5, vI k)]) (fun k => Y.length - k) (0) ?_ ⟨rfl, trivial⟩ ?_
    · exact by omega
    · rintro k σ hk1
      refine CJ.seq ?_
      refine CJ.seq ?_
      refine CJ.region ?_
      refine LJ.yd rfl (Yd.mvI rfl) ?_
      refine LJ.yd rfl (Yd.mvS rfl) ?_
      refine LJ.yd rfl (Yd.len rfl) ?_
      refine LJ.splitD rfl (Yd.lss rfl rfl) (fun h14 => ?_) (fun h14 => ?_)
      · refine LJ.nil ?_
        refine CJ.condT rfl ?_
        refine CJ.skip ?_
        refine CJ.seq ?_
        refine CJ.block ?_
        refine CJ.seq ?_
        refine CJ.regionD [] [] (by kernel_rfl) rfl ?_
        refine DJ.norm [] [] rfl rfl ?_
        refine DJ.yd 0 rfl (by kernel_rfl) (by kernel_rfl) (by kernel_rfl) rfl rfl (Yd.mvS rfl) ?_
        refine DJ.yd 1 rfl (by kernel_rfl) (by kernel_rfl) (by kernel_rfl) rfl rfl (Yd.mvI rfl) ?_
        refine DJ.idxA 2 rfl (by kernel_rfl) (by kernel_rfl) (by kernel_rfl) rfl rfl hl rfl rfl (by omega) (by first | rfl | omega | (simp; done) | (simp; omega) | (simp [upN_len]; omega) | (simp [idxBy_len]; omega) | (simp [marks_len]; omega) | (simp [upN_len]; done) | (simp [idxBy_len]; done) | (simp [marks_len]; done) | (simp at *; omega)) (fun ib19 io19 ia19 ir19 => ?_)
        refine DJ.lgA 3 rfl (by kernel_rfl) (by kernel_rfl) (by kernel_rfl) rfl rfl (enc := encQ) (fun u => [vI u.p.l, vI u.p.w, vI u.p.h, .slice u.a u.p.fl.length u.c]) (fun _ => rfl) (fun _ => rfl) ir19 rfl rfl (by first | rfl | omega | (simp; done) | (simp; omega) | (simp [upN_len]; omega) | (simp [idxBy_len]; omega) | (simp [marks_len]; omega) | (simp [upN_len]; done) | (simp [idxBy_len]; done) | (simp [marks_len]; done) | (simp at *; omega)) (fun u20 hu20 => ?_)
        try simp only [Int.toNat_natCast] at hu20
        refine DJ.yd 4 rfl (by kernel_rfl) (by kernel_rfl) (by kernel_rfl) rfl rfl (Yd.mvS rfl) ?_
        refine DJ.yd 5 rfl (by kernel_rfl) (by kernel_rfl) (by kernel_rfl) rfl rfl (Yd.mvI rfl) ?_
        refine DJ.idxA 6 rfl (by kernel_rfl) (by kernel_rfl) (by kernel_rfl) rfl rfl hl2 rfl rfl (by omega) (by first | rfl | omega | (simp; done) | (simp; omega) | (simp [upN_len]; omega) | (simp [idxBy_len]; omega) | (simp [marks_len]; omega) | (simp [upN_len]; done) | (simp [idxBy_len]; done) | (simp [marks_len]; done) | (simp at *; omega)) (fun ib23 io23 ia23 ir23 => ?_)
        refine DJ.lgA 7 rfl (by kernel_rfl) (by kernel_rfl) (by kernel_rfl) rfl rfl (enc := encQ) (fun u => [vI u.p.l, vI u.p.w, vI u.p.h, .slice u.a u.p.fl.length u.c]) (fun _ => rfl) (fun _ => rfl) ir23 rfl rfl (by first | rfl | omega | (simp; done) | (simp; omega) | (simp [upN_len]; omega) | (simp [idxBy_len]; omega) | (simp [marks_len]; omega) | (simp [upN_len]; done) | (simp [idxBy_len]; done) | (simp [marks_len]; done) | (simp at *; omega)) (fun u24 hu24 => ?_)
        try simp only [Int.toNat_natCast] at hu24
        have he24 : u24.p = u20.p := by
          have h1 : (psX Y)[k]? = some u20.p := by rw [List.getElem?_map, hu20]; rfl
          have h2 : (psX Z)[k]? = some u24.p := by rw [List.getElem?_map, hu24]; rfl
          rw [e, h2] at h1
          exact Option.some.inj h1
        refine DJ.one (i := 8) (by kernel_rfl) ?_
        refine DO.callV rfl rfl rfl (fun k0 hk0 dk0 k hk dk => eqPiece_T2 (p := u20.p) (q := u24.p) he24 (RdRow.up (hx u20 (List.mem_of_getElem? hu20))) (RdRow.up (hx2 u24 (List.mem_of_getElem? hu24)))) ?_
        refine DJ.yd 9 rfl (by kernel_rfl) (by kernel_rfl) (by kernel_rfl) rfl rfl (Yd.not rfl) ?_
        refine DJ.done (by kernel_rfl) ?_
        refine CJ.condF rfl ?_
        refine CJ.skip ?_
        refine CJ.region ?_
        refine LJ.yd rfl (Yd.mvI rfl) ?_
        refine LJ.yd rfl (Yd.add rfl rfl (by unfold I64; omega)) ?_
        refine LJ.yd rfl (Yd.asI rfl) ?_
        refine LJ.nil ?_
        refine ⟨(k + 1), ?_, ⟨rfl, rfl, trivial⟩, ⟨rfl, trivial⟩, Ent.refl _, ?_⟩
        · omega
        · first | omega | (dsimp only; omega) | (simp only []; omega)
      · refine LJ.nil ?_
        refine CJ.condF rfl ?_
        refine CJ.exit ?_
        refine CJ.seq ?_
        refine CJ.region ?_
        refine LJ.yd rfl (Yd.asB rfl) ?_
        refine LJ.nil ?_
        refine CJ.ret ?_
        refine Fin.V (Res.one (ResV.tmp (v := .bool true) rfl)) ?_
        rfl
theorem Sts.fls {A : Amb} {fr : List HProp} {k : Hp} {X : List Pc} (hk : Sts fr k) (dk : A.h.Dj k) (i : Nat) (hb : ∀ u ∈ X, u.p.fl.length ≤ 281474976710656) (hi : fr[i]? = some (INN rowQ X)) : Fls (A.ext k).h X := fun u hu => by
  obtain ⟨m, hm, lm⟩ := hk.get hi
  obtain ⟨j, hj⟩ := List.getElem?_of_mem hu
  obtain ⟨q, hq, lq⟩ := INN.get hj hm
  have := (Row.rd hq (by rw [List.length_map]; exact hb u hu)).mono ((lq.trans lm).trans (Amb.ext_own dk))
  rwa [List.length_map] at this
theorem bigY {h : Hp} {X : List QF} {Y : List Pc} (hx : Flf h X) (e : psX Y = X.map QF.p) : ∀ u ∈ Y, u.p.fl.length ≤ 281474976710656 := fun u hu => by
  have h1 : u.p ∈ X.map QF.p := e ▸ List.mem_map_of_mem hu
  obtain ⟨x, hx1, hx2⟩ := List.mem_map.1 h1
  have := hx x hx1
  rw [← hx2]; simp only [QF.p]; omega
theorem wfY {h : Hp} {X : List QF} {Y : List Pc} (hx : ∀ u ∈ X, QfOk h u) (e : psX Y = X.map QF.p) : Wfs Y := fun u hu => by
  have h1 : u.p ∈ X.map QF.p := e ▸ List.mem_map_of_mem hu
  obtain ⟨x, hx1, hx2⟩ := List.mem_map.1 h1
  rw [← hx2]
  exact ⟨(hx x hx1).2.1, (hx x hx1).2.2.1⟩
theorem FnExactFindPiece_ok {A : Amb} {a : Option Addr} {n c : Nat} {X : List QF} {q : Pane} (hn : n ≤ 9223372036854775807) (hr : n ≤ 1048576 → RdL encF 4 A.h (.slice a n c) X ∧ n = X.length) (hx : ∀ u ∈ X, QfOk A.h u) (_ : q.wf) :
    Ctr Try.prog 8 #[.slice a n c, .agg #[vI q.W, vI q.H, .bool q.Turns, vI q.Kind]] A [] (Val (.bool true)) := by
  refine Ctr.body (args := [_, _]) Try.func8 rfl Try.ntmps8 Try.results8 (by simp) ?_
  refine CJ.seq ?_
  refine CJ.region ?_
  refine LJ.boxG (vs := [_, _, _, _]) rfl rfl (fun b1 => ?_)
  refine LJ.yd rfl (Yd.asB rfl) ?_
  refine LJ.nil ?_
  refine CJ.seq ?_
  refine CJ.region ?_
  refine LJ.yd rfl (Yd.asI rfl) ?_
  refine LJ.nil ?_
  refine CJ.seq ?_
  refine CJ.region ?_
  refine LJ.yd rfl (Yd.mvS rfl) ?_
  refine LJ.yd rfl (Yd.mvI rfl) ?_
  refine LJ.call0 rfl (fun k hk dk => szPieceS_ok up hn hr hx (by omega) (by omega)) ?_
  rintro _ _ ⟨r11, rfl, rfl, hr11⟩
  refine LJ.yd rfl (Yd.asI rfl) ?_
  refine LJ.nil ?_
  refine CJ.seq ?_
  refine CJ.seq ?_
  refine CJ.region ?_
  refine LJ.yd rfl (Yd.mvI rfl) ?_
  refine LJ.splitD rfl (Yd.lss rfl rfl) (fun h13 => ?_) (fun h13 => ?_)
  · refine LJ.nil ?_
    refine CJ.condT rfl ?_
    refine CJ.seq ?_
    refine CJ.region ?_
    refine LJ.yd rfl (Yd.asB rfl) ?_
    refine LJ.nil ?_
    refine CJ.ret ?_
    refine Fin.V (Res.one (ResV.tmp (v := .bool true) rfl)) ?_
    rfl
  · refine LJ.nil ?_
    refine CJ.condF rfl ?_
    refine CJ.skip ?_
    refine CJ.seq ?_
    obtain ⟨hr1, hr2, rfl, hn1, hl, hf⟩ := hr11.resolve_left (by omega)
    refine CJ.regionD [0] [] (by kernel_rfl) rfl ?_
    refine DJ.norm [_] [] rfl rfl ?_
    refine DJ.yd 0 rfl (by kernel_rfl) (by kernel_rfl) (by kernel_rfl) rfl rfl (Yd.mvS rfl) ?_
    refine DJ.yd 2 rfl (by kernel_rfl) (by kernel_rfl) (by kernel_rfl) rfl rfl (Yd.loadG (us := [_, _, _, _]) 0 rfl rfl rfl rfl) ?_
    refine DJ.one (i := 1) (by kernel_rfl) ?_
    refine DO.call0 rfl rfl rfl (fun k0 hk0 dk0 k hk dk => toPieceS_ok hl.up (fun u hu => ⟨(hf u hu).1.up, (hf u hu).2⟩) (by omega)) ?_
    rintro _ _ ⟨Y1, ya1, yc1, rfl, rfl, hY1⟩
    have hYl1 : Y1.length = X.length := by have := congrArg List.length hY1; simpa using this
    refine DJ.norm [_] [_, _] rfl rfl ?_
    refine DJ.one (i := 3) (by kernel_rfl) ?_
    refine DO.callV rfl rfl rfl (fun k0 hk0 dk0 k hk dk => toPane_ok _ q) ?_
    refine DJ.one (i := 4) (by kernel_rfl) ?_
    refine DO.callV rfl rfl rfl (fun k0 hk0 dk0 k hk dk => (hY1 ▸ FindPieceS_ok (Sts.lr hk dk 0 (by omega) rfl) (Sts.fls hk dk 1 (bigY hf hY1) rfl) (wfY hx hY1))) ?_
    refine DJ.yd 5 rfl (by kernel_rfl) (by kernel_rfl) (by kernel_rfl) rfl rfl (Yd.asI rfl) ?_
    refine DJ.done (by kernel_rfl) ?_
    refine CJ.seq ?_
    refine CJ.region ?_
    refine LJ.yd rfl (Yd.mvS rfl) ?_
    refine LJ.call0 rfl (fun k hk dk => toPieceS_ok hl.up (fun u hu => ⟨(hf u hu).1.up, (hf u hu).2⟩) (by omega)) ?_
    rintro _ _ ⟨Y2, ya2, yc2, rfl, rfl, hY2⟩
    have hYl2 : Y2.length = X.length := by have := congrArg List.length hY2; simpa using this
    refine LJ.norm [_, _, _, _, _] rfl ?_
    refine LJ.yd rfl (Yd.asS rfl) ?_
    refine LJ.nil ?_
    refine CJ.seq ?_
    refine CJ.region ?_
    refine LJ.yd rfl (Yd.mvS rfl) ?_
    refine LJ.yd rfl (Yd.loadG (us := [_, _, _, _]) 0 rfl rfl rfl rfl) ?_
    refine LJ.callV rfl (fun k hk dk => toPane_ok _ q) ?_
    refine LJ.callV rfl (fun k hk dk => (hY2 ▸ FindPieceI_ok (Sts.lr hk dk 3 (by omega) rfl) (Sts.fls hk dk 4 (bigY hf hY2) rfl))) ?_
    refine LJ.yd rfl (Yd.asI rfl) ?_
    refine LJ.nil ?_
    refine CJ.seq ?_
    refine CJ.seq ?_
    refine CJ.region ?_
    refine LJ.yd rfl (Yd.mvI rfl) ?_
    refine LJ.yd rfl (Yd.mvI rfl) ?_
    refine LJ.yd rfl (Yd.cmpNF (Yd.neq rfl rfl) (by omega)) ?_
    refine LJ.nil ?_
    refine CJ.condF rfl ?_
    refine CJ.skip ?_
    refine CJ.seq ?_
    refine CJ.seq ?_
    refine CJ.region ?_
    refine LJ.yd rfl (Yd.mvS rfl) ?_
    refine LJ.yd rfl (Yd.mvS rfl) ?_
    refine LJ.call0 rfl (fun k hk dk => toPieceS_ok hl.up (fun u hu => ⟨(hf u hu).1.up, (hf u hu).2⟩) (by omega)) ?_
    rintro _ _ ⟨Y3, ya3, yc3, rfl, rfl, hY3⟩
    have hYl3 : Y3.length = X.length := by have := congrArg List.length hY3; simpa using this
    refine LJ.norm [_, _, _, _, _, _, _] rfl ?_
    refine LJ.callV rfl (fun k hk dk => eqPieceS_T (Sts.lr hk dk 3 (by omega) rfl) (Sts.lr hk dk 5 (by omega) rfl) (Sts.fls hk dk 4 (bigY hf hY2) rfl) (Sts.fls hk dk 6 (bigY hf hY3) rfl) (hY2.trans hY3.symm)) ?_
    refine LJ.yd rfl (Yd.not rfl) ?_
    refine LJ.nil ?_
    refine CJ.condF rfl ?_
    refine CJ.skip ?_
    refine CJ.seq ?_
    refine CJ.region ?_
    refine LJ.yd rfl (Yd.asB rfl) ?_
    refine LJ.nil ?_
    refine CJ.ret ?_
    refine Fin.V (Res.one (ResV.tmp (v := .bool true) rfl)) ?_
    rfl
end Go.Proofs.Ytnfnidplhkfamaa
