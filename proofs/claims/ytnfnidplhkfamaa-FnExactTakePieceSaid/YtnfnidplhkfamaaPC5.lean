/-
  Contracts: the smallest piece for a pane.
-/
import Derived.Test.YtnfnidplhkfamaaPC4
import Derived.Test.YtnfnidplhkfamaaPN
namespace Go.Proofs.Ytnfnidplhkfamaa
open Go
set_option maxRecDepth 20000
set_option maxHeartbeats 1000000

theorem stGo_all : ∀ {L : List Piece} {b : Int}, stGo b L = true → ∀ p ∈ L, pcOk p = true ∧ b < p.l
  | p :: r, b, h, q, hq => by
    simp only [stGo, Bool.and_eq_true, decide_eq_true_eq] at h
    rcases List.mem_cons.1 hq with rfl | hq
    · exact ⟨h.1, h.2.1⟩
    · have := stGo_all h.2.2 q hq
      exact ⟨this.1, by omega⟩
theorem stGo_uniq : ∀ {L : List Piece} {b : Int}, stGo b L = true → ∀ p ∈ L, ∀ q ∈ L, p.l = q.l → p = q
  | x :: r, b, h, p, hp, q, hq, e => by
    simp only [stGo, Bool.and_eq_true, decide_eq_true_eq] at h
    rcases List.mem_cons.1 hp with e1 | hp' <;> rcases List.mem_cons.1 hq with e2 | hq'
    · rw [e1, e2]
    · have := (stGo_all h.2.2 q hq').2; rw [e1] at e; omega
    · have := (stGo_all h.2.2 p hp').2; rw [e2] at e; omega
    · exact stGo_uniq h.2.2 p hp' q hq' e
theorem Fls.up {A B : Amb} [AmbLe A B] {X : List Pc} (h : Fls A.h X) : Fls B.h X := fun u hu => RdRow.up (h u hu)
noncomputable def fpS (q : Pane) (o : Int × Int) (p : Piece) : Int × Int := if (o.1 = 0 ∨ p.w * p.h < o.2) ∧ ccB p q = true then (p.l, p.w * p.h) else o
noncomputable def fpR (L : List Piece) (q : Pane) : Int := if stOk L = true ∧ q.ok = true then (L.foldl (fpS q) (0, 0)).1 else 0
theorem fpS_T {q : Pane} {o : Int × Int} {p : Piece} (h : o.1 = 0 ∨ p.w * p.h < o.2) (h2 : ccB p q = true) : fpS q o p = (p.l, p.w * p.h) := if_pos ⟨h, h2⟩
theorem fpS_F {q : Pane} {o : Int × Int} {p : Piece} (h : ¬ (o.1 = 0 ∨ p.w * p.h < o.2) ∨ ccB p q = false) : fpS q o p = o := if_neg fun h2 => by
  rcases h with h | h
  · exact h h2.1
  · rw [h2.2] at h; cases h
theorem area_b {p : Piece} (h : pcOk p = true) : 1 ≤ p.w * p.h ∧ p.w * p.h ≤ 40000 := by
  obtain ⟨_, _, ⟨h1, h2, h3, h4⟩, _, _⟩ := pcOk_iff.1 h
  have h5 : 1 * 1 ≤ p.w * p.h := Int.mul_le_mul h1 h3 (by omega) (by omega)
  have h6 : p.w * p.h ≤ 200 * 200 := Int.mul_le_mul h2 h4 (by omega) (by omega)
  omega
theorem fp_facts {q : Pane} : ∀ {L : List Piece} {o : Int × Int}, (∀ p ∈ L, 1 ≤ p.l) →
    ((L.foldl (fpS q) o = o ∧ (o.1 = 0 → ∀ p ∈ L, ccB p q = false)) ∨ ∃ p ∈ L, L.foldl (fpS q) o = (p.l, p.w * p.h) ∧ ccB p q = true ∧ (o.1 ≠ 0 → p.w * p.h ≤ o.2)) ∧ ((L.foldl (fpS q) o).1 ≠ 0 → ∀ p ∈ L, ccB p q = true → (L.foldl (fpS q) o).2 ≤ p.w * p.h)
  | [], o, _ => by simp
  | x :: r, o, h => by
    have hx := h x List.mem_cons_self
    obtain ⟨h1, h2⟩ := fp_facts (q := q) (L := r) (o := fpS q o x) (fun p hp => h p (List.mem_cons_of_mem _ hp))
    rw [List.foldl_cons]
    generalize r.foldl (fpS q) (fpS q o x) = z at *
    by_cases hc : (o.1 = 0 ∨ x.w * x.h < o.2) ∧ ccB x q = true
    · rw [fpS_T hc.1 hc.2] at h1
      constructor
      · right
        rcases h1 with ⟨h1, _⟩ | ⟨p, hp, h1, h3, h4⟩
        · exact ⟨x, List.mem_cons_self, h1, hc.2, fun hn => by have := hc.1.resolve_left hn; omega⟩
        · exact ⟨p, List.mem_cons_of_mem _ hp, h1, h3, fun hn => by have := hc.1.resolve_left hn; have := h4 (by simp only; omega); simp only at this; omega⟩
      · intro hn p hp hq
        rcases List.mem_cons.1 hp with rfl | hp
        · rcases h1 with ⟨h1, _⟩ | ⟨y, hy, h1, h3, h4⟩
          · rw [h1]; exact Int.le_refl _
          · rw [h1]; exact h4 (by simp only; omega)
        · exact h2 hn p hp hq
    · rw [fpS_F (by
        by_cases h3 : ccB x q = true
        · exact .inl fun h4 => hc ⟨h4, h3⟩
        · exact .inr (by simpa using h3))] at h1
      constructor
      · rcases h1 with ⟨h1, h3⟩ | ⟨p, hp, h1⟩
        · left
          refine ⟨h1, fun h0 p hp => ?_⟩
          rcases List.mem_cons.1 hp with rfl | hp
          · refine Bool.eq_false_iff.2 fun h4 => hc ⟨.inl h0, h4⟩
          · exact h3 h0 p hp
        · right; exact ⟨p, List.mem_cons_of_mem _ hp, h1⟩
      · intro hn p hp hq
        rcases List.mem_cons.1 hp with rfl | hp
        · have h5 : ¬ (o.1 = 0 ∨ p.w * p.h < o.2) := fun h4 => hc ⟨h4, hq⟩
          rcases h1 with ⟨h1, _⟩ | ⟨y, hy, h1, h3, h4⟩
          · rw [h1]; omega
          · rw [h1]; have := h4 (fun e => h5 (.inl e)); simp only; omega
        · exact h2 hn p hp hq
theorem FindPieceI_ok {A : Amb} {v : Value} {X : List Pc} {q : Pane} (hl : RdL encQ 4 A.h v X) (hx : Fls A.h X) : Ctr Try.prog 12 #[v, .agg #[vI q.W, vI q.H, .bool q.Turns, vI q.Kind]] A [] (Val (vI (fpR (psX X) q))) := by
  obtain ⟨la, lc, rfl, hlb, hl⟩ := hl.un
  refine Ctr.body (args := [_, _]) Try.func12 rfl Try.ntmps12 Try.results12 (by simp) ?_
  refine CJ.seq ?_
  refine CJ.region ?_
  refine LJ.boxG (vs := [_, _, _, _]) rfl rfl (fun b1 => ?_)
  refine LJ.yd rfl (Yd.asI rfl) ?_
  refine LJ.nil ?_
  refine CJ.seq ?_
  refine CJ.seq ?_
  refine CJ.region ?_
  refine LJ.yd rfl (Yd.mvS rfl) ?_
  refine LJ.callB rfl (fun k hk dk => ValidStockI_ok (RdRow.up hl) (Fls.up hx)) (fun h11 => ?_) (fun h11 => ?_)
  · refine LJ.yd rfl (Yd.not rfl) ?_
    refine LJ.yd rfl (Yd.mvB rfl) ?_
    refine LJ.gT rfl ?_
    refine LJ.yd rfl (Yd.loadG (us := [_, _, _, _]) 0 rfl rfl rfl rfl) ?_
    refine LJ.gT rfl ?_
    refine LJ.callB rfl (fun k hk dk => validPaneI_ok _ q) (fun h15 => ?_) (fun h15 => ?_)
    · refine LJ.gT rfl ?_
      refine LJ.yd rfl (Yd.not rfl) ?_
      refine LJ.yd rfl (Yd.pickFB rfl rfl) ?_
      refine LJ.nil ?_
      refine CJ.condF rfl ?_
      refine CJ.skip ?_
      refine CJ.seq ?_
      have hst := stGo_all (stOk_iff.1 h11).2
      refine CJ.region ?_
      refine LJ.yd rfl (Yd.asI rfl) ?_
      refine LJ.yd rfl (Yd.asI rfl) ?_
      refine LJ.nil ?_
      refine CJ.seq ?_
      refine CJ.seq ?_
      refine CJ.region ?_
      refine LJ.yd rfl (Yd.mvS rfl) ?_
      refine LJ.yd rfl (Yd.len rfl) ?_
      refine LJ.yd rfl (Yd.mvI rfl) ?_
      refine LJ.nil ?_
      refine CJ.block ?_
      refine CJ.loopK [3, 4, 18, 19] (Nat × Int × Int) (fun ⟨k, lb, ls⟩ => k ≤ X.length ∧ ((psX X).drop k).foldl (fpS q) (lb, ls) = (psX X).foldl (fpS q) (0, 0)) (fun ⟨k, lb, ls⟩ => [(20, vI k), (5, vI lb), (6, vI ls)]) (fun ⟨k, lb, ls⟩ => X.length - k) (0, 0, 0) ?_ ⟨rfl, rfl, rfl, trivial⟩ ?_
      · exact ⟨by omega, rfl⟩
      · rintro ⟨k, lb, ls⟩ σ ⟨hk1, hi1⟩
        refine CJ.seq ?_
        refine CJ.region ?_
        refine LJ.splitD rfl (Yd.lss rfl rfl) (fun h21 => ?_) (fun h21 => ?_)
        · refine LJ.nil ?_
          refine CJ.seq ?_
          refine CJ.condT rfl ?_
          refine CJ.skip ?_
          refine CJ.seq ?_
          refine CJ.block ?_
          refine CJ.seq ?_
          refine CJ.region ?_
          refine LJ.idxA rfl hl rfl rfl (by omega) (by first | rfl | omega | (simp; done) | (simp; omega) | (simp [upN_len]; omega) | (simp [idxBy_len]; omega) | (simp [marks_len]; omega) | (simp [upN_len]; done) | (simp [idxBy_len]; done) | (simp [marks_len]; done) | (simp at *; omega)) (fun ib22 io22 ia22 ir22 => ?_)
          refine LJ.lgA (enc := encQ) (fun u => [vI u.p.l, vI u.p.w, vI u.p.h, .slice u.a u.p.fl.length u.c]) (fun _ => rfl) (fun _ => rfl) ir22 rfl rfl rfl (by first | rfl | omega | (simp; done) | (simp; omega) | (simp [upN_len]; omega) | (simp [idxBy_len]; omega) | (simp [marks_len]; omega) | (simp [upN_len]; done) | (simp [idxBy_len]; done) | (simp [marks_len]; done) | (simp at *; omega)) (fun u23 hu23 => ?_)
          try simp only [Int.toNat_natCast] at hu23
          have hpk := (hst u23.p (List.mem_map_of_mem (List.mem_of_getElem? hu23))).1
          obtain ⟨har1, har2⟩ := area_b hpk
          refine LJ.alloc ([_, _, _, _] : List Value) rfl rfl (fun b2 => ?_)
          refine LJ.store (v := .agg #[_, _, _, _]) (us := [_, _, _, _]) 1 rfl rfl rfl rfl rfl rfl rfl rfl ?_
          refine LJ.nil ?_
          refine CJ.seq ?_
          refine CJ.region ?_
          refine LJ.yd rfl (Yd.fieldAddr rfl) ?_
          refine LJ.yd rfl (Yd.loadC 1 rfl rfl rfl) ?_
          refine LJ.yd rfl (Yd.fieldAddr rfl) ?_
          refine LJ.yd rfl (Yd.loadC 1 rfl rfl rfl) ?_
          refine LJ.yd rfl (Yd.mul rfl rfl (by unfold I64; omega)) ?_
          refine LJ.yd rfl (Yd.asI rfl) ?_
          refine LJ.nil ?_
          refine CJ.seq ?_
          refine CJ.region ?_
          refine LJ.yd rfl (Yd.mvI rfl) ?_
          refine LJ.splitD rfl (Yd.eql rfl rfl) (fun h30 => ?_) (fun h30 => ?_)
          · refine LJ.yd rfl (Yd.mvB rfl) ?_
            refine LJ.gF rfl rfl ?_
            refine LJ.gF rfl rfl ?_
            refine LJ.gF rfl rfl ?_
            refine LJ.yd rfl (Yd.pickTB rfl rfl) ?_
            refine LJ.yd rfl (Yd.mvB rfl) ?_
            refine LJ.gT rfl ?_
            refine LJ.yd rfl (Yd.loadG (us := [_, _, _, _]) 1 rfl rfl rfl rfl) ?_
            refine LJ.gT rfl ?_
            refine LJ.yd rfl (Yd.loadG (us := [_, _, _, _]) 0 rfl rfl rfl rfl) ?_
            refine LJ.gT rfl ?_
            refine LJ.callB rfl (fun k hk dk => cutsClear_ok (p := u23.p) (RdRow.up (hx u23 (List.mem_of_getElem? hu23))) q) (fun h39 => ?_) (fun h39 => ?_)
            · refine LJ.yd rfl (Yd.pickTB rfl rfl) ?_
              refine LJ.nil ?_
              refine CJ.condT rfl ?_
              refine CJ.region ?_
              refine LJ.yd rfl (Yd.fieldAddr rfl) ?_
              refine LJ.yd rfl (Yd.loadC 1 rfl rfl rfl) ?_
              refine LJ.yd rfl (Yd.mvI rfl) ?_
              refine LJ.yd rfl (Yd.asI rfl) ?_
              refine LJ.yd rfl (Yd.asI rfl) ?_
              refine LJ.nil ?_
              refine CJ.region ?_
              refine LJ.yd rfl (Yd.add rfl rfl (by unfold I64; omega)) ?_
              refine LJ.yd rfl (Yd.mvI rfl) ?_
              refine LJ.nil ?_
              refine ⟨(k + 1, _, _), ?_, ⟨rfl, rfl, rfl, rfl, trivial⟩, ⟨rfl, rfl, rfl, trivial⟩, Ent.pick [0] [1] rfl, ?_⟩
              · refine ⟨by omega, ?_⟩
                rw [dropP hu23, List.foldl_cons] at hi1
                first
                  | (rw [fpS_T (by first | exact .inl (by assumption) | exact .inr (by assumption)) h39] at hi1; exact hi1)
                  | (rw [fpS_F (by first | exact .inr h39 | exact .inl (by simp only; omega))] at hi1; exact hi1)
              · first | omega | (dsimp only; omega) | (simp only []; omega)
            · refine LJ.yd rfl (Yd.pickTB rfl rfl) ?_
              refine LJ.nil ?_
              refine CJ.condF rfl ?_
              refine CJ.skip ?_
              refine CJ.region ?_
              refine LJ.yd rfl (Yd.add rfl rfl (by unfold I64; omega)) ?_
              refine LJ.yd rfl (Yd.mvI rfl) ?_
              refine LJ.nil ?_
              refine ⟨(k + 1, _, _), ?_, ⟨rfl, rfl, rfl, rfl, trivial⟩, ⟨rfl, rfl, rfl, trivial⟩, Ent.pick [0] [1] rfl, ?_⟩
              · refine ⟨by omega, ?_⟩
                rw [dropP hu23, List.foldl_cons] at hi1
                first
                  | (rw [fpS_T (by first | exact .inl (by assumption) | exact .inr (by assumption)) h39] at hi1; exact hi1)
                  | (rw [fpS_F (by first | exact .inr h39 | exact .inl (by simp only; omega))] at hi1; exact hi1)
              · first | omega | (dsimp only; omega) | (simp only []; omega)
          · refine LJ.yd rfl (Yd.mvB rfl) ?_
            refine LJ.gT rfl ?_
            refine LJ.yd rfl (Yd.mvI rfl) ?_
            refine LJ.gT rfl ?_
            refine LJ.yd rfl (Yd.mvI rfl) ?_
            refine LJ.gT rfl ?_
            refine LJ.splitD rfl (Yd.lss rfl rfl) (fun h34 => ?_) (fun h34 => ?_)
            · refine LJ.yd rfl (Yd.pickFB rfl rfl) ?_
              refine LJ.yd rfl (Yd.mvB rfl) ?_
              refine LJ.gT rfl ?_
              refine LJ.yd rfl (Yd.loadG (us := [_, _, _, _]) 1 rfl rfl rfl rfl) ?_
              refine LJ.gT rfl ?_
              refine LJ.yd rfl (Yd.loadG (us := [_, _, _, _]) 0 rfl rfl rfl rfl) ?_
              refine LJ.gT rfl ?_
              refine LJ.callB rfl (fun k hk dk => cutsClear_ok (p := u23.p) (RdRow.up (hx u23 (List.mem_of_getElem? hu23))) q) (fun h39 => ?_) (fun h39 => ?_)
              · refine LJ.yd rfl (Yd.pickTB rfl rfl) ?_
                refine LJ.nil ?_
                refine CJ.condT rfl ?_
                refine CJ.region ?_
                refine LJ.yd rfl (Yd.fieldAddr rfl) ?_
                refine LJ.yd rfl (Yd.loadC 1 rfl rfl rfl) ?_
                refine LJ.yd rfl (Yd.mvI rfl) ?_
                refine LJ.yd rfl (Yd.asI rfl) ?_
                refine LJ.yd rfl (Yd.asI rfl) ?_
                refine LJ.nil ?_
                refine CJ.region ?_
                refine LJ.yd rfl (Yd.add rfl rfl (by unfold I64; omega)) ?_
                refine LJ.yd rfl (Yd.mvI rfl) ?_
                refine LJ.nil ?_
                refine ⟨(k + 1, _, _), ?_, ⟨rfl, rfl, rfl, rfl, trivial⟩, ⟨rfl, rfl, rfl, trivial⟩, Ent.pick [0] [1] rfl, ?_⟩
                · refine ⟨by omega, ?_⟩
                  rw [dropP hu23, List.foldl_cons] at hi1
                  first
                    | (rw [fpS_T (by first | exact .inl (by assumption) | exact .inr (by assumption)) h39] at hi1; exact hi1)
                    | (rw [fpS_F (by first | exact .inr h39 | exact .inl (by simp only; omega))] at hi1; exact hi1)
                · first | omega | (dsimp only; omega) | (simp only []; omega)
              · refine LJ.yd rfl (Yd.pickTB rfl rfl) ?_
                refine LJ.nil ?_
                refine CJ.condF rfl ?_
                refine CJ.skip ?_
                refine CJ.region ?_
                refine LJ.yd rfl (Yd.add rfl rfl (by unfold I64; omega)) ?_
                refine LJ.yd rfl (Yd.mvI rfl) ?_
                refine LJ.nil ?_
                refine ⟨(k + 1, _, _), ?_, ⟨rfl, rfl, rfl, rfl, trivial⟩, ⟨rfl, rfl, rfl, trivial⟩, Ent.pick [0] [1] rfl, ?_⟩
                · refine ⟨by omega, ?_⟩
                  rw [dropP hu23, List.foldl_cons] at hi1
                  first
                    | (rw [fpS_T (by first | exact .inl (by assumption) | exact .inr (by assumption)) h39] at hi1; exact hi1)
                    | (rw [fpS_F (by first | exact .inr h39 | exact .inl (by simp only; omega))] at hi1; exact hi1)
                · first | omega | (dsimp only; omega) | (simp only []; omega)
            · refine LJ.yd rfl (Yd.pickFB rfl rfl) ?_
              refine LJ.yd rfl (Yd.mvB rfl) ?_
              refine LJ.gF rfl rfl ?_
              refine LJ.gF rfl rfl ?_
              refine LJ.gF rfl rfl ?_
              refine LJ.yd rfl (Yd.pickFB rfl rfl) ?_
              refine LJ.nil ?_
              refine CJ.condF rfl ?_
              refine CJ.skip ?_
              refine CJ.region ?_
              refine LJ.yd rfl (Yd.add rfl rfl (by unfold I64; omega)) ?_
              refine LJ.yd rfl (Yd.mvI rfl) ?_
              refine LJ.nil ?_
              refine ⟨(k + 1, _, _), ?_, ⟨rfl, rfl, rfl, rfl, trivial⟩, ⟨rfl, rfl, rfl, trivial⟩, Ent.pick [0] [1] rfl, ?_⟩
              · refine ⟨by omega, ?_⟩
                rw [dropP hu23, List.foldl_cons] at hi1
                first
                  | (rw [fpS_T (by first | exact .inl (by assumption) | exact .inr (by assumption)) h39] at hi1; exact hi1)
                  | (rw [fpS_F (by first | exact .inr h39 | exact .inl (by simp only; omega))] at hi1; exact hi1)
              · first | omega | (dsimp only; omega) | (simp only []; omega)
        · refine LJ.nil ?_
          refine CJ.seq ?_
          refine CJ.condF rfl ?_
          refine CJ.exit ?_
          refine CJ.seq ?_
          refine CJ.region ?_
          refine LJ.yd rfl (Yd.mvI rfl) ?_
          refine LJ.yd rfl (Yd.asI rfl) ?_
          refine LJ.nil ?_
          refine CJ.ret ?_
          refine Fin.V (Res.one (ResV.tmp (v := .int _ _) rfl)) ?_
          first
            | (rw [fpR, if_neg (fun h => Bool.false_ne_true (h11.symm.trans h.1))]; done)
            | (rw [fpR, if_neg (fun h => Bool.false_ne_true (h15.symm.trans h.2))]; done)
            | (rw [dropP_end (by omega)] at hi1
               rw [fpR, if_pos ⟨h11, h15⟩, ← hi1]; rfl)
    · refine LJ.gT rfl ?_
      refine LJ.yd rfl (Yd.not rfl) ?_
      refine LJ.yd rfl (Yd.pickFB rfl rfl) ?_
      refine LJ.nil ?_
      refine CJ.condT rfl ?_
      refine CJ.seq ?_
      refine CJ.region ?_
      refine LJ.yd rfl (Yd.asI rfl) ?_
      refine LJ.nil ?_
      refine CJ.ret ?_
      refine Fin.V (Res.one (ResV.tmp (v := .int _ _) rfl)) ?_
      first
        | (rw [fpR, if_neg (fun h => Bool.false_ne_true (h11.symm.trans h.1))]; done)
        | (rw [fpR, if_neg (fun h => Bool.false_ne_true (h15.symm.trans h.2))]; done)
        | (rw [dropP_end (by omega)] at hi1
           rw [fpR, if_pos ⟨h11, h15⟩, ← hi1]; rfl)
  · refine LJ.yd rfl (Yd.not rfl) ?_
    refine LJ.yd rfl (Yd.mvB rfl) ?_
    refine LJ.gF rfl rfl ?_
    refine LJ.gF rfl rfl ?_
    refine LJ.gF rfl rfl ?_
    refine LJ.yd rfl (Yd.pickTB rfl rfl) ?_
    refine LJ.nil ?_
    refine CJ.condT rfl ?_
    refine CJ.seq ?_
    refine CJ.region ?_
    refine LJ.yd rfl (Yd.asI rfl) ?_
    refine LJ.nil ?_
    refine CJ.ret ?_
    refine Fin.V (Res.one (ResV.tmp (v := .int _ _) rfl)) ?_
    first
      | (rw [fpR, if_neg (fun h => Bool.false_ne_true (h11.symm.trans h.1))]; done)
      | (rw [fpR, if_neg (fun h => Bool.false_ne_true (h15.symm.trans h.2))]; done)
      | (rw [dropP_end (by omega)] at hi1
         rw [fpR, if_pos ⟨h11, h15⟩, ← hi1]; rfl)
theorem ccB_valid {p : Piece} {q : Pane} (hp : pcOk p = true) (hq : q.ok = true) : ccB p q = (fcB p.fl p.w p.h q.W q.H || (q.Turns && fcB p.fl p.w p.h q.H q.W)) := by
  obtain ⟨h1, h2, h3, h4, _, _⟩ := Pane.ok_iff.1 hq
  simp [ccB, fcV, hp, h1, h2, h3, h4]
theorem FindPieceS_ok {A : Amb} {v : Value} {X : List Pc} {q : Pane} (hl : RdL encQ 4 A.h v X) (hx : Fls A.h X) (hw : Wfs X) : Ctr Try.prog 13 #[v, .agg #[vI q.W, vI q.H, .bool q.Turns, vI q.Kind]] A [] (Val (vI (fpR (psX X) q))) := by
  obtain ⟨la, lc, rfl, hlb, hl⟩ := hl.un
  refine Ctr.body (args := [_, _]) Try.func13 rfl Try.ntmps13 Try.results13 (by simp) ?_
  refine CJ.seq ?_
  refine CJ.region ?_
  refine LJ.boxG (vs := [_, _, _, _]) rfl rfl (fun b1 => ?_)
  refine LJ.yd rfl (Yd.asI rfl) ?_
  refine LJ.nil ?_
  refine CJ.seq ?_
  refine CJ.seq ?_
  refine CJ.region ?_
  refine LJ.yd rfl (Yd.mvS rfl) ?_
  refine LJ.callB rfl (fun k hk dk => validStockS_ok (RdRow.up hl) (Fls.up hx) hw) (fun h10 => ?_) (fun h10 => ?_)
  · refine LJ.yd rfl (Yd.not rfl) ?_
    refine LJ.yd rfl (Yd.mvB rfl) ?_
    refine LJ.gT rfl ?_
    refine LJ.yd rfl (Yd.loadG (us := [_, _, _, _]) 0 rfl rfl rfl rfl) ?_
    refine LJ.gT rfl ?_
    refine LJ.callB rfl (fun k hk dk => validPaneS_ok _ q) (fun h14 => ?_) (fun h14 => ?_)
    · refine LJ.gT rfl ?_
      refine LJ.yd rfl (Yd.not rfl) ?_
      refine LJ.yd rfl (Yd.pickFB rfl rfl) ?_
      refine LJ.nil ?_
      refine CJ.condF rfl ?_
      refine CJ.skip ?_
      refine CJ.seq ?_
      have hst := stGo_all (stOk_iff.1 h10).2
      obtain ⟨hq1, hq2, hq3, hq4, _, _⟩ := Pane.ok_iff.1 h14
      refine CJ.region ?_
      refine LJ.yd rfl (Yd.asI rfl) ?_
      refine LJ.nil ?_
      refine CJ.seq ?_
      refine CJ.seq ?_
      refine CJ.region ?_
      refine LJ.yd rfl (Yd.asI rfl) ?_
      refine LJ.nil ?_
      refine CJ.block ?_
      refine CJ.loopK [0, 3, 4] (Nat × Int × Int × Int) (fun ⟨k, bs, lb, ls⟩ => k ≤ X.length ∧ ((psX X).drop k).foldl (fpS q) (lb, ls) = (psX X).foldl (fpS q) (0, 0) ∧ ((bs = -1 ∧ lb = 0) ∨ ∃ j z, bs = ((j : Nat) : Int) ∧ X[j]? = some z ∧ lb = z.p.l ∧ ls = z.p.w * z.p.h ∧ 1 ≤ z.p.l ∧ pcOk z.p = true)) (fun ⟨k, bs, lb, ls⟩ => [(6, vI k), (5, vI bs)]) (fun ⟨k, bs, lb, ls⟩ => X.length - k) (0, -1, 0, 0) ?_ ⟨rfl, rfl, trivial⟩ ?_
      · exact ⟨by omega, rfl, .inl ⟨rfl, rfl⟩⟩
      · rintro ⟨k, bs, lb, ls⟩ σ ⟨hk1, hi1, hbs⟩
        refine CJ.seq ?_
        refine CJ.seq ?_
        refine CJ.region ?_
        refine LJ.yd rfl (Yd.mvI rfl) ?_
        refine LJ.yd rfl (Yd.mvS rfl) ?_
        refine LJ.yd rfl (Yd.len rfl) ?_
        refine LJ.splitD rfl (Yd.lss rfl rfl) (fun h20 => ?_) (fun h20 => ?_)
        · refine LJ.nil ?_
          refine CJ.condT rfl ?_
          refine CJ.skip ?_
          refine CJ.seq ?_
          refine CJ.block ?_
          refine CJ.seq ?_
          refine CJ.regionD [0] [] (by kernel_rfl) rfl ?_
          refine DJ.norm [_] [] rfl rfl ?_
          refine DJ.yd 0 rfl (by kernel_rfl) (by kernel_rfl) (by kernel_rfl) rfl rfl (Yd.mvS rfl) ?_
          refine DJ.yd 1 rfl (by kernel_rfl) (by kernel_rfl) (by kernel_rfl) rfl rfl (Yd.mvI rfl) ?_
          refine DJ.idxA 2 rfl (by kernel_rfl) (by kernel_rfl) (by kernel_rfl) rfl rfl hl rfl rfl (by omega) (by first | rfl | omega | (simp; done) | (simp; omega) | (simp [upN_len]; omega) | (simp [idxBy_len]; omega) | (simp [marks_len]; omega) | (simp [upN_len]; done) | (simp [idxBy_len]; done) | (simp [marks_len]; done) | (simp at *; omega)) (fun ib26 io26 ia26 ir26 => ?_)
          refine DJ.lgA 3 rfl (by kernel_rfl) (by kernel_rfl) (by kernel_rfl) rfl rfl (enc := encQ) (fun u => [vI u.p.l, vI u.p.w, vI u.p.h, .slice u.a u.p.fl.length u.c]) (fun _ => rfl) (fun _ => rfl) ir26 rfl rfl (by first | rfl | omega | (simp; done) | (simp; omega) | (simp [upN_len]; omega) | (simp [idxBy_len]; omega) | (simp [marks_len]; omega) | (simp [upN_len]; done) | (simp [idxBy_len]; done) | (simp [marks_len]; done) | (simp at *; omega)) (fun u27 hu27 => ?_)
          try simp only [Int.toNat_natCast] at hu27
          have hpk := (hst u27.p (List.mem_map_of_mem (List.mem_of_getElem? hu27))).1
          obtain ⟨_, _, ⟨hp1, hp2, hp3, hp4⟩, _, _⟩ := pcOk_iff.1 hpk
          refine DJ.yd 4 rfl (by kernel_rfl) (by kernel_rfl) (by kernel_rfl) rfl rfl (Yd.fieldAddr rfl) ?_
          refine DJ.yd 5 rfl (by kernel_rfl) (by kernel_rfl) (by kernel_rfl) rfl rfl (Yd.loadC 0 rfl rfl rfl) ?_
          refine DJ.yd 6 rfl (by kernel_rfl) (by kernel_rfl) (by kernel_rfl) rfl rfl (Yd.fieldAddr rfl) ?_
          refine DJ.yd 7 rfl (by kernel_rfl) (by kernel_rfl) (by kernel_rfl) rfl rfl (Yd.loadC 0 rfl rfl rfl) ?_
          refine DJ.two (i := 8) (j := 12) (by kernel_rfl) ?_ ?_
          · refine DO.call0 rfl rfl rfl (fun k0 hk0 dk0 k hk dk => firstClearS_ok (fl := u27.p.fl) (RdRow.up (hx u27 (List.mem_of_getElem? hu27))) (pc_mid hpk) (by omega) (by omega) (by omega) (by omega)) ?_
            rintro _ _ ⟨r32, rfl, rfl⟩
            refine DJ.yd 9 rfl (by kernel_rfl) (by kernel_rfl) (by kernel_rfl) rfl rfl (Yd.mvU rfl) ?_
            refine DJ.yd 10 rfl (by kernel_rfl) (by kernel_rfl) (by kernel_rfl) rfl rfl (Yd.extract rfl rfl) ?_
            refine DJ.split 11 rfl (by kernel_rfl) (by kernel_rfl) (by kernel_rfl) rfl rfl (Yd.extract rfl rfl) (fun h34 => ?_) (fun h34 => ?_)
            · refine DJ.one (i := 12) (by kernel_rfl) ?_
              refine DO.alloc ([_, _, _, _] : List Value) rfl rfl rfl rfl (fun b2 => ?_)
              refine DJ.one (i := 13) (by kernel_rfl) ?_
              refine DO.store (v := .agg #[_, _, _, _]) (us := [_, _, _, _]) 0 rfl rfl rfl rfl rfl rfl rfl rfl rfl rfl ?_
              refine DJ.yd 14 rfl (by kernel_rfl) (by kernel_rfl) (by kernel_rfl) rfl rfl (Yd.asB rfl) ?_
              refine DJ.done (by kernel_rfl) ?_
              refine CJ.seq ?_
              refine CJ.seq ?_
              refine CJ.region ?_
              refine LJ.yd rfl (Yd.mvB rfl) ?_
              refine LJ.yd rfl (Yd.not rfl) ?_
              refine LJ.yd rfl (Yd.mvB rfl) ?_
              refine LJ.gF rfl rfl ?_
              refine LJ.gF rfl rfl ?_
              refine LJ.yd rfl (Yd.pickFB rfl rfl) ?_
              refine LJ.nil ?_
              refine CJ.condF rfl ?_
              refine CJ.skip ?_
              refine CJ.seq ?_
              refine CJ.regionD [0, 1] [] (by kernel_rfl) rfl ?_
              refine DJ.norm [_, _] [] rfl rfl ?_
              refine DJ.yd 0 rfl (by kernel_rfl) (by kernel_rfl) (by kernel_rfl) rfl rfl (Yd.mvB rfl) ?_
              refine DJ.yd 1 rfl (by kernel_rfl) (by kernel_rfl) (by kernel_rfl) rfl rfl (Yd.mvB rfl) ?_
              refine DJ.yd 2 rfl (by kernel_rfl) (by kernel_rfl) (by kernel_rfl) rfl rfl (Yd.mvI rfl) ?_
              refine DJ.splitD 3 rfl (by kernel_rfl) (by kernel_rfl) (by kernel_rfl) rfl rfl (Yd.lss rfl rfl) (fun h56 => ?_) (fun h56 => ?_)
              · refine DJ.yd 4 rfl (by kernel_rfl) (by kernel_rfl) (by kernel_rfl) rfl rfl (Yd.mvB rfl) ?_
                refine DJ.skip 5 rfl (by kernel_rfl) (by kernel_rfl) (by kernel_rfl) rfl rfl ?_
                refine DJ.skip 6 rfl (by kernel_rfl) (by kernel_rfl) (by kernel_rfl) rfl rfl ?_
                refine DJ.skip 7 rfl (by kernel_rfl) (by kernel_rfl) (by kernel_rfl) rfl rfl ?_
                refine DJ.skip 8 rfl (by kernel_rfl) (by kernel_rfl) (by kernel_rfl) rfl rfl ?_
                refine DJ.skip 9 rfl (by kernel_rfl) (by kernel_rfl) (by kernel_rfl) rfl rfl ?_
                refine DJ.skip 10 rfl (by kernel_rfl) (by kernel_rfl) (by kernel_rfl) rfl rfl ?_
                refine DJ.skip 11 rfl (by kernel_rfl) (by kernel_rfl) (by kernel_rfl) rfl rfl ?_
                refine DJ.skip 12 rfl (by kernel_rfl) (by kernel_rfl) (by kernel_rfl) rfl rfl ?_
                refine DJ.skip 13 rfl (by kernel_rfl) (by kernel_rfl) (by kernel_rfl) rfl rfl ?_
                refine DJ.skip 14 rfl (by kernel_rfl) (by kernel_rfl) (by kernel_rfl) rfl rfl ?_
                refine DJ.skip 15 rfl (by kernel_rfl) (by kernel_rfl) (by kernel_rfl) rfl rfl ?_
                refine DJ.skip 16 rfl (by kernel_rfl) (by kernel_rfl) (by kernel_rfl) rfl rfl ?_
                refine DJ.skip 17 rfl (by kernel_rfl) (by kernel_rfl) (by kernel_rfl) rfl rfl ?_
                refine DJ.skip 18 rfl (by kernel_rfl) (by kernel_rfl) (by kernel_rfl) rfl rfl ?_
                refine DJ.skip 19 rfl (by kernel_rfl) (by kernel_rfl) (by kernel_rfl) rfl rfl ?_
                refine DJ.skip 20 rfl (by kernel_rfl) (by kernel_rfl) (by kernel_rfl) rfl rfl ?_
                refine DJ.skip 21 rfl (by kernel_rfl) (by kernel_rfl) (by kernel_rfl) rfl rfl ?_
                refine DJ.skip 22 rfl (by kernel_rfl) (by kernel_rfl) (by kernel_rfl) rfl rfl ?_
                refine DJ.skip 23 rfl (by kernel_rfl) (by kernel_rfl) (by kernel_rfl) rfl rfl ?_
                refine DJ.skip 24 rfl (by kernel_rfl) (by kernel_rfl) (by kernel_rfl) rfl rfl ?_
                refine DJ.skip 25 rfl (by kernel_rfl) (by kernel_rfl) (by kernel_rfl) rfl rfl ?_
                refine DJ.skip 26 rfl (by kernel_rfl) (by kernel_rfl) (by kernel_rfl) rfl rfl ?_
                refine DJ.skip 27 rfl (by kernel_rfl) (by kernel_rfl) (by kernel_rfl) rfl rfl ?_
                refine DJ.yd 28 rfl (by kernel_rfl) (by kernel_rfl) (by kernel_rfl) rfl rfl (Yd.pickTB rfl rfl) ?_
                refine DJ.yd 29 rfl (by kernel_rfl) (by kernel_rfl) (by kernel_rfl) rfl rfl (Yd.pickTB rfl rfl) ?_
                refine DJ.done (by kernel_rfl) ?_
                refine CJ.condT rfl ?_
                refine CJ.region ?_
                refine LJ.yd rfl (Yd.mvI rfl) ?_
                refine LJ.yd rfl (Yd.asI rfl) ?_
                refine LJ.nil ?_
                refine CJ.region ?_
                refine LJ.yd rfl (Yd.mvI rfl) ?_
                refine LJ.yd rfl (Yd.add rfl rfl (by unfold I64; omega)) ?_
                refine LJ.yd rfl (Yd.asI rfl) ?_
                refine LJ.nil ?_
                refine ⟨(k + 1, _, u27.p.l, u27.p.w * u27.p.h), ?_, ⟨rfl, rfl, rfl, trivial⟩, ⟨rfl, rfl, trivial⟩, Ent.pick [0] [1] rfl, ?_⟩
                · refine ⟨by omega, ?_⟩
                  rw [dropP hu27, List.foldl_cons] at hi1
                  have hcc := ccB_valid hpk h14
                  have hcd : ccB u27.p q = true := by rw [hcc]; simp [*]
                  have hcnd : (lb, ls).1 = 0 ∨ u27.p.w * u27.p.h < (lb, ls).2 := by
                    first
                      | (left; show lb = 0; rcases hbs with ⟨_, h⟩ | ⟨j, z, hb1, _⟩ <;> omega)
                      | (right; show _ < ls; omega)
                  rw [fpS_T hcnd hcd] at hi1
                  exact ⟨hi1, .inr ⟨k, u27, rfl, hu27, rfl, rfl, (pcOk_iff.1 hpk).1, hpk⟩⟩
                · first | omega | (dsimp only; omega) | (simp only []; omega)
              · refine DJ.yd 4 rfl (by kernel_rfl) (by kernel_rfl) (by kernel_rfl) rfl rfl (Yd.mvB rfl) ?_
                refine DJ.yd 5 rfl (by kernel_rfl) (by kernel_rfl) (by kernel_rfl) rfl rfl (Yd.mvS rfl) ?_
                refine DJ.yd 6 rfl (by kernel_rfl) (by kernel_rfl) (by kernel_rfl) rfl rfl (Yd.mvI rfl) ?_
                refine DJ.idxA 7 rfl (by kernel_rfl) (by kernel_rfl) (by kernel_rfl) rfl rfl hl rfl rfl (by omega) (by first | rfl | omega | (simp; done) | (simp; omega) | (simp [upN_len]; omega) | (simp [idxBy_len]; omega) | (simp [marks_len]; omega) | (simp [upN_len]; done) | (simp [idxBy_len]; done) | (simp [marks_len]; done) | (simp at *; omega)) (fun ib60 io60 ia60 ir60 => ?_)
                refine DJ.yd 8 rfl (by kernel_rfl) (by kernel_rfl) (by kernel_rfl) rfl rfl (Yd.fieldAddr rfl) ?_
                refine DJ.ldA 9 rfl (by kernel_rfl) (by kernel_rfl) (by kernel_rfl) rfl rfl 1 (fun u => vI u.p.w) (fun _ => rfl) ir60 rfl rfl (by first | rfl | omega | (simp; done) | (simp; omega) | (simp [upN_len]; omega) | (simp [idxBy_len]; omega) | (simp [marks_len]; omega) | (simp [upN_len]; done) | (simp [idxBy_len]; done) | (simp [marks_len]; done) | (simp at *; omega)) (fun u62 hu62 => ?_)
                try simp only [Int.toNat_natCast] at hu62
                obtain rfl : u27 = u62 := by rw [hu27] at hu62; exact Option.some.inj hu62
                refine DJ.yd 10 rfl (by kernel_rfl) (by kernel_rfl) (by kernel_rfl) rfl rfl (Yd.mvS rfl) ?_
                refine DJ.yd 11 rfl (by kernel_rfl) (by kernel_rfl) (by kernel_rfl) rfl rfl (Yd.mvI rfl) ?_
                refine DJ.idxA 12 rfl (by kernel_rfl) (by kernel_rfl) (by kernel_rfl) rfl rfl hl rfl rfl (by omega) (by first | rfl | omega | (simp; done) | (simp; omega) | (simp [upN_len]; omega) | (simp [idxBy_len]; omega) | (simp [marks_len]; omega) | (simp [upN_len]; done) | (simp [idxBy_len]; done) | (simp [marks_len]; done) | (simp at *; omega)) (fun ib65 io65 ia65 ir65 => ?_)
                refine DJ.yd 13 rfl (by kernel_rfl) (by kernel_rfl) (by kernel_rfl) rfl rfl (Yd.fieldAddr rfl) ?_
                refine DJ.ldA 14 rfl (by kernel_rfl) (by kernel_rfl) (by kernel_rfl) rfl rfl 2 (fun u => vI u.p.h) (fun _ => rfl) ir65 rfl rfl (by first | rfl | omega | (simp; done) | (simp; omega) | (simp [upN_len]; omega) | (simp [idxBy_len]; omega) | (simp [marks_len]; omega) | (simp [upN_len]; done) | (simp [idxBy_len]; done) | (simp [marks_len]; done) | (simp at *; omega)) (fun u67 hu67 => ?_)
                try simp only [Int.toNat_natCast] at hu67
                obtain rfl : u27 = u67 := by rw [hu27] at hu67; exact Option.some.inj hu67
                obtain ⟨har1, har2⟩ := area_b hpk
                refine DJ.yd 15 rfl (by kernel_rfl) (by kernel_rfl) (by kernel_rfl) rfl rfl (Yd.mul rfl rfl (by unfold I64; omega)) ?_
                refine DJ.yd 16 rfl (by kernel_rfl) (by kernel_rfl) (by kernel_rfl) rfl rfl (Yd.mvS rfl) ?_
                refine DJ.yd 17 rfl (by kernel_rfl) (by kernel_rfl) (by kernel_rfl) rfl rfl (Yd.mvI rfl) ?_
                refine DJ.idxA 18 rfl (by kernel_rfl) (by kernel_rfl) (by kernel_rfl) rfl rfl hl rfl rfl (by obtain ⟨j, z, hb1, hb2, _⟩ := hbs.resolve_left (by omega); omega) (by obtain ⟨j, z, hb1, hb2, _⟩ := hbs.resolve_left (by omega); have := ltC hb2; omega) (fun ib71 io71 ia71 ir71 => ?_)
                refine DJ.yd 19 rfl (by kernel_rfl) (by kernel_rfl) (by kernel_rfl) rfl rfl (Yd.fieldAddr rfl) ?_
                refine DJ.ldA 20 rfl (by kernel_rfl) (by kernel_rfl) (by kernel_rfl) rfl rfl 1 (fun u => vI u.p.w) (fun _ => rfl) ir71 rfl rfl (by obtain ⟨j, z, hb1, hb2, _⟩ := hbs.resolve_left (by omega); have := ltC hb2; omega) (fun u73 hu73 => ?_)
                try simp only [Int.toNat_natCast] at hu73
                obtain ⟨j, z, hb1, hb2, hb3, hb4, hb5, hb6⟩ := hbs.resolve_left (by omega)
                rw [hb1, Int.toNat_natCast, hb2] at hu73
                obtain rfl : z = u73 := Option.some.inj hu73
                obtain ⟨hbr1, hbr2⟩ := area_b hb6
                refine DJ.yd 21 rfl (by kernel_rfl) (by kernel_rfl) (by kernel_rfl) rfl rfl (Yd.mvS rfl) ?_
                refine DJ.yd 22 rfl (by kernel_rfl) (by kernel_rfl) (by kernel_rfl) rfl rfl (Yd.mvI rfl) ?_
                refine DJ.idxA 23 rfl (by kernel_rfl) (by kernel_rfl) (by kernel_rfl) rfl rfl hl rfl rfl (by obtain ⟨j, z, hb1, hb2, _⟩ := hbs.resolve_left (by omega); omega) (by obtain ⟨j, z, hb1, hb2, _⟩ := hbs.resolve_left (by omega); have := ltC hb2; omega) (fun ib76 io76 ia76 ir76 => ?_)
                refine DJ.yd 24 rfl (by kernel_rfl) (by kernel_rfl) (by kernel_rfl) rfl rfl (Yd.fieldAddr rfl) ?_
                refine DJ.ldA 25 rfl (by kernel_rfl) (by kernel_rfl) (by kernel_rfl) rfl rfl 2 (fun u => vI u.p.h) (fun _ => rfl) ir76 rfl rfl (by obtain ⟨j, z, hb1, hb2, _⟩ := hbs.resolve_left (by omega); have := ltC hb2; omega) (fun u78 hu78 => ?_)
                try simp only [Int.toNat_natCast] at hu78
                rw [hb1, Int.toNat_natCast, hb2] at hu78
                obtain rfl : z = u78 := Option.some.inj hu78
                refine DJ.yd 26 rfl (by kernel_rfl) (by kernel_rfl) (by kernel_rfl) rfl rfl (Yd.mul rfl rfl (by unfold I64; omega)) ?_
                refine DJ.splitD 27 rfl (by kernel_rfl) (by kernel_rfl) (by kernel_rfl) rfl rfl (Yd.lss rfl rfl) (fun h80 => ?_) (fun h80 => ?_)
                · refine DJ.yd 28 rfl (by kernel_rfl) (by kernel_rfl) (by kernel_rfl) rfl rfl (Yd.pickFB rfl rfl) ?_
                  refine DJ.yd 29 rfl (by kernel_rfl) (by kernel_rfl) (by kernel_rfl) rfl rfl (Yd.pickTB rfl rfl) ?_
                  refine DJ.done (by kernel_rfl) ?_
                  refine CJ.condT rfl ?_
                  refine CJ.region ?_
                  refine LJ.yd rfl (Yd.mvI rfl) ?_
                  refine LJ.yd rfl (Yd.asI rfl) ?_
                  refine LJ.nil ?_
                  refine CJ.region ?_
                  refine LJ.yd rfl (Yd.mvI rfl) ?_
                  refine LJ.yd rfl (Yd.add rfl rfl (by unfold I64; omega)) ?_
                  refine LJ.yd rfl (Yd.asI rfl) ?_
                  refine LJ.nil ?_
                  refine ⟨(k + 1, _, u27.p.l, u27.p.w * u27.p.h), ?_, ⟨rfl, rfl, rfl, trivial⟩, ⟨rfl, rfl, trivial⟩, Ent.pick [0] [1] rfl, ?_⟩
                  · refine ⟨by omega, ?_⟩
                    rw [dropP hu27, List.foldl_cons] at hi1
                    have hcc := ccB_valid hpk h14
                    have hcd : ccB u27.p q = true := by rw [hcc]; simp [*]
                    have hcnd : (lb, ls).1 = 0 ∨ u27.p.w * u27.p.h < (lb, ls).2 := by
                      first
                        | (left; show lb = 0; rcases hbs with ⟨_, h⟩ | ⟨j, z, hb1, _⟩ <;> omega)
                        | (right; show _ < ls; omega)
                    rw [fpS_T hcnd hcd] at hi1
                    exact ⟨hi1, .inr ⟨k, u27, rfl, hu27, rfl, rfl, (pcOk_iff.1 hpk).1, hpk⟩⟩
                  · first | omega | (dsimp only; omega) | (simp only []; omega)
                · refine DJ.yd 28 rfl (by kernel_rfl) (by kernel_rfl) (by kernel_rfl) rfl rfl (Yd.pickFB rfl rfl) ?_
                  refine DJ.yd 29 rfl (by kernel_rfl) (by kernel_rfl) (by kernel_rfl) rfl rfl (Yd.pickTB rfl rfl) ?_
                  refine DJ.done (by kernel_rfl) ?_
                  refine CJ.condF rfl ?_
                  refine CJ.skip ?_
                  refine CJ.region ?_
                  refine LJ.yd rfl (Yd.mvI rfl) ?_
                  refine LJ.yd rfl (Yd.add rfl rfl (by unfold I64; omega)) ?_
                  refine LJ.yd rfl (Yd.asI rfl) ?_
                  refine LJ.nil ?_
                  refine ⟨(k + 1, _, lb, ls), ?_, ⟨rfl, rfl, rfl, trivial⟩, ⟨rfl, rfl, trivial⟩, Ent.pick [0] [1] rfl, ?_⟩
                  · refine ⟨by omega, ?_⟩
                    rw [dropP hu27, List.foldl_cons] at hi1
                    have hcc := ccB_valid hpk h14
                    have hno : ¬ (((lb, ls).1 = 0 ∨ u27.p.w * u27.p.h < (lb, ls).2) ∧ ccB u27.p q = true) := by
                      rintro ⟨h1, h2⟩
                      rw [hcc] at h2
                      first
                        | (simp [*] at h2; done)
                        | (rcases h1 with h1 | h1 <;> simp only at h1 <;> omega)
                    rw [show fpS q (lb, ls) u27.p = (lb, ls) from if_neg hno] at hi1
                    exact ⟨hi1, hbs⟩
                  · first | omega | (dsimp only; omega) | (simp only []; omega)
            · refine DJ.one (i := 12) (by kernel_rfl) ?_
              refine DO.alloc ([_, _, _, _] : List Value) rfl rfl rfl rfl (fun b3 => ?_)
              refine DJ.one (i := 13) (by kernel_rfl) ?_
              refine DO.store (v := .agg #[_, _, _, _]) (us := [_, _, _, _]) 0 rfl rfl rfl rfl rfl rfl rfl rfl rfl rfl ?_
              refine DJ.yd 14 rfl (by kernel_rfl) (by kernel_rfl) (by kernel_rfl) rfl rfl (Yd.asB rfl) ?_
              refine DJ.done (by kernel_rfl) ?_
              refine CJ.seq ?_
              refine CJ.seq ?_
              refine CJ.region ?_
              refine LJ.yd rfl (Yd.mvB rfl) ?_
              refine LJ.yd rfl (Yd.not rfl) ?_
              refine LJ.yd rfl (Yd.mvB rfl) ?_
              refine LJ.gT rfl ?_
              refine LJ.yd rfl (Yd.fieldAddr rfl) ?_
              refine LJ.gT rfl ?_
              refine LJ.split rfl (Yd.loadC 0 rfl rfl rfl) (fun h39 => ?_) (fun h39 => ?_)
              · refine LJ.yd rfl (Yd.pickTB rfl rfl) ?_
                refine LJ.nil ?_
                refine CJ.condT rfl ?_
                refine CJ.regionD [0, 1] [] (by kernel_rfl) rfl ?_
                refine DJ.norm [_, _] [] rfl rfl ?_
                refine DJ.yd 0 rfl (by kernel_rfl) (by kernel_rfl) (by kernel_rfl) rfl rfl (Yd.mvS rfl) ?_
                refine DJ.yd 1 rfl (by kernel_rfl) (by kernel_rfl) (by kernel_rfl) rfl rfl (Yd.mvI rfl) ?_
                refine DJ.idxA 2 rfl (by kernel_rfl) (by kernel_rfl) (by kernel_rfl) rfl rfl hl rfl rfl (by omega) (by first | rfl | omega | (simp; done) | (simp; omega) | (simp [upN_len]; omega) | (simp [idxBy_len]; omega) | (simp [marks_len]; omega) | (simp [upN_len]; done) | (simp [idxBy_len]; done) | (simp [marks_len]; done) | (simp at *; omega)) (fun ib44 io44 ia44 ir44 => ?_)
                refine DJ.lgA 3 rfl (by kernel_rfl) (by kernel_rfl) (by kernel_rfl) rfl rfl (enc := encQ) (fun u => [vI u.p.l, vI u.p.w, vI u.p.h, .slice u.a u.p.fl.length u.c]) (fun _ => rfl) (fun _ => rfl) ir44 rfl rfl (by first | rfl | omega | (simp; done) | (simp; omega) | (simp [upN_len]; omega) | (simp [idxBy_len]; omega) | (simp [marks_len]; omega) | (simp [upN_len]; done) | (simp [idxBy_len]; done) | (simp [marks_len]; done) | (simp at *; omega)) (fun u45 hu45 => ?_)
                try simp only [Int.toNat_natCast] at hu45
                obtain rfl : u27 = u45 := by rw [hu27] at hu45; exact Option.some.inj hu45
                refine DJ.yd 4 rfl (by kernel_rfl) (by kernel_rfl) (by kernel_rfl) rfl rfl (Yd.fieldAddr rfl) ?_
                refine DJ.yd 5 rfl (by kernel_rfl) (by kernel_rfl) (by kernel_rfl) rfl rfl (Yd.loadC 0 rfl rfl rfl) ?_
                refine DJ.yd 6 rfl (by kernel_rfl) (by kernel_rfl) (by kernel_rfl) rfl rfl (Yd.fieldAddr rfl) ?_
                refine DJ.yd 7 rfl (by kernel_rfl) (by kernel_rfl) (by kernel_rfl) rfl rfl (Yd.loadC 0 rfl rfl rfl) ?_
                refine DJ.one (i := 8) (by kernel_rfl) ?_
                refine DO.call0 rfl rfl rfl (fun k0 hk0 dk0 k hk dk => firstClearS_ok (fl := u27.p.fl) (RdRow.up (hx u27 (List.mem_of_getElem? hu27))) (pc_mid hpk) (by omega) (by omega) (by omega) (by omega)) ?_
                rintro _ _ ⟨r50, rfl, rfl⟩
                refine DJ.yd 9 rfl (by kernel_rfl) (by kernel_rfl) (by kernel_rfl) rfl rfl (Yd.mvU rfl) ?_
                refine DJ.yd 10 rfl (by kernel_rfl) (by kernel_rfl) (by kernel_rfl) rfl rfl (Yd.extract rfl rfl) ?_
                refine DJ.split 11 rfl (by kernel_rfl) (by kernel_rfl) (by kernel_rfl) rfl rfl (Yd.extract rfl rfl) (fun h52 => ?_) (fun h52 => ?_)
                · refine DJ.yd 12 rfl (by kernel_rfl) (by kernel_rfl) (by kernel_rfl) rfl rfl (Yd.asB rfl) ?_
                  refine DJ.done (by kernel_rfl) ?_
                  refine CJ.seq ?_
                  refine CJ.regionD [0, 1] [] (by kernel_rfl) rfl ?_
                  refine DJ.norm [_, _] [] rfl rfl ?_
                  refine DJ.yd 0 rfl (by kernel_rfl) (by kernel_rfl) (by kernel_rfl) rfl rfl (Yd.mvB rfl) ?_
                  refine DJ.yd 1 rfl (by kernel_rfl) (by kernel_rfl) (by kernel_rfl) rfl rfl (Yd.mvB rfl) ?_
                  refine DJ.yd 2 rfl (by kernel_rfl) (by kernel_rfl) (by kernel_rfl) rfl rfl (Yd.mvI rfl) ?_
                  refine DJ.splitD 3 rfl (by kernel_rfl) (by kernel_rfl) (by kernel_rfl) rfl rfl (Yd.lss rfl rfl) (fun h56 => ?_) (fun h56 => ?_)
                  · refine DJ.yd 4 rfl (by kernel_rfl) (by kernel_rfl) (by kernel_rfl) rfl rfl (Yd.mvB rfl) ?_
                    refine DJ.skip 5 rfl (by kernel_rfl) (by kernel_rfl) (by kernel_rfl) rfl rfl ?_
                    refine DJ.skip 6 rfl (by kernel_rfl) (by kernel_rfl) (by kernel_rfl) rfl rfl ?_
                    refine DJ.skip 7 rfl (by kernel_rfl) (by kernel_rfl) (by kernel_rfl) rfl rfl ?_
                    refine DJ.skip 8 rfl (by kernel_rfl) (by kernel_rfl) (by kernel_rfl) rfl rfl ?_
                    refine DJ.skip 9 rfl (by kernel_rfl) (by kernel_rfl) (by kernel_rfl) rfl rfl ?_
                    refine DJ.skip 10 rfl (by kernel_rfl) (by kernel_rfl) (by kernel_rfl) rfl rfl ?_
                    refine DJ.skip 11 rfl (by kernel_rfl) (by kernel_rfl) (by kernel_rfl) rfl rfl ?_
                    refine DJ.skip 12 rfl (by kernel_rfl) (by kernel_rfl) (by kernel_rfl) rfl rfl ?_
                    refine DJ.skip 13 rfl (by kernel_rfl) (by kernel_rfl) (by kernel_rfl) rfl rfl ?_
                    refine DJ.skip 14 rfl (by kernel_rfl) (by kernel_rfl) (by kernel_rfl) rfl rfl ?_
                    refine DJ.skip 15 rfl (by kernel_rfl) (by kernel_rfl) (by kernel_rfl) rfl rfl ?_
                    refine DJ.skip 16 rfl (by kernel_rfl) (by kernel_rfl) (by kernel_rfl) rfl rfl ?_
                    refine DJ.skip 17 rfl (by kernel_rfl) (by kernel_rfl) (by kernel_rfl) rfl rfl ?_
                    refine DJ.skip 18 rfl (by kernel_rfl) (by kernel_rfl) (by kernel_rfl) rfl rfl ?_
                    refine DJ.skip 19 rfl (by kernel_rfl) (by kernel_rfl) (by kernel_rfl) rfl rfl ?_
                    refine DJ.skip 20 rfl (by kernel_rfl) (by kernel_rfl) (by kernel_rfl) rfl rfl ?_
                    refine DJ.skip 21 rfl (by kernel_rfl) (by kernel_rfl) (by kernel_rfl) rfl rfl ?_
                    refine DJ.skip 22 rfl (by kernel_rfl) (by kernel_rfl) (by kernel_rfl) rfl rfl ?_
                    refine DJ.skip 23 rfl (by kernel_rfl) (by kernel_rfl) (by kernel_rfl) rfl rfl ?_
                    refine DJ.skip 24 rfl (by kernel_rfl) (by kernel_rfl) (by kernel_rfl) rfl rfl ?_
                    refine DJ.skip 25 rfl (by kernel_rfl) (by kernel_rfl) (by kernel_rfl) rfl rfl ?_
                    refine DJ.skip 26 rfl (by kernel_rfl) (by kernel_rfl) (by kernel_rfl) rfl rfl ?_
                    refine DJ.skip 27 rfl (by kernel_rfl) (by kernel_rfl) (by kernel_rfl) rfl rfl ?_
                    refine DJ.yd 28 rfl (by kernel_rfl) (by kernel_rfl) (by kernel_rfl) rfl rfl (Yd.pickTB rfl rfl) ?_
                    refine DJ.yd 29 rfl (by kernel_rfl) (by kernel_rfl) (by kernel_rfl) rfl rfl (Yd.pickTB rfl rfl) ?_
                    refine DJ.done (by kernel_rfl) ?_
                    refine CJ.condT rfl ?_
                    refine CJ.region ?_
                    refine LJ.yd rfl (Yd.mvI rfl) ?_
                    refine LJ.yd rfl (Yd.asI rfl) ?_
                    refine LJ.nil ?_
                    refine CJ.region ?_
                    refine LJ.yd rfl (Yd.mvI rfl) ?_
                    refine LJ.yd rfl (Yd.add rfl rfl (by unfold I64; omega)) ?_
                    refine LJ.yd rfl (Yd.asI rfl) ?_
                    refine LJ.nil ?_
                    refine ⟨(k + 1, _, u27.p.l, u27.p.w * u27.p.h), ?_, ⟨rfl, rfl, rfl, trivial⟩, ⟨rfl, rfl, trivial⟩, Ent.pick [0] [1] rfl, ?_⟩
                    · refine ⟨by omega, ?_⟩
                      rw [dropP hu27, List.foldl_cons] at hi1
                      have hcc := ccB_valid hpk h14
                      have hcd : ccB u27.p q = true := by rw [hcc]; simp [*]
                      have hcnd : (lb, ls).1 = 0 ∨ u27.p.w * u27.p.h < (lb, ls).2 := by
                        first
                          | (left; show lb = 0; rcases hbs with ⟨_, h⟩ | ⟨j, z, hb1, _⟩ <;> omega)
                          | (right; show _ < ls; omega)
                      rw [fpS_T hcnd hcd] at hi1
                      exact ⟨hi1, .inr ⟨k, u27, rfl, hu27, rfl, rfl, (pcOk_iff.1 hpk).1, hpk⟩⟩
                    · first | omega | (dsimp only; omega) | (simp only []; omega)
                  · refine DJ.yd 4 rfl (by kernel_rfl) (by kernel_rfl) (by kernel_rfl) rfl rfl (Yd.mvB rfl) ?_
                    refine DJ.yd 5 rfl (by kernel_rfl) (by kernel_rfl) (by kernel_rfl) rfl rfl (Yd.mvS rfl) ?_
                    refine DJ.yd 6 rfl (by kernel_rfl) (by kernel_rfl) (by kernel_rfl) rfl rfl (Yd.mvI rfl) ?_
                    refine DJ.idxA 7 rfl (by kernel_rfl) (by kernel_rfl) (by kernel_rfl) rfl rfl hl rfl rfl (by omega) (by first | rfl | omega | (simp; done) | (simp; omega) | (simp [upN_len]; omega) | (simp [idxBy_len]; omega) | (simp [marks_len]; omega) | (simp [upN_len]; done) | (simp [idxBy_len]; done) | (simp [marks_len]; done) | (simp at *; omega)) (fun ib60 io60 ia60 ir60 => ?_)
                    refine DJ.yd 8 rfl (by kernel_rfl) (by kernel_rfl) (by kernel_rfl) rfl rfl (Yd.fieldAddr rfl) ?_
                    refine DJ.ldA 9 rfl (by kernel_rfl) (by kernel_rfl) (by kernel_rfl) rfl rfl 1 (fun u => vI u.p.w) (fun _ => rfl) ir60 rfl rfl (by first | rfl | omega | (simp; done) | (simp; omega) | (simp [upN_len]; omega) | (simp [idxBy_len]; omega) | (simp [marks_len]; omega) | (simp [upN_len]; done) | (simp [idxBy_len]; done) | (simp [marks_len]; done) | (simp at *; omega)) (fun u62 hu62 => ?_)
                    try simp only [Int.toNat_natCast] at hu62
                    obtain rfl : u27 = u62 := by rw [hu27] at hu62; exact Option.some.inj hu62
                    refine DJ.yd 10 rfl (by kernel_rfl) (by kernel_rfl) (by kernel_rfl) rfl rfl (Yd.mvS rfl) ?_
                    refine DJ.yd 11 rfl (by kernel_rfl) (by kernel_rfl) (by kernel_rfl) rfl rfl (Yd.mvI rfl) ?_
                    refine DJ.idxA 12 rfl (by kernel_rfl) (by kernel_rfl) (by kernel_rfl) rfl rfl hl rfl rfl (by omega) (by first | rfl | omega | (simp; done) | (simp; omega) | (simp [upN_len]; omega) | (simp [idxBy_len]; omega) | (simp [marks_len]; omega) | (simp [upN_len]; done) | (simp [idxBy_len]; done) | (simp [marks_len]; done) | (simp at *; omega)) (fun ib65 io65 ia65 ir65 => ?_)
                    refine DJ.yd 13 rfl (by kernel_rfl) (by kernel_rfl) (by kernel_rfl) rfl rfl (Yd.fieldAddr rfl) ?_
                    refine DJ.ldA 14 rfl (by kernel_rfl) (by kernel_rfl) (by kernel_rfl) rfl rfl 2 (fun u => vI u.p.h) (fun _ => rfl) ir65 rfl rfl (by first | rfl | omega | (simp; done) | (simp; omega) | (simp [upN_len]; omega) | (simp [idxBy_len]; omega) | (simp [marks_len]; omega) | (simp [upN_len]; done) | (simp [idxBy_len]; done) | (simp [marks_len]; done) | (simp at *; omega)) (fun u67 hu67 => ?_)
                    try simp only [Int.toNat_natCast] at hu67
                    obtain rfl : u27 = u67 := by rw [hu27] at hu67; exact Option.some.inj hu67
                    obtain ⟨har1, har2⟩ := area_b hpk
                    refine DJ.yd 15 rfl (by kernel_rfl) (by kernel_rfl) (by kernel_rfl) rfl rfl (Yd.mul rfl rfl (by unfold I64; omega)) ?_
                    refine DJ.yd 16 rfl (by kernel_rfl) (by kernel_rfl) (by kernel_rfl) rfl rfl (Yd.mvS rfl) ?_
                    refine DJ.yd 17 rfl (by kernel_rfl) (by kernel_rfl) (by kernel_rfl) rfl rfl (Yd.mvI rfl) ?_
                    refine DJ.idxA 18 rfl (by kernel_rfl) (by kernel_rfl) (by kernel_rfl) rfl rfl hl rfl rfl (by obtain ⟨j, z, hb1, hb2, _⟩ := hbs.resolve_left (by omega); omega) (by obtain ⟨j, z, hb1, hb2, _⟩ := hbs.resolve_left (by omega); have := ltC hb2; omega) (fun ib71 io71 ia71 ir71 => ?_)
                    refine DJ.yd 19 rfl (by kernel_rfl) (by kernel_rfl) (by kernel_rfl) rfl rfl (Yd.fieldAddr rfl) ?_
                    refine DJ.ldA 20 rfl (by kernel_rfl) (by kernel_rfl) (by kernel_rfl) rfl rfl 1 (fun u => vI u.p.w) (fun _ => rfl) ir71 rfl rfl (by obtain ⟨j, z, hb1, hb2, _⟩ := hbs.resolve_left (by omega); have := ltC hb2; omega) (fun u73 hu73 => ?_)
                    try simp only [Int.toNat_natCast] at hu73
                    obtain ⟨j, z, hb1, hb2, hb3, hb4, hb5, hb6⟩ := hbs.resolve_left (by omega)
                    rw [hb1, Int.toNat_natCast, hb2] at hu73
                    obtain rfl : z = u73 := Option.some.inj hu73
                    obtain ⟨hbr1, hbr2⟩ := area_b hb6
                    refine DJ.yd 21 rfl (by kernel_rfl) (by kernel_rfl) (by kernel_rfl) rfl rfl (Yd.mvS rfl) ?_
                    refine DJ.yd 22 rfl (by kernel_rfl) (by kernel_rfl) (by kernel_rfl) rfl rfl (Yd.mvI rfl) ?_
                    refine DJ.idxA 23 rfl (by kernel_rfl) (by kernel_rfl) (by kernel_rfl) rfl rfl hl rfl rfl (by obtain ⟨j, z, hb1, hb2, _⟩ := hbs.resolve_left (by omega); omega) (by obtain ⟨j, z, hb1, hb2, _⟩ := hbs.resolve_left (by omega); have := ltC hb2; omega) (fun ib76 io76 ia76 ir76 => ?_)
                    refine DJ.yd 24 rfl (by kernel_rfl) (by kernel_rfl) (by kernel_rfl) rfl rfl (Yd.fieldAddr rfl) ?_
                    refine DJ.ldA 25 rfl (by kernel_rfl) (by kernel_rfl) (by kernel_rfl) rfl rfl 2 (fun u => vI u.p.h) (fun _ => rfl) ir76 rfl rfl (by obtain ⟨j, z, hb1, hb2, _⟩ := hbs.resolve_left (by omega); have := ltC hb2; omega) (fun u78 hu78 => ?_)
                    try simp only [Int.toNat_natCast] at hu78
                    rw [hb1, Int.toNat_natCast, hb2] at hu78
                    obtain rfl : z = u78 := Option.some.inj hu78
                    refine DJ.yd 26 rfl (by kernel_rfl) (by kernel_rfl) (by kernel_rfl) rfl rfl (Yd.mul rfl rfl (by unfold I64; omega)) ?_
                    refine DJ.splitD 27 rfl (by kernel_rfl) (by kernel_rfl) (by kernel_rfl) rfl rfl (Yd.lss rfl rfl) (fun h80 => ?_) (fun h80 => ?_)
                    · refine DJ.yd 28 rfl (by kernel_rfl) (by kernel_rfl) (by kernel_rfl) rfl rfl (Yd.pickFB rfl rfl) ?_
                      refine DJ.yd 29 rfl (by kernel_rfl) (by kernel_rfl) (by kernel_rfl) rfl rfl (Yd.pickTB rfl rfl) ?_
                      refine DJ.done (by kernel_rfl) ?_
                      refine CJ.condT rfl ?_
                      refine CJ.region ?_
                      refine LJ.yd rfl (Yd.mvI rfl) ?_
                      refine LJ.yd rfl (Yd.asI rfl) ?_
                      refine LJ.nil ?_
                      refine CJ.region ?_
                      refine LJ.yd rfl (Yd.mvI rfl) ?_
                      refine LJ.yd rfl (Yd.add rfl rfl (by unfold I64; omega)) ?_
                      refine LJ.yd rfl (Yd.asI rfl) ?_
                      refine LJ.nil ?_
                      refine ⟨(k + 1, _, u27.p.l, u27.p.w * u27.p.h), ?_, ⟨rfl, rfl, rfl, trivial⟩, ⟨rfl, rfl, trivial⟩, Ent.pick [0] [1] rfl, ?_⟩
                      · refine ⟨by omega, ?_⟩
                        rw [dropP hu27, List.foldl_cons] at hi1
                        have hcc := ccB_valid hpk h14
                        have hcd : ccB u27.p q = true := by rw [hcc]; simp [*]
                        have hcnd : (lb, ls).1 = 0 ∨ u27.p.w * u27.p.h < (lb, ls).2 := by
                          first
                            | (left; show lb = 0; rcases hbs with ⟨_, h⟩ | ⟨j, z, hb1, _⟩ <;> omega)
                            | (right; show _ < ls; omega)
                        rw [fpS_T hcnd hcd] at hi1
                        exact ⟨hi1, .inr ⟨k, u27, rfl, hu27, rfl, rfl, (pcOk_iff.1 hpk).1, hpk⟩⟩
                      · first | omega | (dsimp only; omega) | (simp only []; omega)
                    · refine DJ.yd 28 rfl (by kernel_rfl) (by kernel_rfl) (by kernel_rfl) rfl rfl (Yd.pickFB rfl rfl) ?_
                      refine DJ.yd 29 rfl (by kernel_rfl) (by kernel_rfl) (by kernel_rfl) rfl rfl (Yd.pickTB rfl rfl) ?_
                      refine DJ.done (by kernel_rfl) ?_
                      refine CJ.condF rfl ?_
                      refine CJ.skip ?_
                      refine CJ.region ?_
                      refine LJ.yd rfl (Yd.mvI rfl) ?_
                      refine LJ.yd rfl (Yd.add rfl rfl (by unfold I64; omega)) ?_
                      refine LJ.yd rfl (Yd.asI rfl) ?_
                      refine LJ.nil ?_
                      refine ⟨(k + 1, _, lb, ls), ?_, ⟨rfl, rfl, rfl, trivial⟩, ⟨rfl, rfl, trivial⟩, Ent.pick [0] [1] rfl, ?_⟩
                      · refine ⟨by omega, ?_⟩
                        rw [dropP hu27, List.foldl_cons] at hi1
                        have hcc := ccB_valid hpk h14
                        have hno : ¬ (((lb, ls).1 = 0 ∨ u27.p.w * u27.p.h < (lb, ls).2) ∧ ccB u27.p q = true) := by
                          rintro ⟨h1, h2⟩
                          rw [hcc] at h2
                          first
                            | (simp [*] at h2; done)
                            | (rcases h1 with h1 | h1 <;> simp only at h1 <;> omega)
                        rw [show fpS q (lb, ls) u27.p = (lb, ls) from if_neg hno] at hi1
                        exact ⟨hi1, hbs⟩
                      · first | omega | (dsimp only; omega) | (simp only []; omega)
                · refine DJ.yd 12 rfl (by kernel_rfl) (by kernel_rfl) (by kernel_rfl) rfl rfl (Yd.asB rfl) ?_
                  refine DJ.done (by kernel_rfl) ?_
                  refine CJ.seq ?_
                  refine CJ.regionD [0, 1] [] (by kernel_rfl) rfl ?_
                  refine DJ.norm [_, _] [] rfl rfl ?_
                  refine DJ.yd 0 rfl (by kernel_rfl) (by kernel_rfl) (by kernel_rfl) rfl rfl (Yd.mvB rfl) ?_
                  refine DJ.yd 1 rfl (by kernel_rfl) (by kernel_rfl) (by kernel_rfl) rfl rfl (Yd.mvB rfl) ?_
                  refine DJ.skip 2 rfl (by kernel_rfl) (by kernel_rfl) (by kernel_rfl) rfl rfl ?_
                  refine DJ.skip 3 rfl (by kernel_rfl) (by kernel_rfl) (by kernel_rfl) rfl rfl ?_
                  refine DJ.skip 4 rfl (by kernel_rfl) (by kernel_rfl) (by kernel_rfl) rfl rfl ?_
                  refine DJ.skip 5 rfl (by kernel_rfl) (by kernel_rfl) (by kernel_rfl) rfl rfl ?_
                  refine DJ.skip 6 rfl (by kernel_rfl) (by kernel_rfl) (by kernel_rfl) rfl rfl ?_
                  refine DJ.skip 7 rfl (by kernel_rfl) (by kernel_rfl) (by kernel_rfl) rfl rfl ?_
                  refine DJ.skip 8 rfl (by kernel_rfl) (by kernel_rfl) (by kernel_rfl) rfl rfl ?_
                  refine DJ.skip 9 rfl (by kernel_rfl) (by kernel_rfl) (by kernel_rfl) rfl rfl ?_
                  refine DJ.skip 10 rfl (by kernel_rfl) (by kernel_rfl) (by kernel_rfl) rfl rfl ?_
                  refine DJ.skip 11 rfl (by kernel_rfl) (by kernel_rfl) (by kernel_rfl) rfl rfl ?_
                  refine DJ.skip 12 rfl (by kernel_rfl) (by kernel_rfl) (by kernel_rfl) rfl rfl ?_
                  refine DJ.skip 13 rfl (by kernel_rfl) (by kernel_rfl) (by kernel_rfl) rfl rfl ?_
                  refine DJ.skip 14 rfl (by kernel_rfl) (by kernel_rfl) (by kernel_rfl) rfl rfl ?_
                  refine DJ.skip 15 rfl (by kernel_rfl) (by kernel_rfl) (by kernel_rfl) rfl rfl ?_
                  refine DJ.skip 16 rfl (by kernel_rfl) (by kernel_rfl) (by kernel_rfl) rfl rfl ?_
                  refine DJ.skip 17 rfl (by kernel_rfl) (by kernel_rfl) (by kernel_rfl) rfl rfl ?_
                  refine DJ.skip 18 rfl (by kernel_rfl) (by kernel_rfl) (by kernel_rfl) rfl rfl ?_
                  refine DJ.skip 19 rfl (by kernel_rfl) (by kernel_rfl) (by kernel_rfl) rfl rfl ?_
                  refine DJ.skip 20 rfl (by kernel_rfl) (by kernel_rfl) (by kernel_rfl) rfl rfl ?_
                  refine DJ.skip 21 rfl (by kernel_rfl) (by kernel_rfl) (by kernel_rfl) rfl rfl ?_
                  refine DJ.skip 22 rfl (by kernel_rfl) (by kernel_rfl) (by kernel_rfl) rfl rfl ?_
                  refine DJ.skip 23 rfl (by kernel_rfl) (by kernel_rfl) (by kernel_rfl) rfl rfl ?_
                  refine DJ.skip 24 rfl (by kernel_rfl) (by kernel_rfl) (by kernel_rfl) rfl rfl ?_
                  refine DJ.skip 25 rfl (by kernel_rfl) (by kernel_rfl) (by kernel_rfl) rfl rfl ?_
                  refine DJ.skip 26 rfl (by kernel_rfl) (by kernel_rfl) (by kernel_rfl) rfl rfl ?_
                  refine DJ.skip 27 rfl (by kernel_rfl) (by kernel_rfl) (by kernel_rfl) rfl rfl ?_
                  refine DJ.skip 28 rfl (by kernel_rfl) (by kernel_rfl) (by kernel_rfl) rfl rfl ?_
                  refine DJ.yd 29 rfl (by kernel_rfl) (by kernel_rfl) (by kernel_rfl) rfl rfl (Yd.pickFB rfl rfl) ?_
                  refine DJ.done (by kernel_rfl) ?_
                  refine CJ.condF rfl ?_
                  refine CJ.skip ?_
                  refine CJ.region ?_
                  refine LJ.yd rfl (Yd.mvI rfl) ?_
                  refine LJ.yd rfl (Yd.add rfl rfl (by unfold I64; omega)) ?_
                  refine LJ.yd rfl (Yd.asI rfl) ?_
                  refine LJ.nil ?_
                  refine ⟨(k + 1, _, lb, ls), ?_, ⟨rfl, rfl, rfl, trivial⟩, ⟨rfl, rfl, trivial⟩, Ent.pick [0] [1] rfl, ?_⟩
                  · refine ⟨by omega, ?_⟩
                    rw [dropP hu27, List.foldl_cons] at hi1
                    have hcc := ccB_valid hpk h14
                    have hno : ¬ (((lb, ls).1 = 0 ∨ u27.p.w * u27.p.h < (lb, ls).2) ∧ ccB u27.p q = true) := by
                      rintro ⟨h1, h2⟩
                      rw [hcc] at h2
                      first
                        | (simp [*] at h2; done)
                        | (rcases h1 with h1 | h1 <;> simp only at h1 <;> omega)
                    rw [show fpS q (lb, ls) u27.p = (lb, ls) from if_neg hno] at hi1
                    exact ⟨hi1, hbs⟩
                  · first | omega | (dsimp only; omega) | (simp only []; omega)
              · refine LJ.yd rfl (Yd.pickTB rfl rfl) ?_
                refine LJ.nil ?_
                refine CJ.condF rfl ?_
                refine CJ.skip ?_
                refine CJ.seq ?_
                refine CJ.regionD [0, 1] [] (by kernel_rfl) rfl ?_
                refine DJ.norm [_, _] [] rfl rfl ?_
                refine DJ.yd 0 rfl (by kernel_rfl) (by kernel_rfl) (by kernel_rfl) rfl rfl (Yd.mvB rfl) ?_
                refine DJ.yd 1 rfl (by kernel_rfl) (by kernel_rfl) (by kernel_rfl) rfl rfl (Yd.mvB rfl) ?_
                refine DJ.skip 2 rfl (by kernel_rfl) (by kernel_rfl) (by kernel_rfl) rfl rfl ?_
                refine DJ.skip 3 rfl (by kernel_rfl) (by kernel_rfl) (by kernel_rfl) rfl rfl ?_
                refine DJ.skip 4 rfl (by kernel_rfl) (by kernel_rfl) (by kernel_rfl) rfl rfl ?_
                refine DJ.skip 5 rfl (by kernel_rfl) (by kernel_rfl) (by kernel_rfl) rfl rfl ?_
                refine DJ.skip 6 rfl (by kernel_rfl) (by kernel_rfl) (by kernel_rfl) rfl rfl ?_
                refine DJ.skip 7 rfl (by kernel_rfl) (by kernel_rfl) (by kernel_rfl) rfl rfl ?_
                refine DJ.skip 8 rfl (by kernel_rfl) (by kernel_rfl) (by kernel_rfl) rfl rfl ?_
                refine DJ.skip 9 rfl (by kernel_rfl) (by kernel_rfl) (by kernel_rfl) rfl rfl ?_
                refine DJ.skip 10 rfl (by kernel_rfl) (by kernel_rfl) (by kernel_rfl) rfl rfl ?_
                refine DJ.skip 11 rfl (by kernel_rfl) (by kernel_rfl) (by kernel_rfl) rfl rfl ?_
                refine DJ.skip 12 rfl (by kernel_rfl) (by kernel_rfl) (by kernel_rfl) rfl rfl ?_
                refine DJ.skip 13 rfl (by kernel_rfl) (by kernel_rfl) (by kernel_rfl) rfl rfl ?_
                refine DJ.skip 14 rfl (by kernel_rfl) (by kernel_rfl) (by kernel_rfl) rfl rfl ?_
                refine DJ.skip 15 rfl (by kernel_rfl) (by kernel_rfl) (by kernel_rfl) rfl rfl ?_
                refine DJ.skip 16 rfl (by kernel_rfl) (by kernel_rfl) (by kernel_rfl) rfl rfl ?_
                refine DJ.skip 17 rfl (by kernel_rfl) (by kernel_rfl) (by kernel_rfl) rfl rfl ?_
                refine DJ.skip 18 rfl (by kernel_rfl) (by kernel_rfl) (by kernel_rfl) rfl rfl ?_
                refine DJ.skip 19 rfl (by kernel_rfl) (by kernel_rfl) (by kernel_rfl) rfl rfl ?_
                refine DJ.skip 20 rfl (by kernel_rfl) (by kernel_rfl) (by kernel_rfl) rfl rfl ?_
                refine DJ.skip 21 rfl (by kernel_rfl) (by kernel_rfl) (by kernel_rfl) rfl rfl ?_
                refine DJ.skip 22 rfl (by kernel_rfl) (by kernel_rfl) (by kernel_rfl) rfl rfl ?_
                refine DJ.skip 23 rfl (by kernel_rfl) (by kernel_rfl) (by kernel_rfl) rfl rfl ?_
                refine DJ.skip 24 rfl (by kernel_rfl) (by kernel_rfl) (by kernel_rfl) rfl rfl ?_
                refine DJ.skip 25 rfl (by kernel_rfl) (by kernel_rfl) (by kernel_rfl) rfl rfl ?_
                refine DJ.skip 26 rfl (by kernel_rfl) (by kernel_rfl) (by kernel_rfl) rfl rfl ?_
                refine DJ.skip 27 rfl (by kernel_rfl) (by kernel_rfl) (by kernel_rfl) rfl rfl ?_
                refine DJ.skip 28 rfl (by kernel_rfl) (by kernel_rfl) (by kernel_rfl) rfl rfl ?_
                refine DJ.yd 29 rfl (by kernel_rfl) (by kernel_rfl) (by kernel_rfl) rfl rfl (Yd.pickFB rfl rfl) ?_
                refine DJ.done (by kernel_rfl) ?_
                refine CJ.condF rfl ?_
                refine CJ.skip ?_
                refine CJ.region ?_
                refine LJ.yd rfl (Yd.mvI rfl) ?_
                refine LJ.yd rfl (Yd.add rfl rfl (by unfold I64; omega)) ?_
                refine LJ.yd rfl (Yd.asI rfl) ?_
                refine LJ.nil ?_
                refine ⟨(k + 1, _, lb, ls), ?_, ⟨rfl, rfl, rfl, trivial⟩, ⟨rfl, rfl, trivial⟩, Ent.pick [0] [1] rfl, ?_⟩
                · refine ⟨by omega, ?_⟩
                  rw [dropP hu27, List.foldl_cons] at hi1
                  have hcc := ccB_valid hpk h14
                  have hno : ¬ (((lb, ls).1 = 0 ∨ u27.p.w * u27.p.h < (lb, ls).2) ∧ ccB u27.p q = true) := by
                    rintro ⟨h1, h2⟩
                    rw [hcc] at h2
                    first
                      | (simp [*] at h2; done)
                      | (rcases h1 with h1 | h1 <;> simp only at h1 <;> omega)
                  rw [show fpS q (lb, ls) u27.p = (lb, ls) from if_neg hno] at hi1
                  exact ⟨hi1, hbs⟩
                · first | omega | (dsimp only; omega) | (simp only []; omega)
          · refine DO.alloc ([_, _, _, _] : List Value) rfl rfl rfl rfl (fun b4 => ?_)
            refine DJ.one (i := 8) (by kernel_rfl) ?_
            refine DO.call0 rfl rfl rfl (fun k0 hk0 dk0 k hk dk => firstClearS_ok (fl := u27.p.fl) (RdRow.up (hx u27 (List.mem_of_getElem? hu27))) (pc_mid hpk) (by omega) (by omega) (by omega) (by omega)) ?_
            rintro _ _ ⟨r32, rfl, rfl⟩
            refine DJ.yd 9 rfl (by kernel_rfl) (by kernel_rfl) (by kernel_rfl) rfl rfl (Yd.mvU rfl) ?_
            refine DJ.yd 10 rfl (by kernel_rfl) (by kernel_rfl) (by kernel_rfl) rfl rfl (Yd.extract rfl rfl) ?_
            refine DJ.split 11 rfl (by kernel_rfl) (by kernel_rfl) (by kernel_rfl) rfl rfl (Yd.extract rfl rfl) (fun h34 => ?_) (fun h34 => ?_)
            · refine DJ.one (i := 13) (by kernel_rfl) ?_
              refine DO.store (v := .agg #[_, _, _, _]) (us := [_, _, _, _]) 0 rfl rfl rfl rfl rfl rfl rfl rfl rfl rfl ?_
              refine DJ.yd 14 rfl (by kernel_rfl) (by kernel_rfl) (by kernel_rfl) rfl rfl (Yd.asB rfl) ?_
              refine DJ.done (by kernel_rfl) ?_
              refine CJ.seq ?_
              refine CJ.seq ?_
              refine CJ.region ?_
              refine LJ.yd rfl (Yd.mvB rfl) ?_
              refine LJ.yd rfl (Yd.not rfl) ?_
              refine LJ.yd rfl (Yd.mvB rfl) ?_
              refine LJ.gF rfl rfl ?_
              refine LJ.gF rfl rfl ?_
              refine LJ.yd rfl (Yd.pickFB rfl rfl) ?_
              refine LJ.nil ?_
              refine CJ.condF rfl ?_
              refine CJ.skip ?_
              refine CJ.seq ?_
              refine CJ.regionD [0, 1] [] (by kernel_rfl) rfl ?_
              refine DJ.norm [_, _] [] rfl rfl ?_
              refine DJ.yd 0 rfl (by kernel_rfl) (by kernel_rfl) (by kernel_rfl) rfl rfl (Yd.mvB rfl) ?_
              refine DJ.yd 1 rfl (by kernel_rfl) (by kernel_rfl) (by kernel_rfl) rfl rfl (Yd.mvB rfl) ?_
              refine DJ.yd 2 rfl (by kernel_rfl) (by kernel_rfl) (by kernel_rfl) rfl rfl (Yd.mvI rfl) ?_
              refine DJ.splitD 3 rfl (by kernel_rfl) (by kernel_rfl) (by kernel_rfl) rfl rfl (Yd.lss rfl rfl) (fun h56 => ?_) (fun h56 => ?_)
              · refine DJ.yd 4 rfl (by kernel_rfl) (by kernel_rfl) (by kernel_rfl) rfl rfl (Yd.mvB rfl) ?_
                refine DJ.skip 5 rfl (by kernel_rfl) (by kernel_rfl) (by kernel_rfl) rfl rfl ?_
                refine DJ.skip 6 rfl (by kernel_rfl) (by kernel_rfl) (by kernel_rfl) rfl rfl ?_
                refine DJ.skip 7 rfl (by kernel_rfl) (by kernel_rfl) (by kernel_rfl) rfl rfl ?_
                refine DJ.skip 8 rfl (by kernel_rfl) (by kernel_rfl) (by kernel_rfl) rfl rfl ?_
                refine DJ.skip 9 rfl (by kernel_rfl) (by kernel_rfl) (by kernel_rfl) rfl rfl ?_
                refine DJ.skip 10 rfl (by kernel_rfl) (by kernel_rfl) (by kernel_rfl) rfl rfl ?_
                refine DJ.skip 11 rfl (by kernel_rfl) (by kernel_rfl) (by kernel_rfl) rfl rfl ?_
                refine DJ.skip 12 rfl (by kernel_rfl) (by kernel_rfl) (by kernel_rfl) rfl rfl ?_
                refine DJ.skip 13 rfl (by kernel_rfl) (by kernel_rfl) (by kernel_rfl) rfl rfl ?_
                refine DJ.skip 14 rfl (by kernel_rfl) (by kernel_rfl) (by kernel_rfl) rfl rfl ?_
                refine DJ.skip 15 rfl (by kernel_rfl) (by kernel_rfl) (by kernel_rfl) rfl rfl ?_
                refine DJ.skip 16 rfl (by kernel_rfl) (by kernel_rfl) (by kernel_rfl) rfl rfl ?_
                refine DJ.skip 17 rfl (by kernel_rfl) (by kernel_rfl) (by kernel_rfl) rfl rfl ?_
                refine DJ.skip 18 rfl (by kernel_rfl) (by kernel_rfl) (by kernel_rfl) rfl rfl ?_
                refine DJ.skip 19 rfl (by kernel_rfl) (by kernel_rfl) (by kernel_rfl) rfl rfl ?_
                refine DJ.skip 20 rfl (by kernel_rfl) (by kernel_rfl) (by kernel_rfl) rfl rfl ?_
                refine DJ.skip 21 rfl (by kernel_rfl) (by kernel_rfl) (by kernel_rfl) rfl rfl ?_
                refine DJ.skip 22 rfl (by kernel_rfl) (by kernel_rfl) (by kernel_rfl) rfl rfl ?_
                refine DJ.skip 23 rfl (by kernel_rfl) (by kernel_rfl) (by kernel_rfl) rfl rfl ?_
                refine DJ.skip 24 rfl (by kernel_rfl) (by kernel_rfl) (by kernel_rfl) rfl rfl ?_
                refine DJ.skip 25 rfl (by kernel_rfl) (by kernel_rfl) (by kernel_rfl) rfl rfl ?_
                refine DJ.skip 26 rfl (by kernel_rfl) (by kernel_rfl) (by kernel_rfl) rfl rfl ?_
                refine DJ.skip 27 rfl (by kernel_rfl) (by kernel_rfl) (by kernel_rfl) rfl rfl ?_
                refine DJ.yd 28 rfl (by kernel_rfl) (by kernel_rfl) (by kernel_rfl) rfl rfl (Yd.pickTB rfl rfl) ?_
                refine DJ.yd 29 rfl (by kernel_rfl) (by kernel_rfl) (by kernel_rfl) rfl rfl (Yd.pickTB rfl rfl) ?_
                refine DJ.done (by kernel_rfl) ?_
                refine CJ.condT rfl ?_
                refine CJ.region ?_
                refine LJ.yd rfl (Yd.mvI rfl) ?_
                refine LJ.yd rfl (Yd.asI rfl) ?_
                refine LJ.nil ?_
                refine CJ.region ?_
                refine LJ.yd rfl (Yd.mvI rfl) ?_
                refine LJ.yd rfl (Yd.add rfl rfl (by unfold I64; omega)) ?_
                refine LJ.yd rfl (Yd.asI rfl) ?_
                refine LJ.nil ?_
                refine ⟨(k + 1, _, u27.p.l, u27.p.w * u27.p.h), ?_, ⟨rfl, rfl, rfl, trivial⟩, ⟨rfl, rfl, trivial⟩, Ent.pick [0] [1] rfl, ?_⟩
                · refine ⟨by omega, ?_⟩
                  rw [dropP hu27, List.foldl_cons] at hi1
                  have hcc := ccB_valid hpk h14
                  have hcd : ccB u27.p q = true := by rw [hcc]; simp [*]
                  have hcnd : (lb, ls).1 = 0 ∨ u27.p.w * u27.p.h < (lb, ls).2 := by
                    first
                      | (left; show lb = 0; rcases hbs with ⟨_, h⟩ | ⟨j, z, hb1, _⟩ <;> omega)
                      | (right; show _ < ls; omega)
                  rw [fpS_T hcnd hcd] at hi1
                  exact ⟨hi1, .inr ⟨k, u27, rfl, hu27, rfl, rfl, (pcOk_iff.1 hpk).1, hpk⟩⟩
                · first | omega | (dsimp only; omega) | (simp only []; omega)
              · refine DJ.yd 4 rfl (by kernel_rfl) (by kernel_rfl) (by kernel_rfl) rfl rfl (Yd.mvB rfl) ?_
                refine DJ.yd 5 rfl (by kernel_rfl) (by kernel_rfl) (by kernel_rfl) rfl rfl (Yd.mvS rfl) ?_
                refine DJ.yd 6 rfl (by kernel_rfl) (by kernel_rfl) (by kernel_rfl) rfl rfl (Yd.mvI rfl) ?_
                refine DJ.idxA 7 rfl (by kernel_rfl) (by kernel_rfl) (by kernel_rfl) rfl rfl hl rfl rfl (by omega) (by first | rfl | omega | (simp; done) | (simp; omega) | (simp [upN_len]; omega) | (simp [idxBy_len]; omega) | (simp [marks_len]; omega) | (simp [upN_len]; done) | (simp [idxBy_len]; done) | (simp [marks_len]; done) | (simp at *; omega)) (fun ib60 io60 ia60 ir60 => ?_)
                refine DJ.yd 8 rfl (by kernel_rfl) (by kernel_rfl) (by kernel_rfl) rfl rfl (Yd.fieldAddr rfl) ?_
                refine DJ.ldA 9 rfl (by kernel_rfl) (by kernel_rfl) (by kernel_rfl) rfl rfl 1 (fun u => vI u.p.w) (fun _ => rfl) ir60 rfl rfl (by first | rfl | omega | (simp; done) | (simp; omega) | (simp [upN_len]; omega) | (simp [idxBy_len]; omega) | (simp [marks_len]; omega) | (simp [upN_len]; done) | (simp [idxBy_len]; done) | (simp [marks_len]; done) | (simp at *; omega)) (fun u62 hu62 => ?_)
                try simp only [Int.toNat_natCast] at hu62
                obtain rfl : u27 = u62 := by rw [hu27] at hu62; exact Option.some.inj hu62
                refine DJ.yd 10 rfl (by kernel_rfl) (by kernel_rfl) (by kernel_rfl) rfl rfl (Yd.mvS rfl) ?_
                refine DJ.yd 11 rfl (by kernel_rfl) (by kernel_rfl) (by kernel_rfl) rfl rfl (Yd.mvI rfl) ?_
                refine DJ.idxA 12 rfl (by kernel_rfl) (by kernel_rfl) (by kernel_rfl) rfl rfl hl rfl rfl (by omega) (by first | rfl | omega | (simp; done) | (simp; omega) | (simp [upN_len]; omega) | (simp [idxBy_len]; omega) | (simp [marks_len]; omega) | (simp [upN_len]; done) | (simp [idxBy_len]; done) | (simp [marks_len]; done) | (simp at *; omega)) (fun ib65 io65 ia65 ir65 => ?_)
                refine DJ.yd 13 rfl (by kernel_rfl) (by kernel_rfl) (by kernel_rfl) rfl rfl (Yd.fieldAddr rfl) ?_
                refine DJ.ldA 14 rfl (by kernel_rfl) (by kernel_rfl) (by kernel_rfl) rfl rfl 2 (fun u => vI u.p.h) (fun _ => rfl) ir65 rfl rfl (by first | rfl | omega | (simp; done) | (simp; omega) | (simp [upN_len]; omega) | (simp [idxBy_len]; omega) | (simp [marks_len]; omega) | (simp [upN_len]; done) | (simp [idxBy_len]; done) | (simp [marks_len]; done) | (simp at *; omega)) (fun u67 hu67 => ?_)
                try simp only [Int.toNat_natCast] at hu67
                obtain rfl : u27 = u67 := by rw [hu27] at hu67; exact Option.some.inj hu67
                obtain ⟨har1, har2⟩ := area_b hpk
                refine DJ.yd 15 rfl (by kernel_rfl) (by kernel_rfl) (by kernel_rfl) rfl rfl (Yd.mul rfl rfl (by unfold I64; omega)) ?_
                refine DJ.yd 16 rfl (by kernel_rfl) (by kernel_rfl) (by kernel_rfl) rfl rfl (Yd.mvS rfl) ?_
                refine DJ.yd 17 rfl (by kernel_rfl) (by kernel_rfl) (by kernel_rfl) rfl rfl (Yd.mvI rfl) ?_
                refine DJ.idxA 18 rfl (by kernel_rfl) (by kernel_rfl) (by kernel_rfl) rfl rfl hl rfl rfl (by obtain ⟨j, z, hb1, hb2, _⟩ := hbs.resolve_left (by omega); omega) (by obtain ⟨j, z, hb1, hb2, _⟩ := hbs.resolve_left (by omega); have := ltC hb2; omega) (fun ib71 io71 ia71 ir71 => ?_)
                refine DJ.yd 19 rfl (by kernel_rfl) (by kernel_rfl) (by kernel_rfl) rfl rfl (Yd.fieldAddr rfl) ?_
                refine DJ.ldA 20 rfl (by kernel_rfl) (by kernel_rfl) (by kernel_rfl) rfl rfl 1 (fun u => vI u.p.w) (fun _ => rfl) ir71 rfl rfl (by obtain ⟨j, z, hb1, hb2, _⟩ := hbs.resolve_left (by omega); have := ltC hb2; omega) (fun u73 hu73 => ?_)
                try simp only [Int.toNat_natCast] at hu73
                obtain ⟨j, z, hb1, hb2, hb3, hb4, hb5, hb6⟩ := hbs.resolve_left (by omega)
                rw [hb1, Int.toNat_natCast, hb2] at hu73
                obtain rfl : z = u73 := Option.some.inj hu73
                obtain ⟨hbr1, hbr2⟩ := area_b hb6
                refine DJ.yd 21 rfl (by kernel_rfl) (by kernel_rfl) (by kernel_rfl) rfl rfl (Yd.mvS rfl) ?_
                refine DJ.yd 22 rfl (by kernel_rfl) (by kernel_rfl) (by kernel_rfl) rfl rfl (Yd.mvI rfl) ?_
                refine DJ.idxA 23 rfl (by kernel_rfl) (by kernel_rfl) (by kernel_rfl) rfl rfl hl rfl rfl (by obtain ⟨j, z, hb1, hb2, _⟩ := hbs.resolve_left (by omega); omega) (by obtain ⟨j, z, hb1, hb2, _⟩ := hbs.resolve_left (by omega); have := ltC hb2; omega) (fun ib76 io76 ia76 ir76 => ?_)
                refine DJ.yd 24 rfl (by kernel_rfl) (by kernel_rfl) (by kernel_rfl) rfl rfl (Yd.fieldAddr rfl) ?_
                refine DJ.ldA 25 rfl (by kernel_rfl) (by kernel_rfl) (by kernel_rfl) rfl rfl 2 (fun u => vI u.p.h) (fun _ => rfl) ir76 rfl rfl (by obtain ⟨j, z, hb1, hb2, _⟩ := hbs.resolve_left (by omega); have := ltC hb2; omega) (fun u78 hu78 => ?_)
                try simp only [Int.toNat_natCast] at hu78
                rw [hb1, Int.toNat_natCast, hb2] at hu78
                obtain rfl : z = u78 := Option.some.inj hu78
                refine DJ.yd 26 rfl (by kernel_rfl) (by kernel_rfl) (by kernel_rfl) rfl rfl (Yd.mul rfl rfl (by unfold I64; omega)) ?_
                refine DJ.splitD 27 rfl (by kernel_rfl) (by kernel_rfl) (by kernel_rfl) rfl rfl (Yd.lss rfl rfl) (fun h80 => ?_) (fun h80 => ?_)
                · refine DJ.yd 28 rfl (by kernel_rfl) (by kernel_rfl) (by kernel_rfl) rfl rfl (Yd.pickFB rfl rfl) ?_
                  refine DJ.yd 29 rfl (by kernel_rfl) (by kernel_rfl) (by kernel_rfl) rfl rfl (Yd.pickTB rfl rfl) ?_
                  refine DJ.done (by kernel_rfl) ?_
                  refine CJ.condT rfl ?_
                  refine CJ.region ?_
                  refine LJ.yd rfl (Yd.mvI rfl) ?_
                  refine LJ.yd rfl (Yd.asI rfl) ?_
                  refine LJ.nil ?_
                  refine CJ.region ?_
                  refine LJ.yd rfl (Yd.mvI rfl) ?_
                  refine LJ.yd rfl (Yd.add rfl rfl (by unfold I64; omega)) ?_
                  refine LJ.yd rfl (Yd.asI rfl) ?_
                  refine LJ.nil ?_
                  refine ⟨(k + 1, _, u27.p.l, u27.p.w * u27.p.h), ?_, ⟨rfl, rfl, rfl, trivial⟩, ⟨rfl, rfl, trivial⟩, Ent.pick [0] [1] rfl, ?_⟩
                  · refine ⟨by omega, ?_⟩
                    rw [dropP hu27, List.foldl_cons] at hi1
                    have hcc := ccB_valid hpk h14
                    have hcd : ccB u27.p q = true := by rw [hcc]; simp [*]
                    have hcnd : (lb, ls).1 = 0 ∨ u27.p.w * u27.p.h < (lb, ls).2 := by
                      first
                        | (left; show lb = 0; rcases hbs with ⟨_, h⟩ | ⟨j, z, hb1, _⟩ <;> omega)
                        | (right; show _ < ls; omega)
                    rw [fpS_T hcnd hcd] at hi1
                    exact ⟨hi1, .inr ⟨k, u27, rfl, hu27, rfl, rfl, (pcOk_iff.1 hpk).1, hpk⟩⟩
                  · first | omega | (dsimp only; omega) | (simp only []; omega)
                · refine DJ.yd 28 rfl (by kernel_rfl) (by kernel_rfl) (by kernel_rfl) rfl rfl (Yd.pickFB rfl rfl) ?_
                  refine DJ.yd 29 rfl (by kernel_rfl) (by kernel_rfl) (by kernel_rfl) rfl rfl (Yd.pickTB rfl rfl) ?_
                  refine DJ.done (by kernel_rfl) ?_
                  refine CJ.condF rfl ?_
                  refine CJ.skip ?_
                  refine CJ.region ?_
                  refine LJ.yd rfl (Yd.mvI rfl) ?_
                  refine LJ.yd rfl (Yd.add rfl rfl (by unfold I64; omega)) ?_
                  refine LJ.yd rfl (Yd.asI rfl) ?_
                  refine LJ.nil ?_
                  refine ⟨(k + 1, _, lb, ls), ?_, ⟨rfl, rfl, rfl, trivial⟩, ⟨rfl, rfl, trivial⟩, Ent.pick [0] [1] rfl, ?_⟩
                  · refine ⟨by omega, ?_⟩
                    rw [dropP hu27, List.foldl_cons] at hi1
                    have hcc := ccB_valid hpk h14
                    have hno : ¬ (((lb, ls).1 = 0 ∨ u27.p.w * u27.p.h < (lb, ls).2) ∧ ccB u27.p q = true) := by
                      rintro ⟨h1, h2⟩
                      rw [hcc] at h2
                      first
                        | (simp [*] at h2; done)
                        | (rcases h1 with h1 | h1 <;> simp only at h1 <;> omega)
                    rw [show fpS q (lb, ls) u27.p = (lb, ls) from if_neg hno] at hi1
                    exact ⟨hi1, hbs⟩
                  · first | omega | (dsimp only; omega) | (simp only []; omega)
            · refine DJ.one (i := 13) (by kernel_rfl) ?_
              refine DO.store (v := .agg #[_, _, _, _]) (us := [_, _, _, _]) 0 rfl rfl rfl rfl rfl rfl rfl rfl rfl rfl ?_
              refine DJ.yd 14 rfl (by kernel_rfl) (by kernel_rfl) (by kernel_rfl) rfl rfl (Yd.asB rfl) ?_
              refine DJ.done (by kernel_rfl) ?_
              refine CJ.seq ?_
              refine CJ.seq ?_
              refine CJ.region ?_
              refine LJ.yd rfl (Yd.mvB rfl) ?_
              refine LJ.yd rfl (Yd.not rfl) ?_
              refine LJ.yd rfl (Yd.mvB rfl) ?_
              refine LJ.gT rfl ?_
              refine LJ.yd rfl (Yd.fieldAddr rfl) ?_
              refine LJ.gT rfl ?_
              refine LJ.split rfl (Yd.loadC 0 rfl rfl rfl) (fun h39 => ?_) (fun h39 => ?_)
              · refine LJ.yd rfl (Yd.pickTB rfl rfl) ?_
                refine LJ.nil ?_
                refine CJ.condT rfl ?_
                refine CJ.regionD [0, 1] [] (by kernel_rfl) rfl ?_
                refine DJ.norm [_, _] [] rfl rfl ?_
                refine DJ.yd 0 rfl (by kernel_rfl) (by kernel_rfl) (by kernel_rfl) rfl rfl (Yd.mvS rfl) ?_
                refine DJ.yd 1 rfl (by kernel_rfl) (by kernel_rfl) (by kernel_rfl) rfl rfl (Yd.mvI rfl) ?_
                refine DJ.idxA 2 rfl (by kernel_rfl) (by kernel_rfl) (by kernel_rfl) rfl rfl hl rfl rfl (by omega) (by first | rfl | omega | (simp; done) | (simp; omega) | (simp [upN_len]; omega) | (simp [idxBy_len]; omega) | (simp [marks_len]; omega) | (simp [upN_len]; done) | (simp [idxBy_len]; done) | (simp [marks_len]; done) | (simp at *; omega)) (fun ib44 io44 ia44 ir44 => ?_)
                refine DJ.lgA 3 rfl (by kernel_rfl) (by kernel_rfl) (by kernel_rfl) rfl rfl (enc := encQ) (fun u => [vI u.p.l, vI u.p.w, vI u.p.h, .slice u.a u.p.fl.length u.c]) (fun _ => rfl) (fun _ => rfl) ir44 rfl rfl (by first | rfl | omega | (simp; done) | (simp; omega) | (simp [upN_len]; omega) | (simp [idxBy_len]; omega) | (simp [marks_len]; omega) | (simp [upN_len]; done) | (simp [idxBy_len]; done) | (simp [marks_len]; done) | (simp at *; omega)) (fun u45 hu45 => ?_)
                try simp only [Int.toNat_natCast] at hu45
                obtain rfl : u27 = u45 := by rw [hu27] at hu45; exact Option.some.inj hu45
                refine DJ.yd 4 rfl (by kernel_rfl) (by kernel_rfl) (by kernel_rfl) rfl rfl (Yd.fieldAddr rfl) ?_
                refine DJ.yd 5 rfl (by kernel_rfl) (by kernel_rfl) (by kernel_rfl) rfl rfl (Yd.loadC 0 rfl rfl rfl) ?_
                refine DJ.yd 6 rfl (by kernel_rfl) (by kernel_rfl) (by kernel_rfl) rfl rfl (Yd.fieldAddr rfl) ?_
                refine DJ.yd 7 rfl (by kernel_rfl) (by kernel_rfl) (by kernel_rfl) rfl rfl (Yd.loadC 0 rfl rfl rfl) ?_
                refine DJ.one (i := 8) (by kernel_rfl) ?_
                refine DO.call0 rfl rfl rfl (fun k0 hk0 dk0 k hk dk => firstClearS_ok (fl := u27.p.fl) (RdRow.up (hx u27 (List.mem_of_getElem? hu27))) (pc_mid hpk) (by omega) (by omega) (by omega) (by omega)) ?_
                rintro _ _ ⟨r50, rfl, rfl⟩
                refine DJ.yd 9 rfl (by kernel_rfl) (by kernel_rfl) (by kernel_rfl) rfl rfl (Yd.mvU rfl) ?_
                refine DJ.yd 10 rfl (by kernel_rfl) (by kernel_rfl) (by kernel_rfl) rfl rfl (Yd.extract rfl rfl) ?_
                refine DJ.split 11 rfl (by kernel_rfl) (by kernel_rfl) (by kernel_rfl) rfl rfl (Yd.extract rfl rfl) (fun h52 => ?_) (fun h52 => ?_)
                · refine DJ.yd 12 rfl (by kernel_rfl) (by kernel_rfl) (by kernel_rfl) rfl rfl (Yd.asB rfl) ?_
                  refine DJ.done (by kernel_rfl) ?_
                  refine CJ.seq ?_
                  refine CJ.regionD [0, 1] [] (by kernel_rfl) rfl ?_
                  refine DJ.norm [_, _] [] rfl rfl ?_
                  refine DJ.yd 0 rfl (by kernel_rfl) (by kernel_rfl) (by kernel_rfl) rfl rfl (Yd.mvB rfl) ?_
                  refine DJ.yd 1 rfl (by kernel_rfl) (by kernel_rfl) (by kernel_rfl) rfl rfl (Yd.mvB rfl) ?_
                  refine DJ.yd 2 rfl (by kernel_rfl) (by kernel_rfl) (by kernel_rfl) rfl rfl (Yd.mvI rfl) ?_
                  refine DJ.splitD 3 rfl (by kernel_rfl) (by kernel_rfl) (by kernel_rfl) rfl rfl (Yd.lss rfl rfl) (fun h56 => ?_) (fun h56 => ?_)
                  · refine DJ.yd 4 rfl (by kernel_rfl) (by kernel_rfl) (by kernel_rfl) rfl rfl (Yd.mvB rfl) ?_
                    refine DJ.skip 5 rfl (by kernel_rfl) (by kernel_rfl) (by kernel_rfl) rfl rfl ?_
                    refine DJ.skip 6 rfl (by kernel_rfl) (by kernel_rfl) (by kernel_rfl) rfl rfl ?_
                    refine DJ.skip 7 rfl (by kernel_rfl) (by kernel_rfl) (by kernel_rfl) rfl rfl ?_
                    refine DJ.skip 8 rfl (by kernel_rfl) (by kernel_rfl) (by kernel_rfl) rfl rfl ?_
                    refine DJ.skip 9 rfl (by kernel_rfl) (by kernel_rfl) (by kernel_rfl) rfl rfl ?_
                    refine DJ.skip 10 rfl (by kernel_rfl) (by kernel_rfl) (by kernel_rfl) rfl rfl ?_
                    refine DJ.skip 11 rfl (by kernel_rfl) (by kernel_rfl) (by kernel_rfl) rfl rfl ?_
                    refine DJ.skip 12 rfl (by kernel_rfl) (by kernel_rfl) (by kernel_rfl) rfl rfl ?_
                    refine DJ.skip 13 rfl (by kernel_rfl) (by kernel_rfl) (by kernel_rfl) rfl rfl ?_
                    refine DJ.skip 14 rfl (by kernel_rfl) (by kernel_rfl) (by kernel_rfl) rfl rfl ?_
                    refine DJ.skip 15 rfl (by kernel_rfl) (by kernel_rfl) (by kernel_rfl) rfl rfl ?_
                    refine DJ.skip 16 rfl (by kernel_rfl) (by kernel_rfl) (by kernel_rfl) rfl rfl ?_
                    refine DJ.skip 17 rfl (by kernel_rfl) (by kernel_rfl) (by kernel_rfl) rfl rfl ?_
                    refine DJ.skip 18 rfl (by kernel_rfl) (by kernel_rfl) (by kernel_rfl) rfl rfl ?_
                    refine DJ.skip 19 rfl (by kernel_rfl) (by kernel_rfl) (by kernel_rfl) rfl rfl ?_
                    refine DJ.skip 20 rfl (by kernel_rfl) (by kernel_rfl) (by kernel_rfl) rfl rfl ?_
                    refine DJ.skip 21 rfl (by kernel_rfl) (by kernel_rfl) (by kernel_rfl) rfl rfl ?_
                    refine DJ.skip 22 rfl (by kernel_rfl) (by kernel_rfl) (by kernel_rfl) rfl rfl ?_
                    refine DJ.skip 23 rfl (by kernel_rfl) (by kernel_rfl) (by kernel_rfl) rfl rfl ?_
                    refine DJ.skip 24 rfl (by kernel_rfl) (by kernel_rfl) (by kernel_rfl) rfl rfl ?_
                    refine DJ.skip 25 rfl (by kernel_rfl) (by kernel_rfl) (by kernel_rfl) rfl rfl ?_
                    refine DJ.skip 26 rfl (by kernel_rfl) (by kernel_rfl) (by kernel_rfl) rfl rfl ?_
                    refine DJ.skip 27 rfl (by kernel_rfl) (by kernel_rfl) (by kernel_rfl) rfl rfl ?_
                    refine DJ.yd 28 rfl (by kernel_rfl) (by kernel_rfl) (by kernel_rfl) rfl rfl (Yd.pickTB rfl rfl) ?_
                    refine DJ.yd 29 rfl (by kernel_rfl) (by kernel_rfl) (by kernel_rfl) rfl rfl (Yd.pickTB rfl rfl) ?_
                    refine DJ.done (by kernel_rfl) ?_
                    refine CJ.condT rfl ?_
                    refine CJ.region ?_
                    refine LJ.yd rfl (Yd.mvI rfl) ?_
                    refine LJ.yd rfl (Yd.asI rfl) ?_
                    refine LJ.nil ?_
                    refine CJ.region ?_
                    refine LJ.yd rfl (Yd.mvI rfl) ?_
                    refine LJ.yd rfl (Yd.add rfl rfl (by unfold I64; omega)) ?_
                    refine LJ.yd rfl (Yd.asI rfl) ?_
                    refine LJ.nil ?_
                    refine ⟨(k + 1, _, u27.p.l, u27.p.w * u27.p.h), ?_, ⟨rfl, rfl, rfl, trivial⟩, ⟨rfl, rfl, trivial⟩, Ent.pick [0] [1] rfl, ?_⟩
                    · refine ⟨by omega, ?_⟩
                      rw [dropP hu27, List.foldl_cons] at hi1
                      have hcc := ccB_valid hpk h14
                      have hcd : ccB u27.p q = true := by rw [hcc]; simp [*]
                      have hcnd : (lb, ls).1 = 0 ∨ u27.p.w * u27.p.h < (lb, ls).2 := by
                        first
                          | (left; show lb = 0; rcases hbs with ⟨_, h⟩ | ⟨j, z, hb1, _⟩ <;> omega)
                          | (right; show _ < ls; omega)
                      rw [fpS_T hcnd hcd] at hi1
                      exact ⟨hi1, .inr ⟨k, u27, rfl, hu27, rfl, rfl, (pcOk_iff.1 hpk).1, hpk⟩⟩
                    · first | omega | (dsimp only; omega) | (simp only []; omega)
                  · refine DJ.yd 4 rfl (by kernel_rfl) (by kernel_rfl) (by kernel_rfl) rfl rfl (Yd.mvB rfl) ?_
                    refine DJ.yd 5 rfl (by kernel_rfl) (by kernel_rfl) (by kernel_rfl) rfl rfl (Yd.mvS rfl) ?_
                    refine DJ.yd 6 rfl (by kernel_rfl) (by kernel_rfl) (by kernel_rfl) rfl rfl (Yd.mvI rfl) ?_
                    refine DJ.idxA 7 rfl (by kernel_rfl) (by kernel_rfl) (by kernel_rfl) rfl rfl hl rfl rfl (by omega) (by first | rfl | omega | (simp; done) | (simp; omega) | (simp [upN_len]; omega) | (simp [idxBy_len]; omega) | (simp [marks_len]; omega) | (simp [upN_len]; done) | (simp [idxBy_len]; done) | (simp [marks_len]; done) | (simp at *; omega)) (fun ib60 io60 ia60 ir60 => ?_)
                    refine DJ.yd 8 rfl (by kernel_rfl) (by kernel_rfl) (by kernel_rfl) rfl rfl (Yd.fieldAddr rfl) ?_
                    refine DJ.ldA 9 rfl (by kernel_rfl) (by kernel_rfl) (by kernel_rfl) rfl rfl 1 (fun u => vI u.p.w) (fun _ => rfl) ir60 rfl rfl (by first | rfl | omega | (simp; done) | (simp; omega) | (simp [upN_len]; omega) | (simp [idxBy_len]; omega) | (simp [marks_len]; omega) | (simp [upN_len]; done) | (simp [idxBy_len]; done) | (simp [marks_len]; done) | (simp at *; omega)) (fun u62 hu62 => ?_)
                    try simp only [Int.toNat_natCast] at hu62
                    obtain rfl : u27 = u62 := by rw [hu27] at hu62; exact Option.some.inj hu62
                    refine DJ.yd 10 rfl (by kernel_rfl) (by kernel_rfl) (by kernel_rfl) rfl rfl (Yd.mvS rfl) ?_
                    refine DJ.yd 11 rfl (by kernel_rfl) (by kernel_rfl) (by kernel_rfl) rfl rfl (Yd.mvI rfl) ?_
                    refine DJ.idxA 12 rfl (by kernel_rfl) (by kernel_rfl) (by kernel_rfl) rfl rfl hl rfl rfl (by omega) (by first | rfl | omega | (simp; done) | (simp; omega) | (simp [upN_len]; omega) | (simp [idxBy_len]; omega) | (simp [marks_len]; omega) | (simp [upN_len]; done) | (simp [idxBy_len]; done) | (simp [marks_len]; done) | (simp at *; omega)) (fun ib65 io65 ia65 ir65 => ?_)
                    refine DJ.yd 13 rfl (by kernel_rfl) (by kernel_rfl) (by kernel_rfl) rfl rfl (Yd.fieldAddr rfl) ?_
                    refine DJ.ldA 14 rfl (by kernel_rfl) (by kernel_rfl) (by kernel_rfl) rfl rfl 2 (fun u => vI u.p.h) (fun _ => rfl) ir65 rfl rfl (by first | rfl | omega | (simp; done) | (simp; omega) | (simp [upN_len]; omega) | (simp [idxBy_len]; omega) | (simp [marks_len]; omega) | (simp [upN_len]; done) | (simp [idxBy_len]; done) | (simp [marks_len]; done) | (simp at *; omega)) (fun u67 hu67 => ?_)
                    try simp only [Int.toNat_natCast] at hu67
                    obtain rfl : u27 = u67 := by rw [hu27] at hu67; exact Option.some.inj hu67
                    obtain ⟨har1, har2⟩ := area_b hpk
                    refine DJ.yd 15 rfl (by kernel_rfl) (by kernel_rfl) (by kernel_rfl) rfl rfl (Yd.mul rfl rfl (by unfold I64; omega)) ?_
                    refine DJ.yd 16 rfl (by kernel_rfl) (by kernel_rfl) (by kernel_rfl) rfl rfl (Yd.mvS rfl) ?_
                    refine DJ.yd 17 rfl (by kernel_rfl) (by kernel_rfl) (by kernel_rfl) rfl rfl (Yd.mvI rfl) ?_
                    refine DJ.idxA 18 rfl (by kernel_rfl) (by kernel_rfl) (by kernel_rfl) rfl rfl hl rfl rfl (by obtain ⟨j, z, hb1, hb2, _⟩ := hbs.resolve_left (by omega); omega) (by obtain ⟨j, z, hb1, hb2, _⟩ := hbs.resolve_left (by omega); have := ltC hb2; omega) (fun ib71 io71 ia71 ir71 => ?_)
                    refine DJ.yd 19 rfl (by kernel_rfl) (by kernel_rfl) (by kernel_rfl) rfl rfl (Yd.fieldAddr rfl) ?_
                    refine DJ.ldA 20 rfl (by kernel_rfl) (by kernel_rfl) (by kernel_rfl) rfl rfl 1 (fun u => vI u.p.w) (fun _ => rfl) ir71 rfl rfl (by obtain ⟨j, z, hb1, hb2, _⟩ := hbs.resolve_left (by omega); have := ltC hb2; omega) (fun u73 hu73 => ?_)
                    try simp only [Int.toNat_natCast] at hu73
                    obtain ⟨j, z, hb1, hb2, hb3, hb4, hb5, hb6⟩ := hbs.resolve_left (by omega)
                    rw [hb1, Int.toNat_natCast, hb2] at hu73
                    obtain rfl : z = u73 := Option.some.inj hu73
                    obtain ⟨hbr1, hbr2⟩ := area_b hb6
                    refine DJ.yd 21 rfl (by kernel_rfl) (by kernel_rfl) (by kernel_rfl) rfl rfl (Yd.mvS rfl) ?_
                    refine DJ.yd 22 rfl (by kernel_rfl) (by kernel_rfl) (by kernel_rfl) rfl rfl (Yd.mvI rfl) ?_
                    refine DJ.idxA 23 rfl (by kernel_rfl) (by kernel_rfl) (by kernel_rfl) rfl rfl hl rfl rfl (by obtain ⟨j, z, hb1, hb2, _⟩ := hbs.resolve_left (by omega); omega) (by obtain ⟨j, z, hb1, hb2, _⟩ := hbs.resolve_left (by omega); have := ltC hb2; omega) (fun ib76 io76 ia76 ir76 => ?_)
                    refine DJ.yd 24 rfl (by kernel_rfl) (by kernel_rfl) (by kernel_rfl) rfl rfl (Yd.fieldAddr rfl) ?_
                    refine DJ.ldA 25 rfl (by kernel_rfl) (by kernel_rfl) (by kernel_rfl) rfl rfl 2 (fun u => vI u.p.h) (fun _ => rfl) ir76 rfl rfl (by obtain ⟨j, z, hb1, hb2, _⟩ := hbs.resolve_left (by omega); have := ltC hb2; omega) (fun u78 hu78 => ?_)
                    try simp only [Int.toNat_natCast] at hu78
                    rw [hb1, Int.toNat_natCast, hb2] at hu78
                    obtain rfl : z = u78 := Option.some.inj hu78
                    refine DJ.yd 26 rfl (by kernel_rfl) (by kernel_rfl) (by kernel_rfl) rfl rfl (Yd.mul rfl rfl (by unfold I64; omega)) ?_
                    refine DJ.splitD 27 rfl (by kernel_rfl) (by kernel_rfl) (by kernel_rfl) rfl rfl (Yd.lss rfl rfl) (fun h80 => ?_) (fun h80 => ?_)
                    · refine DJ.yd 28 rfl (by kernel_rfl) (by kernel_rfl) (by kernel_rfl) rfl rfl (Yd.pickFB rfl rfl) ?_
                      refine DJ.yd 29 rfl (by kernel_rfl) (by kernel_rfl) (by kernel_rfl) rfl rfl (Yd.pickTB rfl rfl) ?_
                      refine DJ.done (by kernel_rfl) ?_
                      refine CJ.condT rfl ?_
                      refine CJ.region ?_
                      refine LJ.yd rfl (Yd.mvI rfl) ?_
                      refine LJ.yd rfl (Yd.asI rfl) ?_
                      refine LJ.nil ?_
                      refine CJ.region ?_
                      refine LJ.yd rfl (Yd.mvI rfl) ?_
                      refine LJ.yd rfl (Yd.add rfl rfl (by unfold I64; omega)) ?_
                      refine LJ.yd rfl (Yd.asI rfl) ?_
                      refine LJ.nil ?_
                      refine ⟨(k + 1, _, u27.p.l, u27.p.w * u27.p.h), ?_, ⟨rfl, rfl, rfl, trivial⟩, ⟨rfl, rfl, trivial⟩, Ent.pick [0] [1] rfl, ?_⟩
                      · refine ⟨by omega, ?_⟩
                        rw [dropP hu27, List.foldl_cons] at hi1
                        have hcc := ccB_valid hpk h14
                        have hcd : ccB u27.p q = true := by rw [hcc]; simp [*]
                        have hcnd : (lb, ls).1 = 0 ∨ u27.p.w * u27.p.h < (lb, ls).2 := by
                          first
                            | (left; show lb = 0; rcases hbs with ⟨_, h⟩ | ⟨j, z, hb1, _⟩ <;> omega)
                            | (right; show _ < ls; omega)
                        rw [fpS_T hcnd hcd] at hi1
                        exact ⟨hi1, .inr ⟨k, u27, rfl, hu27, rfl, rfl, (pcOk_iff.1 hpk).1, hpk⟩⟩
                      · first | omega | (dsimp only; omega) | (simp only []; omega)
                    · refine DJ.yd 28 rfl (by kernel_rfl) (by kernel_rfl) (by kernel_rfl) rfl rfl (Yd.pickFB rfl rfl) ?_
                      refine DJ.yd 29 rfl (by kernel_rfl) (by kernel_rfl) (by kernel_rfl) rfl rfl (Yd.pickTB rfl rfl) ?_
                      refine DJ.done (by kernel_rfl) ?_
                      refine CJ.condF rfl ?_
                      refine CJ.skip ?_
                      refine CJ.region ?_
                      refine LJ.yd rfl (Yd.mvI rfl) ?_
                      refine LJ.yd rfl (Yd.add rfl rfl (by unfold I64; omega)) ?_
                      refine LJ.yd rfl (Yd.asI rfl) ?_
                      refine LJ.nil ?_
                      refine ⟨(k + 1, _, lb, ls), ?_, ⟨rfl, rfl, rfl, trivial⟩, ⟨rfl, rfl, trivial⟩, Ent.pick [0] [1] rfl, ?_⟩
                      · refine ⟨by omega, ?_⟩
                        rw [dropP hu27, List.foldl_cons] at hi1
                        have hcc := ccB_valid hpk h14
                        have hno : ¬ (((lb, ls).1 = 0 ∨ u27.p.w * u27.p.h < (lb, ls).2) ∧ ccB u27.p q = true) := by
                          rintro ⟨h1, h2⟩
                          rw [hcc] at h2
                          first
                            | (simp [*] at h2; done)
                            | (rcases h1 with h1 | h1 <;> simp only at h1 <;> omega)
                        rw [show fpS q (lb, ls) u27.p = (lb, ls) from if_neg hno] at hi1
                        exact ⟨hi1, hbs⟩
                      · first | omega | (dsimp only; omega) | (simp only []; omega)
                · refine DJ.yd 12 rfl (by kernel_rfl) (by kernel_rfl) (by kernel_rfl) rfl rfl (Yd.asB rfl) ?_
                  refine DJ.done (by kernel_rfl) ?_
                  refine CJ.seq ?_
                  refine CJ.regionD [0, 1] [] (by kernel_rfl) rfl ?_
                  refine DJ.norm [_, _] [] rfl rfl ?_
                  refine DJ.yd 0 rfl (by kernel_rfl) (by kernel_rfl) (by kernel_rfl) rfl rfl (Yd.mvB rfl) ?_
                  refine DJ.yd 1 rfl (by kernel_rfl) (by kernel_rfl) (by kernel_rfl) rfl rfl (Yd.mvB rfl) ?_
                  refine DJ.skip 2 rfl (by kernel_rfl) (by kernel_rfl) (by kernel_rfl) rfl rfl ?_
                  refine DJ.skip 3 rfl (by kernel_rfl) (by kernel_rfl) (by kernel_rfl) rfl rfl ?_
                  refine DJ.skip 4 rfl (by kernel_rfl) (by kernel_rfl) (by kernel_rfl) rfl rfl ?_
                  refine DJ.skip 5 rfl (by kernel_rfl) (by kernel_rfl) (by kernel_rfl) rfl rfl ?_
                  refine DJ.skip 6 rfl (by kernel_rfl) (by kernel_rfl) (by kernel_rfl) rfl rfl ?_
                  refine DJ.skip 7 rfl (by kernel_rfl) (by kernel_rfl) (by kernel_rfl) rfl rfl ?_
                  refine DJ.skip 8 rfl (by kernel_rfl) (by kernel_rfl) (by kernel_rfl) rfl rfl ?_
                  refine DJ.skip 9 rfl (by kernel_rfl) (by kernel_rfl) (by kernel_rfl) rfl rfl ?_
                  refine DJ.skip 10 rfl (by kernel_rfl) (by kernel_rfl) (by kernel_rfl) rfl rfl ?_
                  refine DJ.skip 11 rfl (by kernel_rfl) (by kernel_rfl) (by kernel_rfl) rfl rfl ?_
                  refine DJ.skip 12 rfl (by kernel_rfl) (by kernel_rfl) (by kernel_rfl) rfl rfl ?_
                  refine DJ.skip 13 rfl (by kernel_rfl) (by kernel_rfl) (by kernel_rfl) rfl rfl ?_
                  refine DJ.skip 14 rfl (by kernel_rfl) (by kernel_rfl) (by kernel_rfl) rfl rfl ?_
                  refine DJ.skip 15 rfl (by kernel_rfl) (by kernel_rfl) (by kernel_rfl) rfl rfl ?_
                  refine DJ.skip 16 rfl (by kernel_rfl) (by kernel_rfl) (by kernel_rfl) rfl rfl ?_
                  refine DJ.skip 17 rfl (by kernel_rfl) (by kernel_rfl) (by kernel_rfl) rfl rfl ?_
                  refine DJ.skip 18 rfl (by kernel_rfl) (by kernel_rfl) (by kernel_rfl) rfl rfl ?_
                  refine DJ.skip 19 rfl (by kernel_rfl) (by kernel_rfl) (by kernel_rfl) rfl rfl ?_
                  refine DJ.skip 20 rfl (by kernel_rfl) (by kernel_rfl) (by kernel_rfl) rfl rfl ?_
                  refine DJ.skip 21 rfl (by kernel_rfl) (by kernel_rfl) (by kernel_rfl) rfl rfl ?_
                  refine DJ.skip 22 rfl (by kernel_rfl) (by kernel_rfl) (by kernel_rfl) rfl rfl ?_
                  refine DJ.skip 23 rfl (by kernel_rfl) (by kernel_rfl) (by kernel_rfl) rfl rfl ?_
                  refine DJ.skip 24 rfl (by kernel_rfl) (by kernel_rfl) (by kernel_rfl) rfl rfl ?_
                  refine DJ.skip 25 rfl (by kernel_rfl) (by kernel_rfl) (by kernel_rfl) rfl rfl ?_
                  refine DJ.skip 26 rfl (by kernel_rfl) (by kernel_rfl) (by kernel_rfl) rfl rfl ?_
                  refine DJ.skip 27 rfl (by kernel_rfl) (by kernel_rfl) (by kernel_rfl) rfl rfl ?_
                  refine DJ.skip 28 rfl (by kernel_rfl) (by kernel_rfl) (by kernel_rfl) rfl rfl ?_
                  refine DJ.yd 29 rfl (by kernel_rfl) (by kernel_rfl) (by kernel_rfl) rfl rfl (Yd.pickFB rfl rfl) ?_
                  refine DJ.done (by kernel_rfl) ?_
                  refine CJ.condF rfl ?_
                  refine CJ.skip ?_
                  refine CJ.region ?_
                  refine LJ.yd rfl (Yd.mvI rfl) ?_
                  refine LJ.yd rfl (Yd.add rfl rfl (by unfold I64; omega)) ?_
                  refine LJ.yd rfl (Yd.asI rfl) ?_
                  refine LJ.nil ?_
                  refine ⟨(k + 1, _, lb, ls), ?_, ⟨rfl, rfl, rfl, trivial⟩, ⟨rfl, rfl, trivial⟩, Ent.pick [0] [1] rfl, ?_⟩
                  · refine ⟨by omega, ?_⟩
                    rw [dropP hu27, List.foldl_cons] at hi1
                    have hcc := ccB_valid hpk h14
                    have hno : ¬ (((lb, ls).1 = 0 ∨ u27.p.w * u27.p.h < (lb, ls).2) ∧ ccB u27.p q = true) := by
                      rintro ⟨h1, h2⟩
                      rw [hcc] at h2
                      first
                        | (simp [*] at h2; done)
                        | (rcases h1 with h1 | h1 <;> simp only at h1 <;> omega)
                    rw [show fpS q (lb, ls) u27.p = (lb, ls) from if_neg hno] at hi1
                    exact ⟨hi1, hbs⟩
                  · first | omega | (dsimp only; omega) | (simp only []; omega)
              · refine LJ.yd rfl (Yd.pickTB rfl rfl) ?_
                refine LJ.nil ?_
                refine CJ.condF rfl ?_
                refine CJ.skip ?_
                refine CJ.seq ?_
                refine CJ.regionD [0, 1] [] (by kernel_rfl) rfl ?_
                refine DJ.norm [_, _] [] rfl rfl ?_
                refine DJ.yd 0 rfl (by kernel_rfl) (by kernel_rfl) (by kernel_rfl) rfl rfl (Yd.mvB rfl) ?_
                refine DJ.yd 1 rfl (by kernel_rfl) (by kernel_rfl) (by kernel_rfl) rfl rfl (Yd.mvB rfl) ?_
                refine DJ.skip 2 rfl (by kernel_rfl) (by kernel_rfl) (by kernel_rfl) rfl rfl ?_
                refine DJ.skip 3 rfl (by kernel_rfl) (by kernel_rfl) (by kernel_rfl) rfl rfl ?_
                refine DJ.skip 4 rfl (by kernel_rfl) (by kernel_rfl) (by kernel_rfl) rfl rfl ?_
                refine DJ.skip 5 rfl (by kernel_rfl) (by kernel_rfl) (by kernel_rfl) rfl rfl ?_
                refine DJ.skip 6 rfl (by kernel_rfl) (by kernel_rfl) (by kernel_rfl) rfl rfl ?_
                refine DJ.skip 7 rfl (by kernel_rfl) (by kernel_rfl) (by kernel_rfl) rfl rfl ?_
                refine DJ.skip 8 rfl (by kernel_rfl) (by kernel_rfl) (by kernel_rfl) rfl rfl ?_
                refine DJ.skip 9 rfl (by kernel_rfl) (by kernel_rfl) (by kernel_rfl) rfl rfl ?_
                refine DJ.skip 10 rfl (by kernel_rfl) (by kernel_rfl) (by kernel_rfl) rfl rfl ?_
                refine DJ.skip 11 rfl (by kernel_rfl) (by kernel_rfl) (by kernel_rfl) rfl rfl ?_
                refine DJ.skip 12 rfl (by kernel_rfl) (by kernel_rfl) (by kernel_rfl) rfl rfl ?_
                refine DJ.skip 13 rfl (by kernel_rfl) (by kernel_rfl) (by kernel_rfl) rfl rfl ?_
                refine DJ.skip 14 rfl (by kernel_rfl) (by kernel_rfl) (by kernel_rfl) rfl rfl ?_
                refine DJ.skip 15 rfl (by kernel_rfl) (by kernel_rfl) (by kernel_rfl) rfl rfl ?_
                refine DJ.skip 16 rfl (by kernel_rfl) (by kernel_rfl) (by kernel_rfl) rfl rfl ?_
                refine DJ.skip 17 rfl (by kernel_rfl) (by kernel_rfl) (by kernel_rfl) rfl rfl ?_
                refine DJ.skip 18 rfl (by kernel_rfl) (by kernel_rfl) (by kernel_rfl) rfl rfl ?_
                refine DJ.skip 19 rfl (by kernel_rfl) (by kernel_rfl) (by kernel_rfl) rfl rfl ?_
                refine DJ.skip 20 rfl (by kernel_rfl) (by kernel_rfl) (by kernel_rfl) rfl rfl ?_
                refine DJ.skip 21 rfl (by kernel_rfl) (by kernel_rfl) (by kernel_rfl) rfl rfl ?_
                refine DJ.skip 22 rfl (by kernel_rfl) (by kernel_rfl) (by kernel_rfl) rfl rfl ?_
                refine DJ.skip 23 rfl (by kernel_rfl) (by kernel_rfl) (by kernel_rfl) rfl rfl ?_
                refine DJ.skip 24 rfl (by kernel_rfl) (by kernel_rfl) (by kernel_rfl) rfl rfl ?_
                refine DJ.skip 25 rfl (by kernel_rfl) (by kernel_rfl) (by kernel_rfl) rfl rfl ?_
                refine DJ.skip 26 rfl (by kernel_rfl) (by kernel_rfl) (by kernel_rfl) rfl rfl ?_
                refine DJ.skip 27 rfl (by kernel_rfl) (by kernel_rfl) (by kernel_rfl) rfl rfl ?_
                refine DJ.skip 28 rfl (by kernel_rfl) (by kernel_rfl) (by kernel_rfl) rfl rfl ?_
                refine DJ.yd 29 rfl (by kernel_rfl) (by kernel_rfl) (by kernel_rfl) rfl rfl (Yd.pickFB rfl rfl) ?_
                refine DJ.done (by kernel_rfl) ?_
                refine CJ.condF rfl ?_
                refine CJ.skip ?_
                refine CJ.region ?_
                refine LJ.yd rfl (Yd.mvI rfl) ?_
                refine LJ.yd rfl (Yd.add rfl rfl (by unfold I64; omega)) ?_
                refine LJ.yd rfl (Yd.asI rfl) ?_
                refine LJ.nil ?_
                refine ⟨(k + 1, _, lb, ls), ?_, ⟨rfl, rfl, rfl, trivial⟩, ⟨rfl, rfl, trivial⟩, Ent.pick [0] [1] rfl, ?_⟩
                · refine ⟨by omega, ?_⟩
                  rw [dropP hu27, List.foldl_cons] at hi1
                  have hcc := ccB_valid hpk h14
                  have hno : ¬ (((lb, ls).1 = 0 ∨ u27.p.w * u27.p.h < (lb, ls).2) ∧ ccB u27.p q = true) := by
                    rintro ⟨h1, h2⟩
                    rw [hcc] at h2
                    first
                      | (simp [*] at h2; done)
                      | (rcases h1 with h1 | h1 <;> simp only at h1 <;> omega)
                  rw [show fpS q (lb, ls) u27.p = (lb, ls) from if_neg hno] at hi1
                  exact ⟨hi1, hbs⟩
                · first | omega | (dsimp only; omega) | (simp only []; omega)
        · refine LJ.nil ?_
          refine CJ.condF rfl ?_
          refine CJ.exit ?_
          refine CJ.seq ?_
          refine CJ.seq ?_
          refine CJ.region ?_
          refine LJ.yd rfl (Yd.mvI rfl) ?_
          refine LJ.splitD rfl (Yd.lss rfl rfl) (fun h85 => ?_) (fun h85 => ?_)
          · refine LJ.nil ?_
            refine CJ.condT rfl ?_
            refine CJ.seq ?_
            refine CJ.region ?_
            refine LJ.yd rfl (Yd.asI rfl) ?_
            refine LJ.nil ?_
            refine CJ.ret ?_
            refine Fin.V (Res.one (ResV.tmp (v := .int _ _) rfl)) ?_
            first
              | (rw [fpR, if_neg (fun h => Bool.false_ne_true (h10.symm.trans h.1))]; done)
              | (rw [fpR, if_neg (fun h => Bool.false_ne_true (h14.symm.trans h.2))]; done)
              | (rw [dropP_end (by omega)] at hi1
                 rw [fpR, if_pos ⟨h10, h14⟩, ← hi1]
                 first
                   | (rcases hbs with ⟨_, h⟩ | ⟨j, z, hb1, _⟩
                      · simp [h]
                      · omega)
                   | (simp [hb3]))
          · refine LJ.nil ?_
            refine CJ.condF rfl ?_
            refine CJ.skip ?_
            refine CJ.seq ?_
            refine CJ.region ?_
            refine LJ.yd rfl (Yd.mvS rfl) ?_
            refine LJ.yd rfl (Yd.mvI rfl) ?_
            refine LJ.idxA rfl hl rfl rfl (by obtain ⟨j, z, hb1, hb2, _⟩ := hbs.resolve_left (by omega); omega) (by obtain ⟨j, z, hb1, hb2, _⟩ := hbs.resolve_left (by omega); have := ltC hb2; omega) (fun ib88 io88 ia88 ir88 => ?_)
            refine LJ.yd rfl (Yd.fieldAddr rfl) ?_
            refine LJ.ldA 0 (fun u => vI u.p.l) (fun _ => rfl) ir88 rfl rfl rfl (by obtain ⟨j, z, hb1, hb2, _⟩ := hbs.resolve_left (by omega); have := ltC hb2; omega) (fun u90 hu90 => ?_)
            try simp only [Int.toNat_natCast] at hu90
            obtain ⟨j, z, hb1, hb2, hb3, hb4, hb5, hb6⟩ := hbs.resolve_left (by omega)
            rw [hb1, Int.toNat_natCast, hb2] at hu90
            obtain rfl : z = u90 := Option.some.inj hu90
            obtain ⟨hbr1, hbr2⟩ := area_b hb6
            refine LJ.yd rfl (Yd.asI rfl) ?_
            refine LJ.nil ?_
            refine CJ.ret ?_
            refine Fin.V (Res.one (ResV.tmp (v := .int _ _) rfl)) ?_
            first
              | (rw [fpR, if_neg (fun h => Bool.false_ne_true (h10.symm.trans h.1))]; done)
              | (rw [fpR, if_neg (fun h => Bool.false_ne_true (h14.symm.trans h.2))]; done)
              | (rw [dropP_end (by omega)] at hi1
                 rw [fpR, if_pos ⟨h10, h14⟩, ← hi1]
                 first
                   | (rcases hbs with ⟨_, h⟩ | ⟨j, z, hb1, _⟩
                      · simp [h]
                      · omega)
                   | (simp [hb3]))
    · refine LJ.gT rfl ?_
      refine LJ.yd rfl (Yd.not rfl) ?_
      refine LJ.yd rfl (Yd.pickFB rfl rfl) ?_
      refine LJ.nil ?_
      refine CJ.condT rfl ?_
      refine CJ.seq ?_
      refine CJ.region ?_
      refine LJ.yd rfl (Yd.asI rfl) ?_
      refine LJ.nil ?_
      refine CJ.ret ?_
      refine Fin.V (Res.one (ResV.tmp (v := .int _ _) rfl)) ?_
      first
        | (rw [fpR, if_neg (fun h => Bool.false_ne_true (h10.symm.trans h.1))]; done)
        | (rw [fpR, if_neg (fun h => Bool.false_ne_true (h14.symm.trans h.2))]; done)
        | (rw [dropP_end (by omega)] at hi1
           rw [fpR, if_pos ⟨h10, h14⟩, ← hi1]
           first
             | (rcases hbs with ⟨_, h⟩ | ⟨j, z, hb1, _⟩
                · simp [h]
                · omega)
             | (simp [hb3]))
  · refine LJ.yd rfl (Yd.not rfl) ?_
    refine LJ.yd rfl (Yd.mvB rfl) ?_
    refine LJ.gF rfl rfl ?_
    refine LJ.gF rfl rfl ?_
    refine LJ.gF rfl rfl ?_
    refine LJ.yd rfl (Yd.pickTB rfl rfl) ?_
    refine LJ.nil ?_
    refine CJ.condT rfl ?_
    refine CJ.seq ?_
    refine CJ.region ?_
    refine LJ.yd rfl (Yd.asI rfl) ?_
    refine LJ.nil ?_
    refine CJ.ret ?_
    refine Fin.V (Res.one (ResV.tmp (v := .int _ _) rfl)) ?_
    first
      | (rw [fpR, if_neg (fun h => Bool.false_ne_true (h10.symm.trans h.1))]; done)
      | (rw [fpR, if_neg (fun h => Bool.false_ne_true (h14.symm.trans h.2))]; done)
      | (rw [dropP_end (by omega)] at hi1
         rw [fpR, if_pos ⟨h10, h14⟩, ← hi1]
         first
           | (rcases hbs with ⟨_, h⟩ | ⟨j, z, hb1, _⟩
              · simp [h]
              · omega)
           | (simp [hb3]))
end Go.Proofs.Ytnfnidplhkfamaa
