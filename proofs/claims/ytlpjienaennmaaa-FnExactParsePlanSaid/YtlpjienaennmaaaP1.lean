/-
  Contracts: the number of parts of a plan, of its cuts, of its stages.
-/
import Derived.Test.YtlpjienaennmaaaD2
import Derived.Test.YtlpjienaennmaaaA1
namespace Go.Proofs.Ytlpjienaennmaaa
open Go
set_option linter.unusedVariables false

theorem isCutS_ok (A : Amb) (o a p : Int) (t : Bool) (v : Value) :
    Ctr Try.prog 109 #[.agg #[vI o, vI a, vI p, .bool t, v]] A [] (Val (.bool (decide (o = 2) || decide (o = 3)))) := by
  refine Ctr.body (args := [_]) Try.func109 rfl Try.ntmps109 Try.results109 (by simp) ?_
  refine CJ.seq ?_
  refine CJ.region ?_
  refine LJ.boxG (vs := [_, _, _, _, _]) rfl rfl (fun b1 => ?_)
  refine LJ.yd rfl (Yd.asB rfl) ?_
  refine LJ.nil ?_
  refine CJ.seq ?_
  refine CJ.region ?_
  refine LJ.yd rfl (Yd.fieldAddr rfl) ?_
  refine LJ.yd rfl (Yd.loadC 0 rfl rfl rfl) ?_
  refine LJ.splitD rfl (Yd.eql rfl rfl) (fun h5 => ?_) (fun h5 => ?_)
  · refine LJ.yd rfl (Yd.mvB rfl) ?_
    refine LJ.gF rfl rfl ?_
    refine LJ.gF rfl rfl ?_
    refine LJ.gF rfl rfl ?_
    refine LJ.yd rfl (Yd.pickTB rfl rfl) ?_
    refine LJ.yd rfl (Yd.asB rfl) ?_
    refine LJ.nil ?_
    refine CJ.ret ?_
    refine Fin.V (Res.one (ResV.tmp (v := .bool true) rfl)) ?_
    simp [*]
  · refine LJ.yd rfl (Yd.mvB rfl) ?_
    refine LJ.gT rfl ?_
    refine LJ.yd rfl (Yd.fieldAddr rfl) ?_
    refine LJ.gT rfl ?_
    refine LJ.yd rfl (Yd.loadC 0 rfl rfl rfl) ?_
    refine LJ.gT rfl ?_
    refine LJ.yd rfl (Yd.eql rfl rfl) ?_
    refine LJ.yd rfl (Yd.pickFB rfl rfl) ?_
    refine LJ.yd rfl (Yd.asB rfl) ?_
    refine LJ.nil ?_
    refine CJ.ret ?_
    refine Fin.V (Res.one (ResV.tmp (v := .bool _) rfl)) ?_
    simp [*]
theorem isCutI_ok (A : Amb) (o a p : Int) (t : Bool) (v : Value) :
    Ctr Try.prog 107 #[.agg #[vI o, vI a, vI p, .bool t, v]] A [] (Val (.bool (decide (o = 2) || decide (o = 3)))) := by
  refine Ctr.body (args := [_]) Try.func107 rfl Try.ntmps107 Try.results107 (by simp) ?_
  refine CJ.seq ?_
  refine CJ.region ?_
  refine LJ.boxG (vs := [_, _, _, _, _]) rfl rfl (fun b1 => ?_)
  refine LJ.yd rfl (Yd.asB rfl) ?_
  refine LJ.nil ?_
  refine CJ.seq ?_
  refine CJ.region ?_
  refine LJ.yd rfl (Yd.fieldAddr rfl) ?_
  refine LJ.yd rfl (Yd.loadC 0 rfl rfl rfl) ?_
  refine LJ.splitD rfl (Yd.eql rfl rfl) (fun h5 => ?_) (fun h5 => ?_)
  · refine LJ.yd rfl (Yd.mvB rfl) ?_
    refine LJ.gF rfl rfl ?_
    refine LJ.gF rfl rfl ?_
    refine LJ.gF rfl rfl ?_
    refine LJ.yd rfl (Yd.pickTB rfl rfl) ?_
    refine LJ.yd rfl (Yd.asB rfl) ?_
    refine LJ.nil ?_
    refine CJ.ret ?_
    refine Fin.V (Res.one (ResV.tmp (v := .bool true) rfl)) ?_
    simp [*]
  · refine LJ.yd rfl (Yd.mvB rfl) ?_
    refine LJ.gT rfl ?_
    refine LJ.yd rfl (Yd.fieldAddr rfl) ?_
    refine LJ.gT rfl ?_
    refine LJ.yd rfl (Yd.loadC 0 rfl rfl rfl) ?_
    refine LJ.gT rfl ?_
    refine LJ.yd rfl (Yd.eql rfl rfl) ?_
    refine LJ.yd rfl (Yd.pickFB rfl rfl) ?_
    refine LJ.yd rfl (Yd.asB rfl) ?_
    refine LJ.nil ?_
    refine CJ.ret ?_
    refine Fin.V (Res.one (ResV.tmp (v := .bool _) rfl)) ?_
    simp [*]
theorem planSizeS_ok' (N : Nat) : ∀ (q : Plan), SizeOf.sizeOf q < N → ∀ (A : Amb) (cs : List Value), RdPlan A.h cs q → Ctr Try.prog 85 #[.agg cs.toArray] A [] (Val (vI (psz q))) := by
  induction N with
  | zero => intro q h; omega
  | succ N ih =>
  intro q hN A cs hq
  obtain ⟨o, a, p, t, kids, v, css, rfl, rfl, ho, ha, hp, hr, hk⟩ := hq.inv
  have hl := hk.length
  obtain ⟨⟨sa, sc, rfl, hm, hrow⟩, hlen⟩ := hr
  rw [hl]
  have bad : badTop o a p t kids.length = true → psz (.mk o a p t kids) = -1 := fun h => by simp [psz, h]
  refine Ctr.body (args := [_]) Try.func85 rfl Try.ntmps85 Try.results85 (by simp) ?_
  refine CJ.seq ?_
  refine CJ.region ?_
  refine LJ.boxG (vs := [_, _, _, _, _]) rfl rfl (fun b1 => ?_)
  refine LJ.yd rfl (Yd.asI rfl) ?_
  refine LJ.nil ?_
  refine CJ.seq ?_
  refine CJ.region ?_
  refine LJ.yd rfl (Yd.asI rfl) ?_
  refine LJ.nil ?_
  refine CJ.seqK [1, 3] Unit (fun _ => badTop o a p t kids.length = false) (fun _ => []) ?_ ?_
  · refine CJ.seq ?_
    refine CJ.region ?_
    refine LJ.yd rfl (Yd.loadG (us := [_, _, _, _, _]) 0 rfl rfl rfl rfl) ?_
    refine LJ.callB rfl (fun k hk dk => isCutS_ok _ _ _ _ _ _) (fun h7 => ?_) (fun h7 => ?_)
    · refine LJ.nil ?_
      refine CJ.condT rfl ?_
      refine CJ.seq ?_
      refine CJ.region ?_
      refine LJ.yd rfl (Yd.fieldAddr rfl) ?_
      refine LJ.yd rfl (Yd.loadC 0 rfl rfl rfl) ?_
      refine LJ.yd rfl (Yd.len rfl) ?_
      refine LJ.splitN rfl (Yd.neq rfl rfl) (fun h11 => ?_) (fun h11 => ?_)
      · refine LJ.yd rfl (Yd.mvB rfl) ?_
        refine LJ.gF rfl rfl ?_
        refine LJ.gF rfl rfl ?_
        refine LJ.gF rfl rfl ?_
        refine LJ.yd rfl (Yd.pickTB rfl rfl) ?_
        refine LJ.yd rfl (Yd.mvB rfl) ?_
        refine LJ.gF rfl rfl ?_
        refine LJ.gF rfl rfl ?_
        refine LJ.yd rfl (Yd.pickTB rfl rfl) ?_
        refine LJ.nil ?_
        refine CJ.condT rfl ?_
        refine CJ.seq ?_
        refine CJ.region ?_
        refine LJ.yd rfl (Yd.asI rfl) ?_
        refine LJ.nil ?_
        refine CJ.ret ?_
        refine Fin.V (Res.one (ResV.tmp (v := .int _ _) rfl)) ?_
        first
          | (refine congrArg vI (bad ?_).symm; simp_all [badTop] <;> omega)
          | (refine congrArg vI ?_; simp only [psz, hbad, Bool.false_eq_true, if_false]; rw [← hk2, List.drop_eq_getElem_cons hk1, pszs, if_pos h63])
          | (refine congrArg vI ?_; simp only [psz, hbad, Bool.false_eq_true, if_false]; rw [← hk2, List.drop_eq_nil_of_le (by omega), pszs]; split <;> omega)
      · refine LJ.yd rfl (Yd.mvB rfl) ?_
        refine LJ.gT rfl ?_
        refine LJ.yd rfl (Yd.fieldAddr rfl) ?_
        refine LJ.gT rfl ?_
        refine LJ.yd rfl (Yd.loadC 0 rfl rfl rfl) ?_
        refine LJ.gT rfl ?_
        refine LJ.splitN rfl (Yd.neq rfl rfl) (fun h15 => ?_) (fun h15 => ?_)
        · refine LJ.yd rfl (Yd.pickFB rfl rfl) ?_
          refine LJ.yd rfl (Yd.mvB rfl) ?_
          refine LJ.gF rfl rfl ?_
          refine LJ.gF rfl rfl ?_
          refine LJ.yd rfl (Yd.pickTB rfl rfl) ?_
          refine LJ.nil ?_
          refine CJ.condT rfl ?_
          refine CJ.seq ?_
          refine CJ.region ?_
          refine LJ.yd rfl (Yd.asI rfl) ?_
          refine LJ.nil ?_
          refine CJ.ret ?_
          refine Fin.V (Res.one (ResV.tmp (v := .int _ _) rfl)) ?_
          first
            | (refine congrArg vI (bad ?_).symm; simp_all [badTop] <;> omega)
            | (refine congrArg vI ?_; simp only [psz, hbad, Bool.false_eq_true, if_false]; rw [← hk2, List.drop_eq_getElem_cons hk1, pszs, if_pos h63])
            | (refine congrArg vI ?_; simp only [psz, hbad, Bool.false_eq_true, if_false]; rw [← hk2, List.drop_eq_nil_of_le (by omega), pszs]; split <;> omega)
        · refine LJ.yd rfl (Yd.pickFB rfl rfl) ?_
          refine LJ.yd rfl (Yd.mvB rfl) ?_
          refine LJ.gT rfl ?_
          refine LJ.yd rfl (Yd.fieldAddr rfl) ?_
          refine LJ.gT rfl ?_
          refine LJ.split rfl (Yd.loadC 0 rfl rfl rfl) (fun h19 => ?_) (fun h19 => ?_)
          · refine LJ.yd rfl (Yd.pickFB rfl rfl) ?_
            refine LJ.nil ?_
            refine CJ.condT rfl ?_
            refine CJ.seq ?_
            refine CJ.region ?_
            refine LJ.yd rfl (Yd.asI rfl) ?_
            refine LJ.nil ?_
            refine CJ.ret ?_
            refine Fin.V (Res.one (ResV.tmp (v := .int _ _) rfl)) ?_
            first
              | (refine congrArg vI (bad ?_).symm; simp_all [badTop] <;> omega)
              | (refine congrArg vI ?_; simp only [psz, hbad, Bool.false_eq_true, if_false]; rw [← hk2, List.drop_eq_getElem_cons hk1, pszs, if_pos h63])
              | (refine congrArg vI ?_; simp only [psz, hbad, Bool.false_eq_true, if_false]; rw [← hk2, List.drop_eq_nil_of_le (by omega), pszs]; split <;> omega)
          · refine LJ.yd rfl (Yd.pickFB rfl rfl) ?_
            refine LJ.nil ?_
            refine CJ.condF rfl ?_
            refine CJ.skip ?_
            refine ⟨(), ?_, ?_, ?_, Ent.refl _⟩
            · simp_all [badTop] <;> omega
            · exact ⟨rfl, rfl, trivial⟩
            · exact trivial
    · refine LJ.nil ?_
      refine CJ.condF rfl ?_
      refine CJ.seq ?_
      refine CJ.region ?_
      refine LJ.yd rfl (Yd.fieldAddr rfl) ?_
      refine LJ.yd rfl (Yd.loadC 0 rfl rfl rfl) ?_
      refine LJ.yd rfl (Yd.len rfl) ?_
      refine LJ.splitN rfl (Yd.neq rfl rfl) (fun h24 => ?_) (fun h24 => ?_)
      · refine LJ.yd rfl (Yd.mvB rfl) ?_
        refine LJ.gF rfl rfl ?_
        refine LJ.gF rfl rfl ?_
        refine LJ.gF rfl rfl ?_
        refine LJ.yd rfl (Yd.pickTB rfl rfl) ?_
        refine LJ.yd rfl (Yd.mvB rfl) ?_
        refine LJ.gF rfl rfl ?_
        refine LJ.gF rfl rfl ?_
        refine LJ.gF rfl rfl ?_
        refine LJ.gF rfl rfl ?_
        refine LJ.gF rfl rfl ?_
        refine LJ.gF rfl rfl ?_
        refine LJ.gF rfl rfl ?_
        refine LJ.gF rfl rfl ?_
        refine LJ.gF rfl rfl ?_
        refine LJ.gF rfl rfl ?_
        refine LJ.gF rfl rfl ?_
        refine LJ.gF rfl rfl ?_
        refine LJ.gF rfl rfl ?_
        refine LJ.gF rfl rfl ?_
        refine LJ.gF rfl rfl ?_
        refine LJ.gF rfl rfl ?_
        refine LJ.gF rfl rfl ?_
        refine LJ.yd rfl (Yd.pickTB rfl rfl) ?_
        refine LJ.nil ?_
        refine CJ.condT rfl ?_
        refine CJ.seq ?_
        refine CJ.region ?_
        refine LJ.yd rfl (Yd.asI rfl) ?_
        refine LJ.nil ?_
        refine CJ.ret ?_
        refine Fin.V (Res.one (ResV.tmp (v := .int _ _) rfl)) ?_
        first
          | (refine congrArg vI (bad ?_).symm; simp_all [badTop] <;> omega)
          | (refine congrArg vI ?_; simp only [psz, hbad, Bool.false_eq_true, if_false]; rw [← hk2, List.drop_eq_getElem_cons hk1, pszs, if_pos h63])
          | (refine congrArg vI ?_; simp only [psz, hbad, Bool.false_eq_true, if_false]; rw [← hk2, List.drop_eq_nil_of_le (by omega), pszs]; split <;> omega)
      · refine LJ.yd rfl (Yd.mvB rfl) ?_
        refine LJ.gT rfl ?_
        refine LJ.yd rfl (Yd.fieldAddr rfl) ?_
        refine LJ.gT rfl ?_
        refine LJ.yd rfl (Yd.loadC 0 rfl rfl rfl) ?_
        refine LJ.gT rfl ?_
        refine LJ.splitN rfl (Yd.neq rfl rfl) (fun h28 => ?_) (fun h28 => ?_)
        · refine LJ.yd rfl (Yd.pickFB rfl rfl) ?_
          refine LJ.yd rfl (Yd.mvB rfl) ?_
          refine LJ.gF rfl rfl ?_
          refine LJ.gF rfl rfl ?_
          refine LJ.gF rfl rfl ?_
          refine LJ.gF rfl rfl ?_
          refine LJ.gF rfl rfl ?_
          refine LJ.gF rfl rfl ?_
          refine LJ.gF rfl rfl ?_
          refine LJ.gF rfl rfl ?_
          refine LJ.gF rfl rfl ?_
          refine LJ.gF rfl rfl ?_
          refine LJ.gF rfl rfl ?_
          refine LJ.gF rfl rfl ?_
          refine LJ.gF rfl rfl ?_
          refine LJ.gF rfl rfl ?_
          refine LJ.gF rfl rfl ?_
          refine LJ.gF rfl rfl ?_
          refine LJ.gF rfl rfl ?_
          refine LJ.yd rfl (Yd.pickTB rfl rfl) ?_
          refine LJ.nil ?_
          refine CJ.condT rfl ?_
          refine CJ.seq ?_
          refine CJ.region ?_
          refine LJ.yd rfl (Yd.asI rfl) ?_
          refine LJ.nil ?_
          refine CJ.ret ?_
          refine Fin.V (Res.one (ResV.tmp (v := .int _ _) rfl)) ?_
          first
            | (refine congrArg vI (bad ?_).symm; simp_all [badTop] <;> omega)
            | (refine congrArg vI ?_; simp only [psz, hbad, Bool.false_eq_true, if_false]; rw [← hk2, List.drop_eq_getElem_cons hk1, pszs, if_pos h63])
            | (refine congrArg vI ?_; simp only [psz, hbad, Bool.false_eq_true, if_false]; rw [← hk2, List.drop_eq_nil_of_le (by omega), pszs]; split <;> omega)
        · refine LJ.yd rfl (Yd.pickFB rfl rfl) ?_
          refine LJ.yd rfl (Yd.mvB rfl) ?_
          refine LJ.gT rfl ?_
          refine LJ.yd rfl (Yd.fieldAddr rfl) ?_
          refine LJ.gT rfl ?_
          refine LJ.yd rfl (Yd.loadC 0 rfl rfl rfl) ?_
          refine LJ.gT rfl ?_
          refine LJ.splitN rfl (Yd.neq rfl rfl) (fun h33 => ?_) (fun h33 => ?_)
          · refine LJ.gT rfl ?_
            refine LJ.yd rfl (Yd.mvB rfl) ?_
            refine LJ.gT rfl ?_
            refine LJ.yd rfl (Yd.fieldAddr rfl) ?_
            refine LJ.gT rfl ?_
            refine LJ.yd rfl (Yd.loadC 0 rfl rfl rfl) ?_
            refine LJ.gT rfl ?_
            refine LJ.splitN rfl (Yd.neq rfl rfl) (fun h37 => ?_) (fun h37 => ?_)
            · refine LJ.gT rfl ?_
              refine LJ.yd rfl (Yd.mvB rfl) ?_
              refine LJ.gF rfl rfl ?_
              refine LJ.gF rfl rfl ?_
              refine LJ.gF rfl rfl ?_
              refine LJ.gT rfl ?_
              refine LJ.yd rfl (Yd.pickTB rfl rfl) ?_
              refine LJ.gT rfl ?_
              refine LJ.yd rfl (Yd.mvB rfl) ?_
              refine LJ.gF rfl rfl ?_
              refine LJ.gF rfl rfl ?_
              refine LJ.gT rfl ?_
              refine LJ.yd rfl (Yd.pickTB rfl rfl) ?_
              refine LJ.gT rfl ?_
              refine LJ.yd rfl (Yd.pickTB rfl rfl) ?_
              refine LJ.yd rfl (Yd.pickFB rfl rfl) ?_
              refine LJ.nil ?_
              refine CJ.condT rfl ?_
              refine CJ.seq ?_
              refine CJ.region ?_
              refine LJ.yd rfl (Yd.asI rfl) ?_
              refine LJ.nil ?_
              refine CJ.ret ?_
              refine Fin.V (Res.one (ResV.tmp (v := .int _ _) rfl)) ?_
              first
                | (refine congrArg vI (bad ?_).symm; simp_all [badTop] <;> omega)
                | (refine congrArg vI ?_; simp only [psz, hbad, Bool.false_eq_true, if_false]; rw [← hk2, List.drop_eq_getElem_cons hk1, pszs, if_pos h63])
                | (refine congrArg vI ?_; simp only [psz, hbad, Bool.false_eq_true, if_false]; rw [← hk2, List.drop_eq_nil_of_le (by omega), pszs]; split <;> omega)
            · refine LJ.gT rfl ?_
              refine LJ.yd rfl (Yd.mvB rfl) ?_
              refine LJ.gT rfl ?_
              refine LJ.yd rfl (Yd.fieldAddr rfl) ?_
              refine LJ.gT rfl ?_
              refine LJ.yd rfl (Yd.loadC 0 rfl rfl rfl) ?_
              refine LJ.gT rfl ?_
              refine LJ.splitN rfl (Yd.neq rfl rfl) (fun h41 => ?_) (fun h41 => ?_)
              · refine LJ.gT rfl ?_
                refine LJ.yd rfl (Yd.pickFB rfl rfl) ?_
                refine LJ.gT rfl ?_
                refine LJ.yd rfl (Yd.mvB rfl) ?_
                refine LJ.gF rfl rfl ?_
                refine LJ.gF rfl rfl ?_
                refine LJ.gT rfl ?_
                refine LJ.yd rfl (Yd.pickTB rfl rfl) ?_
                refine LJ.gT rfl ?_
                refine LJ.yd rfl (Yd.pickTB rfl rfl) ?_
                refine LJ.yd rfl (Yd.pickFB rfl rfl) ?_
                refine LJ.nil ?_
                refine CJ.condT rfl ?_
                refine CJ.seq ?_
                refine CJ.region ?_
                refine LJ.yd rfl (Yd.asI rfl) ?_
                refine LJ.nil ?_
                refine CJ.ret ?_
                refine Fin.V (Res.one (ResV.tmp (v := .int _ _) rfl)) ?_
                first
                  | (refine congrArg vI (bad ?_).symm; simp_all [badTop] <;> omega)
                  | (refine congrArg vI ?_; simp only [psz, hbad, Bool.false_eq_true, if_false]; rw [← hk2, List.drop_eq_getElem_cons hk1, pszs, if_pos h63])
                  | (refine congrArg vI ?_; simp only [psz, hbad, Bool.false_eq_true, if_false]; rw [← hk2, List.drop_eq_nil_of_le (by omega), pszs]; split <;> omega)
              · refine LJ.gT rfl ?_
                refine LJ.yd rfl (Yd.pickFB rfl rfl) ?_
                refine LJ.gT rfl ?_
                refine LJ.yd rfl (Yd.mvB rfl) ?_
                refine LJ.gT rfl ?_
                refine LJ.yd rfl (Yd.fieldAddr rfl) ?_
                refine LJ.gT rfl ?_
                refine LJ.split rfl (Yd.loadC 0 rfl rfl rfl) (fun h45 => ?_) (fun h45 => ?_)
                · refine LJ.gT rfl ?_
                  refine LJ.yd rfl (Yd.pickFB rfl rfl) ?_
                  refine LJ.gT rfl ?_
                  refine LJ.yd rfl (Yd.pickTB rfl rfl) ?_
                  refine LJ.yd rfl (Yd.pickFB rfl rfl) ?_
                  refine LJ.nil ?_
                  refine CJ.condT rfl ?_
                  refine CJ.seq ?_
                  refine CJ.region ?_
                  refine LJ.yd rfl (Yd.asI rfl) ?_
                  refine LJ.nil ?_
                  refine CJ.ret ?_
                  refine Fin.V (Res.one (ResV.tmp (v := .int _ _) rfl)) ?_
                  first
                    | (refine congrArg vI (bad ?_).symm; simp_all [badTop] <;> omega)
                    | (refine congrArg vI ?_; simp only [psz, hbad, Bool.false_eq_true, if_false]; rw [← hk2, List.drop_eq_getElem_cons hk1, pszs, if_pos h63])
                    | (refine congrArg vI ?_; simp only [psz, hbad, Bool.false_eq_true, if_false]; rw [← hk2, List.drop_eq_nil_of_le (by omega), pszs]; split <;> omega)
                · refine LJ.gT rfl ?_
                  refine LJ.yd rfl (Yd.pickFB rfl rfl) ?_
                  refine LJ.gT rfl ?_
                  refine LJ.yd rfl (Yd.pickTB rfl rfl) ?_
                  refine LJ.yd rfl (Yd.pickFB rfl rfl) ?_
                  refine LJ.nil ?_
                  refine CJ.condF rfl ?_
                  refine CJ.skip ?_
                  refine ⟨(), ?_, ?_, ?_, Ent.refl _⟩
                  · simp_all [badTop] <;> omega
                  · exact ⟨rfl, rfl, trivial⟩
                  · exact trivial
          · refine LJ.gT rfl ?_
            refine LJ.yd rfl (Yd.mvB rfl) ?_
            refine LJ.gF rfl rfl ?_
            refine LJ.gF rfl rfl ?_
            refine LJ.gF rfl rfl ?_
            refine LJ.gF rfl rfl ?_
            refine LJ.gF rfl rfl ?_
            refine LJ.gF rfl rfl ?_
            refine LJ.gF rfl rfl ?_
            refine LJ.gF rfl rfl ?_
            refine LJ.gF rfl rfl ?_
            refine LJ.gF rfl rfl ?_
            refine LJ.gF rfl rfl ?_
            refine LJ.gF rfl rfl ?_
            refine LJ.gT rfl ?_
            refine LJ.yd rfl (Yd.pickFB rfl rfl) ?_
            refine LJ.yd rfl (Yd.pickFB rfl rfl) ?_
            refine LJ.nil ?_
            refine CJ.condF rfl ?_
            refine CJ.skip ?_
            refine ⟨(), ?_, ?_, ?_, Ent.refl _⟩
            · simp_all [badTop] <;> omega
            · exact ⟨rfl, rfl, trivial⟩
            · exact trivial
  · rintro _ σ hbad
    have hkl := badTop_len hbad
    refine CJ.seq ?_
    refine CJ.seq ?_
    refine CJ.region ?_
    refine LJ.yd rfl (Yd.asI rfl) ?_
    refine LJ.nil ?_
    refine CJ.block ?_
    refine CJ.loopK [1] (Nat × Int) (fun ⟨k, m⟩ => k ≤ kids.length ∧ pszs (kids.drop k) m = pszs kids 1 ∧ 0 ≤ m ∧ m ≤ 1 + 255 * k) (fun ⟨k, m⟩ => [(3, vI m), (4, vI k)]) (fun ⟨k, m⟩ => kids.length - k) (0, 1) ?_ ?_ ?_
    · exact ⟨Nat.zero_le _, rfl, by omega, by omega⟩
    · exact ⟨rfl, rfl, trivial⟩
    · rintro ⟨k, m⟩ σ ⟨hk1, hk2, hk3, hk4⟩
      refine CJ.seq ?_
      refine CJ.seq ?_
      refine CJ.region ?_
      refine LJ.yd rfl (Yd.mvI rfl) ?_
      refine LJ.yd rfl (Yd.fieldAddr rfl) ?_
      refine LJ.yd rfl (Yd.loadC 0 rfl rfl rfl) ?_
      refine LJ.yd rfl (Yd.len rfl) ?_
      refine LJ.splitD rfl (Yd.lss rfl rfl) (fun h53 => ?_) (fun h53 => ?_)
      · refine LJ.nil ?_
        refine CJ.condT rfl ?_
        refine CJ.skip ?_
        refine CJ.seq ?_
        refine CJ.block ?_
        refine CJ.seq ?_
        have hk1 : k < kids.length := by omega
        obtain ⟨cs, hc, hcs⟩ := hk.get k hk1
        have hcl := hcs.len
        have hpl := psz_le kids[k]
        rcases hrow with rfl | ⟨b, o', rfl, hrow⟩
        · simp at hl; omega
        refine CJ.region ?_
        refine LJ.yd rfl (Yd.fieldAddr rfl) ?_
        refine LJ.yd rfl (Yd.loadC 0 rfl rfl rfl) ?_
        refine LJ.yd rfl (Yd.mvI rfl) ?_
        refine LJ.yd rfl (Yd.indexAddr rfl rfl (by omega) (by omega)) ?_
        refine LJ.yd rfl (Yd.loadRow (i := k) hrow rfl (by simp) hc hcl) ?_
        refine LJ.callV rfl (fun k hk dk => ih _ (by have := kid_lt o a p t hk1; omega) _ _ hcs.up) ?_
        refine LJ.yd rfl (Yd.asI rfl) ?_
        refine LJ.nil ?_
        refine CJ.seq ?_
        refine CJ.seq ?_
        refine CJ.region ?_
        refine LJ.yd rfl (Yd.mvI rfl) ?_
        refine LJ.splitD rfl (Yd.lss rfl rfl) (fun h63 => ?_) (fun h63 => ?_)
        · refine LJ.nil ?_
          refine CJ.condT rfl ?_
          refine CJ.seq ?_
          refine CJ.region ?_
          refine LJ.yd rfl (Yd.asI rfl) ?_
          refine LJ.nil ?_
          refine CJ.ret ?_
          refine Fin.V (Res.one (ResV.tmp (v := .int _ _) rfl)) ?_
          first
            | (refine congrArg vI (bad ?_).symm; simp_all [badTop] <;> omega)
            | (refine congrArg vI ?_; simp only [psz, hbad, Bool.false_eq_true, if_false]; rw [← hk2, List.drop_eq_getElem_cons hk1, pszs, if_pos h63])
            | (refine congrArg vI ?_; simp only [psz, hbad, Bool.false_eq_true, if_false]; rw [← hk2, List.drop_eq_nil_of_le (by omega), pszs]; split <;> omega)
        · refine LJ.nil ?_
          refine CJ.condF rfl ?_
          refine CJ.skip ?_
          refine CJ.region ?_
          refine LJ.yd rfl (Yd.mvI rfl) ?_
          refine LJ.yd rfl (Yd.mvI rfl) ?_
          refine LJ.yd rfl (Yd.add rfl rfl (by unfold I64; omega)) ?_
          refine LJ.yd rfl (Yd.asI rfl) ?_
          refine LJ.nil ?_
          refine CJ.region ?_
          refine LJ.yd rfl (Yd.mvI rfl) ?_
          refine LJ.yd rfl (Yd.add rfl rfl (by unfold I64; omega)) ?_
          refine LJ.yd rfl (Yd.asI rfl) ?_
          refine LJ.nil ?_
          refine ⟨(k + 1, m + psz kids[k]), ?_, ?_, ?_, Ent.refl _, ?_⟩
          · exact ⟨by omega, by rw [← hk2, List.drop_eq_getElem_cons hk1, pszs, if_neg h63], by omega, by omega⟩
          · exact ⟨rfl, trivial⟩
          · exact ⟨rfl, rfl, trivial⟩
          · show kids.length - (k + 1) < kids.length - k; omega
      · refine LJ.nil ?_
        refine CJ.condF rfl ?_
        refine CJ.exit ?_
        refine CJ.seq ?_
        refine CJ.seq ?_
        refine CJ.region ?_
        refine LJ.yd rfl (Yd.mvI rfl) ?_
        refine LJ.splitD rfl (Yd.gtr rfl rfl) (fun h68 => ?_) (fun h68 => ?_)
        · refine LJ.nil ?_
          refine CJ.condT rfl ?_
          refine CJ.seq ?_
          refine CJ.region ?_
          refine LJ.yd rfl (Yd.asI rfl) ?_
          refine LJ.nil ?_
          refine CJ.ret ?_
          refine Fin.V (Res.one (ResV.tmp (v := .int _ _) rfl)) ?_
          first
            | (refine congrArg vI (bad ?_).symm; simp_all [badTop] <;> omega)
            | (refine congrArg vI ?_; simp only [psz, hbad, Bool.false_eq_true, if_false]; rw [← hk2, List.drop_eq_getElem_cons hk1, pszs, if_pos h63])
            | (refine congrArg vI ?_; simp only [psz, hbad, Bool.false_eq_true, if_false]; rw [← hk2, List.drop_eq_nil_of_le (by omega), pszs]; split <;> omega)
        · refine LJ.nil ?_
          refine CJ.condF rfl ?_
          refine CJ.skip ?_
          refine CJ.seq ?_
          refine CJ.region ?_
          refine LJ.yd rfl (Yd.mvI rfl) ?_
          refine LJ.yd rfl (Yd.asI rfl) ?_
          refine LJ.nil ?_
          refine CJ.ret ?_
          refine Fin.V (Res.one (ResV.tmp (v := .int _ _) rfl)) ?_
          first
            | (refine congrArg vI (bad ?_).symm; simp_all [badTop] <;> omega)
            | (refine congrArg vI ?_; simp only [psz, hbad, Bool.false_eq_true, if_false]; rw [← hk2, List.drop_eq_getElem_cons hk1, pszs, if_pos h63])
            | (refine congrArg vI ?_; simp only [psz, hbad, Bool.false_eq_true, if_false]; rw [← hk2, List.drop_eq_nil_of_le (by omega), pszs]; split <;> omega)
theorem planSizeS_ok {A : Amb} {cs : List Value} {q : Plan} (h : RdPlan A.h cs q) : Ctr Try.prog 85 #[.agg cs.toArray] A [] (Val (vI (psz q))) := planSizeS_ok' _ q (Nat.lt_succ_self _) A cs h

theorem two_kids {h : Hp} {css : List (List Value)} {kids : List Plan} (hk : RdPlans h css kids) (hn : (kids.length : Int) = 2) :
    ∃ c0 c1 k0 k1, css = [c0, c1] ∧ kids = [k0, k1] ∧ RdPlan h c0 k0 ∧ RdPlan h c1 k1 := by
  cases hk with
  | nil => simp only [List.length_nil] at hn; omega
  | cons a hk => cases hk with
    | nil => simp only [List.length_cons, List.length_nil] at hn; omega
    | cons b hk => cases hk with
      | nil => exact ⟨_, _, _, _, rfl, rfl, a, b⟩
      | cons c hk => simp only [List.length_cons] at hn; omega
theorem cnt_le : ∀ (q : Plan) (room : Int), -1 ≤ cnt q room ∧ (0 ≤ cnt q room → cnt q room ≤ room) := by
  intro q room
  rcases Int.lt_or_le (cnt q room) 0 with h | h
  · rw [cnt_neg h]; omega
  · obtain ⟨b, rfl⟩ := BT.of_cnt q room h
    rw [cnt_BT] at *
    split <;> omega
theorem cnt_two {o a p room : Int} {t : Bool} {k0 k1 : Plan} (hb : badTop o a p t 2 = false) (h : ¬ room < 1) : cnt (.mk o a p t [k0, k1]) room =
    if cnt k0 (room - 1) < 0 then -1 else if cnt k1 (room - 1 - cnt k0 (room - 1)) < 0 then -1 else 1 + cnt k0 (room - 1) + cnt k1 (room - 1 - cnt k0 (room - 1)) := by
  have hb' : badTop o a p t (([k0, k1] : List Plan).length : Int) = false := hb
  simp only [cnt, hb', if_neg h, Bool.false_eq_true, if_false]
theorem countParts_ok' (N : Nat) : ∀ (q : Plan), SizeOf.sizeOf q < N → ∀ (A : Amb) (cs : List Value) (room : Int), -1000 ≤ room → room ≤ 1000 → RdPlan A.h cs q → Ctr Try.prog 88 #[.agg cs.toArray, vI room] A [] (Val (vI (cnt q room))) := by
  induction N with
  | zero => intro q h; omega
  | succ N ih =>
  intro q hN A cs room hr0 hr1 hq
  obtain ⟨o, a, p, t, kids, v, css, rfl, rfl, ho, ha, hp, hr, hk⟩ := hq.inv
  have hl := hk.length
  obtain ⟨⟨sa, sc, rfl, hm, hrow⟩, hlen⟩ := hr
  rw [hl]
  refine Ctr.body (args := [_, _]) Try.func88 rfl Try.ntmps88 Try.results88 (by simp) ?_
  refine CJ.seq ?_
  refine CJ.region ?_
  refine LJ.boxG (vs := [_, _, _, _, _]) rfl rfl (fun b1 => ?_)
  refine LJ.yd rfl (Yd.asI rfl) ?_
  refine LJ.nil ?_
  refine CJ.seq ?_
  refine CJ.seq ?_
  refine CJ.region ?_
  refine LJ.yd rfl (Yd.mvI rfl) ?_
  refine LJ.splitD rfl (Yd.lss rfl rfl) (fun h8 => ?_) (fun h8 => ?_)
  · refine LJ.nil ?_
    refine CJ.condT rfl ?_
    refine CJ.seq ?_
    refine CJ.region ?_
    refine LJ.yd rfl (Yd.asI rfl) ?_
    refine LJ.nil ?_
    refine CJ.ret ?_
    refine Fin.V (Res.one (ResV.tmp (v := .int _ _) rfl)) ?_
    refine congrArg vI ?_
    first
      | (rw [cnt_two (by subst h52; subst h56; simp [badTop, *]) h8]; first | rw [if_neg h66, if_neg h77] | rw [if_neg h66, if_pos h77] | rw [if_pos h66])
      | (simp [cnt, *]; done)
      | (unfold cnt; simp_all [badTop]; done)
      | (unfold cnt; simp_all [badTop] <;> omega)
  · refine LJ.nil ?_
    refine CJ.condF rfl ?_
    refine CJ.skip ?_
    refine CJ.seq ?_
    refine CJ.seq ?_
    refine CJ.region ?_
    refine LJ.yd rfl (Yd.fieldAddr rfl) ?_
    refine LJ.yd rfl (Yd.loadC 0 rfl rfl rfl) ?_
    refine LJ.nil ?_
    refine CJ.block ?_
    refine CJ.seq ?_
    refine CJ.region ?_
    refine LJ.splitD rfl (Yd.eql rfl rfl) (fun h12 => ?_) (fun h12 => ?_)
    · refine LJ.yd rfl (Yd.asB rfl) ?_
      refine LJ.nil ?_
      refine CJ.condT rfl ?_
      refine CJ.seq ?_
      refine CJ.seq ?_
      refine CJ.region ?_
      refine LJ.yd rfl (Yd.fieldAddr rfl) ?_
      refine LJ.yd rfl (Yd.loadC 0 rfl rfl rfl) ?_
      refine LJ.yd rfl (Yd.len rfl) ?_
      refine LJ.splitN rfl (Yd.neq rfl rfl) (fun h16 => ?_) (fun h16 => ?_)
      · refine LJ.yd rfl (Yd.mvB rfl) ?_
        refine LJ.gF rfl rfl ?_
        refine LJ.gF rfl rfl ?_
        refine LJ.gF rfl rfl ?_
        refine LJ.yd rfl (Yd.pickTB rfl rfl) ?_
        refine LJ.yd rfl (Yd.mvB rfl) ?_
        refine LJ.gF rfl rfl ?_
        refine LJ.gF rfl rfl ?_
        refine LJ.gF rfl rfl ?_
        refine LJ.yd rfl (Yd.pickTB rfl rfl) ?_
        refine LJ.yd rfl (Yd.mvB rfl) ?_
        refine LJ.gF rfl rfl ?_
        refine LJ.gF rfl rfl ?_
        refine LJ.yd rfl (Yd.pickTB rfl rfl) ?_
        refine LJ.nil ?_
        refine CJ.condT rfl ?_
        refine CJ.seq ?_
        refine CJ.region ?_
        refine LJ.yd rfl (Yd.asI rfl) ?_
        refine LJ.nil ?_
        refine CJ.ret ?_
        refine Fin.V (Res.one (ResV.tmp (v := .int _ _) rfl)) ?_
        refine congrArg vI ?_
        first
          | (rw [cnt_two (by subst h52; subst h56; simp [badTop, *]) h8]; first | rw [if_neg h66, if_neg h77] | rw [if_neg h66, if_pos h77] | rw [if_pos h66])
          | (simp [cnt, *]; done)
          | (unfold cnt; simp_all [badTop]; done)
          | (unfold cnt; simp_all [badTop] <;> omega)
      · refine LJ.yd rfl (Yd.mvB rfl) ?_
        refine LJ.gT rfl ?_
        refine LJ.yd rfl (Yd.fieldAddr rfl) ?_
        refine LJ.gT rfl ?_
        refine LJ.yd rfl (Yd.loadC 0 rfl rfl rfl) ?_
        refine LJ.gT rfl ?_
        refine LJ.splitN rfl (Yd.neq rfl rfl) (fun h20 => ?_) (fun h20 => ?_)
        · refine LJ.yd rfl (Yd.pickFB rfl rfl) ?_
          refine LJ.yd rfl (Yd.mvB rfl) ?_
          refine LJ.gF rfl rfl ?_
          refine LJ.gF rfl rfl ?_
          refine LJ.gF rfl rfl ?_
          refine LJ.yd rfl (Yd.pickTB rfl rfl) ?_
          refine LJ.yd rfl (Yd.mvB rfl) ?_
          refine LJ.gF rfl rfl ?_
          refine LJ.gF rfl rfl ?_
          refine LJ.yd rfl (Yd.pickTB rfl rfl) ?_
          refine LJ.nil ?_
          refine CJ.condT rfl ?_
          refine CJ.seq ?_
          refine CJ.region ?_
          refine LJ.yd rfl (Yd.asI rfl) ?_
          refine LJ.nil ?_
          refine CJ.ret ?_
          refine Fin.V (Res.one (ResV.tmp (v := .int _ _) rfl)) ?_
          refine congrArg vI ?_
          first
            | (rw [cnt_two (by subst h52; subst h56; simp [badTop, *]) h8]; first | rw [if_neg h66, if_neg h77] | rw [if_neg h66, if_pos h77] | rw [if_pos h66])
            | (simp [cnt, *]; done)
            | (unfold cnt; simp_all [badTop]; done)
            | (unfold cnt; simp_all [badTop] <;> omega)
        · refine LJ.yd rfl (Yd.pickFB rfl rfl) ?_
          refine LJ.yd rfl (Yd.mvB rfl) ?_
          refine LJ.gT rfl ?_
          refine LJ.yd rfl (Yd.fieldAddr rfl) ?_
          refine LJ.gT rfl ?_
          refine LJ.yd rfl (Yd.loadC 0 rfl rfl rfl) ?_
          refine LJ.gT rfl ?_
          refine LJ.splitN rfl (Yd.neq rfl rfl) (fun h25 => ?_) (fun h25 => ?_)
          · refine LJ.yd rfl (Yd.pickFB rfl rfl) ?_
            refine LJ.yd rfl (Yd.mvB rfl) ?_
            refine LJ.gF rfl rfl ?_
            refine LJ.gF rfl rfl ?_
            refine LJ.yd rfl (Yd.pickTB rfl rfl) ?_
            refine LJ.nil ?_
            refine CJ.condT rfl ?_
            refine CJ.seq ?_
            refine CJ.region ?_
            refine LJ.yd rfl (Yd.asI rfl) ?_
            refine LJ.nil ?_
            refine CJ.ret ?_
            refine Fin.V (Res.one (ResV.tmp (v := .int _ _) rfl)) ?_
            refine congrArg vI ?_
            first
              | (rw [cnt_two (by subst h52; subst h56; simp [badTop, *]) h8]; first | rw [if_neg h66, if_neg h77] | rw [if_neg h66, if_pos h77] | rw [if_pos h66])
              | (simp [cnt, *]; done)
              | (unfold cnt; simp_all [badTop]; done)
              | (unfold cnt; simp_all [badTop] <;> omega)
          · refine LJ.yd rfl (Yd.pickFB rfl rfl) ?_
            refine LJ.yd rfl (Yd.mvB rfl) ?_
            refine LJ.gT rfl ?_
            refine LJ.yd rfl (Yd.fieldAddr rfl) ?_
            refine LJ.gT rfl ?_
            refine LJ.split rfl (Yd.loadC 0 rfl rfl rfl) (fun h29 => ?_) (fun h29 => ?_)
            · refine LJ.yd rfl (Yd.pickFB rfl rfl) ?_
              refine LJ.nil ?_
              refine CJ.condT rfl ?_
              refine CJ.seq ?_
              refine CJ.region ?_
              refine LJ.yd rfl (Yd.asI rfl) ?_
              refine LJ.nil ?_
              refine CJ.ret ?_
              refine Fin.V (Res.one (ResV.tmp (v := .int _ _) rfl)) ?_
              refine congrArg vI ?_
              first
                | (rw [cnt_two (by subst h52; subst h56; simp [badTop, *]) h8]; first | rw [if_neg h66, if_neg h77] | rw [if_neg h66, if_pos h77] | rw [if_pos h66])
                | (simp [cnt, *]; done)
                | (unfold cnt; simp_all [badTop]; done)
                | (unfold cnt; simp_all [badTop] <;> omega)
            · refine LJ.yd rfl (Yd.pickFB rfl rfl) ?_
              refine LJ.nil ?_
              refine CJ.condF rfl ?_
              refine CJ.skip ?_
              refine CJ.seq ?_
              refine CJ.region ?_
              refine LJ.yd rfl (Yd.asI rfl) ?_
              refine LJ.nil ?_
              refine CJ.ret ?_
              refine Fin.V (Res.one (ResV.tmp (v := .int _ _) rfl)) ?_
              refine congrArg vI ?_
              first
                | (rw [cnt_two (by subst h52; subst h56; simp [badTop, *]) h8]; first | rw [if_neg h66, if_neg h77] | rw [if_neg h66, if_pos h77] | rw [if_pos h66])
                | (simp [cnt, *]; done)
                | (unfold cnt; simp_all [badTop]; done)
                | (unfold cnt; simp_all [badTop] <;> omega)
    · refine LJ.yd rfl (Yd.asB rfl) ?_
      refine LJ.nil ?_
      refine CJ.condF rfl ?_
      refine CJ.seq ?_
      refine CJ.region ?_
      refine LJ.splitD rfl (Yd.eql rfl rfl) (fun h32 => ?_) (fun h32 => ?_)
      · refine LJ.yd rfl (Yd.asB rfl) ?_
        refine LJ.nil ?_
        refine CJ.condT rfl ?_
        refine CJ.seq ?_
        refine CJ.seq ?_
        refine CJ.region ?_
        refine LJ.yd rfl (Yd.fieldAddr rfl) ?_
        refine LJ.yd rfl (Yd.loadC 0 rfl rfl rfl) ?_
        refine LJ.yd rfl (Yd.len rfl) ?_
        refine LJ.splitN rfl (Yd.neq rfl rfl) (fun h36 => ?_) (fun h36 => ?_)
        · refine LJ.yd rfl (Yd.mvB rfl) ?_
          refine LJ.gF rfl rfl ?_
          refine LJ.gF rfl rfl ?_
          refine LJ.gF rfl rfl ?_
          refine LJ.yd rfl (Yd.pickTB rfl rfl) ?_
          refine LJ.nil ?_
          refine CJ.condT rfl ?_
          refine CJ.seq ?_
          refine CJ.region ?_
          refine LJ.yd rfl (Yd.asI rfl) ?_
          refine LJ.nil ?_
          refine CJ.ret ?_
          refine Fin.V (Res.one (ResV.tmp (v := .int _ _) rfl)) ?_
          refine congrArg vI ?_
          first
            | (rw [cnt_two (by subst h52; subst h56; simp [badTop, *]) h8]; first | rw [if_neg h66, if_neg h77] | rw [if_neg h66, if_pos h77] | rw [if_pos h66])
            | (simp [cnt, *]; done)
            | (unfold cnt; simp_all [badTop]; done)
            | (unfold cnt; simp_all [badTop] <;> omega)
        · refine LJ.yd rfl (Yd.mvB rfl) ?_
          refine LJ.gT rfl ?_
          refine LJ.yd rfl (Yd.fieldAddr rfl) ?_
          refine LJ.gT rfl ?_
          refine LJ.yd rfl (Yd.loadC 0 rfl rfl rfl) ?_
          refine LJ.gT rfl ?_
          refine LJ.splitN rfl (Yd.neq rfl rfl) (fun h40 => ?_) (fun h40 => ?_)
          · refine LJ.yd rfl (Yd.pickFB rfl rfl) ?_
            refine LJ.nil ?_
            refine CJ.condT rfl ?_
            refine CJ.seq ?_
            refine CJ.region ?_
            refine LJ.yd rfl (Yd.asI rfl) ?_
            refine LJ.nil ?_
            refine CJ.ret ?_
            refine Fin.V (Res.one (ResV.tmp (v := .int _ _) rfl)) ?_
            refine congrArg vI ?_
            first
              | (rw [cnt_two (by subst h52; subst h56; simp [badTop, *]) h8]; first | rw [if_neg h66, if_neg h77] | rw [if_neg h66, if_pos h77] | rw [if_pos h66])
              | (simp [cnt, *]; done)
              | (unfold cnt; simp_all [badTop]; done)
              | (unfold cnt; simp_all [badTop] <;> omega)
          · refine LJ.yd rfl (Yd.pickFB rfl rfl) ?_
            refine LJ.nil ?_
            refine CJ.condF rfl ?_
            refine CJ.skip ?_
            refine CJ.seq ?_
            refine CJ.region ?_
            refine LJ.yd rfl (Yd.asI rfl) ?_
            refine LJ.nil ?_
            refine CJ.ret ?_
            refine Fin.V (Res.one (ResV.tmp (v := .int _ _) rfl)) ?_
            refine congrArg vI ?_
            first
              | (rw [cnt_two (by subst h52; subst h56; simp [badTop, *]) h8]; first | rw [if_neg h66, if_neg h77] | rw [if_neg h66, if_pos h77] | rw [if_pos h66])
              | (simp [cnt, *]; done)
              | (unfold cnt; simp_all [badTop]; done)
              | (unfold cnt; simp_all [badTop] <;> omega)
      · refine LJ.yd rfl (Yd.asB rfl) ?_
        refine LJ.nil ?_
        refine CJ.condF rfl ?_
        refine CJ.seq ?_
        refine CJ.seq ?_
        refine CJ.region ?_
        refine LJ.splitD rfl (Yd.eql rfl rfl) (fun h43 => ?_) (fun h43 => ?_)
        · refine LJ.yd rfl (Yd.asB rfl) ?_
          refine LJ.nil ?_
          refine CJ.condT rfl ?_
          refine CJ.skip ?_
          refine CJ.condT rfl ?_
          refine CJ.seq ?_
          refine CJ.seq ?_
          refine CJ.region ?_
          refine LJ.yd rfl (Yd.fieldAddr rfl) ?_
          refine LJ.yd rfl (Yd.loadC 0 rfl rfl rfl) ?_
          refine LJ.yd rfl (Yd.len rfl) ?_
          refine LJ.splitN rfl (Yd.neq rfl rfl) (fun h48 => ?_) (fun h48 => ?_)
          · refine LJ.yd rfl (Yd.mvB rfl) ?_
            refine LJ.gF rfl rfl ?_
            refine LJ.gF rfl rfl ?_
            refine LJ.gF rfl rfl ?_
            refine LJ.yd rfl (Yd.pickTB rfl rfl) ?_
            refine LJ.yd rfl (Yd.mvB rfl) ?_
            refine LJ.gF rfl rfl ?_
            refine LJ.gF rfl rfl ?_
            refine LJ.yd rfl (Yd.pickTB rfl rfl) ?_
            refine LJ.nil ?_
            refine CJ.condT rfl ?_
            refine CJ.seq ?_
            refine CJ.region ?_
            refine LJ.yd rfl (Yd.asI rfl) ?_
            refine LJ.nil ?_
            refine CJ.ret ?_
            refine Fin.V (Res.one (ResV.tmp (v := .int _ _) rfl)) ?_
            refine congrArg vI ?_
            first
              | (rw [cnt_two (by subst h52; subst h56; simp [badTop, *]) h8]; first | rw [if_neg h66, if_neg h77] | rw [if_neg h66, if_pos h77] | rw [if_pos h66])
              | (simp [cnt, *]; done)
              | (unfold cnt; simp_all [badTop]; done)
              | (unfold cnt; simp_all [badTop] <;> omega)
          · refine LJ.yd rfl (Yd.mvB rfl) ?_
            refine LJ.gT rfl ?_
            refine LJ.yd rfl (Yd.fieldAddr rfl) ?_
            refine LJ.gT rfl ?_
            refine LJ.yd rfl (Yd.loadC 0 rfl rfl rfl) ?_
            refine LJ.gT rfl ?_
            refine LJ.splitN rfl (Yd.neq rfl rfl) (fun h52 => ?_) (fun h52 => ?_)
            · refine LJ.yd rfl (Yd.pickFB rfl rfl) ?_
              refine LJ.yd rfl (Yd.mvB rfl) ?_
              refine LJ.gF rfl rfl ?_
              refine LJ.gF rfl rfl ?_
              refine LJ.yd rfl (Yd.pickTB rfl rfl) ?_
              refine LJ.nil ?_
              refine CJ.condT rfl ?_
              refine CJ.seq ?_
              refine CJ.region ?_
              refine LJ.yd rfl (Yd.asI rfl) ?_
              refine LJ.nil ?_
              refine CJ.ret ?_
              refine Fin.V (Res.one (ResV.tmp (v := .int _ _) rfl)) ?_
              refine congrArg vI ?_
              first
                | (rw [cnt_two (by subst h52; subst h56; simp [badTop, *]) h8]; first | rw [if_neg h66, if_neg h77] | rw [if_neg h66, if_pos h77] | rw [if_pos h66])
                | (simp [cnt, *]; done)
                | (unfold cnt; simp_all [badTop]; done)
                | (unfold cnt; simp_all [badTop] <;> omega)
            · refine LJ.yd rfl (Yd.pickFB rfl rfl) ?_
              refine LJ.yd rfl (Yd.mvB rfl) ?_
              refine LJ.gT rfl ?_
              refine LJ.yd rfl (Yd.fieldAddr rfl) ?_
              refine LJ.gT rfl ?_
              refine LJ.split rfl (Yd.loadC 0 rfl rfl rfl) (fun h56 => ?_) (fun h56 => ?_)
              · refine LJ.yd rfl (Yd.pickFB rfl rfl) ?_
                refine LJ.nil ?_
                refine CJ.condT rfl ?_
                refine CJ.seq ?_
                refine CJ.region ?_
                refine LJ.yd rfl (Yd.asI rfl) ?_
                refine LJ.nil ?_
                refine CJ.ret ?_
                refine Fin.V (Res.one (ResV.tmp (v := .int _ _) rfl)) ?_
                refine congrArg vI ?_
                first
                  | (rw [cnt_two (by subst h52; subst h56; simp [badTop, *]) h8]; first | rw [if_neg h66, if_neg h77] | rw [if_neg h66, if_pos h77] | rw [if_pos h66])
                  | (simp [cnt, *]; done)
                  | (unfold cnt; simp_all [badTop]; done)
                  | (unfold cnt; simp_all [badTop] <;> omega)
              · refine LJ.yd rfl (Yd.pickFB rfl rfl) ?_
                refine LJ.nil ?_
                refine CJ.condF rfl ?_
                refine CJ.skip ?_
                refine CJ.seq ?_
                obtain ⟨c0, c1, k0, k1, rfl, rfl, hk0, hk1⟩ := two_kids hk (by omega)
                obtain e | ⟨b, o', rfl, hrow⟩ := hrow
                · cases e
                have hs0 : SizeOf.sizeOf k0 < N := by have := kid_lt o a p t (kids := [k0, k1]) (k := 0) (by simp); simp only [List.getElem_cons_zero] at this; omega
                have hs1 : SizeOf.sizeOf k1 < N := by have := kid_lt o a p t (kids := [k0, k1]) (k := 1) (by simp); simp only [List.getElem_cons_succ, List.getElem_cons_zero] at this; omega
                have hc0 := cnt_le k0 (room - 1)
                have hc1 := cnt_le k1 (room - 1 - cnt k0 (room - 1))
                refine CJ.region ?_
                refine LJ.yd rfl (Yd.fieldAddr rfl) ?_
                refine LJ.yd rfl (Yd.loadC 0 rfl rfl rfl) ?_
                refine LJ.yd rfl (Yd.indexAddr rfl rfl (by omega) (by simp)) ?_
                refine LJ.yd rfl (Yd.loadRow (i := 0) hrow rfl (by simp) rfl hk0.len) ?_
                refine LJ.yd rfl (Yd.mvI rfl) ?_
                refine LJ.yd rfl (Yd.sub rfl rfl (by unfold I64; omega)) ?_
                refine LJ.callV rfl (fun k hk dk => ih _ hs0 _ _ _ (by omega) (by omega) hk0.up) ?_
                refine LJ.yd rfl (Yd.asI rfl) ?_
                refine LJ.nil ?_
                refine CJ.seq ?_
                refine CJ.seq ?_
                refine CJ.region ?_
                refine LJ.yd rfl (Yd.mvI rfl) ?_
                refine LJ.splitD rfl (Yd.lss rfl rfl) (fun h66 => ?_) (fun h66 => ?_)
                · refine LJ.nil ?_
                  refine CJ.condT rfl ?_
                  refine CJ.seq ?_
                  refine CJ.region ?_
                  refine LJ.yd rfl (Yd.asI rfl) ?_
                  refine LJ.nil ?_
                  refine CJ.ret ?_
                  refine Fin.V (Res.one (ResV.tmp (v := .int _ _) rfl)) ?_
                  refine congrArg vI ?_
                  first
                    | (rw [cnt_two (by subst h52; subst h56; simp [badTop, *]) h8]; first | rw [if_neg h66, if_neg h77] | rw [if_neg h66, if_pos h77] | rw [if_pos h66])
                    | (simp [cnt, *]; done)
                    | (unfold cnt; simp_all [badTop]; done)
                    | (unfold cnt; simp_all [badTop] <;> omega)
                · refine LJ.nil ?_
                  refine CJ.condF rfl ?_
                  refine CJ.skip ?_
                  refine CJ.seq ?_
                  refine CJ.region ?_
                  refine LJ.yd rfl (Yd.fieldAddr rfl) ?_
                  refine LJ.yd rfl (Yd.loadC 0 rfl rfl rfl) ?_
                  refine LJ.yd rfl (Yd.indexAddr rfl rfl (by omega) (by simp)) ?_
                  refine LJ.yd rfl (Yd.loadRow (i := 1) hrow rfl (by simp) rfl hk1.len) ?_
                  refine LJ.yd rfl (Yd.mvI rfl) ?_
                  refine LJ.yd rfl (Yd.sub rfl rfl (by unfold I64; omega)) ?_
                  refine LJ.yd rfl (Yd.mvI rfl) ?_
                  refine LJ.yd rfl (Yd.sub rfl rfl (by unfold I64; omega)) ?_
                  refine LJ.callV rfl (fun k hk dk => ih _ hs1 _ _ _ (by omega) (by omega) hk1.up) ?_
                  refine LJ.yd rfl (Yd.asI rfl) ?_
                  refine LJ.nil ?_
                  refine CJ.seq ?_
                  refine CJ.seq ?_
                  refine CJ.region ?_
                  refine LJ.yd rfl (Yd.mvI rfl) ?_
                  refine LJ.splitD rfl (Yd.lss rfl rfl) (fun h77 => ?_) (fun h77 => ?_)
                  · refine LJ.nil ?_
                    refine CJ.condT rfl ?_
                    refine CJ.seq ?_
                    refine CJ.region ?_
                    refine LJ.yd rfl (Yd.asI rfl) ?_
                    refine LJ.nil ?_
                    refine CJ.ret ?_
                    refine Fin.V (Res.one (ResV.tmp (v := .int _ _) rfl)) ?_
                    refine congrArg vI ?_
                    first
                      | (rw [cnt_two (by subst h52; subst h56; simp [badTop, *]) h8]; first | rw [if_neg h66, if_neg h77] | rw [if_neg h66, if_pos h77] | rw [if_pos h66])
                      | (simp [cnt, *]; done)
                      | (unfold cnt; simp_all [badTop]; done)
                      | (unfold cnt; simp_all [badTop] <;> omega)
                  · refine LJ.nil ?_
                    refine CJ.condF rfl ?_
                    refine CJ.skip ?_
                    refine CJ.seq ?_
                    refine CJ.region ?_
                    refine LJ.yd rfl (Yd.mvI rfl) ?_
                    refine LJ.yd rfl (Yd.add rfl rfl (by unfold I64; omega)) ?_
                    refine LJ.yd rfl (Yd.mvI rfl) ?_
                    refine LJ.yd rfl (Yd.add rfl rfl (by unfold I64; omega)) ?_
                    refine LJ.yd rfl (Yd.asI rfl) ?_
                    refine LJ.nil ?_
                    refine CJ.ret ?_
                    refine Fin.V (Res.one (ResV.tmp (v := .int _ _) rfl)) ?_
                    refine congrArg vI ?_
                    first
                      | (rw [cnt_two (by subst h52; subst h56; simp [badTop, *]) h8]; first | rw [if_neg h66, if_neg h77] | rw [if_neg h66, if_pos h77] | rw [if_pos h66])
                      | (simp [cnt, *]; done)
                      | (unfold cnt; simp_all [badTop]; done)
                      | (unfold cnt; simp_all [badTop] <;> omega)
        · refine LJ.yd rfl (Yd.asB rfl) ?_
          refine LJ.nil ?_
          refine CJ.condF rfl ?_
          refine CJ.region ?_
          refine LJ.splitD rfl (Yd.eql rfl rfl) (fun h44 => ?_) (fun h44 => ?_)
          · refine LJ.yd rfl (Yd.asB rfl) ?_
            refine LJ.nil ?_
            refine CJ.condT rfl ?_
            refine CJ.seq ?_
            refine CJ.seq ?_
            refine CJ.region ?_
            refine LJ.yd rfl (Yd.fieldAddr rfl) ?_
            refine LJ.yd rfl (Yd.loadC 0 rfl rfl rfl) ?_
            refine LJ.yd rfl (Yd.len rfl) ?_
            refine LJ.splitN rfl (Yd.neq rfl rfl) (fun h48 => ?_) (fun h48 => ?_)
            · refine LJ.yd rfl (Yd.mvB rfl) ?_
              refine LJ.gF rfl rfl ?_
              refine LJ.gF rfl rfl ?_
              refine LJ.gF rfl rfl ?_
              refine LJ.yd rfl (Yd.pickTB rfl rfl) ?_
              refine LJ.yd rfl (Yd.mvB rfl) ?_
              refine LJ.gF rfl rfl ?_
              refine LJ.gF rfl rfl ?_
              refine LJ.yd rfl (Yd.pickTB rfl rfl) ?_
              refine LJ.nil ?_
              refine CJ.condT rfl ?_
              refine CJ.seq ?_
              refine CJ.region ?_
              refine LJ.yd rfl (Yd.asI rfl) ?_
              refine LJ.nil ?_
              refine CJ.ret ?_
              refine Fin.V (Res.one (ResV.tmp (v := .int _ _) rfl)) ?_
              refine congrArg vI ?_
              first
                | (rw [cnt_two (by subst h52; subst h56; simp [badTop, *]) h8]; first | rw [if_neg h66, if_neg h77] | rw [if_neg h66, if_pos h77] | rw [if_pos h66])
                | (simp [cnt, *]; done)
                | (unfold cnt; simp_all [badTop]; done)
                | (unfold cnt; simp_all [badTop] <;> omega)
            · refine LJ.yd rfl (Yd.mvB rfl) ?_
              refine LJ.gT rfl ?_
              refine LJ.yd rfl (Yd.fieldAddr rfl) ?_
              refine LJ.gT rfl ?_
              refine LJ.yd rfl (Yd.loadC 0 rfl rfl rfl) ?_
              refine LJ.gT rfl ?_
              refine LJ.splitN rfl (Yd.neq rfl rfl) (fun h52 => ?_) (fun h52 => ?_)
              · refine LJ.yd rfl (Yd.pickFB rfl rfl) ?_
                refine LJ.yd rfl (Yd.mvB rfl) ?_
                refine LJ.gF rfl rfl ?_
                refine LJ.gF rfl rfl ?_
                refine LJ.yd rfl (Yd.pickTB rfl rfl) ?_
                refine LJ.nil ?_
                refine CJ.condT rfl ?_
                refine CJ.seq ?_
                refine CJ.region ?_
                refine LJ.yd rfl (Yd.asI rfl) ?_
                refine LJ.nil ?_
                refine CJ.ret ?_
                refine Fin.V (Res.one (ResV.tmp (v := .int _ _) rfl)) ?_
                refine congrArg vI ?_
                first
                  | (rw [cnt_two (by subst h52; subst h56; simp [badTop, *]) h8]; first | rw [if_neg h66, if_neg h77] | rw [if_neg h66, if_pos h77] | rw [if_pos h66])
                  | (simp [cnt, *]; done)
                  | (unfold cnt; simp_all [badTop]; done)
                  | (unfold cnt; simp_all [badTop] <;> omega)
              · refine LJ.yd rfl (Yd.pickFB rfl rfl) ?_
                refine LJ.yd rfl (Yd.mvB rfl) ?_
                refine LJ.gT rfl ?_
                refine LJ.yd rfl (Yd.fieldAddr rfl) ?_
                refine LJ.gT rfl ?_
                refine LJ.split rfl (Yd.loadC 0 rfl rfl rfl) (fun h56 => ?_) (fun h56 => ?_)
                · refine LJ.yd rfl (Yd.pickFB rfl rfl) ?_
                  refine LJ.nil ?_
                  refine CJ.condT rfl ?_
                  refine CJ.seq ?_
                  refine CJ.region ?_
                  refine LJ.yd rfl (Yd.asI rfl) ?_
                  refine LJ.nil ?_
                  refine CJ.ret ?_
                  refine Fin.V (Res.one (ResV.tmp (v := .int _ _) rfl)) ?_
                  refine congrArg vI ?_
                  first
                    | (rw [cnt_two (by subst h52; subst h56; simp [badTop, *]) h8]; first | rw [if_neg h66, if_neg h77] | rw [if_neg h66, if_pos h77] | rw [if_pos h66])
                    | (simp [cnt, *]; done)
                    | (unfold cnt; simp_all [badTop]; done)
                    | (unfold cnt; simp_all [badTop] <;> omega)
                · refine LJ.yd rfl (Yd.pickFB rfl rfl) ?_
                  refine LJ.nil ?_
                  refine CJ.condF rfl ?_
                  refine CJ.skip ?_
                  refine CJ.seq ?_
                  obtain ⟨c0, c1, k0, k1, rfl, rfl, hk0, hk1⟩ := two_kids hk (by omega)
                  obtain e | ⟨b, o', rfl, hrow⟩ := hrow
                  · cases e
                  have hs0 : SizeOf.sizeOf k0 < N := by have := kid_lt o a p t (kids := [k0, k1]) (k := 0) (by simp); simp only [List.getElem_cons_zero] at this; omega
                  have hs1 : SizeOf.sizeOf k1 < N := by have := kid_lt o a p t (kids := [k0, k1]) (k := 1) (by simp); simp only [List.getElem_cons_succ, List.getElem_cons_zero] at this; omega
                  have hc0 := cnt_le k0 (room - 1)
                  have hc1 := cnt_le k1 (room - 1 - cnt k0 (room - 1))
                  refine CJ.region ?_
                  refine LJ.yd rfl (Yd.fieldAddr rfl) ?_
                  refine LJ.yd rfl (Yd.loadC 0 rfl rfl rfl) ?_
                  refine LJ.yd rfl (Yd.indexAddr rfl rfl (by omega) (by simp)) ?_
                  refine LJ.yd rfl (Yd.loadRow (i := 0) hrow rfl (by simp) rfl hk0.len) ?_
                  refine LJ.yd rfl (Yd.mvI rfl) ?_
                  refine LJ.yd rfl (Yd.sub rfl rfl (by unfold I64; omega)) ?_
                  refine LJ.callV rfl (fun k hk dk => ih _ hs0 _ _ _ (by omega) (by omega) hk0.up) ?_
                  refine LJ.yd rfl (Yd.asI rfl) ?_
                  refine LJ.nil ?_
                  refine CJ.seq ?_
                  refine CJ.seq ?_
                  refine CJ.region ?_
                  refine LJ.yd rfl (Yd.mvI rfl) ?_
                  refine LJ.splitD rfl (Yd.lss rfl rfl) (fun h66 => ?_) (fun h66 => ?_)
                  · refine LJ.nil ?_
                    refine CJ.condT rfl ?_
                    refine CJ.seq ?_
                    refine CJ.region ?_
                    refine LJ.yd rfl (Yd.asI rfl) ?_
                    refine LJ.nil ?_
                    refine CJ.ret ?_
                    refine Fin.V (Res.one (ResV.tmp (v := .int _ _) rfl)) ?_
                    refine congrArg vI ?_
                    first
                      | (rw [cnt_two (by subst h52; subst h56; simp [badTop, *]) h8]; first | rw [if_neg h66, if_neg h77] | rw [if_neg h66, if_pos h77] | rw [if_pos h66])
                      | (simp [cnt, *]; done)
                      | (unfold cnt; simp_all [badTop]; done)
                      | (unfold cnt; simp_all [badTop] <;> omega)
                  · refine LJ.nil ?_
                    refine CJ.condF rfl ?_
                    refine CJ.skip ?_
                    refine CJ.seq ?_
                    refine CJ.region ?_
                    refine LJ.yd rfl (Yd.fieldAddr rfl) ?_
                    refine LJ.yd rfl (Yd.loadC 0 rfl rfl rfl) ?_
                    refine LJ.yd rfl (Yd.indexAddr rfl rfl (by omega) (by simp)) ?_
                    refine LJ.yd rfl (Yd.loadRow (i := 1) hrow rfl (by simp) rfl hk1.len) ?_
                    refine LJ.yd rfl (Yd.mvI rfl) ?_
                    refine LJ.yd rfl (Yd.sub rfl rfl (by unfold I64; omega)) ?_
                    refine LJ.yd rfl (Yd.mvI rfl) ?_
                    refine LJ.yd rfl (Yd.sub rfl rfl (by unfold I64; omega)) ?_
                    refine LJ.callV rfl (fun k hk dk => ih _ hs1 _ _ _ (by omega) (by omega) hk1.up) ?_
                    refine LJ.yd rfl (Yd.asI rfl) ?_
                    refine LJ.nil ?_
                    refine CJ.seq ?_
                    refine CJ.seq ?_
                    refine CJ.region ?_
                    refine LJ.yd rfl (Yd.mvI rfl) ?_
                    refine LJ.splitD rfl (Yd.lss rfl rfl) (fun h77 => ?_) (fun h77 => ?_)
                    · refine LJ.nil ?_
                      refine CJ.condT rfl ?_
                      refine CJ.seq ?_
                      refine CJ.region ?_
                      refine LJ.yd rfl (Yd.asI rfl) ?_
                      refine LJ.nil ?_
                      refine CJ.ret ?_
                      refine Fin.V (Res.one (ResV.tmp (v := .int _ _) rfl)) ?_
                      refine congrArg vI ?_
                      first
                        | (rw [cnt_two (by subst h52; subst h56; simp [badTop, *]) h8]; first | rw [if_neg h66, if_neg h77] | rw [if_neg h66, if_pos h77] | rw [if_pos h66])
                        | (simp [cnt, *]; done)
                        | (unfold cnt; simp_all [badTop]; done)
                        | (unfold cnt; simp_all [badTop] <;> omega)
                    · refine LJ.nil ?_
                      refine CJ.condF rfl ?_
                      refine CJ.skip ?_
                      refine CJ.seq ?_
                      refine CJ.region ?_
                      refine LJ.yd rfl (Yd.mvI rfl) ?_
                      refine LJ.yd rfl (Yd.add rfl rfl (by unfold I64; omega)) ?_
                      refine LJ.yd rfl (Yd.mvI rfl) ?_
                      refine LJ.yd rfl (Yd.add rfl rfl (by unfold I64; omega)) ?_
                      refine LJ.yd rfl (Yd.asI rfl) ?_
                      refine LJ.nil ?_
                      refine CJ.ret ?_
                      refine Fin.V (Res.one (ResV.tmp (v := .int _ _) rfl)) ?_
                      refine congrArg vI ?_
                      first
                        | (rw [cnt_two (by subst h52; subst h56; simp [badTop, *]) h8]; first | rw [if_neg h66, if_neg h77] | rw [if_neg h66, if_pos h77] | rw [if_pos h66])
                        | (simp [cnt, *]; done)
                        | (unfold cnt; simp_all [badTop]; done)
                        | (unfold cnt; simp_all [badTop] <;> omega)
          · refine LJ.yd rfl (Yd.asB rfl) ?_
            refine LJ.nil ?_
            refine CJ.condF rfl ?_
            refine CJ.skip ?_
            refine CJ.seq ?_
            refine CJ.region ?_
            refine LJ.yd rfl (Yd.asI rfl) ?_
            refine LJ.nil ?_
            refine CJ.ret ?_
            refine Fin.V (Res.one (ResV.tmp (v := .int _ _) rfl)) ?_
            refine congrArg vI ?_
            first
              | (rw [cnt_two (by subst h52; subst h56; simp [badTop, *]) h8]; first | rw [if_neg h66, if_neg h77] | rw [if_neg h66, if_pos h77] | rw [if_pos h66])
              | (simp [cnt, *]; done)
              | (unfold cnt; simp_all [badTop]; done)
              | (unfold cnt; simp_all [badTop] <;> omega)
theorem countParts_ok {A : Amb} {cs : List Value} {q : Plan} {room : Int} (h0 : -1000 ≤ room) (h1 : room ≤ 1000) (h : RdPlan A.h cs q) : Ctr Try.prog 88 #[.agg cs.toArray, vI room] A [] (Val (vI (cnt q room))) := countParts_ok' _ q (Nat.lt_succ_self _) A cs room h0 h1 h
theorem PlanSizeI_ok {A : Amb} {cs : List Value} {q : Plan} (h : RdPlan A.h cs q) : Ctr Try.prog 52 #[.agg cs.toArray] A [] (Val (vI (psz q))) := by
  obtain ⟨o, a, p, t, kids, v, css, e, rfl, _⟩ := h.inv
  refine Ctr.body (args := [_]) Try.func52 rfl Try.ntmps52 Try.results52 (by simp) ?_
  refine CJ.seq ?_
  refine CJ.region ?_
  refine LJ.boxG (vs := [_, _, _, _, _]) rfl rfl (fun b1 => ?_)
  refine LJ.yd rfl (Yd.asI rfl) ?_
  refine LJ.nil ?_
  refine CJ.seq ?_
  refine CJ.region ?_
  refine LJ.yd rfl (Yd.loadG (us := [_, _, _, _, _]) 0 rfl rfl rfl rfl) ?_
  refine LJ.callV rfl (fun k hk dk => countParts_ok (by omega) (by omega) h.up) ?_
  refine LJ.yd rfl (Yd.asI rfl) ?_
  refine LJ.nil ?_
  refine CJ.ret ?_
  refine Fin.V (Res.one (ResV.tmp (v := .int _ _) rfl)) ?_
  rw [cnt_psz]
theorem CutsOf_ok {A : Amb} {cs : List Value} {q : Plan} (h : RdPlan A.h cs q) : Ctr Try.prog 19 #[.agg cs.toArray] A [] (Val (vI (if psz q < 0 then -1 else psz q / 2))) := by
  obtain ⟨o, a, p, t, kids, v, css, e, rfl, _⟩ := h.inv
  have hle := psz_le q
  refine Ctr.body (args := [_]) Try.func19 rfl Try.ntmps19 Try.results19 (by simp) ?_
  refine CJ.seq ?_
  refine CJ.region ?_
  refine LJ.boxG (vs := [_, _, _, _, _]) rfl rfl (fun b1 => ?_)
  refine LJ.yd rfl (Yd.asI rfl) ?_
  refine LJ.nil ?_
  refine CJ.seq ?_
  refine CJ.region ?_
  refine LJ.yd rfl (Yd.loadG (us := [_, _, _, _, _]) 0 rfl rfl rfl rfl) ?_
  refine LJ.callV rfl (fun k hk dk => PlanSizeI_ok h.up) ?_
  refine LJ.yd rfl (Yd.asI rfl) ?_
  refine LJ.nil ?_
  refine CJ.seq ?_
  refine CJ.seq ?_
  refine CJ.region ?_
  refine LJ.yd rfl (Yd.mvI rfl) ?_
  refine LJ.splitD rfl (Yd.lss rfl rfl) (fun h7 => ?_) (fun h7 => ?_)
  · refine LJ.nil ?_
    refine CJ.condT rfl ?_
    refine CJ.seq ?_
    refine CJ.region ?_
    refine LJ.yd rfl (Yd.asI rfl) ?_
    refine LJ.nil ?_
    refine CJ.ret ?_
    refine Fin.V (Res.one (ResV.tmp (v := .int _ _) rfl)) ?_
    first | rw [if_pos (by assumption)] | rw [if_neg (by assumption)]
  · refine LJ.nil ?_
    refine CJ.condF rfl ?_
    refine CJ.skip ?_
    refine CJ.seq ?_
    refine CJ.region ?_
    refine LJ.yd rfl (Yd.mvI rfl) ?_
    refine LJ.yd rfl (Yd.quo rfl rfl (by omega) (by omega) (by unfold I64; omega)) ?_
    refine LJ.yd rfl (Yd.asI rfl) ?_
    refine LJ.nil ?_
    refine CJ.ret ?_
    refine Fin.V (Res.one (ResV.tmp (v := .int _ _) rfl)) ?_
    first | rw [if_pos (by assumption)] | rw [if_neg (by assumption)]

theorem RdPlan.of_BT {h : Hp} {cs : List Value} {b : BT} (r : RdT h cs b) : RdPlan h cs b.plan := by
  induction r with
  | w => exact .mk (by unfold I64; omega) (by unfold I64; omega) (by unfold I64; omega) ⟨⟨_, _, rfl, ⟨by simp, by simp⟩, .inl rfl⟩, by simp⟩ .nil
  | p hi => exact .mk (by unfold I64; omega) (by unfold I64; omega) hi ⟨⟨_, _, rfl, ⟨by simp, by simp⟩, .inl rfl⟩, by simp⟩ .nil
  | @c d a b o c l r c0 c1 ha hcap hrow hl hr i j =>
    refine .mk (by cases d <;> (unfold I64 opOf; simp)) ha (by unfold I64; omega) ⟨⟨_, _, rfl, ⟨by simp, hcap⟩, .inr ⟨b, o, rfl, hrow⟩⟩, ?_⟩ (.cons i (.cons j .nil))
    intro cs hcs
    simp at hcs
    rcases hcs with rfl | rfl
    · exact hl.len
    · exact hr.len
end Go.Proofs.Ytlpjienaennmaaa
