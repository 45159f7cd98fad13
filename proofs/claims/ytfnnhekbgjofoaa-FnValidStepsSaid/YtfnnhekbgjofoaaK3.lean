/-
  Contracts: the cuts of a plan as the program lists them; numbers of cuts, cuts above.
-/
import Derived.Test.YtfnnhekbgjofoaaK2
import Derived.Test.YtfnnhekbgjofoaaPB
namespace Go.Proofs.Ytfnnhekbgjofoaa
open Go
set_option maxRecDepth 20000
set_option maxHeartbeats 1000000

def knP (q : Plan) : List (Int × Int) := if psz q < 0 then [] else (toBT q).knots 0 (-1)
theorem knP_BT {b : BT} (h : ¬ psz b.plan < 0) : knP b.plan = b.knots 0 (-1) := by unfold knP; rw [if_neg h, toBT_plan]
theorem knP_ok (q : Plan) : KOk (knP q) := by
  unfold knP
  split
  · exact KOk.nil
  · rename_i h
    obtain ⟨b, rfl⟩ := BT.of_psz q (by omega)
    rw [toBT_plan]; exact BT.kok (sz_of_psz h).1
abbrev KnR (K : List (Int × Int)) (m : Int) (v : Value) (fs : List HProp) : Prop := ∃ a c K', K' = K ∧ v = .tuple #[.slice a K'.length c, vI m] ∧ fs = [LR encK 72 2 a c K']
theorem addKnots_ok (b : BT) : ∀ (A : Amb) (cs : List Value) (n ab : Int) (K : List (Int × Int)) (a : Option Addr) (m c : Nat), m = K.length → K.length + b.sz ≤ 100000 → 0 ≤ n → n ≤ 1000 → n + b.sz ≤ 1000 → b.sz ≤ 255 → RdT A.h cs b →
    Ctr Try.prog 82 #[.slice a m c, .agg cs.toArray, vI n, vI ab] A [LR encK 72 2 a c K] (KnR (K ++ b.knots n ab) (n + b.sz)) := by
  induction b with
  | w =>
    intro A cs n ab K a m c hm hk hn hn1 hn2 hz hr
    cases hr; subst hm
    refine Ctr.body (args := [_, _, _, _]) Try.func82 rfl Try.ntmps82 Try.results82 (by simp) ?_
    refine CJ.seq ?_
    refine CJ.region ?_
    refine LJ.boxG (vs := [_, _, _, _, _]) rfl rfl (fun b1 => ?_)
    refine LJ.yd rfl (Yd.asS rfl) ?_
    refine LJ.yd rfl (Yd.asI rfl) ?_
    refine LJ.nil ?_
    refine CJ.seq ?_
    refine CJ.seq ?_
    refine CJ.region ?_
    refine LJ.yd rfl (Yd.loadG (us := [_, _, _, _, _]) 1 rfl rfl rfl rfl) ?_
    refine LJ.callV rfl (fun k hk dk => isCutI_ok _ _ _ _ _ _) ?_
    refine LJ.yd rfl (Yd.not rfl) ?_
    refine LJ.nil ?_
    refine CJ.condT rfl ?_
    refine CJ.seq ?_
    refine CJ.region ?_
    refine LJ.yd rfl (Yd.mvS rfl) ?_
    refine LJ.yd rfl (Yd.mvI rfl) ?_
    refine LJ.yd rfl (Yd.add rfl rfl (by unfold I64; omega)) ?_
    refine LJ.yd rfl (Yd.asS rfl) ?_
    refine LJ.yd rfl (Yd.asI rfl) ?_
    refine LJ.nil ?_
    refine CJ.ret ?_
    exact Fin.R [_] (Res.two (ResV.tmp (v := .slice _ _ _) rfl) (ResV.tmp (v := .int _ _) rfl)) ⟨_, _, _, (List.append_nil _).symm, rfl, rfl⟩ (Ent.pick [0] [1] rfl)
  | p i t =>
    intro A cs n ab K a m c hm hk hn hn1 hn2 hz hr
    cases hr; subst hm
    refine Ctr.body (args := [_, _, _, _]) Try.func82 rfl Try.ntmps82 Try.results82 (by simp) ?_
    refine CJ.seq ?_
    refine CJ.region ?_
    refine LJ.boxG (vs := [_, _, _, _, _]) rfl rfl (fun b1 => ?_)
    refine LJ.yd rfl (Yd.asS rfl) ?_
    refine LJ.yd rfl (Yd.asI rfl) ?_
    refine LJ.nil ?_
    refine CJ.seq ?_
    refine CJ.seq ?_
    refine CJ.region ?_
    refine LJ.yd rfl (Yd.loadG (us := [_, _, _, _, _]) 1 rfl rfl rfl rfl) ?_
    refine LJ.callV rfl (fun k hk dk => isCutI_ok _ _ _ _ _ _) ?_
    refine LJ.yd rfl (Yd.not rfl) ?_
    refine LJ.nil ?_
    refine CJ.condT rfl ?_
    refine CJ.seq ?_
    refine CJ.region ?_
    refine LJ.yd rfl (Yd.mvS rfl) ?_
    refine LJ.yd rfl (Yd.mvI rfl) ?_
    refine LJ.yd rfl (Yd.add rfl rfl (by unfold I64; omega)) ?_
    refine LJ.yd rfl (Yd.asS rfl) ?_
    refine LJ.yd rfl (Yd.asI rfl) ?_
    refine LJ.nil ?_
    refine CJ.ret ?_
    exact Fin.R [_] (Res.two (ResV.tmp (v := .slice _ _ _) rfl) (ResV.tmp (v := .int _ _) rfl)) ⟨_, _, _, (List.append_nil _).symm, rfl, rfl⟩ (Ent.pick [0] [1] rfl)
  | c d x l r ihl ihr =>
    intro A cs n ab K a m c hm hk hn hn1 hn2 hz hr
    obtain _ | _ | ⟨ha, hcap, hrow, hl, hr⟩ := hr
    subst hm
    simp only [BT.sz] at hz hn2 hk ⊢
    have p1 := l.sz_pos
    have p2 := r.sz_pos
    have k1 := l.knots_len (n + 1) n
    have k1' := l.sz_cuts
    have k2 := r.knots_len (n + 1 + l.sz) n
    have k2' := r.sz_cuts
    refine Ctr.body (args := [_, _, _, _]) Try.func82 rfl Try.ntmps82 Try.results82 (by simp) ?_
    refine CJ.seq ?_
    refine CJ.region ?_
    refine LJ.boxG (vs := [_, _, _, _, _]) rfl rfl (fun b1 => ?_)
    refine LJ.yd rfl (Yd.asS rfl) ?_
    refine LJ.yd rfl (Yd.asI rfl) ?_
    refine LJ.nil ?_
    refine CJ.seq ?_
    refine CJ.seq ?_
    refine CJ.region ?_
    refine LJ.yd rfl (Yd.loadG (us := [_, _, _, _, _]) 1 rfl rfl rfl rfl) ?_
    refine LJ.callV rfl (fun k hk dk => isCutI_c _ _ _ _ _ _) ?_
    refine LJ.yd rfl (Yd.not rfl) ?_
    refine LJ.nil ?_
    refine CJ.condF rfl ?_
    refine CJ.skip ?_
    refine CJ.seq ?_
    refine CJ.region ?_
    refine LJ.yd rfl (Yd.mvS rfl) ?_
    refine LJ.yd rfl (Yd.mvI rfl) ?_
    refine LJ.yd rfl (Yd.mvI rfl) ?_
    refine LJ.yd rfl (Yd.build (cs := [_, _]) rfl) ?_
    refine LJ.op rfl (OpR.buildSlice (cs := [_, _]) rfl rfl) ?_
    rintro _ _ ⟨b2, rfl, rfl⟩
    refine LJ.op rfl (OpR.apT (enc := encK) [(_, _)] 0 2 rfl rfl rfl (by first | rfl | omega | (simp; done) | (simp; omega) | (simp [upN_len]; omega) | (simp [idxBy_len]; omega) | (simp [marks_len]; omega) | (simp [upN_len]; done) | (simp [idxBy_len]; done) | (simp [marks_len]; done) | (simp at *; omega)) rfl rfl rfl rfl rfl (by first | rfl | omega | (simp; done) | (simp; omega) | (simp [upN_len]; omega) | (simp [idxBy_len]; omega) | (simp [marks_len]; omega) | (simp [upN_len]; done) | (simp [idxBy_len]; done) | (simp [marks_len]; done) | (simp at *; omega))) ?_
    rintro _ _ ⟨ra22, rc22, rfl, rfl⟩
    refine LJ.norm [_, _, _] rfl ?_
    refine LJ.yd rfl (Yd.asS rfl) ?_
    refine LJ.nil ?_
    refine CJ.seq ?_
    refine CJ.region ?_
    refine LJ.yd rfl (Yd.mvS rfl) ?_
    refine LJ.yd rfl (Yd.fieldAddr rfl) ?_
    refine LJ.yd rfl (Yd.loadC 1 rfl rfl rfl) ?_
    refine LJ.yd rfl (Yd.indexAddr rfl rfl (by omega) (by simp)) ?_
    refine LJ.yd rfl (Yd.loadRow (i := 0) hrow.up rfl (by simp) rfl hl.len) ?_
    refine LJ.yd rfl (Yd.mvI rfl) ?_
    refine LJ.yd rfl (Yd.add rfl rfl (by unfold I64; omega)) ?_
    refine LJ.yd rfl (Yd.mvI rfl) ?_
    refine LJ.call (pickF _ [1, 2]) (pickF _ [0]) rfl (perm_pickF _ [1, 2] [0] rfl) (fun k hk dk => ihl _ _ _ n _ _ _ _ rfl (by simp; omega) (by omega) (by omega) (by omega) (by omega) hl.up) ?_
    rintro _ _ ⟨a1, c1, K1, hK1, rfl, rfl⟩
    refine LJ.norm [_, _, _] rfl ?_
    refine LJ.yd rfl (Yd.mvU rfl) ?_
    refine LJ.yd rfl (Yd.extract rfl rfl) ?_
    refine LJ.yd rfl (Yd.extract rfl rfl) ?_
    refine LJ.yd rfl (Yd.asS rfl) ?_
    refine LJ.yd rfl (Yd.asI rfl) ?_
    refine LJ.nil ?_
    refine CJ.seq ?_
    refine CJ.region ?_
    refine LJ.yd rfl (Yd.mvS rfl) ?_
    refine LJ.yd rfl (Yd.fieldAddr rfl) ?_
    refine LJ.yd rfl (Yd.loadC 0 rfl rfl rfl) ?_
    refine LJ.yd rfl (Yd.indexAddr rfl rfl (by omega) (by simp)) ?_
    refine LJ.yd rfl (Yd.loadRow (i := 1) hrow.up rfl (by simp) rfl hr.len) ?_
    refine LJ.yd rfl (Yd.mvI rfl) ?_
    refine LJ.yd rfl (Yd.mvI rfl) ?_
    refine LJ.call (pickF _ [0, 1]) (pickF _ [2]) rfl (perm_pickF _ [0, 1] [2] rfl) (fun k hk dk => ihr _ _ _ n _ _ _ _ rfl (by rw [hK1]; simp; omega) (by omega) (by omega) (by omega) (by omega) hr.up) ?_
    rintro _ _ ⟨a2, c2, K2, hK2, rfl, rfl⟩
    refine LJ.norm [_, _, _] rfl ?_
    refine LJ.yd rfl (Yd.extract rfl rfl) ?_
    refine LJ.yd rfl (Yd.extract rfl rfl) ?_
    refine LJ.yd rfl (Yd.asS rfl) ?_
    refine LJ.yd rfl (Yd.asI rfl) ?_
    refine LJ.nil ?_
    refine CJ.ret ?_
    rw [show n + (1 + l.sz + r.sz) = n + 1 + l.sz + r.sz by omega]
    exact Fin.R [_] (Res.two (ResV.tmp (v := .slice _ _ _) rfl) (ResV.tmp (v := .int _ _) rfl)) ⟨_, _, _, by rw [hK2, hK1]; simp [BT.knots], rfl, rfl⟩ (Ent.pick [2] [0, 1] rfl)
theorem knotsOf_ok {A : Amb} {cs : List Value} {q : Plan} (h : RdPlan A.h cs q) : Ctr Try.prog 54 #[.agg cs.toArray] A [] (fun v fs => ∃ a c K', K' = knP q ∧ v = .tuple #[.slice a K'.length c, .bool (!decide (psz q < 0))] ∧ fs = [LR encK 72 2 a c K']) := by
  obtain ⟨o, a, p, t, kids, v, css, e, rfl, ho, ha, hp, ⟨⟨sa, sc, rfl, hm, hrow⟩, hlen⟩, hk⟩ := h.inv
  have hT := toBT_rd h
  have hle := psz_le q
  by_cases hq : psz q < 0
  · have hkn : knP q = [] := if_pos hq
    refine Ctr.body (args := [_]) Try.func54 rfl Try.ntmps54 Try.results54 (by simp) ?_
    refine CJ.seq ?_
    refine CJ.region ?_
    refine LJ.boxG (vs := [_, _, _, _, _]) rfl rfl (fun b1 => ?_)
    refine LJ.yd rfl (Yd.asS rfl) ?_
    refine LJ.yd rfl (Yd.asB rfl) ?_
    refine LJ.nil ?_
    refine CJ.seq ?_
    refine CJ.seq ?_
    refine CJ.region ?_
    refine LJ.yd rfl (Yd.loadG (us := [_, _, _, _, _]) 0 rfl rfl rfl rfl) ?_
    refine LJ.callV rfl (fun k hk dk => PlanSizeI_ok h.up) ?_
    refine LJ.yd rfl (Yd.cmpT (Yd.lss rfl rfl) (by omega)) ?_
    refine LJ.nil ?_
    refine CJ.condT rfl ?_
    refine CJ.seq ?_
    refine CJ.region ?_
    refine LJ.yd rfl (Yd.asS rfl) ?_
    refine LJ.yd rfl (Yd.asB rfl) ?_
    refine LJ.nil ?_
    refine CJ.ret ?_
    rw [hkn, decide_eq_true hq]
    exact Fin.R [_] (Res.two (ResV.tmp (v := .slice _ _ _) rfl) (ResV.tmp (v := .bool false) rfl)) ⟨_, _, [], rfl, rfl, rfl⟩ (Ent.thn (Ent.addLR encK 72 2) (Ent.pick [1] [0] rfl))
  · have hkn : knP q = (toBT q).knots 0 (-1) := if_neg hq
    obtain ⟨b, hb⟩ := BT.of_psz q (by omega)
    have hz : (toBT q).sz ≤ 255 := by
      have := hq
      rw [hb] at this ⊢
      rw [toBT_plan]; exact (sz_of_psz this).1
    have hrd := hT (by
      have h1 := hq
      rw [hb] at h1 ⊢
      have := (sz_of_psz h1).2
      have := b.sz_pos
      omega)
    refine Ctr.body (args := [_]) Try.func54 rfl Try.ntmps54 Try.results54 (by simp) ?_
    refine CJ.seq ?_
    refine CJ.region ?_
    refine LJ.boxG (vs := [_, _, _, _, _]) rfl rfl (fun b1 => ?_)
    refine LJ.yd rfl (Yd.asS rfl) ?_
    refine LJ.yd rfl (Yd.asB rfl) ?_
    refine LJ.nil ?_
    refine CJ.seq ?_
    refine CJ.seq ?_
    refine CJ.region ?_
    refine LJ.yd rfl (Yd.loadG (us := [_, _, _, _, _]) 0 rfl rfl rfl rfl) ?_
    refine LJ.callV rfl (fun k hk dk => PlanSizeI_ok h.up) ?_
    refine LJ.yd rfl (Yd.cmpF (Yd.lss rfl rfl) (by omega)) ?_
    refine LJ.nil ?_
    refine CJ.condF rfl ?_
    refine CJ.skip ?_
    refine CJ.seq ?_
    refine CJ.ent (Ent.addLR encK 72 2) ?_
    refine CJ.norm [_, _] rfl ?_
    refine CJ.region ?_
    refine LJ.yd rfl (Yd.loadG (us := [_, _, _, _, _]) 0 rfl rfl rfl rfl) ?_
    refine LJ.call (pickF _ [0]) (pickF _ [1]) rfl (perm_pickF _ [0] [1] rfl) (fun k hk dk => addKnots_ok (toBT q) _ _ _ _ [] none 0 0 rfl (by simp; omega) (by omega) (by omega) (by omega) hz hrd.up) ?_
    rintro _ _ ⟨a2, c2, K2, hK2, rfl, rfl⟩
    refine LJ.norm [_, _] rfl ?_
    refine LJ.yd rfl (Yd.mvU rfl) ?_
    refine LJ.yd rfl (Yd.extract rfl rfl) ?_
    refine LJ.yd rfl (Yd.extract rfl rfl) ?_
    refine LJ.yd rfl (Yd.asS rfl) ?_
    refine LJ.yd rfl (Yd.asI rfl) ?_
    refine LJ.nil ?_
    refine CJ.seq ?_
    refine CJ.region ?_
    refine LJ.yd rfl (Yd.mvS rfl) ?_
    refine LJ.yd rfl (Yd.asS rfl) ?_
    refine LJ.yd rfl (Yd.asB rfl) ?_
    refine LJ.nil ?_
    refine CJ.ret ?_
    rw [hkn, decide_eq_false hq]
    exact Fin.R [_] (Res.two (ResV.tmp (v := .slice _ _ _) rfl) (ResV.tmp (v := .bool true) rfl)) ⟨_, _, _, by rw [hK2, List.nil_append], rfl, rfl⟩ (Ent.pick [1] [0] rfl)
theorem knotFn {A : Amb} {b : Nat} {n : Int} {q : Int × Int} (hcell : A.h.cell ⟨b, 0, none⟩ = some (vI n)) : Ctr Try.prog 84 #[.agg #[vI q.1, vI q.2], .pointer (some ⟨b, 0, none⟩)] A [] (Val (.bool (decide (q.1 = n)))) := by
  refine Ctr.body (args := [_, _]) Try.func84 rfl Try.ntmps84 Try.results84 (by simp) ?_
  refine CJ.seq ?_
  refine CJ.region ?_
  refine LJ.boxG (vs := [_, _]) rfl rfl (fun b1 => ?_)
  refine LJ.yd rfl (Yd.asB rfl) ?_
  refine LJ.nil ?_
  refine CJ.seq ?_
  refine CJ.region ?_
  refine LJ.yd rfl (Yd.fieldAddr rfl) ?_
  refine LJ.yd rfl (Yd.loadC 0 rfl rfl rfl) ?_
  refine LJ.yd rfl (Yd.load rfl (Rdc.amb hcell)) ?_
  refine LJ.yd rfl (Yd.eql rfl rfl) ?_
  refine LJ.yd rfl (Yd.asB rfl) ?_
  refine LJ.nil ?_
  refine CJ.ret ?_
  refine Fin.V (Res.one (ResV.tmp (v := .bool _) rfl)) ?_
  rfl
theorem indexKnot_ok {A : Amb} {v : Value} {K : List (Int × Int)} {b : Nat} {n : Int} (hl : RdL encK 2 A.h v K) (hcell : A.h.cell ⟨b, 0, none⟩ = some (vI n)) :
    Ctr Try.prog 83 #[v, .func (.func 84) #[] #[.pointer (some ⟨b, 0, none⟩)]] A [] (Val (vI (plc n (K.map Prod.fst) 0))) := by
  obtain ⟨la, lc, rfl, hlb, hl⟩ := hl.un
  refine Ctr.body (args := [_, _]) Try.func83 rfl Try.ntmps83 Try.results83 (by simp) ?_
  refine CJ.seq ?_
  refine CJ.region ?_
  refine LJ.yd rfl (Yd.asI rfl) ?_
  refine LJ.nil ?_
  refine CJ.seq ?_
  refine CJ.seq ?_
  refine CJ.region ?_
  refine LJ.yd rfl (Yd.mvS rfl) ?_
  refine LJ.yd rfl (Yd.len rfl) ?_
  refine LJ.yd rfl (Yd.mvI rfl) ?_
  refine LJ.nil ?_
  refine CJ.block ?_
  refine CJ.loopK [0, 1, 7] Nat (fun k => k ≤ K.length ∧ plc n ((K.drop k).map Prod.fst) k = plc n (K.map Prod.fst) 0) (fun k => [(8, vI k)]) (fun k => K.length - k) (0) ?_ ⟨rfl, trivial⟩ ?_
  · exact ⟨by omega, by rfl⟩
  · rintro k σ ⟨hk1, hi1⟩
    refine CJ.seq ?_
    refine CJ.region ?_
    refine LJ.splitD rfl (Yd.lss rfl rfl) (fun h9 => ?_) (fun h9 => ?_)
    · refine LJ.nil ?_
      refine CJ.seq ?_
      refine CJ.condT rfl ?_
      refine CJ.skip ?_
      refine CJ.seq ?_
      refine CJ.block ?_
      refine CJ.seq ?_
      refine CJ.region ?_
      refine LJ.yd rfl (Yd.mvI rfl) ?_
      refine LJ.yd rfl (Yd.asI rfl) ?_
      refine LJ.nil ?_
      refine CJ.seq ?_
      refine CJ.region ?_
      refine LJ.yd rfl (Yd.mvF rfl) ?_
      refine LJ.yd rfl (Yd.mvS rfl) ?_
      refine LJ.yd rfl (Yd.mvI rfl) ?_
      refine LJ.idxA rfl hl rfl rfl (by omega) (by first | rfl | omega | (simp; done) | (simp; omega) | (simp [upN_len]; omega) | (simp [idxBy_len]; omega) | (simp [marks_len]; omega) | (simp [upN_len]; done) | (simp [idxBy_len]; done) | (simp [marks_len]; done) | (simp at *; omega)) (fun ib14 io14 ia14 ir14 => ?_)
      refine LJ.lgA (enc := encK) (fun u => [vI u.1, vI u.2]) (fun _ => rfl) (fun _ => rfl) ir14 rfl rfl rfl (by first | rfl | omega | (simp; done) | (simp; omega) | (simp [upN_len]; omega) | (simp [idxBy_len]; omega) | (simp [marks_len]; omega) | (simp [upN_len]; done) | (simp [idxBy_len]; done) | (simp [marks_len]; done) | (simp at *; omega)) (fun u15 hu15 => ?_)
      try simp only [Int.toNat_natCast] at hu15
      refine LJ.callDB rfl rfl (fun k hk dk => knotFn (Hp.cell_le Amb.ext_up hcell)) (fun h16 => ?_) (fun h16 => ?_)
      · refine LJ.nil ?_
        refine CJ.condT rfl ?_
        refine CJ.seq ?_
        refine CJ.region ?_
        refine LJ.yd rfl (Yd.mvI rfl) ?_
        refine LJ.yd rfl (Yd.asI rfl) ?_
        refine LJ.nil ?_
        refine CJ.ret ?_
        refine Fin.V (Res.one (ResV.tmp (v := .int _ _) rfl)) ?_
        first
          | (rw [dropC hu15, List.map_cons, plc, if_pos (of_decide_eq_true h16)] at hi1; rw [← hi1]; done)
          | (rw [List.drop_of_length_le (by omega), List.map_nil, plc] at hi1; rw [← hi1])
      · refine LJ.nil ?_
        refine CJ.condF rfl ?_
        refine CJ.skip ?_
        refine CJ.region ?_
        refine LJ.yd rfl (Yd.add rfl rfl (by unfold I64; omega)) ?_
        refine LJ.yd rfl (Yd.mvI rfl) ?_
        refine LJ.nil ?_
        refine ⟨(k + 1), ?_, ⟨rfl, rfl, rfl, trivial⟩, ⟨rfl, trivial⟩, Ent.refl _, ?_⟩
        · refine ⟨by omega, ?_⟩
          rw [dropC hu15, List.map_cons, plc, if_neg (of_decide_eq_false h16)] at hi1; exact hi1
        · first | omega | (dsimp only; omega) | (simp only []; omega)
    · refine LJ.nil ?_
      refine CJ.seq ?_
      refine CJ.condF rfl ?_
      refine CJ.exit ?_
      refine CJ.seq ?_
      refine CJ.region ?_
      refine LJ.yd rfl (Yd.asI rfl) ?_
      refine LJ.nil ?_
      refine CJ.ret ?_
      refine Fin.V (Res.one (ResV.tmp (v := .int _ _) rfl)) ?_
      first
        | (rw [dropC hu15, List.map_cons, plc, if_pos (of_decide_eq_true h16)] at hi1; rw [← hi1]; done)
        | (rw [List.drop_of_length_le (by omega), List.map_nil, plc] at hi1; rw [← hi1])
theorem findKnot_ok {A : Amb} {v : Value} {K : List (Int × Int)} {n : Int} (hl : RdL encK 2 A.h v K) : Ctr Try.prog 55 #[v, vI n] A [] (Val (vI (plc n (K.map Prod.fst) 0))) := by
  obtain ⟨la, lc, rfl, hlb, hl⟩ := hl.un
  refine Ctr.body (args := [_, _]) Try.func55 rfl Try.ntmps55 Try.results55 (by simp) ?_
  refine CJ.seq ?_
  refine CJ.region ?_
  refine LJ.box1 (v := .int _ _) rfl rfl rfl (fun b1 => ?_)
  refine LJ.yd rfl (Yd.asI rfl) ?_
  refine LJ.nil ?_
  refine CJ.seq ?_
  refine CJ.region ?_
  refine LJ.yd rfl (Yd.mvS rfl) ?_
  refine LJ.yd rfl (Yd.makeFunc rfl) ?_
  refine LJ.callV rfl (fun k hk dk => indexKnot_ok (RdRow.up hl) (Sts.cel hk dk 0 rfl rfl)) ?_
  refine LJ.yd rfl (Yd.asI rfl) ?_
  refine LJ.nil ?_
  refine CJ.ret ?_
  refine Fin.V (Res.one (ResV.tmp (v := .int _ _) rfl)) ?_
  rfl
end Go.Proofs.Ytfnnhekbgjofoaa
