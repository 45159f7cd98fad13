/-
  Contracts: places, wastes and cut lengths of a plan.
-/
import Derived.Test.YtlpjienaennmaaaPL1
namespace Go.Proofs.Ytlpjienaennmaaa
open Go
set_option maxRecDepth 20000
set_option maxHeartbeats 1000000

def BT.wst : BT → Box → List Box
  | .w, g => [g]
  | .p _ _, _ => []
  | .c d a l r, g => l.wst (bxL d a g) ++ r.wst (bxR d a g)
def BT.plcs : BT → Box → List Plc
  | .w, _ => []
  | .p i t, g => [⟨i, t, g⟩]
  | .c d a l r, g => l.plcs (bxL d a g) ++ r.plcs (bxR d a g)
def BT.cutl : BT → Box → List Int
  | .w, _ => []
  | .p _ _, _ => []
  | .c d a l r, g => (if d then g.H else g.W) :: (l.cutl (bxL d a g) ++ r.cutl (bxR d a g))
def BT.spr : BT → Box → List Plc
  | .w, g => [⟨-1, false, g⟩]
  | .p i t, g => [⟨i, t, g⟩]
  | .c d a l r, g => l.spr (bxL d a g) ++ r.spr (bxR d a g)
abbrev shB (W H : Int) : Box := ⟨0, 0, W, H⟩
def fwT (u : Pt) : List Box := if u.o = 0 then [u.b] else []
def fpT (u : Pt) : List Plc := if u.o = 1 then [⟨u.p, u.t, u.b⟩] else []
def fcT (u : Pt) : List Int := if u.o = 2 then [u.b.H] else if u.o = 3 then [u.b.W] else []
theorem flat_take {α β : Type} {L : List α} {k : Nat} {u : α} (f : α → List β) (h : L[k]? = some u) : (L.take (k + 1)).flatMap f = (L.take k).flatMap f ++ f u := by rw [takeC h, List.flatMap_append]; simp
theorem flat_qb {β : Type} (f : Pt → List β) (F : BT × Box → List β) : ∀ {L : List Pt}, (∀ u ∈ L, f u = F (u.q, u.b)) → L.flatMap f = (L.map fun u => (u.q, u.b)).flatMap F
  | [], _ => rfl
  | x :: r, h => by
    rw [List.flatMap_cons, List.map_cons, List.flatMap_cons, h x List.mem_cons_self, flat_qb f F (L := r) fun u hu => h u (List.mem_cons_of_mem _ hu)]
def FwT : BT × Box → List Box | (.w, g) => [g] | _ => []
def FpT : BT × Box → List Plc | (.p i t, g) => [⟨i, t, g⟩] | _ => []
def FcT : BT × Box → List Int | (.c d _ _ _, g) => [if d then g.H else g.W] | _ => []
theorem fw_qb {u : Pt} (h : PtOk u) : fwT u = FwT (u.q, u.b) := by
  obtain ⟨o, a, p, t, x, n, c, b, q⟩ := u
  cases q with
  | w => simp only [PtOk] at h; subst h; rfl
  | p i t => simp only [PtOk] at h; obtain ⟨rfl, _, _⟩ := h; rfl
  | c d a l r => simp only [PtOk] at h; subst h; cases d <;> rfl
theorem fp_qb {u : Pt} (h : PtOk u) : fpT u = FpT (u.q, u.b) := by
  obtain ⟨o, a, p, t, x, n, c, b, q⟩ := u
  cases q with
  | w => simp only [PtOk] at h; subst h; rfl
  | p i t => simp only [PtOk] at h; obtain ⟨rfl, rfl, rfl⟩ := h; rfl
  | c d a l r => simp only [PtOk] at h; subst h; cases d <;> rfl
theorem fc_qb {u : Pt} (h : PtOk u) : fcT u = FcT (u.q, u.b) := by
  obtain ⟨o, a, p, t, x, n, c, b, q⟩ := u
  cases q with
  | w => simp only [PtOk] at h; subst h; rfl
  | p i t => simp only [PtOk] at h; obtain ⟨rfl, _, _⟩ := h; rfl
  | c d a l r => simp only [PtOk] at h; subst h; cases d <;> rfl
theorem parts_w : ∀ (b : BT) (g : Box), (b.parts g).flatMap FwT = b.wst g
  | .w, _ => rfl
  | .p _ _, _ => rfl
  | .c d a l r, g => by rw [BT.parts, List.flatMap_cons, List.flatMap_append, parts_w l, parts_w r]; rfl
theorem parts_p : ∀ (b : BT) (g : Box), (b.parts g).flatMap FpT = b.plcs g
  | .w, _ => rfl
  | .p _ _, _ => rfl
  | .c d a l r, g => by rw [BT.parts, List.flatMap_cons, List.flatMap_append, parts_p l, parts_p r]; rfl
theorem parts_c : ∀ (b : BT) (g : Box), (b.parts g).flatMap FcT = b.cutl g
  | .w, _ => rfl
  | .p _ _, _ => rfl
  | .c d a l r, g => by rw [BT.parts, List.flatMap_cons, List.flatMap_append, parts_c l, parts_c r]; rfl
def prts (W H : Int) (ps : List Pane) (q : Plan) : List (BT × Box) := if vpOk W H ps q = true then (toBT q).parts (shB W H) else []
theorem vp_facts {W H : Int} {ps : List Pane} {q : Plan} (h : vpOk W H ps q = true) : (1 ≤ W ∧ W ≤ 200 ∧ 1 ≤ H ∧ H ≤ 200) ∧ GOk (shB W H) ∧ (toBT q).fits ps W H = true ∧ 0 < psz q ∧ (toBT q).sz ≤ 255 ∧ q = (toBT q).plan := by
  simp only [vpOk, Bool.and_eq_true, decide_eq_true_eq] at h
  obtain ⟨h1, h2, h3⟩ := h
  obtain ⟨w1, w2, w3, w4, _, _⟩ := workOk_iff h1
  obtain ⟨b, rfl⟩ := BT.of_psz q (by omega)
  rw [toBT_plan] at *
  refine ⟨⟨w1, w2, w3, w4⟩, by simp [GOk]; omega, h3, h2, (sz_of_psz (by omega)).1, rfl⟩
theorem partsOf_ok {A : Amb} {W H : Int} {v : Value} {ps : List Pane} {cs : List Value} {q : Plan} (hp : RdPanes A.h v ps) (hq : RdPlan A.h cs q) : Ctr Try.prog 48 #[.agg #[vI W, vI H, v], .agg cs.toArray] A []
    (fun v gs => ∃ a c, ∃ L : List Pt, v = .slice a L.length c ∧ gs = [LR encPt 82 9 a c L] ∧ (L.map fun u => (u.q, u.b)) = prts W H ps q ∧ (∀ u ∈ L, PtOk u) ∧ L.length ≤ 255) := by
  have hp2 := hp
  obtain ⟨⟨sa, sc, rfl, hm, hrow⟩, hlen⟩ := hp2
  have hq2 := hq
  obtain ⟨o, a, i, t, kids, v2, css, hqe, rfl, ho, ha, hi, ⟨⟨sa2, sc2, rfl, hm2, hrow2⟩, hlen2⟩, hk⟩ := hq2.inv
  refine Ctr.body (args := [_, _]) Try.func48 rfl Try.ntmps48 Try.results48 (by simp) ?_
  refine CJ.seq ?_
  refine CJ.region ?_
  refine LJ.boxG (vs := [_, _, _]) rfl rfl (fun b1 => ?_)
  refine LJ.boxG (vs := [_, _, _, _, _]) rfl rfl (fun b2 => ?_)
  refine LJ.yd rfl (Yd.asS rfl) ?_
  refine LJ.nil ?_
  refine CJ.seq ?_
  refine CJ.seq ?_
  refine CJ.region ?_
  refine LJ.yd rfl (Yd.loadG (us := [_, _, _]) 0 rfl rfl rfl rfl) ?_
  refine LJ.yd rfl (Yd.loadG (us := [_, _, _, _, _]) 1 rfl rfl rfl rfl) ?_
  refine LJ.callB rfl (fun k hk dk => ValidPlanI_ok hp.up hq.up) (fun h7 => ?_) (fun h7 => ?_)
  · refine LJ.yd rfl (Yd.not rfl) ?_
    refine LJ.nil ?_
    refine CJ.condF rfl ?_
    refine CJ.skip ?_
    refine CJ.seq ?_
    obtain ⟨⟨vw1, vw2, vw3, vw4⟩, vg, vf, vz, vs, ve⟩ := vp_facts h7
    refine CJ.ent (Ent.addLR encPt 82 9) ?_
    refine CJ.norm [_, _, _] rfl ?_
    refine CJ.regionD [0, 1] [2] (by kernel_rfl) rfl ?_
    refine DJ.norm [_, _] [_] rfl rfl ?_
    refine DJ.yd 0 rfl (by kernel_rfl) (by kernel_rfl) (by kernel_rfl) rfl rfl (Yd.loadG (us := [_, _, _, _, _]) 1 rfl rfl rfl rfl) ?_
    refine DJ.yd 1 rfl (by kernel_rfl) (by kernel_rfl) (by kernel_rfl) rfl rfl (Yd.loadG (us := [_, _, _]) 0 rfl rfl rfl rfl) ?_
    refine DJ.one (i := 2) (by kernel_rfl) ?_
    refine DO.callV rfl rfl rfl (fun k0 hk0 dk0 k hk dk => sheetOf_ok _ _ _ _ _ _) ?_
    refine DJ.one (i := 3) (by kernel_rfl) ?_
    refine DO.call (pickF _ []) (pickF _ [0]) rfl rfl rfl (perm_pickF _ [] [0] rfl) (fun k0 hk0 dk0 k hk dk => addParts_ok (toBT q) _ _ (shB W H) [] none 0 0 ps rfl (by simp; omega) vg vf (toBT_rd hq.up vz)) ?_
    rintro _ _ ⟨a1, c1, L1, K1, rfl, rfl, hL1, hK1, hP1⟩
    refine DJ.norm [_, _] [_] rfl rfl ?_
    refine DJ.yd 4 rfl (by kernel_rfl) (by kernel_rfl) (by kernel_rfl) rfl rfl (Yd.asS rfl) ?_
    refine DJ.done (by kernel_rfl) ?_
    refine CJ.ret ?_
    rw [List.nil_append] at hL1
    subst hL1
    have hl := congrArg List.length hK1
    have hl2 := parts_len (toBT q) (shB W H)
    rw [List.length_map] at hl
    exact Fin.R [_] (Res.one (ResV.tmp (v := .slice _ _ _) rfl)) ⟨_, _, L1, rfl, rfl, by rw [prts, if_pos h7, hK1], hP1, by omega⟩ (Ent.pick [2] [0, 1] rfl)
  · refine LJ.yd rfl (Yd.not rfl) ?_
    refine LJ.nil ?_
    refine CJ.condT rfl ?_
    refine CJ.seq ?_
    refine CJ.region ?_
    refine LJ.yd rfl (Yd.asS rfl) ?_
    refine LJ.nil ?_
    refine CJ.ret ?_
    exact Fin.R [_] (Res.one (ResV.tmp (v := .slice _ _ _) rfl)) ⟨none, 0, [], rfl, rfl, by rw [prts, if_neg (by rw [h7]; simp)]; rfl, by simp, by simp⟩ (Ent.thn (Ent.addLR encPt 82 9) (Ent.pick [2] [0, 1] rfl))
def wsP (W H : Int) (ps : List Pane) (q : Plan) : List Box := if vpOk W H ps q = true then (toBT q).wst (shB W H) else []
def plP (W H : Int) (ps : List Pane) (q : Plan) : List Plc := if vpOk W H ps q = true then (toBT q).plcs (shB W H) else []
def ctP (W H : Int) (ps : List Pane) (q : Plan) : List Int := if vpOk W H ps q = true then (toBT q).cutl (shB W H) else []
theorem flat_w {W H : Int} {ps : List Pane} {q : Plan} {L : List Pt} (h : (L.map fun u => (u.q, u.b)) = prts W H ps q) (hp : ∀ u ∈ L, PtOk u) : L.flatMap fwT = wsP W H ps q := by
  rw [flat_qb fwT FwT fun u hu => fw_qb (hp u hu), h, prts, wsP]; split
  · exact parts_w _ _
  · rfl
theorem flat_p {W H : Int} {ps : List Pane} {q : Plan} {L : List Pt} (h : (L.map fun u => (u.q, u.b)) = prts W H ps q) (hp : ∀ u ∈ L, PtOk u) : L.flatMap fpT = plP W H ps q := by
  rw [flat_qb fpT FpT fun u hu => fp_qb (hp u hu), h, prts, plP]; split
  · exact parts_p _ _
  · rfl
theorem flat_c {W H : Int} {ps : List Pane} {q : Plan} {L : List Pt} (h : (L.map fun u => (u.q, u.b)) = prts W H ps q) (hp : ∀ u ∈ L, PtOk u) : L.flatMap fcT = ctP W H ps q := by
  rw [flat_qb fcT FcT fun u hu => fc_qb (hp u hu), h, prts, ctP]; split
  · exact parts_c _ _
  · rfl
theorem WastesOfI_ok {A : Amb} {W H : Int} {v : Value} {ps : List Pane} {cs : List Value} {q : Plan} (hp : RdPanes A.h v ps) (hq : RdPlan A.h cs q) : Ctr Try.prog 17 #[.agg #[vI W, vI H, v], .agg cs.toArray] A [] (RLP Box.enc 41 4 (wsP W H ps q)) := by
  have hp2 := hp
  obtain ⟨⟨sa, sc, rfl, hm, hrow⟩, hlen⟩ := hp2
  have hq2 := hq
  obtain ⟨o, a, i, t, kids, v2, css, hqe, rfl, ho, ha, hi, ⟨⟨sa2, sc2, rfl, hm2, hrow2⟩, hlen2⟩, hk⟩ := hq2.inv
  refine Ctr.body (args := [_, _]) Try.func17 rfl Try.ntmps17 Try.results17 (by simp) ?_
  refine CJ.seq ?_
  refine CJ.region ?_
  refine LJ.boxG (vs := [_, _, _]) rfl rfl (fun b1 => ?_)
  refine LJ.boxG (vs := [_, _, _, _, _]) rfl rfl (fun b2 => ?_)
  refine LJ.yd rfl (Yd.asS rfl) ?_
  refine LJ.nil ?_
  refine CJ.seq ?_
  refine CJ.region ?_
  refine LJ.yd rfl (Yd.asS rfl) ?_
  refine LJ.nil ?_
  refine CJ.seq ?_
  refine CJ.seq ?_
  refine CJ.region ?_
  refine LJ.yd rfl (Yd.loadG (us := [_, _, _]) 0 rfl rfl rfl rfl) ?_
  refine LJ.yd rfl (Yd.loadG (us := [_, _, _, _, _]) 1 rfl rfl rfl rfl) ?_
  refine LJ.call0 rfl (fun k hk dk => partsOf_ok hp.up hq.up) ?_
  rintro _ _ ⟨la, lc, L, rfl, rfl, hLq, hLp, hLl⟩
  refine LJ.norm [_, _, _] rfl ?_
  refine LJ.yd rfl (Yd.len rfl) ?_
  refine LJ.yd rfl (Yd.mvI rfl) ?_
  refine LJ.nil ?_
  refine CJ.block ?_
  refine CJ.ent (Ent.addLR Box.enc 41 4) ?_
  refine CJ.norm [_, _, _, _] rfl ?_
  refine CJ.loopF [4, 10, 11] (Nat × List (Box) × Option Addr × Nat × Nat) (fun ⟨k, O, OA, ON, OC⟩ => (ON = O.length) ∧ k ≤ L.length ∧ O.length ≤ k ∧ O = (L.take k).flatMap fwT) (fun ⟨k, O, OA, ON, OC⟩ => [(12, vI k), (5, .slice OA ON OC)]) (fun ⟨k, O, OA, ON, OC⟩ => [LR Box.enc 41 4 OA OC O]) (fun ⟨k, O, OA, ON, OC⟩ => L.length - k) (0, [], _, _, _) [_, _, _] [0, 1, 2] [3] rfl rfl rfl ?_ ⟨rfl, rfl, trivial⟩ ?_
  · exact ⟨(by first | rfl | omega | (simp; done) | (simp; omega) | (simp [upN_len]; omega) | (simp [idxBy_len]; omega) | (simp [marks_len]; omega) | (simp [upN_len]; done) | (simp [idxBy_len]; done) | (simp [marks_len]; done) | (simp at *; omega)), ⟨by omega, by simp, rfl⟩⟩
  · rintro ⟨k, O, OA, ON, OC⟩ σ ⟨hlNO, ⟨hk1, hOl, hO⟩⟩
    subst hlNO
    refine CJ.norm [_, _, _, _] rfl ?_
    refine CJ.seq ?_
    refine CJ.region ?_
    refine LJ.splitD rfl (Yd.lss rfl rfl) (fun h13 => ?_) (fun h13 => ?_)
    · refine LJ.nil ?_
      refine CJ.seq ?_
      refine CJ.condT rfl ?_
      refine CJ.skip ?_
      refine CJ.seq ?_
      refine CJ.block ?_
      refine CJ.seq ?_
      refine CJ.region ?_
      refine LJ.idxR 2 rfl rfl rfl rfl (by omega) (by first | rfl | omega | (simp; done) | (simp; omega) | (simp [upN_len]; omega) | (simp [idxBy_len]; omega) | (simp [marks_len]; omega) | (simp [upN_len]; done) | (simp [idxBy_len]; done) | (simp [marks_len]; done) | (simp at *; omega)) (by first | rfl | omega | (simp; done) | (simp; omega) | (simp [upN_len]; omega) | (simp [idxBy_len]; omega) | (simp [marks_len]; omega) | (simp [upN_len]; done) | (simp [idxBy_len]; done) | (simp [marks_len]; done) | (simp at *; omega)) (fun ib14 ia14 => ?_)
      refine LJ.lgR 2 (enc := encPt) (fun u => [vI u.o, vI u.a, vI u.p, .bool u.t, .slice u.x u.n u.c, vI u.b.X, vI u.b.Y, vI u.b.W, vI u.b.H]) (fun _ => rfl) (fun _ => rfl) rfl ia14 rfl rfl rfl (by first | rfl | omega | (simp; done) | (simp; omega) | (simp [upN_len]; omega) | (simp [idxBy_len]; omega) | (simp [marks_len]; omega) | (simp [upN_len]; done) | (simp [idxBy_len]; done) | (simp [marks_len]; done) | (simp at *; omega)) (fun u15 hu15 => ?_)
      try simp only [Int.toNat_natCast] at hu15
      refine LJ.alloc ([_, _, _, _, _, _, _, _, _] : List Value) rfl rfl (fun b4 => ?_)
      refine LJ.store (v := .agg #[_, _, _, _, _, _, _, _, _]) (us := [_, _, _, _, _, _, _, _, _]) 4 rfl rfl rfl rfl rfl rfl rfl rfl ?_
      refine LJ.nil ?_
      refine CJ.seq ?_
      refine CJ.region ?_
      refine LJ.yd rfl (Yd.fieldAddr rfl) ?_
      refine LJ.yd rfl (Yd.fieldAddr rfl) ?_
      refine LJ.yd rfl (Yd.loadC 4 rfl rfl rfl) ?_
      refine LJ.splitD rfl (Yd.eql rfl rfl) (fun h19 => ?_) (fun h19 => ?_)
      · refine LJ.nil ?_
        refine CJ.condT rfl ?_
        refine CJ.region ?_
        refine LJ.yd rfl (Yd.mvS rfl) ?_
        refine LJ.yd rfl (Yd.fieldAddr rfl) ?_
        refine LJ.yd rfl (Yd.loadG (us := [_, _, _, _]) 4 rfl rfl rfl rfl) ?_
        refine LJ.op rfl (OpR.buildSlice (cs := [_, _, _, _]) rfl rfl) ?_
        rintro _ _ ⟨b5, rfl, rfl⟩
        refine LJ.op rfl (OpR.apT (enc := Box.enc) [⟨_, _, _, _⟩] 3 5 rfl rfl rfl (by first | rfl | omega | (simp; done) | (simp; omega) | (simp [upN_len]; omega) | (simp [idxBy_len]; omega) | (simp [marks_len]; omega) | (simp [upN_len]; done) | (simp [idxBy_len]; done) | (simp [marks_len]; done) | (simp at *; omega)) rfl rfl rfl rfl rfl (by first | rfl | omega | (simp; done) | (simp; omega) | (simp [upN_len]; omega) | (simp [idxBy_len]; omega) | (simp [marks_len]; omega) | (simp [upN_len]; done) | (simp [idxBy_len]; done) | (simp [marks_len]; done) | (simp at *; omega))) ?_
        rintro _ _ ⟨ra24, rc24, rfl, rfl⟩
        refine LJ.norm [_, _, _, _, _, _] rfl ?_
        refine LJ.yd rfl (Yd.asS rfl) ?_
        refine LJ.nil ?_
        refine CJ.region ?_
        refine LJ.yd rfl (Yd.add rfl rfl (by unfold I64; omega)) ?_
        refine LJ.yd rfl (Yd.mvI rfl) ?_
        refine LJ.nil ?_
        refine ⟨(k + 1, _, _, _, _), ?_, ⟨rfl, rfl, rfl, trivial⟩, ⟨rfl, rfl, trivial⟩, Ent.pick [0, 1, 2, 3] [4, 5] rfl, ?_⟩
        · refine ⟨(by first | rfl | omega | (simp; done) | (simp; omega) | (simp [upN_len]; omega) | (simp [idxBy_len]; omega) | (simp [marks_len]; omega) | (simp [upN_len]; done) | (simp [idxBy_len]; done) | (simp [marks_len]; done) | (simp at *; omega)), ?_⟩
          refine ⟨by omega, ?_⟩
          rw [flat_take fwT hu15, fwT]
          first
            | (rw [if_pos (by assumption), ← hO]; exact ⟨by rw [List.length_append]; exact Nat.add_le_add hOl (Nat.le_refl 1), rfl⟩)
            | (rw [if_neg (by assumption), List.append_nil]; exact ⟨Nat.le_succ_of_le hOl, hO⟩)
        · first | omega | (dsimp only; omega) | (simp only []; omega)
      · refine LJ.nil ?_
        refine CJ.condF rfl ?_
        refine CJ.skip ?_
        refine CJ.region ?_
        refine LJ.yd rfl (Yd.add rfl rfl (by unfold I64; omega)) ?_
        refine LJ.yd rfl (Yd.mvI rfl) ?_
        refine LJ.nil ?_
        refine ⟨(k + 1, _, _, _, _), ?_, ⟨rfl, rfl, rfl, trivial⟩, ⟨rfl, rfl, trivial⟩, Ent.pick [0, 1, 2, 3] [4] rfl, ?_⟩
        · refine ⟨(by first | rfl | omega | (simp; done) | (simp; omega) | (simp [upN_len]; omega) | (simp [idxBy_len]; omega) | (simp [marks_len]; omega) | (simp [upN_len]; done) | (simp [idxBy_len]; done) | (simp [marks_len]; done) | (simp at *; omega)), ?_⟩
          refine ⟨by omega, ?_⟩
          rw [flat_take fwT hu15, fwT]
          first
            | (rw [if_pos (by assumption), ← hO]; exact ⟨by rw [List.length_append]; exact Nat.add_le_add hOl (Nat.le_refl 1), rfl⟩)
            | (rw [if_neg (by assumption), List.append_nil]; exact ⟨Nat.le_succ_of_le hOl, hO⟩)
        · first | omega | (dsimp only; omega) | (simp only []; omega)
    · refine LJ.nil ?_
      refine CJ.seq ?_
      refine CJ.condF rfl ?_
      refine CJ.exit ?_
      refine CJ.seq ?_
      refine CJ.region ?_
      refine LJ.yd rfl (Yd.mvS rfl) ?_
      refine LJ.yd rfl (Yd.asS rfl) ?_
      refine LJ.nil ?_
      refine CJ.ret ?_
      refine Fin.RL 3 (Res.one (ResV.tmp (v := .slice _ _ _) rfl)) rfl (by first | rfl | omega | (simp; done) | (simp; omega) | (simp [upN_len]; omega) | (simp [idxBy_len]; omega) | (simp [marks_len]; omega) | (simp [upN_len]; done) | (simp [idxBy_len]; done) | (simp [marks_len]; done) | (simp at *; omega)) ?_
      rw [hO, List.take_of_length_le (by omega)]; exact flat_w hLq hLp
theorem PlacesOfI_ok {A : Amb} {W H : Int} {v : Value} {ps : List Pane} {cs : List Value} {q : Plan} (hp : RdPanes A.h v ps) (hq : RdPlan A.h cs q) : Ctr Try.prog 16 #[.agg #[vI W, vI H, v], .agg cs.toArray] A [] (RLP encPl 88 6 (plP W H ps q)) := by
  have hp2 := hp
  obtain ⟨⟨sa, sc, rfl, hm, hrow⟩, hlen⟩ := hp2
  have hq2 := hq
  obtain ⟨o, a, i, t, kids, v2, css, hqe, rfl, ho, ha, hi, ⟨⟨sa2, sc2, rfl, hm2, hrow2⟩, hlen2⟩, hk⟩ := hq2.inv
  refine Ctr.body (args := [_, _]) Try.func16 rfl Try.ntmps16 Try.results16 (by simp) ?_
  refine CJ.seq ?_
  refine CJ.region ?_
  refine LJ.boxG (vs := [_, _, _]) rfl rfl (fun b1 => ?_)
  refine LJ.boxG (vs := [_, _, _, _, _]) rfl rfl (fun b2 => ?_)
  refine LJ.yd rfl (Yd.asS rfl) ?_
  refine LJ.nil ?_
  refine CJ.seq ?_
  refine CJ.region ?_
  refine LJ.yd rfl (Yd.asS rfl) ?_
  refine LJ.nil ?_
  refine CJ.seq ?_
  refine CJ.seq ?_
  refine CJ.region ?_
  refine LJ.yd rfl (Yd.loadG (us := [_, _, _]) 0 rfl rfl rfl rfl) ?_
  refine LJ.yd rfl (Yd.loadG (us := [_, _, _, _, _]) 1 rfl rfl rfl rfl) ?_
  refine LJ.call0 rfl (fun k hk dk => partsOf_ok hp.up hq.up) ?_
  rintro _ _ ⟨la, lc, L, rfl, rfl, hLq, hLp, hLl⟩
  refine LJ.norm [_, _, _] rfl ?_
  refine LJ.yd rfl (Yd.len rfl) ?_
  refine LJ.yd rfl (Yd.mvI rfl) ?_
  refine LJ.nil ?_
  refine CJ.block ?_
  refine CJ.ent (Ent.addLR encPl 88 6) ?_
  refine CJ.norm [_, _, _, _] rfl ?_
  refine CJ.loopF [4, 10, 11] (Nat × List (Plc) × Option Addr × Nat × Nat) (fun ⟨k, O, OA, ON, OC⟩ => (ON = O.length) ∧ k ≤ L.length ∧ O.length ≤ k ∧ O = (L.take k).flatMap fpT) (fun ⟨k, O, OA, ON, OC⟩ => [(12, vI k), (5, .slice OA ON OC)]) (fun ⟨k, O, OA, ON, OC⟩ => [LR encPl 88 6 OA OC O]) (fun ⟨k, O, OA, ON, OC⟩ => L.length - k) (0, [], _, _, _) [_, _, _] [0, 1, 2] [3] rfl rfl rfl ?_ ⟨rfl, rfl, trivial⟩ ?_
  · exact ⟨(by first | rfl | omega | (simp; done) | (simp; omega) | (simp [upN_len]; omega) | (simp [idxBy_len]; omega) | (simp [marks_len]; omega) | (simp [upN_len]; done) | (simp [idxBy_len]; done) | (simp [marks_len]; done) | (simp at *; omega)), ⟨by omega, by simp, rfl⟩⟩
  · rintro ⟨k, O, OA, ON, OC⟩ σ ⟨hlNO, ⟨hk1, hOl, hO⟩⟩
    subst hlNO
    refine CJ.norm [_, _, _, _] rfl ?_
    refine CJ.seq ?_
    refine CJ.region ?_
    refine LJ.splitD rfl (Yd.lss rfl rfl) (fun h13 => ?_) (fun h13 => ?_)
    · refine LJ.nil ?_
      refine CJ.seq ?_
      refine CJ.condT rfl ?_
      refine CJ.skip ?_
      refine CJ.seq ?_
      refine CJ.block ?_
      refine CJ.seq ?_
      refine CJ.region ?_
      refine LJ.idxR 2 rfl rfl rfl rfl (by omega) (by first | rfl | omega | (simp; done) | (simp; omega) | (simp [upN_len]; omega) | (simp [idxBy_len]; omega) | (simp [marks_len]; omega) | (simp [upN_len]; done) | (simp [idxBy_len]; done) | (simp [marks_len]; done) | (simp at *; omega)) (by first | rfl | omega | (simp; done) | (simp; omega) | (simp [upN_len]; omega) | (simp [idxBy_len]; omega) | (simp [marks_len]; omega) | (simp [upN_len]; done) | (simp [idxBy_len]; done) | (simp [marks_len]; done) | (simp at *; omega)) (fun ib14 ia14 => ?_)
      refine LJ.lgR 2 (enc := encPt) (fun u => [vI u.o, vI u.a, vI u.p, .bool u.t, .slice u.x u.n u.c, vI u.b.X, vI u.b.Y, vI u.b.W, vI u.b.H]) (fun _ => rfl) (fun _ => rfl) rfl ia14 rfl rfl rfl (by first | rfl | omega | (simp; done) | (simp; omega) | (simp [upN_len]; omega) | (simp [idxBy_len]; omega) | (simp [marks_len]; omega) | (simp [upN_len]; done) | (simp [idxBy_len]; done) | (simp [marks_len]; done) | (simp at *; omega)) (fun u15 hu15 => ?_)
      try simp only [Int.toNat_natCast] at hu15
      refine LJ.alloc ([_, _, _, _, _, _, _, _, _] : List Value) rfl rfl (fun b4 => ?_)
      refine LJ.store (v := .agg #[_, _, _, _, _, _, _, _, _]) (us := [_, _, _, _, _, _, _, _, _]) 4 rfl rfl rfl rfl rfl rfl rfl rfl ?_
      refine LJ.nil ?_
      refine CJ.seq ?_
      refine CJ.region ?_
      refine LJ.yd rfl (Yd.fieldAddr rfl) ?_
      refine LJ.yd rfl (Yd.fieldAddr rfl) ?_
      refine LJ.yd rfl (Yd.loadC 4 rfl rfl rfl) ?_
      refine LJ.splitD rfl (Yd.eql rfl rfl) (fun h19 => ?_) (fun h19 => ?_)
      · refine LJ.nil ?_
        refine CJ.condT rfl ?_
        refine CJ.region ?_
        refine LJ.yd rfl (Yd.mvS rfl) ?_
        refine LJ.yd rfl (Yd.fieldAddr rfl) ?_
        refine LJ.yd rfl (Yd.fieldAddr rfl) ?_
        refine LJ.yd rfl (Yd.loadC 4 rfl rfl rfl) ?_
        refine LJ.yd rfl (Yd.fieldAddr rfl) ?_
        refine LJ.yd rfl (Yd.fieldAddr rfl) ?_
        refine LJ.yd rfl (Yd.loadC 4 rfl rfl rfl) ?_
        refine LJ.yd rfl (Yd.fieldAddr rfl) ?_
        refine LJ.yd rfl (Yd.loadG (us := [_, _, _, _]) 4 rfl rfl rfl rfl) ?_
        refine LJ.yd rfl (Yd.build (cs := [_, _, _, _, _, _]) rfl) ?_
        refine LJ.op rfl (OpR.buildSlice (cs := [_, _, _, _, _, _]) rfl rfl) ?_
        rintro _ _ ⟨b5, rfl, rfl⟩
        refine LJ.op rfl (OpR.apT (enc := encPl) [(⟨u15.p, u15.t, u15.b⟩ : Plc)] 3 5 rfl rfl rfl (by first | rfl | omega | (simp; done) | (simp; omega) | (simp [upN_len]; omega) | (simp [idxBy_len]; omega) | (simp [marks_len]; omega) | (simp [upN_len]; done) | (simp [idxBy_len]; done) | (simp [marks_len]; done) | (simp at *; omega)) rfl rfl rfl rfl rfl (by first | rfl | omega | (simp; done) | (simp; omega) | (simp [upN_len]; omega) | (simp [idxBy_len]; omega) | (simp [marks_len]; omega) | (simp [upN_len]; done) | (simp [idxBy_len]; done) | (simp [marks_len]; done) | (simp at *; omega))) ?_
        rintro _ _ ⟨ra31, rc31, rfl, rfl⟩
        refine LJ.norm [_, _, _, _, _, _] rfl ?_
        refine LJ.yd rfl (Yd.asS rfl) ?_
        refine LJ.nil ?_
        refine CJ.region ?_
        refine LJ.yd rfl (Yd.add rfl rfl (by unfold I64; omega)) ?_
        refine LJ.yd rfl (Yd.mvI rfl) ?_
        refine LJ.nil ?_
        refine ⟨(k + 1, _, _, _, _), ?_, ⟨rfl, rfl, rfl, trivial⟩, ⟨rfl, rfl, trivial⟩, Ent.pick [0, 1, 2, 3] [4, 5] rfl, ?_⟩
        · refine ⟨(by first | rfl | omega | (simp; done) | (simp; omega) | (simp [upN_len]; omega) | (simp [idxBy_len]; omega) | (simp [marks_len]; omega) | (simp [upN_len]; done) | (simp [idxBy_len]; done) | (simp [marks_len]; done) | (simp at *; omega)), ?_⟩
          refine ⟨by omega, ?_⟩
          rw [flat_take fpT hu15, fpT]
          first
            | (rw [if_pos (by assumption), ← hO]; exact ⟨by rw [List.length_append]; exact Nat.add_le_add hOl (Nat.le_refl 1), rfl⟩)
            | (rw [if_neg (by assumption), List.append_nil]; exact ⟨Nat.le_succ_of_le hOl, hO⟩)
        · first | omega | (dsimp only; omega) | (simp only []; omega)
      · refine LJ.nil ?_
        refine CJ.condF rfl ?_
        refine CJ.skip ?_
        refine CJ.region ?_
        refine LJ.yd rfl (Yd.add rfl rfl (by unfold I64; omega)) ?_
        refine LJ.yd rfl (Yd.mvI rfl) ?_
        refine LJ.nil ?_
        refine ⟨(k + 1, _, _, _, _), ?_, ⟨rfl, rfl, rfl, trivial⟩, ⟨rfl, rfl, trivial⟩, Ent.pick [0, 1, 2, 3] [4] rfl, ?_⟩
        · refine ⟨(by first | rfl | omega | (simp; done) | (simp; omega) | (simp [upN_len]; omega) | (simp [idxBy_len]; omega) | (simp [marks_len]; omega) | (simp [upN_len]; done) | (simp [idxBy_len]; done) | (simp [marks_len]; done) | (simp at *; omega)), ?_⟩
          refine ⟨by omega, ?_⟩
          rw [flat_take fpT hu15, fpT]
          first
            | (rw [if_pos (by assumption), ← hO]; exact ⟨by rw [List.length_append]; exact Nat.add_le_add hOl (Nat.le_refl 1), rfl⟩)
            | (rw [if_neg (by assumption), List.append_nil]; exact ⟨Nat.le_succ_of_le hOl, hO⟩)
        · first | omega | (dsimp only; omega) | (simp only []; omega)
    · refine LJ.nil ?_
      refine CJ.seq ?_
      refine CJ.condF rfl ?_
      refine CJ.exit ?_
      refine CJ.seq ?_
      refine CJ.region ?_
      refine LJ.yd rfl (Yd.mvS rfl) ?_
      refine LJ.yd rfl (Yd.asS rfl) ?_
      refine LJ.nil ?_
      refine CJ.ret ?_
      refine Fin.RL 3 (Res.one (ResV.tmp (v := .slice _ _ _) rfl)) rfl (by first | rfl | omega | (simp; done) | (simp; omega) | (simp [upN_len]; omega) | (simp [idxBy_len]; omega) | (simp [marks_len]; omega) | (simp [upN_len]; done) | (simp [idxBy_len]; done) | (simp [marks_len]; done) | (simp at *; omega)) ?_
      rw [hO, List.take_of_length_le (by omega)]; exact flat_p hLq hLp
theorem CutLengthsI_ok {A : Amb} {W H : Int} {v : Value} {ps : List Pane} {cs : List Value} {q : Plan} (hp : RdPanes A.h v ps) (hq : RdPlan A.h cs q) : Ctr Try.prog 11 #[.agg #[vI W, vI H, v], .agg cs.toArray] A [] (RLP encI 3 1 (ctP W H ps q)) := by
  have hp2 := hp
  obtain ⟨⟨sa, sc, rfl, hm, hrow⟩, hlen⟩ := hp2
  have hq2 := hq
  obtain ⟨o, a, i, t, kids, v2, css, hqe, rfl, ho, ha, hi, ⟨⟨sa2, sc2, rfl, hm2, hrow2⟩, hlen2⟩, hk⟩ := hq2.inv
  refine Ctr.body (args := [_, _]) Try.func11 rfl Try.ntmps11 Try.results11 (by simp) ?_
  refine CJ.seq ?_
  refine CJ.region ?_
  refine LJ.boxG (vs := [_, _, _]) rfl rfl (fun b1 => ?_)
  refine LJ.boxG (vs := [_, _, _, _, _]) rfl rfl (fun b2 => ?_)
  refine LJ.yd rfl (Yd.asS rfl) ?_
  refine LJ.nil ?_
  refine CJ.seq ?_
  refine CJ.region ?_
  refine LJ.yd rfl (Yd.asS rfl) ?_
  refine LJ.nil ?_
  refine CJ.seq ?_
  refine CJ.seq ?_
  refine CJ.region ?_
  refine LJ.yd rfl (Yd.loadG (us := [_, _, _]) 0 rfl rfl rfl rfl) ?_
  refine LJ.yd rfl (Yd.loadG (us := [_, _, _, _, _]) 1 rfl rfl rfl rfl) ?_
  refine LJ.call0 rfl (fun k hk dk => partsOf_ok hp.up hq.up) ?_
  rintro _ _ ⟨la, lc, L, rfl, rfl, hLq, hLp, hLl⟩
  refine LJ.norm [_, _, _] rfl ?_
  refine LJ.yd rfl (Yd.len rfl) ?_
  refine LJ.yd rfl (Yd.mvI rfl) ?_
  refine LJ.nil ?_
  refine CJ.block ?_
  refine CJ.ent (Ent.addLR encI 3 1) ?_
  refine CJ.norm [_, _, _, _] rfl ?_
  refine CJ.loopF [4, 10, 11] (Nat × List Int × Option Addr × Nat × Nat) (fun ⟨k, O, OA, ON, OC⟩ => (ON = O.length) ∧ k ≤ L.length ∧ O.length ≤ k ∧ O = (L.take k).flatMap fcT) (fun ⟨k, O, OA, ON, OC⟩ => [(12, vI k), (5, .slice OA ON OC)]) (fun ⟨k, O, OA, ON, OC⟩ => [LR encI 3 1 OA OC O]) (fun ⟨k, O, OA, ON, OC⟩ => L.length - k) (0, [], _, _, _) [_, _, _] [0, 1, 2] [3] rfl rfl rfl ?_ ⟨rfl, rfl, trivial⟩ ?_
  · exact ⟨(by first | rfl | omega | (simp; done) | (simp; omega) | (simp [upN_len]; omega) | (simp [idxBy_len]; omega) | (simp [marks_len]; omega) | (simp [upN_len]; done) | (simp [idxBy_len]; done) | (simp [marks_len]; done) | (simp at *; omega)), ⟨by omega, by simp, rfl⟩⟩
  · rintro ⟨k, O, OA, ON, OC⟩ σ ⟨hlNO, ⟨hk1, hOl, hO⟩⟩
    subst hlNO
    refine CJ.norm [_, _, _, _] rfl ?_
    refine CJ.seq ?_
    refine CJ.region ?_
    refine LJ.splitD rfl (Yd.lss rfl rfl) (fun h13 => ?_) (fun h13 => ?_)
    · refine LJ.nil ?_
      refine CJ.seq ?_
      refine CJ.condT rfl ?_
      refine CJ.skip ?_
      refine CJ.seq ?_
      refine CJ.block ?_
      refine CJ.seq ?_
      refine CJ.region ?_
      refine LJ.idxR 2 rfl rfl rfl rfl (by omega) (by first | rfl | omega | (simp; done) | (simp; omega) | (simp [upN_len]; omega) | (simp [idxBy_len]; omega) | (simp [marks_len]; omega) | (simp [upN_len]; done) | (simp [idxBy_len]; done) | (simp [marks_len]; done) | (simp at *; omega)) (by first | rfl | omega | (simp; done) | (simp; omega) | (simp [upN_len]; omega) | (simp [idxBy_len]; omega) | (simp [marks_len]; omega) | (simp [upN_len]; done) | (simp [idxBy_len]; done) | (simp [marks_len]; done) | (simp at *; omega)) (fun ib14 ia14 => ?_)
      refine LJ.lgR 2 (enc := encPt) (fun u => [vI u.o, vI u.a, vI u.p, .bool u.t, .slice u.x u.n u.c, vI u.b.X, vI u.b.Y, vI u.b.W, vI u.b.H]) (fun _ => rfl) (fun _ => rfl) rfl ia14 rfl rfl rfl (by first | rfl | omega | (simp; done) | (simp; omega) | (simp [upN_len]; omega) | (simp [idxBy_len]; omega) | (simp [marks_len]; omega) | (simp [upN_len]; done) | (simp [idxBy_len]; done) | (simp [marks_len]; done) | (simp at *; omega)) (fun u15 hu15 => ?_)
      try simp only [Int.toNat_natCast] at hu15
      refine LJ.alloc ([_, _, _, _, _, _, _, _, _] : List Value) rfl rfl (fun b4 => ?_)
      refine LJ.store (v := .agg #[_, _, _, _, _, _, _, _, _]) (us := [_, _, _, _, _, _, _, _, _]) 4 rfl rfl rfl rfl rfl rfl rfl rfl ?_
      refine LJ.nil ?_
      refine CJ.seq ?_
      refine CJ.region ?_
      refine LJ.yd rfl (Yd.fieldAddr rfl) ?_
      refine LJ.yd rfl (Yd.fieldAddr rfl) ?_
      refine LJ.yd rfl (Yd.loadC 4 rfl rfl rfl) ?_
      refine LJ.nil ?_
      refine CJ.block ?_
      refine CJ.seq ?_
      refine CJ.region ?_
      refine LJ.splitD rfl (Yd.eql rfl rfl) (fun h20 => ?_) (fun h20 => ?_)
      · refine LJ.yd rfl (Yd.asB rfl) ?_
        refine LJ.nil ?_
        refine CJ.condT rfl ?_
        refine CJ.region ?_
        refine LJ.yd rfl (Yd.mvS rfl) ?_
        refine LJ.yd rfl (Yd.fieldAddr rfl) ?_
        refine LJ.yd rfl (Yd.fieldAddr rfl) ?_
        refine LJ.yd rfl (Yd.loadC 4 rfl rfl rfl) ?_
        refine LJ.op rfl (OpR.buildSlice (cs := [_]) rfl rfl) ?_
        rintro _ _ ⟨b5, rfl, rfl⟩
        refine LJ.op rfl (OpR.apT (enc := encI) [_] 3 5 rfl rfl rfl (by first | rfl | omega | (simp; done) | (simp; omega) | (simp [upN_len]; omega) | (simp [idxBy_len]; omega) | (simp [marks_len]; omega) | (simp [upN_len]; done) | (simp [idxBy_len]; done) | (simp [marks_len]; done) | (simp at *; omega)) rfl rfl rfl rfl rfl (by first | rfl | omega | (simp; done) | (simp; omega) | (simp [upN_len]; omega) | (simp [idxBy_len]; omega) | (simp [marks_len]; omega) | (simp [upN_len]; done) | (simp [idxBy_len]; done) | (simp [marks_len]; done) | (simp at *; omega))) ?_
        rintro _ _ ⟨ra26, rc26, rfl, rfl⟩
        refine LJ.norm [_, _, _, _, _, _] rfl ?_
        refine LJ.yd rfl (Yd.asS rfl) ?_
        refine LJ.nil ?_
        refine CJ.region ?_
        refine LJ.yd rfl (Yd.add rfl rfl (by unfold I64; omega)) ?_
        refine LJ.yd rfl (Yd.mvI rfl) ?_
        refine LJ.nil ?_
        refine ⟨(k + 1, _, _, _, _), ?_, ⟨rfl, rfl, rfl, trivial⟩, ⟨rfl, rfl, trivial⟩, Ent.pick [0, 1, 2, 3] [4, 5] rfl, ?_⟩
        · refine ⟨(by first | rfl | omega | (simp; done) | (simp; omega) | (simp [upN_len]; omega) | (simp [idxBy_len]; omega) | (simp [marks_len]; omega) | (simp [upN_len]; done) | (simp [idxBy_len]; done) | (simp [marks_len]; done) | (simp at *; omega)), ?_⟩
          refine ⟨by omega, ?_⟩
          rw [flat_take fcT hu15, fcT]
          first
            | (rw [if_pos (by assumption), ← hO]; exact ⟨by rw [List.length_append]; exact Nat.add_le_add hOl (Nat.le_refl 1), rfl⟩)
            | (rw [if_neg (by assumption), if_pos (by assumption), ← hO]; exact ⟨by rw [List.length_append]; exact Nat.add_le_add hOl (Nat.le_refl 1), rfl⟩)
            | (rw [if_neg (by assumption), if_neg (by assumption), List.append_nil]; exact ⟨Nat.le_succ_of_le hOl, hO⟩)
        · first | omega | (dsimp only; omega) | (simp only []; omega)
      · refine LJ.yd rfl (Yd.asB rfl) ?_
        refine LJ.nil ?_
        refine CJ.condF rfl ?_
        refine CJ.seq ?_
        refine CJ.region ?_
        refine LJ.splitD rfl (Yd.eql rfl rfl) (fun h28 => ?_) (fun h28 => ?_)
        · refine LJ.yd rfl (Yd.asB rfl) ?_
          refine LJ.nil ?_
          refine CJ.condT rfl ?_
          refine CJ.region ?_
          refine LJ.yd rfl (Yd.mvS rfl) ?_
          refine LJ.yd rfl (Yd.fieldAddr rfl) ?_
          refine LJ.yd rfl (Yd.fieldAddr rfl) ?_
          refine LJ.yd rfl (Yd.loadC 4 rfl rfl rfl) ?_
          refine LJ.op rfl (OpR.buildSlice (cs := [_]) rfl rfl) ?_
          rintro _ _ ⟨b6, rfl, rfl⟩
          refine LJ.op rfl (OpR.apT (enc := encI) [_] 3 5 rfl rfl rfl (by first | rfl | omega | (simp; done) | (simp; omega) | (simp [upN_len]; omega) | (simp [idxBy_len]; omega) | (simp [marks_len]; omega) | (simp [upN_len]; done) | (simp [idxBy_len]; done) | (simp [marks_len]; done) | (simp at *; omega)) rfl rfl rfl rfl rfl (by first | rfl | omega | (simp; done) | (simp; omega) | (simp [upN_len]; omega) | (simp [idxBy_len]; omega) | (simp [marks_len]; omega) | (simp [upN_len]; done) | (simp [idxBy_len]; done) | (simp [marks_len]; done) | (simp at *; omega))) ?_
          rintro _ _ ⟨ra34, rc34, rfl, rfl⟩
          refine LJ.norm [_, _, _, _, _, _] rfl ?_
          refine LJ.yd rfl (Yd.asS rfl) ?_
          refine LJ.nil ?_
          refine CJ.region ?_
          refine LJ.yd rfl (Yd.add rfl rfl (by unfold I64; omega)) ?_
          refine LJ.yd rfl (Yd.mvI rfl) ?_
          refine LJ.nil ?_
          refine ⟨(k + 1, _, _, _, _), ?_, ⟨rfl, rfl, rfl, trivial⟩, ⟨rfl, rfl, trivial⟩, Ent.pick [0, 1, 2, 3] [4, 5] rfl, ?_⟩
          · refine ⟨(by first | rfl | omega | (simp; done) | (simp; omega) | (simp [upN_len]; omega) | (simp [idxBy_len]; omega) | (simp [marks_len]; omega) | (simp [upN_len]; done) | (simp [idxBy_len]; done) | (simp [marks_len]; done) | (simp at *; omega)), ?_⟩
            refine ⟨by omega, ?_⟩
            rw [flat_take fcT hu15, fcT]
            first
              | (rw [if_pos (by assumption), ← hO]; exact ⟨by rw [List.length_append]; exact Nat.add_le_add hOl (Nat.le_refl 1), rfl⟩)
              | (rw [if_neg (by assumption), if_pos (by assumption), ← hO]; exact ⟨by rw [List.length_append]; exact Nat.add_le_add hOl (Nat.le_refl 1), rfl⟩)
              | (rw [if_neg (by assumption), if_neg (by assumption), List.append_nil]; exact ⟨Nat.le_succ_of_le hOl, hO⟩)
          · first | omega | (dsimp only; omega) | (simp only []; omega)
        · refine LJ.yd rfl (Yd.asB rfl) ?_
          refine LJ.nil ?_
          refine CJ.condF rfl ?_
          refine CJ.skip ?_
          refine CJ.region ?_
          refine LJ.yd rfl (Yd.add rfl rfl (by unfold I64; omega)) ?_
          refine LJ.yd rfl (Yd.mvI rfl) ?_
          refine LJ.nil ?_
          refine ⟨(k + 1, _, _, _, _), ?_, ⟨rfl, rfl, rfl, trivial⟩, ⟨rfl, rfl, trivial⟩, Ent.pick [0, 1, 2, 3] [4] rfl, ?_⟩
          · refine ⟨(by first | rfl | omega | (simp; done) | (simp; omega) | (simp [upN_len]; omega) | (simp [idxBy_len]; omega) | (simp [marks_len]; omega) | (simp [upN_len]; done) | (simp [idxBy_len]; done) | (simp [marks_len]; done) | (simp at *; omega)), ?_⟩
            refine ⟨by omega, ?_⟩
            rw [flat_take fcT hu15, fcT]
            first
              | (rw [if_pos (by assumption), ← hO]; exact ⟨by rw [List.length_append]; exact Nat.add_le_add hOl (Nat.le_refl 1), rfl⟩)
              | (rw [if_neg (by assumption), if_pos (by assumption), ← hO]; exact ⟨by rw [List.length_append]; exact Nat.add_le_add hOl (Nat.le_refl 1), rfl⟩)
              | (rw [if_neg (by assumption), if_neg (by assumption), List.append_nil]; exact ⟨Nat.le_succ_of_le hOl, hO⟩)
          · first | omega | (dsimp only; omega) | (simp only []; omega)
    · refine LJ.nil ?_
      refine CJ.seq ?_
      refine CJ.condF rfl ?_
      refine CJ.exit ?_
      refine CJ.seq ?_
      refine CJ.region ?_
      refine LJ.yd rfl (Yd.mvS rfl) ?_
      refine LJ.yd rfl (Yd.asS rfl) ?_
      refine LJ.nil ?_
      refine CJ.ret ?_
      refine Fin.RL 3 (Res.one (ResV.tmp (v := .slice _ _ _) rfl)) rfl (by first | rfl | omega | (simp; done) | (simp; omega) | (simp [upN_len]; omega) | (simp [idxBy_len]; omega) | (simp [marks_len]; omega) | (simp [upN_len]; done) | (simp [idxBy_len]; done) | (simp [marks_len]; done) | (simp at *; omega)) ?_
      rw [hO, List.take_of_length_le (by omega)]; exact flat_c hLq hLp
end Go.Proofs.Ytlpjienaennmaaa
