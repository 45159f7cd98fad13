/-
  Contracts: pruning, equal plans.
-/
import Derived.Test.YtlpjienaennmaaaPB
namespace Go.Proofs.Ytlpjienaennmaaa
open Go
set_option maxRecDepth 20000
set_option maxHeartbeats 4000000

/-- some of what is owned, told as one -/
theorem Ent.fold {A B : Amb} [AmbLe A B] {fs : List HProp} {G : HProp} (a b : List Nat) (h : permF (a ++ b) fs = true) (f : ∀ m, Sts (pickF fs a) m → G m) : Ent B A fs [G] := fun w s => by
  obtain ⟨ok, m, x, l, d⟩ := (s.pick a b h).weak (A := A)
  exact ⟨ok, m, ⟨m, fun _ => none, f m x, trivial, fun _ => .inr rfl, Hp.Le.refl _, Hp.none_le _⟩, l, d⟩
theorem Ent.pure {A B : Amb} [AmbLe A B] {fs : List HProp} {G : HProp} (f : ∀ m, G m) : Ent B A fs [G] := fun w s => by
  obtain ⟨ok, m, x, l, d⟩ := s.weak (A := A)
  exact ⟨ok, m, ⟨m, fun _ => none, f m, trivial, fun _ => .inr rfl, Hp.Le.refl _, Hp.none_le _⟩, l, d⟩
/-- a plan, owned -/
def PlanV (b : BT) (v : Value) (fs : List HProp) : Prop := ∃ o a p t x n c, v = .agg #[vI o, vI a, vI p, .bool t, .slice x n c] ∧ fs = [fun m => RdT m [vI o, vI a, vI p, .bool t, .slice x n c] b]
/-- a plan, owned or ambient -/
def PlanW (A : Amb) (b : BT) (v : Value) (fs : List HProp) : Prop := ∃ o a p t x n c, v = .agg #[vI o, vI a, vI p, .bool t, .slice x n c] ∧ fs = [fun m => RdT (A.ext m).h [vI o, vI a, vI p, .bool t, .slice x n c] b]
theorem RowAt.two {h : Hp} {b : Nat} {cs0 cs1 : List Value} {X : TypeId} (h0 : cs0.length = 5) (h1 : cs1.length = 5) (hc : h b = some (.cells (cs0 ++ cs1).toArray X (0, 0))) : RowAt h 5 b 0 [cs0, cs1] := fun i cs j x e1 e2 => by
  have hj : j < cs.length := (List.getElem?_eq_some_iff.1 e2).1
  simp only [Hp.cell, hc, Option.isSome_none, Bool.false_eq_true, if_false]
  match i, e1 with
  | 0, e1 =>
    cases e1
    rw [show 0 + 0 * 5 + j = j by omega, List.getElem?_toArray, List.getElem?_append_left (by omega)]; exact e2
  | 1, e1 =>
    cases e1
    rw [show 0 + 1 * 5 + j = 5 + j by omega, List.getElem?_toArray, List.getElem?_append_right (by omega), show 5 + j - cs0.length = j by omega]; exact e2
  | i + 2, e1 => simp at e1
theorem RdT.foldV {d : Bool} {a : Int} {b : Nat} {X : TypeId} {cs0 cs1 : List Value} {l r : BT} (ha : I64 a) : ∀ h : Hp, Sts [fun m => RdT m cs0 l, fun m => RdT m cs1 r, Cel b X (cs0 ++ cs1)] h →
    RdT h [vI (opOf d), vI a, vI 0, .bool false, .slice (some ⟨b, 0, none⟩) 2 2] (.c d a l r) := by
  rintro h ⟨m0, h1, r0, ⟨m1, h2, r1, ⟨m2, h3, rc, _, _, l2, _⟩, _, l1, l1'⟩, _, l0, l0'⟩
  exact .c ha (Nat.le_refl _) (RowAt.two r0.len r1.len (l0' _ _ (l1' _ _ (l2 _ _ rc)))) (r0.mono l0) (r1.mono (l1.trans l0'))
theorem RdT.foldW {A : Amb} {d : Bool} {a : Int} {b : Nat} {X : TypeId} {cs0 cs1 : List Value} {l r : BT} (ha : I64 a) : ∀ h : Hp, A.h.Dj h → Sts [fun m => RdT (A.ext m).h cs0 l, fun m => RdT (A.ext m).h cs1 r, Cel b X (cs0 ++ cs1)] h →
    RdT (A.ext h).h [vI (opOf d), vI a, vI 0, .bool false, .slice (some ⟨b, 0, none⟩) 2 2] (.c d a l r) := by
  rintro h dj ⟨m0, h1, r0, ⟨m1, h2, r1, ⟨m2, h3, rc, _, _, l2, _⟩, _, l1, l1'⟩, _, l0, l0'⟩
  exact .c ha (Nat.le_refl _) (RowAt.two r0.len r1.len (Amb.ext_own dj _ _ (l0' _ _ (l1' _ _ (l2 _ _ rc))))) (r0.mono (Amb.ext_le l0)) (r1.mono (Amb.ext_le (l1.trans l0')))
/-- as Ent.fold; what is owned is beside the ambient heaplet -/
theorem Ent.foldD {A B : Amb} [AmbLe A B] {fs : List HProp} {G : HProp} (a b : List Nat) (h : permF (a ++ b) fs = true) (f : ∀ m, A.h.Dj m → Sts (pickF fs a) m → G m) : Ent B A fs [G] := fun w s => by
  obtain ⟨ok, m, x, l, d⟩ := (s.pick a b h).weak (A := A)
  exact ⟨ok, m, ⟨m, fun _ => none, f m d x, trivial, fun _ => .inr rfl, Hp.Le.refl _, Hp.none_le _⟩, l, d⟩

def BT.has : BT → Bool
  | .w => false
  | .p _ _ => true
  | .c _ _ l r => l.has || r.has
def BT.prune : BT → BT
  | .w => .w
  | .p i t => .p i t
  | .c d a l r => if (l.has || r.has) = true then .c d a l.prune r.prune else .w
mutual
def peq : Plan → Plan → Bool
  | .mk o a p t k, .mk o' a' p' t' k' => decide (o = o') && decide (a = a') && decide (p = p') && decide (t = t') && decide (k.length = k'.length) && peqs k k'
def peqs : List Plan → List Plan → Bool
  | a :: r, b :: s => peq a b && peqs r s
  | [], _ => true
  | _, [] => true
end
mutual
theorem peq_iff : ∀ (p q : Plan), peq p q = true ↔ p = q
  | .mk o a p t k, .mk o' a' p' t' k' => by
    simp only [peq, Bool.and_eq_true, decide_eq_true_eq, Plan.mk.injEq]
    constructor
    · rintro ⟨⟨⟨⟨⟨h1, h2⟩, h3⟩, h4⟩, h5⟩, h6⟩; exact ⟨h1, h2, h3, h4, (peqs_iff k k' h5).1 h6⟩
    · rintro ⟨h1, h2, h3, h4, h5⟩; exact ⟨⟨⟨⟨⟨h1, h2⟩, h3⟩, h4⟩, by rw [h5]⟩, (peqs_iff k k' (by rw [h5])).2 h5⟩
theorem peqs_iff : ∀ (l m : List Plan), l.length = m.length → (peqs l m = true ↔ l = m)
  | a :: r, b :: s, h => by
    simp only [peqs, Bool.and_eq_true, List.cons.injEq]
    rw [peq_iff a b, peqs_iff r s (by simpa using h)]
  | [], [], _ => by simp [peqs]
  | [], _ :: _, h => by simp at h
  | _ :: _, [], h => by simp at h
end
theorem opOf_inj {d d' : Bool} (h : opOf d = opOf d') : d = d' := by cases d <;> cases d' <;> simp_all [opOf]
theorem BT.plan_inj : ∀ {b c : BT}, b.plan = c.plan → b = c
  | .w, .w, _ => rfl
  | .w, .p _ _, h => by injection h with h; cases h
  | .w, .c d _ _ _, h => by injection h with h; cases d <;> cases h
  | .p _ _, .w, h => by injection h with h; cases h
  | .p _ _, .p _ _, h => by injection h with _ _ h1 h2; rw [h1, h2]
  | .p _ _, .c d _ _ _, h => by injection h with h; cases d <;> cases h
  | .c d _ _ _, .w, h => by injection h with h; cases d <;> cases h
  | .c d _ _ _, .p _ _, h => by injection h with h; cases d <;> cases h
  | .c _ _ l r, .c _ _ l' r', h => by
    injection h with h1 h2 _ _ h5
    injection h5 with h5 h6
    injection h6 with h6
    rw [opOf_inj h1, h2, BT.plan_inj h5, BT.plan_inj h6]
theorem peq_BT (b c : BT) : peq b.plan c.plan = decide (b = c) := by
  rw [Bool.eq_iff_iff, peq_iff, decide_eq_true_eq]; exact ⟨BT.plan_inj, fun h => by rw [h]⟩
theorem peqs_split (k : Nat) (l m : List Plan) (h1 : k < l.length) (h2 : k < m.length) : peqs (l.drop k) (m.drop k) = (peq l[k] m[k] && peqs (l.drop (k + 1)) (m.drop (k + 1))) := by
  rw [List.drop_eq_getElem_cons h1, List.drop_eq_getElem_cons h2, peqs]
theorem equalPlan_ok' (N : Nat) : ∀ (q q' : Plan), SizeOf.sizeOf q < N → ∀ (A : Amb) (cs cs' : List Value), RdPlan A.h cs q → RdPlan A.h cs' q' → Ctr Try.prog 22 #[.agg cs.toArray, .agg cs'.toArray] A [] (Val (.bool (peq q q'))) := by
  induction N with
  | zero => intro q q' h; omega
  | succ N ih =>
  intro q q' hN A cs cs' hq hq'
  obtain ⟨o, a, p, t, kids, v, css, rfl, rfl, ho, ha, hp, hr, hk⟩ := hq.inv
  have hl := hk.length
  obtain ⟨⟨sa, sc, rfl, hm, hrow⟩, hlen⟩ := hr
  rw [hl]
  obtain ⟨o2, a2, p2, t2, kids2, v2, css2, rfl, rfl, ho2, ha2, hp2, hr2, hk2⟩ := hq'.inv
  have hl2 := hk2.length
  obtain ⟨⟨sa2, sc2, rfl, hm2, hrow2⟩, hlen2⟩ := hr2
  rw [hl2]
  refine Ctr.body (args := [_, _]) Try.func22 rfl Try.ntmps22 Try.results22 (by simp) ?_
  refine CJ.seq ?_
  refine CJ.region ?_
  refine LJ.boxG (vs := [_, _, _, _, _]) rfl rfl (fun b1 => ?_)
  refine LJ.boxG (vs := [_, _, _, _, _]) rfl rfl (fun b2 => ?_)
  refine LJ.yd rfl (Yd.asB rfl) ?_
  refine LJ.nil ?_
  refine CJ.seq ?_
  refine CJ.seq ?_
  refine CJ.region ?_
  refine LJ.yd rfl (Yd.fieldAddr rfl) ?_
  refine LJ.yd rfl (Yd.loadC 0 rfl rfl rfl) ?_
  refine LJ.yd rfl (Yd.fieldAddr rfl) ?_
  refine LJ.yd rfl (Yd.loadC 1 rfl rfl rfl) ?_
  refine LJ.splitN rfl (Yd.neq rfl rfl) (fun h10 => ?_) (fun h10 => ?_)
  · refine LJ.yd rfl (Yd.mvB rfl) ?_
    refine LJ.gF rfl rfl ?_
    refine LJ.gF rfl rfl ?_
    refine LJ.gF rfl rfl ?_
    refine LJ.gF rfl rfl ?_
    refine LJ.gF rfl rfl ?_
    refine LJ.yd rfl (Yd.pickTB rfl rfl) ?_
    refine LJ.yd rfl (Yd.mvB rfl) ?_
    refine LJ.gF rfl rfl ?_
    refine LJ.gF rfl rfl ?_
    refine LJ.gF rfl rfl ?_
    refine LJ.gF rfl rfl ?_
    refine LJ.gF rfl rfl ?_
    refine LJ.yd rfl (Yd.pickTB rfl rfl) ?_
    refine LJ.yd rfl (Yd.mvB rfl) ?_
    refine LJ.gF rfl rfl ?_
    refine LJ.gF rfl rfl ?_
    refine LJ.gF rfl rfl ?_
    refine LJ.gF rfl rfl ?_
    refine LJ.gF rfl rfl ?_
    refine LJ.yd rfl (Yd.pickTB rfl rfl) ?_
    refine LJ.yd rfl (Yd.mvB rfl) ?_
    refine LJ.gF rfl rfl ?_
    refine LJ.gF rfl rfl ?_
    refine LJ.gF rfl rfl ?_
    refine LJ.gF rfl rfl ?_
    refine LJ.gF rfl rfl ?_
    refine LJ.gF rfl rfl ?_
    refine LJ.gF rfl rfl ?_
    refine LJ.yd rfl (Yd.pickTB rfl rfl) ?_
    refine LJ.nil ?_
    refine CJ.condT rfl ?_
    refine CJ.seq ?_
    refine CJ.region ?_
    refine LJ.yd rfl (Yd.asB rfl) ?_
    refine LJ.nil ?_
    refine CJ.ret ?_
    refine Fin.V (Res.one (ResV.tmp (v := .bool false) rfl)) ?_
    first
      | (refine congrArg Value.bool ?_; simp_all [peq]; done)
      | (refine congrArg Value.bool (Eq.symm ?_); simp only [peq, Bool.and_eq_false_iff, decide_eq_false_iff_not]; simp_all <;> omega)
      | (have hkl : kids.length = kids2.length := by omega
         refine congrArg Value.bool ?_; simp only [peq, ← hk3, hkl, h10, h16, h23, h30, decide_true, Bool.true_and]; rw [peqs_split k _ _ hk1 hk4, h58, Bool.false_and])
      | (have hkl : kids.length = kids2.length := by omega
         refine congrArg Value.bool ?_; simp only [peq, ← hk3, hkl, h10, h16, h23, h30, decide_true, Bool.true_and]; rw [List.drop_eq_nil_of_le (by omega)]; simp [peqs])
  · refine LJ.yd rfl (Yd.mvB rfl) ?_
    refine LJ.gT rfl ?_
    refine LJ.yd rfl (Yd.fieldAddr rfl) ?_
    refine LJ.gT rfl ?_
    refine LJ.yd rfl (Yd.loadC 0 rfl rfl rfl) ?_
    refine LJ.gT rfl ?_
    refine LJ.yd rfl (Yd.fieldAddr rfl) ?_
    refine LJ.gT rfl ?_
    refine LJ.yd rfl (Yd.loadC 1 rfl rfl rfl) ?_
    refine LJ.gT rfl ?_
    refine LJ.splitN rfl (Yd.neq rfl rfl) (fun h16 => ?_) (fun h16 => ?_)
    · refine LJ.yd rfl (Yd.pickFB rfl rfl) ?_
      refine LJ.yd rfl (Yd.mvB rfl) ?_
      refine LJ.gF rfl rfl ?_
      refine LJ.gF rfl rfl ?_
      refine LJ.gF rfl rfl ?_
      refine LJ.gF rfl rfl ?_
      refine LJ.gF rfl rfl ?_
      refine LJ.yd rfl (Yd.pickTB rfl rfl) ?_
      refine LJ.yd rfl (Yd.mvB rfl) ?_
      refine LJ.gF rfl rfl ?_
      refine LJ.gF rfl rfl ?_
      refine LJ.gF rfl rfl ?_
      refine LJ.gF rfl rfl ?_
      refine LJ.gF rfl rfl ?_
      refine LJ.yd rfl (Yd.pickTB rfl rfl) ?_
      refine LJ.yd rfl (Yd.mvB rfl) ?_
      refine LJ.gF rfl rfl ?_
      refine LJ.gF rfl rfl ?_
      refine LJ.gF rfl rfl ?_
      refine LJ.gF rfl rfl ?_
      refine LJ.gF rfl rfl ?_
      refine LJ.gF rfl rfl ?_
      refine LJ.gF rfl rfl ?_
      refine LJ.yd rfl (Yd.pickTB rfl rfl) ?_
      refine LJ.nil ?_
      refine CJ.condT rfl ?_
      refine CJ.seq ?_
      refine CJ.region ?_
      refine LJ.yd rfl (Yd.asB rfl) ?_
      refine LJ.nil ?_
      refine CJ.ret ?_
      refine Fin.V (Res.one (ResV.tmp (v := .bool false) rfl)) ?_
      first
        | (refine congrArg Value.bool ?_; simp_all [peq]; done)
        | (refine congrArg Value.bool (Eq.symm ?_); simp only [peq, Bool.and_eq_false_iff, decide_eq_false_iff_not]; simp_all <;> omega)
        | (have hkl : kids.length = kids2.length := by omega
           refine congrArg Value.bool ?_; simp only [peq, ← hk3, hkl, h10, h16, h23, h30, decide_true, Bool.true_and]; rw [peqs_split k _ _ hk1 hk4, h58, Bool.false_and])
        | (have hkl : kids.length = kids2.length := by omega
           refine congrArg Value.bool ?_; simp only [peq, ← hk3, hkl, h10, h16, h23, h30, decide_true, Bool.true_and]; rw [List.drop_eq_nil_of_le (by omega)]; simp [peqs])
    · refine LJ.yd rfl (Yd.pickFB rfl rfl) ?_
      refine LJ.yd rfl (Yd.mvB rfl) ?_
      refine LJ.gT rfl ?_
      refine LJ.yd rfl (Yd.fieldAddr rfl) ?_
      refine LJ.gT rfl ?_
      refine LJ.yd rfl (Yd.loadC 0 rfl rfl rfl) ?_
      refine LJ.gT rfl ?_
      refine LJ.yd rfl (Yd.fieldAddr rfl) ?_
      refine LJ.gT rfl ?_
      refine LJ.yd rfl (Yd.loadC 1 rfl rfl rfl) ?_
      refine LJ.gT rfl ?_
      refine LJ.splitN rfl (Yd.neq rfl rfl) (fun h23 => ?_) (fun h23 => ?_)
      · refine LJ.yd rfl (Yd.pickFB rfl rfl) ?_
        refine LJ.yd rfl (Yd.mvB rfl) ?_
        refine LJ.gF rfl rfl ?_
        refine LJ.gF rfl rfl ?_
        refine LJ.gF rfl rfl ?_
        refine LJ.gF rfl rfl ?_
        refine LJ.gF rfl rfl ?_
        refine LJ.yd rfl (Yd.pickTB rfl rfl) ?_
        refine LJ.yd rfl (Yd.mvB rfl) ?_
        refine LJ.gF rfl rfl ?_
        refine LJ.gF rfl rfl ?_
        refine LJ.gF rfl rfl ?_
        refine LJ.gF rfl rfl ?_
        refine LJ.gF rfl rfl ?_
        refine LJ.gF rfl rfl ?_
        refine LJ.gF rfl rfl ?_
        refine LJ.yd rfl (Yd.pickTB rfl rfl) ?_
        refine LJ.nil ?_
        refine CJ.condT rfl ?_
        refine CJ.seq ?_
        refine CJ.region ?_
        refine LJ.yd rfl (Yd.asB rfl) ?_
        refine LJ.nil ?_
        refine CJ.ret ?_
        refine Fin.V (Res.one (ResV.tmp (v := .bool false) rfl)) ?_
        first
          | (refine congrArg Value.bool ?_; simp_all [peq]; done)
          | (refine congrArg Value.bool (Eq.symm ?_); simp only [peq, Bool.and_eq_false_iff, decide_eq_false_iff_not]; simp_all <;> omega)
          | (have hkl : kids.length = kids2.length := by omega
             refine congrArg Value.bool ?_; simp only [peq, ← hk3, hkl, h10, h16, h23, h30, decide_true, Bool.true_and]; rw [peqs_split k _ _ hk1 hk4, h58, Bool.false_and])
          | (have hkl : kids.length = kids2.length := by omega
             refine congrArg Value.bool ?_; simp only [peq, ← hk3, hkl, h10, h16, h23, h30, decide_true, Bool.true_and]; rw [List.drop_eq_nil_of_le (by omega)]; simp [peqs])
      · refine LJ.yd rfl (Yd.pickFB rfl rfl) ?_
        refine LJ.yd rfl (Yd.mvB rfl) ?_
        refine LJ.gT rfl ?_
        refine LJ.yd rfl (Yd.fieldAddr rfl) ?_
        refine LJ.gT rfl ?_
        refine LJ.yd rfl (Yd.loadC 0 rfl rfl rfl) ?_
        refine LJ.gT rfl ?_
        refine LJ.yd rfl (Yd.fieldAddr rfl) ?_
        refine LJ.gT rfl ?_
        refine LJ.yd rfl (Yd.loadC 1 rfl rfl rfl) ?_
        refine LJ.gT rfl ?_
        refine LJ.splitN rfl (Yd.neqB rfl rfl) (fun h30 => ?_) (fun h30 => ?_)
        · refine LJ.yd rfl (Yd.pickFB rfl rfl) ?_
          refine LJ.yd rfl (Yd.mvB rfl) ?_
          refine LJ.gF rfl rfl ?_
          refine LJ.gF rfl rfl ?_
          refine LJ.gF rfl rfl ?_
          refine LJ.gF rfl rfl ?_
          refine LJ.gF rfl rfl ?_
          refine LJ.gF rfl rfl ?_
          refine LJ.gF rfl rfl ?_
          refine LJ.yd rfl (Yd.pickTB rfl rfl) ?_
          refine LJ.nil ?_
          refine CJ.condT rfl ?_
          refine CJ.seq ?_
          refine CJ.region ?_
          refine LJ.yd rfl (Yd.asB rfl) ?_
          refine LJ.nil ?_
          refine CJ.ret ?_
          refine Fin.V (Res.one (ResV.tmp (v := .bool false) rfl)) ?_
          first
            | (refine congrArg Value.bool ?_; simp_all [peq]; done)
            | (refine congrArg Value.bool (Eq.symm ?_); simp only [peq, Bool.and_eq_false_iff, decide_eq_false_iff_not]; simp_all <;> omega)
            | (have hkl : kids.length = kids2.length := by omega
               refine congrArg Value.bool ?_; simp only [peq, ← hk3, hkl, h10, h16, h23, h30, decide_true, Bool.true_and]; rw [peqs_split k _ _ hk1 hk4, h58, Bool.false_and])
            | (have hkl : kids.length = kids2.length := by omega
               refine congrArg Value.bool ?_; simp only [peq, ← hk3, hkl, h10, h16, h23, h30, decide_true, Bool.true_and]; rw [List.drop_eq_nil_of_le (by omega)]; simp [peqs])
        · refine LJ.yd rfl (Yd.pickFB rfl rfl) ?_
          refine LJ.yd rfl (Yd.mvB rfl) ?_
          refine LJ.gT rfl ?_
          refine LJ.yd rfl (Yd.fieldAddr rfl) ?_
          refine LJ.gT rfl ?_
          refine LJ.yd rfl (Yd.loadC 0 rfl rfl rfl) ?_
          refine LJ.gT rfl ?_
          refine LJ.yd rfl (Yd.len rfl) ?_
          refine LJ.gT rfl ?_
          refine LJ.yd rfl (Yd.fieldAddr rfl) ?_
          refine LJ.gT rfl ?_
          refine LJ.yd rfl (Yd.loadC 1 rfl rfl rfl) ?_
          refine LJ.gT rfl ?_
          refine LJ.yd rfl (Yd.len rfl) ?_
          refine LJ.gT rfl ?_
          refine LJ.splitN rfl (Yd.neq rfl rfl) (fun h39 => ?_) (fun h39 => ?_)
          · refine LJ.yd rfl (Yd.pickFB rfl rfl) ?_
            refine LJ.nil ?_
            refine CJ.condT rfl ?_
            refine CJ.seq ?_
            refine CJ.region ?_
            refine LJ.yd rfl (Yd.asB rfl) ?_
            refine LJ.nil ?_
            refine CJ.ret ?_
            refine Fin.V (Res.one (ResV.tmp (v := .bool false) rfl)) ?_
            first
              | (refine congrArg Value.bool ?_; simp_all [peq]; done)
              | (refine congrArg Value.bool (Eq.symm ?_); simp only [peq, Bool.and_eq_false_iff, decide_eq_false_iff_not]; simp_all <;> omega)
              | (have hkl : kids.length = kids2.length := by omega
                 refine congrArg Value.bool ?_; simp only [peq, ← hk3, hkl, h10, h16, h23, h30, decide_true, Bool.true_and]; rw [peqs_split k _ _ hk1 hk4, h58, Bool.false_and])
              | (have hkl : kids.length = kids2.length := by omega
                 refine congrArg Value.bool ?_; simp only [peq, ← hk3, hkl, h10, h16, h23, h30, decide_true, Bool.true_and]; rw [List.drop_eq_nil_of_le (by omega)]; simp [peqs])
          · refine LJ.yd rfl (Yd.pickFB rfl rfl) ?_
            refine LJ.nil ?_
            refine CJ.condF rfl ?_
            refine CJ.skip ?_
            refine CJ.seq ?_
            refine CJ.seq ?_
            refine CJ.region ?_
            refine LJ.yd rfl (Yd.asI rfl) ?_
            refine LJ.nil ?_
            refine CJ.block ?_
            refine CJ.loopK [2, 3] Nat (fun k => k ≤ kids.length ∧ peqs (kids.drop k) (kids2.drop k) = peqs kids kids2) (fun k => [(5, vI k)]) (fun k => kids.length - k) 0 ?_ ?_ ?_
            · exact ⟨Nat.zero_le _, rfl⟩
            · exact ⟨rfl, trivial⟩
            · rintro k σ ⟨hk1, hk3⟩
              refine CJ.seq ?_
              refine CJ.seq ?_
              refine CJ.region ?_
              refine LJ.yd rfl (Yd.mvI rfl) ?_
              refine LJ.yd rfl (Yd.fieldAddr rfl) ?_
              refine LJ.yd rfl (Yd.loadC 0 rfl rfl rfl) ?_
              refine LJ.yd rfl (Yd.len rfl) ?_
              refine LJ.splitD rfl (Yd.lss rfl rfl) (fun h45 => ?_) (fun h45 => ?_)
              · refine LJ.nil ?_
                refine CJ.condT rfl ?_
                refine CJ.skip ?_
                refine CJ.seq ?_
                refine CJ.block ?_
                refine CJ.seq ?_
                have hk1 : k < kids.length := by omega
                have hk4 : k < kids2.length := by omega
                obtain ⟨cs, hc, hcs⟩ := hk.get k hk1
                obtain ⟨cs2, hc2, hcs2⟩ := hk2.get k hk4
                have hcl := hcs.len
                have hcl2 := hcs2.len
                rcases hrow with rfl | ⟨b, o3, rfl, hrow⟩
                · simp at hl; omega
                rcases hrow2 with rfl | ⟨b2, o4, rfl, hrow2⟩
                · simp at hl2; omega
                refine CJ.regionD [0, 1] [] (by kernel_rfl) rfl ?_
                refine DJ.norm [_, _] [] rfl rfl ?_
                refine DJ.yd 0 rfl (by kernel_rfl) (by kernel_rfl) (by kernel_rfl) rfl rfl (Yd.fieldAddr rfl) ?_
                refine DJ.yd 1 rfl (by kernel_rfl) (by kernel_rfl) (by kernel_rfl) rfl rfl (Yd.loadC 0 rfl rfl rfl) ?_
                refine DJ.yd 2 rfl (by kernel_rfl) (by kernel_rfl) (by kernel_rfl) rfl rfl (Yd.mvI rfl) ?_
                refine DJ.yd 3 rfl (by kernel_rfl) (by kernel_rfl) (by kernel_rfl) rfl rfl (Yd.indexAddr rfl rfl (by omega) (by omega)) ?_
                refine DJ.yd 4 rfl (by kernel_rfl) (by kernel_rfl) (by kernel_rfl) rfl rfl (Yd.loadRow (i := k) hrow rfl (by simp) hc hcl) ?_
                refine DJ.yd 5 rfl (by kernel_rfl) (by kernel_rfl) (by kernel_rfl) rfl rfl (Yd.fieldAddr rfl) ?_
                refine DJ.yd 6 rfl (by kernel_rfl) (by kernel_rfl) (by kernel_rfl) rfl rfl (Yd.loadC 1 rfl rfl rfl) ?_
                refine DJ.yd 7 rfl (by kernel_rfl) (by kernel_rfl) (by kernel_rfl) rfl rfl (Yd.mvI rfl) ?_
                refine DJ.yd 8 rfl (by kernel_rfl) (by kernel_rfl) (by kernel_rfl) rfl rfl (Yd.indexAddr rfl rfl (by omega) (by omega)) ?_
                refine DJ.yd 9 rfl (by kernel_rfl) (by kernel_rfl) (by kernel_rfl) rfl rfl (Yd.loadRow (i := k) hrow2 rfl (by simp) hc2 hcl2) ?_
                refine DJ.one (i := 10) (by kernel_rfl) ?_
                refine DO.callB rfl rfl rfl (fun k0 hk0 dk0 k hk dk => ih _ _ (by have := kid_lt o a p t hk1; omega) _ _ _ hcs.up hcs2.up) (fun h58 => ?_) (fun h58 => ?_)
                · refine DJ.yd 11 rfl (by kernel_rfl) (by kernel_rfl) (by kernel_rfl) rfl rfl (Yd.not rfl) ?_
                  refine DJ.done (by kernel_rfl) ?_
                  refine CJ.condF rfl ?_
                  refine CJ.skip ?_
                  refine CJ.region ?_
                  refine LJ.yd rfl (Yd.mvI rfl) ?_
                  refine LJ.yd rfl (Yd.add rfl rfl (by unfold I64; omega)) ?_
                  refine LJ.yd rfl (Yd.asI rfl) ?_
                  refine LJ.nil ?_
                  refine ⟨(k + 1), ?_, ?_, ?_, Ent.refl _, ?_⟩
                  · exact ⟨by omega, by rw [← hk3, peqs_split k _ _ hk1 hk4, h58, Bool.true_and]⟩
                  · exact ⟨rfl, rfl, trivial⟩
                  · exact ⟨rfl, trivial⟩
                  · omega
                · refine DJ.yd 11 rfl (by kernel_rfl) (by kernel_rfl) (by kernel_rfl) rfl rfl (Yd.not rfl) ?_
                  refine DJ.done (by kernel_rfl) ?_
                  refine CJ.condT rfl ?_
                  refine CJ.seq ?_
                  refine CJ.region ?_
                  refine LJ.yd rfl (Yd.asB rfl) ?_
                  refine LJ.nil ?_
                  refine CJ.ret ?_
                  refine Fin.V (Res.one (ResV.tmp (v := .bool false) rfl)) ?_
                  first
                    | (refine congrArg Value.bool ?_; simp_all [peq]; done)
                    | (refine congrArg Value.bool (Eq.symm ?_); simp only [peq, Bool.and_eq_false_iff, decide_eq_false_iff_not]; simp_all <;> omega)
                    | (have hkl : kids.length = kids2.length := by omega
                       refine congrArg Value.bool ?_; simp only [peq, ← hk3, hkl, h10, h16, h23, h30, decide_true, Bool.true_and]; rw [peqs_split k _ _ hk1 hk4, h58, Bool.false_and])
                    | (have hkl : kids.length = kids2.length := by omega
                       refine congrArg Value.bool ?_; simp only [peq, ← hk3, hkl, h10, h16, h23, h30, decide_true, Bool.true_and]; rw [List.drop_eq_nil_of_le (by omega)]; simp [peqs])
              · refine LJ.nil ?_
                refine CJ.condF rfl ?_
                refine CJ.exit ?_
                refine CJ.seq ?_
                refine CJ.region ?_
                refine LJ.yd rfl (Yd.asB rfl) ?_
                refine LJ.nil ?_
                refine CJ.ret ?_
                refine Fin.V (Res.one (ResV.tmp (v := .bool true) rfl)) ?_
                first
                  | (refine congrArg Value.bool ?_; simp_all [peq]; done)
                  | (refine congrArg Value.bool (Eq.symm ?_); simp only [peq, Bool.and_eq_false_iff, decide_eq_false_iff_not]; simp_all <;> omega)
                  | (have hkl : kids.length = kids2.length := by omega
                     refine congrArg Value.bool ?_; simp only [peq, ← hk3, hkl, h10, h16, h23, h30, decide_true, Bool.true_and]; rw [peqs_split k _ _ hk1 hk4, h58, Bool.false_and])
                  | (have hkl : kids.length = kids2.length := by omega
                     refine congrArg Value.bool ?_; simp only [peq, ← hk3, hkl, h10, h16, h23, h30, decide_true, Bool.true_and]; rw [List.drop_eq_nil_of_le (by omega)]; simp [peqs])

theorem equalPlan_ok {A : Amb} {cs cs2 : List Value} {b b2 : BT} (h : RdT A.h cs b) (h2 : RdT A.h cs2 b2) : Ctr Try.prog 22 #[.agg cs.toArray, .agg cs2.toArray] A [] (Val (.bool (decide (b = b2)))) := by
  have := equalPlan_ok' _ b.plan b2.plan (Nat.lt_succ_self _) A cs cs2 (RdPlan.of_BT h) (RdPlan.of_BT h2)
  rwa [peq_BT] at this
end Go.Proofs.Ytlpjienaennmaaa
